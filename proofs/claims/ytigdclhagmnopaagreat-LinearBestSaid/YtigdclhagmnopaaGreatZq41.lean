/- Package linear: Least. -/
import Derived.Test.YtigdclhagmnopaaGreatZq39
import Derived.Test.YtigdclhagmnopaaGreatZq40
set_option maxRecDepth 100000
set_option maxHeartbeats 8000000
set_option linter.unusedSimpArgs false
set_option linter.unusedVariables false
namespace Go.Proofs.YtigdclhagmnopaaGreat
open Go.RowKit
attribute [local go_sem] Zh
theorem Zbs {t:TypeId} {w:World} {g:Nat} {a0:Bool} {A0:Option Addr} {n0 c0:Nat} {b0:Bool} {B0:Option Addr} {m0 d0:Nat} (na:Bool) (A:Option Addr) (n c:Nat) (nb:Bool) (B:Option Addr) (m d:Nat) (hb:Blk w g t #[.bool a0,.slice A0 n0 c0,.bool b0,.slice B0 m0 d0]) :
    ∃ W,(((w.setCell ⟨g,0,none⟩ (.bool na)).setCell ⟨g,1,none⟩ (.slice A n c)).setCell ⟨g,2,none⟩ (.bool nb)).setCell ⟨g,3,none⟩ (.slice B m d)=W/\Blk W g t #[.bool na,.slice A n c,.bool nb,.slice B m d]/\Kept (fun k=>k=g) w W/\W.heap.size=w.heap.size:=by
 have hb1:Blk (w.setCell ⟨g,0,none⟩ (.bool na)) g t #[.bool na,.slice A0 n0 c0,.bool b0,.slice B0 m0 d0]:=hb.set_ 0 (.bool na);have hb2:Blk ((w.setCell ⟨g,0,none⟩ (.bool na)).setCell ⟨g,1,none⟩ (.slice A n c)) g t #[.bool na,.slice A n c,.bool b0,.slice B0 m0 d0]:=hb1.set_ 1 (.slice A n c);have hb3:Blk (((w.setCell ⟨g,0,none⟩ (.bool na)).setCell ⟨g,1,none⟩ (.slice A n c)).setCell ⟨g,2,none⟩ (.bool nb)) g t #[.bool na,.slice A n c,.bool nb,.slice B0 m0 d0]:=hb2.set_ 2 (.bool nb);have hb4:Blk ((((w.setCell ⟨g,0,none⟩ (.bool na)).setCell ⟨g,1,none⟩ (.slice A n c)).setCell ⟨g,2,none⟩ (.bool nb)).setCell ⟨g,3,none⟩ (.slice B m d)) g t #[.bool na,.slice A n c,.bool nb,.slice B m d]:=hb3.set_ 3 (.slice B m d);have k0:Kept (fun k=>k=g) w w:=Kept.refl _ _;exact ⟨_,rfl,hb4,(((k0.set_ (p:=⟨g,0,none⟩) (.inl rfl) _).set_ (p:=⟨g,1,none⟩) (.inl rfl) _).set_ (p:=⟨g,2,none⟩) (.inl rfl) _).set_ (p:=⟨g,3,none⟩) (.inl rfl) _,by simp⟩
theorem Za2 {w:World} (t:TypeId) (cs:Array Value):∃ W,w.alloc (.cells cs t)=W/\Blk W w.heap.size t cs/\Below w.heap.size w W:=
 ⟨_,rfl,Blk.new _ _ _,(Below.refl _ _).alloc (Nat.le_refl _) _⟩
def VarF (w:World) (g:Nat) (q:Rat):Prop:=∃ na A n c nb B m d,Blk w g 45 #[.bool na,.slice A n c,.bool nb,.slice B m d]/\Fr w na A n c nb B m d q
theorem VarF.box {w:World} {g:Nat} {q:Rat} (h:VarF w g q):∃ t cs,Blk w g t cs/\NoLimb cs:=by
 obtain ⟨na,A,n,c,nb,B,m,d,h1,-⟩:=h;exact ⟨_,_,h1,Z2 _ _ _ _ _ _ _ _⟩
theorem VarF.lt {w:World} {g:Nat} {q:Rat} (h:VarF w g q):g < w.heap.size:=by
 obtain ⟨na,A,n,c,nb,B,m,d,h1,-⟩:=h;exact h1.lt
theorem VarF.kept {w w':World} {g:Nat} {q:Rat} {G:Nat->Prop} (h:VarF w g q) (hk:Kept G w w') (hg:¬ G g) (hG:∀ k,G k->∃ t cs,Blk w k t cs/\NoLimb cs):VarF w' g q:=by
 obtain ⟨na,A,n,c,nb,B,m,d,h1,h2⟩:=h;exact ⟨na,A,n,c,nb,B,m,d,hk.blk h1 hg,hk.wd h2.1 hG,hk.wd h2.2 hG⟩
theorem VarF.below {w w':World} {g:Nat} {q:Rat} (h:VarF w g q) (hb:Below w.heap.size w w'):VarF w' g q:=
 h.kept (G:=fun _=>False) (Kept.of_below hb |>.mono (fun _ _ h=>h)) (fun h=>h) (fun _ h=>h.elim)
theorem Fr.keptV {w w':World} {na:Bool} {A:Option Addr} {n c:Nat} {nb:Bool} {B:Option Addr} {m d:Nat} {r:Rat} {g:Nat} {t:TypeId} {cs:Array Value} (h:Fr w na A n c nb B m d r) (hk:Kept (fun k=>k=g) w w') (hb:Blk w g t cs) (hn:NoLimb cs):Fr w' na A n c nb B m d r:=
 ⟨hk.wd h.1 (fun k e=>by cases e;exact ⟨_,_,hb,hn⟩),hk.wd h.2 (fun k e=>by cases e;exact ⟨_,_,hb,hn⟩)⟩
theorem Zj3 {z:Int} (h:I64 z):Sm (z:Rat):=by
 unfold I64 at h;refine (SmN.int (i:=3) ?_).mono (by decide) (by decide)
 have:pw 3=79228162514264337593543950336:=by decide +kernel
 rw [this];omega
theorem Zcx (z:Int):Rat.divInt z 1=(z:Rat):=Zgk z
theorem Zq6 (A B C:Option Addr) (n c m0 d k e0:Nat) (rs:List RI) (rr ws:List Int) (w:World) (h:MIL w A n c rs) (hr:LimI w B m0 d rr) (hw:LimI w C k e0 ws) (E:Int) (hE:Zb2 rs rr ws=E) (h0:E ≠ 0) :
    Calls Tryz.prog 18 #[.slice A n c,.slice B m0 d,.slice C k e0] w fun e w'=>e=.returned (.tuple #[.slice none 0 0,.agg #[.bool false,.slice none 0 0,.bool false,.slice none 0 0],.int .i64 E])/\Below w.heap.size w w':=by
 obtain ⟨W0,hW0,hB0,q0,s0⟩:=Zbr w 45 #[.bool false,.slice none 0 0,.bool false,.slice none 0 0];have t1:decide (E ≠ 0)=true:=decide_eq_true h0
 have t1':(E != 0)=true:=by simpa using h0
 replace h:=Za (h.below hB0);replace hr:=Za (hr.below hB0);replace hw:=Za (hw.below hB0);replace hE:=Za hE;replace h0:=Za h0;go_enter Tryz.func18,Tryz.ntmps18;go_wp2_with fail;(try rw [hW0]);refine (Zg6 A B C n c m0 d k e0 rs rr ws W0 h.out hr.out hw.out E hE.out).mono ?_;rintro e w1 ⟨rfl,hb1⟩;have q1:=Zc hb1 q0;obtain ⟨c0,c1,c2,c3,f0,f1,f2,f3⟩:=q1.four;go_wp2_with fail;obtain ⟨W5,hW5,hB5,q2,-,-,s5⟩:=Z3 false none 0 0 false none 0 0 (hB0.trans (hb1.mono hB0.size)) (Nat.le_refl _) q1;(try rw [hW5]);obtain ⟨r0,r1,r2,r3,-⟩:=q2.four;refine bodyPost_ret (v:=.tuple #[.slice none 0 0,.agg #[.bool false,.slice none 0 0,.bool false,.slice none 0 0],.int .i64 E]) (by simp [results,Tryz.results18,go_sem,r0,r1,r2,r3]) rfl ?_;exact ⟨rfl,hB5⟩
def Zrd (full:Bool) (xs:List Rat) (q:Rat) (w:World) (e:Ending) (w':World):Prop:=
 (full=false/\e=.returned (.tuple #[.slice none 0 0,.agg #[.bool false,.slice none 0 0,.bool false,.slice none 0 0],.int .i64 22])/\Below w.heap.size w w') \/
 (full=true/\∃ A0 n0 c0 na A n c nb B m d,e=.returned (.tuple #[.slice A0 n0 c0,.agg #[.bool na,.slice A n c,.bool nb,.slice B m d],.int .i64 0])/\Below w.heap.size w w'/\FL w' A0 n0 c0 xs/\Fr w' na A n c nb B m d q)
theorem Zmf (A B C:Option Addr) (n c d e0 m:Nat) (rs:List RI) (rr ws:List Int) (w:World) (h:MIL w A n c rs) (hr:LimI w B n d rr) (hw:LimI w C n e0 ws) (hE:Zb2 rs rr ws=0) (hm:n0I rs=m) (hn0:0 < n) (hm0:0 < m) (hm9:m <= 12)
    (hok:okZ (pw 200) (m+1) m 0 0 (Zt (Zbi rs rr ws n m)) 1) (hfin:Zgl (Zbi rs rr ws n m) m (m+1)) (hrk:(Zae m 0 0 (Zt (Zbi rs rr ws n m)) false 1).2.1 <= m)
    (X:Nat->Nat->Rat) (hX:(Zae m 0 0 (Zt (Zbi rs rr ws n m)) false 1).2.1=m->Zfc (fun i j=>(Zaf (Zae m 0 0 (Zt (Zbi rs rr ws n m)) false 1).1 i j:Rat)) X m (m+1))
    (full:Bool) (hfull:full=decide ((Zae m 0 0 (Zt (Zbi rs rr ws n m)) false 1).2.1=m)) (hP:full=true->LeastP rs rr ws (fun j=>X j m) n m) :
    Calls Tryz.prog 18 #[.slice A n c,.slice B n d,.slice C n e0] w (Zrd full ((List.range m).map fun j=>X j m) (Zby rs rr ws (fun j=>X j m) m n) w):=by
 have hmx:Tryz.prog.follows .mixedOrders=true:=by kernel_rfl
 obtain ⟨f1,f2,f3,f4,f5,f6,f7,f8⟩:=Zbq hE;have hl:=h.1
 have hrow:∀ r ∈ rs,r.n=m:=fun r hr=>by rw [(f8 r hr).1,hm]
 have hrrl:rr.length=n:=by rw [f5,hl]
 have hwsl:ws.length=n:=by rw [f4,hl]
 rw [hl] at f1
 have hQr:∀ i,i < m->((Zbi rs rr ws n m)[i]?.getD []).length=m+1:=fun i hi=>by
  unfold Zbi;rw [List.getElem?_map,List.getElem?_range hi,Option.map_some,Option.getD_some,Zel]
 obtain ⟨Q,hQ⟩:∃ Q,Zbi rs rr ws n m=Q:=⟨_,rfl⟩;rw [hQ] at hQr hok hfin hrk hX hfull;obtain ⟨W0,hW0,hB0,q0,s0⟩:=Zbr w 45 #[.bool false,.slice none 0 0,.bool false,.slice none 0 0];obtain ⟨gs,hgs⟩:∃ g,w.heap.size=g:=⟨_,rfl⟩;rw [hgs] at q0;have hM0:=Za h;have hR0:=Za hr;have hC0:=Za hw;replace h:=Za (h.below hB0);replace hr:=Za (hr.below hB0);replace hw:=Za (hw.below hB0);replace hE:=Za hE;replace hQr:=Za hQr;replace hQ:=Za hQ;replace hok:=Za hok;replace hfin:=Za hfin;replace hrk:=Za hrk;replace hX:=Za hX;replace hfull:=Za hfull;replace hP:=Za hP;replace hrow:=Za hrow;replace hl:=Za hl;replace hrrl:=Za hrrl;replace hwsl:=Za hwsl;replace q0:=Za q0;clear f2 f3 f4 f5 f6 f7 f8 hm;go_enter Tryz.func18,Tryz.ntmps18;go_wp2_with fail;(try rw [hW0]);(try rw [hgs]);rw [hgs] at hB0 s0;replace hgs:=Za hgs;refine (Zg6 A B C n c n d n e0 rs rr ws W0 h.out hr.out hw.out 0 hE.out).mono ?_;rintro e w1 ⟨rfl,hb1⟩;replace q0:=Za (Zc hb1 q0.out);clear hW0;go_wp2_with fail;refine (Zky A B C n c d e0 m rs rr ws w1 (h.out.below hb1) (hr.out.below hb1) (hw.out.below hb1) hn0 (by omega) hm0 (by omega) hrow.out).mono ?_;rintro e w2 ⟨go,rs',rfl,hb2,hrl,base,hbb,hMA⟩;have hMF:=hMA.mfl (c:=m) (by omega) (by unfold maxLen;omega);rw [hrl,hQ.out] at hMF;have hB2:=hb1.trans (hb2.mono hb1.size);replace q0:=Za (Zc hb2 q0.out);replace hMF:=Za hMF;clear hMA hbb hb1 hb2 hrl;go_wp2_with fail
 by_cases hlt:(Zae m 0 0 (Zt Q) false 1).2.1 < m
 ·have hf:full=false:=by
    have:=hfull.out;rw [this];exact decide_eq_false (by omega)
  subst hf;replace hlt:=Za hlt;refine (Zpx (some ⟨go,0,none⟩) m m (m+1) Q w2 hMF.out hm0 (by omega) (by omega) (by omega) hQr.out hok.out hfin.out hlt.out).mono ?_;rintro e w3 ⟨rfl,hb3⟩;have hB3:=hB2.trans (hb3.mono hB2.size);have q3:=Zc hb3 q0.out;obtain ⟨c0,c1,c2,c3,z0,z1,z2,z3⟩:=q3.four;go_wp2_with fail;have hB03:Below gs w w3:=hB0.trans (hB3.mono (by omega));obtain ⟨W5,hW5,hB5,q5,-,-,s5⟩:=Z3 false none 0 0 false none 0 0 hB03 (Nat.le_refl _) q3;(try rw [hW5]);obtain ⟨r0,r1,r2,r3,-⟩:=q5.four;refine bodyPost_ret (v:=.tuple #[.slice none 0 0,.agg #[.bool false,.slice none 0 0,.bool false,.slice none 0 0],.int .i64 22]) (by simp [results,Tryz.results18,go_sem,r0,r1,r2,r3]) rfl ?_;exact .inl ⟨rfl,rfl,by rw [hgs.out];exact hB5⟩
 have hre:Hid ((Zae m 0 0 (Zt Q) false 1).2.1=m):=Za (by have:=hrk.out;omega)
 have hf:full=true:=by
  have:=hfull.out;rw [this];exact decide_eq_true hre.out
 subst hf;replace hP:=Za (hP.out rfl);clear hlt;refine (Zpg (some ⟨go,0,none⟩) m m (m+1) Q w2 hMF.out hm0 (by omega) (by omega) (by omega) hQr.out hok.out hfin.out hre.out X (hX.out hre.out)).mono ?_;rintro e w5 ⟨gO,L5,rfl,hb5,hgO,hM5,hLq5,-⟩
 have hLl5:L5.length=m:=by rw [<- List.length_map (f:=RF.q),hLq5];unfold Ziw;simp
 have hfl:(L5.map RF.q).flatten=(List.range m).map fun j=>X j m:=by
  rw [hLq5];unfold Ziw;rw [show m+1 - m=1 by omega]
  have:∀ l:List Nat,(l.map fun i=>(List.range 1).map fun c=>X i (m+c)).flatten=l.map fun j=>X j m:=by
   intro l
   induction l with
   | nil=>rfl
   | cons x l ih=>rw [List.map_cons,List.flatten_cons,ih];rfl
  exact this _
 have hfll:(L5.map RF.q).flatten.length=m:=by rw [hfl];simp
 have hB5:=hB2.trans (hb5.mono hB2.size);replace q0:=Za (Zc hb5 q0.out);replace hM5:=Za hM5;clear hMF;go_wp2_with fail;refine (Znm gO m m L5 w5 hM5.out hLl5 (by omega) (Nat.le_refl _) (by unfold maxLen;omega) (by omega) (by omega)).mono ?_;rintro e w6 ⟨v6,rfl,hb6,hO6⟩;rw [hfl] at hO6;have hB6:=hB5.trans (hb6.mono hB5.size);replace q0:=Za (Zc hb6 q0.out)
 have hg5:gs < w5.heap.size:=by have:=hB5.size;omega
 obtain ⟨xs,hxs⟩:∃ xs,(List.range m).map (fun j=>X j m)=xs:=⟨_,rfl⟩;rw [hxs] at hO6
 obtain ⟨gx,cx,rfl,hgx,hcx1,hcx2,hOx⟩:∃ g c,v6=.slice (some ⟨g,0,none⟩) m c/\gs < g/\m <= c/\c <= maxLen/\FOwn 45 w6 g xs:=by
  have hxl:xs.length=m:=by rw [<- hxs];simp
  rcases hO6.fown with ⟨-,e⟩ | ⟨g,c,e1,e2,e3,e4,e5⟩
  ·rw [e] at hxl;simp at hxl;omega
  ·rw [hxl] at e1 e3
   exact ⟨g,c,e1,by omega,e3,e4,e5⟩
 replace hOx:=Za hOx;replace hxs:=Za hxs;clear hO6 hM5 hfl hfll hLq5 hLl5 hb5 hb6 hgO hre hrk hX hfin hok hQr hQ hfull;go_wp2_with fail;refine (Zo8 0 1 w6 (by decide) (by decide) (by decide) (by decide)).mono ?_;rintro e w7 ⟨hb7,n7,A7,k7,c7,m7,B7,j7,d7,rfl,hf7⟩;rw [Zcx] at hf7;have q7:=Zc hb7 q0.out;have hB7:=hB6.trans (hb7.mono hB6.size);have hOx7:=hOx.out.below hb7;obtain ⟨c0,c1,c2,c3,z0,z1,z2,z3⟩:=q7.four;clear hOx q0 hb7;go_wp2_with fail;obtain ⟨W8,hW8,q8,hK8,s8⟩:=Zbs n7 A7 k7 c7 m7 B7 j7 d7 q7;(try rw [hW8]);have hf8:=hf7.keptV hK8 q7 (Z2 _ _ _ _ _ _ _ _);have hOx8:=Za (hOx7.keptG hK8 (by omega) (fun k e=>by cases e;exact ⟨_,_,q7,Z2 _ _ _ _ _ _ _ _⟩));have hV8:VarF W8 gs (Zby rs rr ws (fun j=>X j m) m 0):=⟨_,_,_,_,_,_,_,_,q8,hf8⟩;have hB8:Hid (Below W0.heap.size W0 w7/\gs+1=W0.heap.size):=Za ⟨hB7,by omega⟩;have hBW8:Hid (Below gs w W8):=Za (hB0.trans ((hB7.mono (by omega)).trans (hK8.to_below (fun k e=>by omega) (by have:=hB7.size;omega))));replace hV8:=Za hV8;clear hf7 hf8 q7 q8 hOx7 hW8 c0 c1 c2 c3 z0 z1 z2 z3 hB7 hB6 hB5 hB2;unfold maxLen at hcx2
 go_loopg [53] n (fun k iv wr=>∃ i:Nat,i+k=n/\iv=.int .i64 i/\VarF wr gs (Zby rs rr ws (fun j=>X j m) m i)/\Kept (fun g=>g=gs) W8 wr)
 case atStart=>exact ⟨0,by omega,rfl,hV8.out,Kept.refl _ _⟩
 case round =>
  obtain ⟨i,hik,rfl,hVr,hKr⟩:=hrel
  have hBr:Below w.heap.size w wr:=by
   rw [hgs.out];exact hBW8.out.trans (hKr.to_below (fun k e=>by omega) (by have:=hBW8.out.size;have:=hgs.out;omega))
  cases gk with
  | zero =>
   obtain rfl:n=i:=by omega
   have t2:decide ((n:Int) < (n:Int))=false:=by simp
   obtain ⟨sn,sA,sk,sc,sm,sB,sj,sd,qs,hs⟩:=hVr;obtain ⟨c0,c1,c2,c3,z0,z1,z2,z3⟩:=qs.four;have hO:=Za (hOx8.out.keptG hKr (by omega) (fun k e=>by cases e;exact hV8.out.box));have hsh:=Za hs;clear hs hM0 hR0 hC0 h hr hw hOx8;go_wp2_with fail;refine Zaj [] (fun wx=>wx.cell? ⟨gs,0,none⟩=some (.bool sn)/\wx.cell? ⟨gs,1,none⟩=some (.slice sA sk sc)/\wx.cell? ⟨gs,2,none⟩=some (.bool sm)/\wx.cell? ⟨gs,3,none⟩=some (.slice sB sj sd)) hmx ⟨c0,c1,c2,c3⟩ (fun _=>?_);refine Zfy 1 [0] rfl (by kernel_rfl) ⟨c0,c1,c2,c3⟩ ?_
   (refine tk1 (v:=?_) rfl (Or.inl ⟨by kernel_rfl,?_⟩) ?_;rotate_left;(· intro W2 _;go_simp;try with_reducible rfl);try simp only [Act.put,Zgj,Zfx,Zge,putG_a,putG_s,putG_z])
   refine tk0 ?_;refine Zi4 1 [1] rfl (by kernel_rfl) ⟨c0,c1,c2,c3⟩ ?_
   (refine tk1 (v:=?_) rfl (Or.inl ⟨by kernel_rfl,?_⟩) ?_;rotate_left;(· intro W2 hSw;(try dsimp only at hSw);go_simp;try with_reducible rfl);try simp only [Act.put,Zgj,Zfx,Zge,putG_a,putG_s,putG_z])
   refine tk0 ?_;refine Zfy 1 [2] rfl (by kernel_rfl) ⟨c0,c1,c2,c3⟩ ?_
   (refine tk1 (v:=?_) rfl (Or.inl ⟨by kernel_rfl,?_⟩) ?_;rotate_left;(· intro W2 _;go_simp;try with_reducible rfl);try simp only [Act.put,Zgj,Zfx,Zge,putG_a,putG_s,putG_z])
   refine tk0 ?_;obtain ⟨W9,hW9,q9,hK9,s9⟩:=Zbs sn sA sk sc sm sB sj sd (w:=wr) qs;have q9s:=q9.four;have hS9:=And.intro q9s.1 (And.intro q9s.2.1 (And.intro q9s.2.2.1 q9s.2.2.2.1));refine Ze (i:=3) rfl (by kernel_rfl) (fun K hK=>?_);go_simp;(try rw [hW9]);refine hK.out _ _ (fun _=>hS9) ?_;clear hK K
   try simp only [Act.put,Zgj,Zfx,Zge]
   refine Zfy 1 [4] rfl (by kernel_rfl) hS9 ?_
   (refine tk1 (v:=?_) rfl (Or.inl ⟨by kernel_rfl,?_⟩) ?_;rotate_left;(· intro W2 _;go_simp;try with_reducible rfl);try simp only [Act.put,Zgj,Zfx,Zge,putG_a,putG_s,putG_z])
   refine tk0 ?_;refine Zk (by kernel_rfl) ?_ _;refine OnlyNormal.normal ?_;obtain ⟨r0,r1,r2,r3,-⟩:W9.drew.cell? ⟨gs,0,none⟩=some (.bool sn)/\W9.drew.cell? ⟨gs,1,none⟩=some (.slice sA sk sc)/\W9.drew.cell? ⟨gs,2,none⟩=some (.bool sm)/\W9.drew.cell? ⟨gs,3,none⟩=some (.slice sB sj sd)/\True:=⟨q9.four.1,q9.four.2.1,q9.four.2.2.1,q9.four.2.2.2.1,trivial⟩;have hBr':Below w.heap.size w W9.drew:=Zf (hBr.trans (hK9.to_below (fun k e=>by rw [e,hgs.out];exact Nat.le_refl _) hBr.size)) 1;have hs9:=Fr.drew (hsh.out.keptV hK9 qs (Z2 _ _ _ _ _ _ _ _));have hO9':=FOwn.keptG hO.out hK9 (show ¬ gx=gs by omega) (fun k e=>by cases e;exact ⟨_,_,qs,Z2 _ _ _ _ _ _ _ _⟩);have hO9:FOwn 45 W9.drew gx xs:=hO9';clear hW9;go_wp2_with fail;refine bodyPost_ret (v:=.tuple #[.slice (some ⟨gx,0,none⟩) m cx,.agg #[.bool sn,.slice sA sk sc,.bool sm,.slice sB sj sd],.int .i64 0]) (by simp [results,Tryz.results18,go_sem,r0,r1,r2,r3]) rfl ?_
   have hxl:xs.length=m:=by rw [<- hxs.out];simp
   exact .inr ⟨rfl,_,_,_,_,_,_,_,_,_,_,_,rfl,hBr',by
    have:=hO9.fl (c:=cx) (by omega) (by unfold maxLen;omega);rw [hxl,<- hxs.out] at this
    exact this,hs9⟩
  | succ k' =>
   obtain rfl:k'=n - (i+1):=by omega
   have hin:i < n:=by omega
   have t2:decide ((i:Int) < (n:Int))=true:=decide_eq_true (by omega)
   have bi:(i:Int) < (n:Int):=by omega
   obtain ⟨gA,oA,r,rfl,hri,k0,hL⟩:=(hM0.out.below hBr).at_ hin;have hrn:=hrow.out r (List.mem_of_getElem? hri)
   have hrl:∀ t,r.l[t]?.getD 0=Zv rs t i:=fun t=>(Zkr hri).symm
   have hRr:=hR0.out.below hBr;have hCr:=hC0.out.below hBr;have hi6:=Zco hRr.2.2.2.1 i;have hw6:=Zco hCr.2.2.2.1 i;obtain ⟨gB,oB,rfl,hcB⟩:=hRr.2.2.2.2 hn0;obtain ⟨gC,oC,rfl,hcC⟩:=hCr.2.2.2.2 hn0;have kB:=hcB i hin;have kC:=hcC i hin;rw [hrn] at hL;have ha6:Hid (∀ t,I64 (Zv rs t i)):=Za (fun t=>by rw [<- hrl t];exact Zco hL.2.2.2.1 t);obtain ⟨gr,orr,hrA,hcr0⟩:=hL.2.2.2.2 hm0;rw [hrn,hrA] at k0;have hcr:Hid (∀ t,t < m->wr.cell? ⟨gr,orr+t,none⟩=some (.int .i64 (Zv rs t i))):=Za (fun t ht=>by rw [<- hrl t];exact hcr0 t ht);have hrc:=hL.2.2.1;unfold maxLen at hrc;have hOr:=Za (hOx8.out.keptG hKr (by omega) (fun k e=>by cases e;exact hV8.out.box));replace hVr:=Za hVr;clear hcr0 hL hcB hcC hRr hCr;obtain ⟨wo,hwo⟩:∃ x:World,x=wr:=⟨_,rfl⟩;subst hwo
   change (wo.cell? _=some (.int .i64 (Z5 rr i))) at kB
   change (wo.cell? _=some (.int .i64 (Z5 ws i))) at kC
   change I64 (Z5 rr i) at hi6
   change I64 (Z5 ws i) at hw6
   have hi6':=hi6;unfold I64 at hi6';go_wp2_with fail;refine (Zo8 (Z5 rr i) 1 wo (by omega) (by omega) (by decide) (by decide)).mono ?_;rintro e w2 ⟨hb2,pn,pA,pk,pc,pm,pB,pj,pd,rfl,hf2⟩;rw [Zcx] at hf2;obtain ⟨gd,hgd⟩:∃ g,w2.heap.size=g:=⟨_,rfl⟩;obtain ⟨V1,hV1,qd,hbV1⟩:=Za2 (w:=w2) 45 #[.bool pn,.slice pA pk pc,.bool pm,.slice pB pj pd];rw [hgd] at qd;have hVd1:VarF V1 gd (Zaz rs rr (fun j=>X j m) 0 i):=⟨_,_,_,_,_,_,_,_,qd,by rw [Zm4];exact hf2.below hbV1⟩;have hb1:Below wo.heap.size wo V1:=hb2.trans (hbV1.mono hb2.size)
   have hgd2:wo.heap.size <= gd:=by rw [<- hgd];exact hb2.size
   have hgs2:gs < wo.heap.size:=hVr.out.lt;replace hVd1:=Za hVd1;replace hb1:=Za hb1;clear hf2 qd hb2 hbV1 hi6';go_wp2_with fail;(try rw [hgd]);(try rw [hV1]);clear hV1 hgd
   go_loopg [68] m (fun k kv wr=>∃ t:Nat,t+k=m/\kv=.int .i64 t/\VarF wr gd (Zaz rs rr (fun j=>X j m) t i)/\Kept (fun g=>g=gd) V1 wr)
   case atStart=>exact ⟨0,by omega,rfl,hVd1.out,Kept.refl _ _⟩
   case round =>
    obtain ⟨t,htk,rfl,hVd,hKd⟩:=hrel;have hbq:Below wo.heap.size wo wr:=hb1.out.trans (hKd.to_below (fun k e=>by omega) (by have:=hb1.out.size;omega));obtain ⟨dn,dA,dk,dc,dm,dB,dj,dd,qd,hd⟩:=hVd
    cases gk with
    | succ k2 =>
     obtain rfl:k2=m - (t+1):=by omega
     have htm:t < m:=by omega
     have t3:decide ((t:Int) < (m:Int))=true:=decide_eq_true (by omega)
     have b3:(t:Int) < (m:Int):=by omega
     have kc:=Zb hbq (hcr.out t htm);have ha:=ha6.out t;have ha':=ha;unfold I64 at ha';have hxt:Hid (xs[t]?.getD 0=X t m):=Za (by rw [<- hxs.out,List.getElem?_map,List.getElem?_range htm];rfl);replace qd:=Za qd;replace hd:=Za hd;go_wp2_with fail;refine (Zo8 (Zv rs t i) 1 wr (by omega) (by omega) (by decide) (by decide)).mono ?_;rintro e w3 ⟨hb3,fn,fA,fk,fc,fm,fB,fj,fd,rfl,hf3⟩;rw [Zcx] at hf3;obtain ⟨gf,hgf⟩:∃ g,w3.heap.size=g:=⟨_,rfl⟩;obtain ⟨V2,hV2,qf,hbV2⟩:=Za2 (w:=w3) 45 #[.bool fn,.slice fA fk fc,.bool fm,.slice fB fj fd];rw [hgf] at qf;have hbq2:Below wr.heap.size wr V2:=hb3.trans (hbV2.mono hb3.size);have hf4:=Za (hf3.below hbV2)
     have hxl:xs.length=m:=by rw [<- hxs.out];simp
     have hOq:=hOr.out.below (hbq.trans (hbq2.mono hbq.size));obtain ⟨xn,xA,xk,xc,xm,xB,xj,xd,x0,x1,x2,x3,hf6⟩:=hOq.at_ (i:=t) (by omega);rw [hxt.out] at hf6
     have hgfd:gd < gf:=by have:=qd.out.lt;have:=hb3.size;omega
     have hgfV:V1.heap.size <= gf:=by have:=hKd.size;have:=hb3.size;omega
     replace hf6:=Za hf6;obtain ⟨v0,v1,v2,v3,g0,g1,g2,g3⟩:=qf.four;replace qf:=Za qf;clear hf3 hOq hxl;go_wp2_with fail;(try rw [hgf]);(try rw [hV2]);clear hV2 hgf;refine Zaj [9] (fun wx=>wx.cell? ⟨gf,0,none⟩=some (.bool fn)/\wx.cell? ⟨gf,1,none⟩=some (.slice fA fk fc)/\wx.cell? ⟨gf,2,none⟩=some (.bool fm)/\wx.cell? ⟨gf,3,none⟩=some (.slice fB fj fd)/\wx.cell? ⟨gx,t * 4,none⟩=some (.bool xn)/\wx.cell? ⟨gx,t * 4+1,none⟩=some (.slice xA xk xc)/\wx.cell? ⟨gx,t * 4+2,none⟩=some (.bool xm)/\wx.cell? ⟨gx,t * 4+3,none⟩=some (.slice xB xj xd)) hmx ⟨v0,v1,v2,v3,x0,x1,x2,x3⟩ (fun _=>?_);refine Zi4 1 [0] rfl (by kernel_rfl) ⟨v0,v1,v2,v3,x0,x1,x2,x3⟩ ?_
     (refine tk1 (v:=?_) rfl (Or.inl ⟨by kernel_rfl,?_⟩) ?_;rotate_left;(· intro W2 hSw;(try dsimp only at hSw);go_simp;try with_reducible rfl);try simp only [Act.put,Zgj,Zfx,Zge,putG_a,putG_s,putG_z])
     refine tk0 ?_;refine Zfy 3 [1,2,3] rfl (by kernel_rfl) ⟨v0,v1,v2,v3,x0,x1,x2,x3⟩ ?_
     iterate 3 (refine tk1 (v:=?_) rfl (Or.inl ⟨by kernel_rfl,?_⟩) ?_;rotate_left;(· intro W2 _;go_simp;try with_reducible rfl);try simp only [Act.put,Zgj,Zfx,Zge,putG_a,putG_s,putG_z])
     refine tk0 ?_;refine Zi4 1 [4] rfl (by kernel_rfl) ⟨v0,v1,v2,v3,x0,x1,x2,x3⟩ ?_
     (refine tk1 (v:=?_) rfl (Or.inl ⟨by kernel_rfl,?_⟩) ?_;rotate_left;(· intro W2 hSw;(try dsimp only at hSw);go_simp;try with_reducible rfl);try simp only [Act.put,Zgj,Zfx,Zge,putG_a,putG_s,putG_z])
     refine tk0 ?_;refine Ze (i:=5) rfl (by kernel_rfl) (fun K hK=>?_);go_simp;refine (Zkv fn fm xn xm fA fB xA xB fk fc fj fd xk xc xj xd _ _ V2.drew hf4.out hf6.out (Zj3 ha) (hP.out.xk t htm)).mono ?_;rintro e w4 ⟨hb4,yn,yA,yk,yc,ym,yB,yj,yd,rfl,hf7⟩;replace hb4:=Zo hb4;refine hK.out _ _ (fun _=>⟨Zb hb4 v0,Zb hb4 v1,Zb hb4 v2,Zb hb4 v3,Zb hb4 x0,Zb hb4 x1,Zb hb4 x2,Zb hb4 x3⟩) ?_;clear hK K
     try simp only [Act.put,Zgj,Zfx,Zge]
     refine Zfy 3 [6,7,8] rfl (by kernel_rfl) ⟨Zb hb4 v0,Zb hb4 v1,Zb hb4 v2,Zb hb4 v3,Zb hb4 x0,Zb hb4 x1,Zb hb4 x2,Zb hb4 x3⟩ ?_
     iterate 3 (refine tk1 (v:=?_) rfl (Or.inl ⟨by kernel_rfl,?_⟩) ?_;rotate_left;(· intro W2 _;go_simp;try with_reducible rfl);try simp only [Act.put,Zgj,Zfx,Zge,putG_a,putG_s,putG_z])
     refine tk0 ?_;have qf4:=Zc hb4 qf.out;obtain ⟨i0,i1,i2,i3,e0,e1,e2,e3⟩:=qf4.four;obtain ⟨Z4,hZ4,qz,hKz,sz⟩:=Zbs yn yA yk yc ym yB yj yd qf4;refine Zu (i:=9) rfl (by kernel_rfl) (by kernel_rfl) (fun K hK=>?_);go_simp;(try rw [hZ4]);refine hK.out _ _ ?_;clear hK K
     try simp only [Act.put,Zgj,Zfx,Zge]
     refine Zk (by kernel_rfl) ?_ _;refine OnlyNormal.normal ?_;have hf8:=Za (hf7.keptV hKz qf4 (Z2 _ _ _ _ _ _ _ _));have hbq4:Below wr.heap.size wr w4:=hbq2.trans (hb4.mono hbq2.size);have qd4:=hKz.blk (Zc hbq4 qd.out) (show ¬ gd=gf by omega);have hd4:=Za ((hd.out.below hbq4).keptV hKz qf4 (Z2 _ _ _ _ _ _ _ _));have hK4:Hid (Kept (fun g=>g=gd) V1 Z4):=Za ((hKd.below hbq4).and hKz (fun k hk e=>by omega));clear hZ4 hf7 qf4 hKz hbq4 hbq2 hb4 v0 v1 v2 v3 g0 g1 g2 g3 i0 i1 i2 i3 e0 e1 e2 e3 x0 x1 x2 x3 qd hd hf4 hf6 qf hKd;obtain ⟨v0,v1,v2,v3,-⟩:=qz.four;obtain ⟨u0,u1,u2,u3,-⟩:=qd4.four;replace qd4:=Za qd4;go_wp2_with fail;refine (Zs7 dn dm yn ym dA dB yA yB dk dc dj dd yk yc yj yd _ _ Z4 hd4.out hf8.out (hP.out.res i t hin (by omega)) (hP.out.f i t hin htm)).mono ?_;rintro e w5 ⟨hb5,zn,zA,zk,zc,zm,zB,zj,zd,rfl,hf9⟩;have qd5:=Zc hb5 qd4.out;obtain ⟨i0,i1,i2,i3,e0,e1,e2,e3⟩:=qd5.four;obtain ⟨W6,hW6,q6,hK6,s6⟩:=Zbs zn zA zk zc zm zB zj zd qd5
     have hfin:VarF W6 gd (Zaz rs rr (fun j=>X j m) (t+1) i):=⟨_,_,_,_,_,_,_,_,q6,by
      rw [Zmz]
      exact hf9.keptV hK6 qd5 (Z2 _ _ _ _ _ _ _ _)⟩
     have hKfin:Hid (Kept (fun g=>g=gd) V1 W6):=Za ((hK4.out.below hb5).trans hK6);replace hfin:=Za hfin;clear qd5 hf9 q6 hK6 u0 u1 u2 u3 v0 v1 v2 v3 qz hb5;go_wp2_with fail;(try rw [hW6]);clear hW6
     go_roundg (m - (t+1))
     case measure=>omega
     case rel=>exact ⟨t+1,by omega,by go_num,hfin.out,hKfin.out⟩
    | zero =>
     obtain rfl:m=t:=by omega
     have t3:decide ((m:Int) < (m:Int))=false:=by simp
     have kC':=Zb hbq kC;have hw6':=hw6;unfold I64 at hw6';replace qd:=Za qd;replace hd:=Za hd;go_wp2_with fail;refine (Zo8 (Z5 ws i) 1 wr (by omega) (by omega) (by decide) (by decide)).mono ?_;rintro e w3 ⟨hb3,fn,fA,fk,fc,fm,fB,fj,fd,rfl,hf3⟩;rw [Zcx] at hf3;obtain ⟨gf,hgf⟩:∃ g,w3.heap.size=g:=⟨_,rfl⟩;obtain ⟨V2,hV2,qf,hbV2⟩:=Za2 (w:=w3) 45 #[.bool fn,.slice fA fk fc,.bool fm,.slice fB fj fd];rw [hgf] at qf;have hbq2:Below wr.heap.size wr V2:=hb3.trans (hbV2.mono hb3.size);have hf4:=Za (hf3.below hbV2)
     have hgfd:gd < gf:=by have:=qd.out.lt;have:=hb3.size;omega
     have qd2:=Zc hbq2 qd.out;have hd2:=Za (hd.out.below hbq2);have hVs:VarF V2 gs (Zby rs rr ws (fun j=>X j m) m i):=hVr.out.below (hbq.trans (hbq2.mono hbq.size));have hbo:Below wo.heap.size wo V2:=hbq.trans (hbq2.mono hbq.size);obtain ⟨v0,v1,v2,v3,-⟩:=qf.four;obtain ⟨u0,u1,u2,u3,-⟩:=qd2.four;replace qf:=Za qf;replace qd2:=Za qd2;replace hVs:=Za hVs;replace hbo:=Za hbo;clear hf3 hbq2 qd hd hb3 hbV2 hbq hKd;go_wp2_with fail;(try rw [hgf]);(try rw [hV2]);clear hV2 hgf;refine (Zkv dn dm dn dm dA dB dA dB dk dc dj dd dk dc dj dd _ _ V2 hd2.out hd2.out (hP.out.res i m hin (Nat.le_refl _)) (hP.out.res i m hin (Nat.le_refl _))).mono ?_;rintro e w4 ⟨hb4,yn,yA,yk,yc,ym,yB,yj,yd,rfl,hf5⟩;have qd4:=Zc hb4 qd2.out;obtain ⟨i0,i1,i2,i3,e0,e1,e2,e3⟩:=qd4.four;obtain ⟨W5,hW5,q5,hK5,s5⟩:=Zbs yn yA yk yc ym yB yj yd qd4
     have bx5:∀ k,k=gd->∃ t cs,Blk w4 k t cs/\NoLimb cs:=fun k e=>by cases e;exact ⟨_,_,qd4,Z2 _ _ _ _ _ _ _ _⟩
     have hf6:=Za (hf5.keptV hK5 qd4 (Z2 _ _ _ _ _ _ _ _));have hw5:=Za ((hf4.out.below hb4).keptV hK5 qd4 (Z2 _ _ _ _ _ _ _ _));have qf5:=hK5.blk (Zc hb4 qf.out) (show ¬ gf=gd by omega);have hVs5:=Za ((hVs.out.below hb4).kept hK5 (show ¬ gs=gd by omega) bx5);have hbo5:Below wo.heap.size wo W5:=(hbo.out.trans (hb4.mono hbo.out.size)).trans (hK5.to_below (fun k e=>by omega) (by have:=hbo.out.size;have:=hb4.size;omega));replace hbo5:=Za hbo5;clear hf5 bx5 hK5 qd4 hb4 u0 u1 u2 u3 v0 v1 v2 v3 hd2 qd2 hVs hbo hf4 qf;obtain ⟨v0,v1,v2,v3,-⟩:=qf5.four;obtain ⟨u0,u1,u2,u3,-⟩:=q5.four;replace q5:=Za q5;replace qf5:=Za qf5;go_wp2_with fail;(try rw [hW5]);clear hW5 i0 i1 i2 i3 e0 e1 e2 e3;refine (Zkv yn ym fn fm yA yB fA fB yk yc yj yd fk fc fj fd _ _ W5 hf6.out hw5.out (hP.out.sq i hin) (Zj3 hw6)).mono ?_;rintro e w6 ⟨hb6,zn,zA,zk,zc,zm,zB,zj,zd,rfl,hf7⟩;have qd6:=Zc hb6 q5.out;obtain ⟨i0,i1,i2,i3,e0,e1,e2,e3⟩:=qd6.four;obtain ⟨W7,hW7,q7,hK7,s7⟩:=Zbs zn zA zk zc zm zB zj zd qd6;have hf8:=Za (hf7.keptV hK7 qd6 (Z2 _ _ _ _ _ _ _ _));have hVs7:=(hVs5.out.below hb6).kept hK7 (show ¬ gs=gd by omega) (fun k e=>by cases e;exact ⟨_,_,qd6,Z2 _ _ _ _ _ _ _ _⟩);have hbo7:Below wo.heap.size wo W7:=(hbo5.out.trans (hb6.mono hbo5.out.size)).trans (hK7.to_below (fun k e=>by omega) (by have:=hbo5.out.size;have:=hb6.size;omega));obtain ⟨sn,sA,sk,sc,sm,sB,sj,sd,qs,hs⟩:=hVs7;replace hs:=Za hs;replace hbo7:=Za hbo7;clear hf7 hK7 qd6 hb6 u0 u1 u2 u3 v0 v1 v2 v3 hf6 hw5 qf5 q5 hVs5 hbo5
     obtain ⟨v0,v1,v2,v3,-⟩:=q7.four;obtain ⟨u0,u1,u2,u3,-⟩:=qs.four;replace q7:=Za q7;replace qs:=Za qs;go_wp2_with fail;(try rw [hW7]);clear hW7 i0 i1 i2 i3 e0 e1 e2 e3;refine (fAdd_ok sn sm zn zm sA sB zA zB sk sc sj sd zk zc zj zd _ _ W7 hs.out hf8.out (hP.out.sum i (by omega)) (hP.out.wsq i hin)).mono ?_;rintro e w8 ⟨hb8,an,aA,ak,ac,am,aB,aj,ad,rfl,hf9⟩;have qs8:=Zc hb8 qs.out;obtain ⟨i0,i1,i2,i3,e0,e1,e2,e3⟩:=qs8.four;obtain ⟨W9,hW9,q9,hK9,s9⟩:=Zbs an aA ak ac am aB aj ad qs8;have hfin:VarF W9 gs (Zby rs rr ws (fun j=>X j m) m (i+1)):=⟨_,_,_,_,_,_,_,_,q9,hf9.keptV hK9 qs8 (Z2 _ _ _ _ _ _ _ _)⟩;have hbo8:=hbo7.out.trans (hb8.mono hbo7.out.size);have hKfin:Hid (Kept (fun g=>g=gs) W8 W9):=Za ((hKr.below hbo8).trans hK9);replace hfin:=Za hfin;clear qs8 hf9 q9 hK9 u0 u1 u2 u3 v0 v1 v2 v3 hb8 hbo8 hs hf8;go_wp2_with fail;(try rw [hW9]);clear hW9
     go_roundg (n - (i+1))
     case measure=>omega
     case rel=>exact ⟨i+1,by omega,by go_num,hfin.out,hKfin.out⟩
end Go.Proofs.YtigdclhagmnopaaGreat
