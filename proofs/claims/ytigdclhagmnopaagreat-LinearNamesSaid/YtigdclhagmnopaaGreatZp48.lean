/- Package linear: Least. The law's part, list. The law's -/
import Derived.ProofKit
import Derived.Deep.Slices
import Derived.Deep.Fields
import Derived.ChangeSame
import Derived.Test.YtigdclhagmnopaaGreatProg
import Derived.Test.YtigdclhagmnopaaGreatZp47
set_option maxRecDepth 100000
set_option maxHeartbeats 8000000
set_option linter.unusedSimpArgs false
set_option linter.unusedVariables false
namespace Go.Proofs.YtigdclhagmnopaaGreat
open Go.RowKit
attribute [local go_sem] Zh
theorem Zdc {t : TypeId} {w : World} {g : Nat} {a0 : Bool} {A0 : Option Addr} {n0 c0 : Nat} {b0 : Bool} {B0 : Option Addr} {m0 d0 : Nat} (na : Bool) (A : Option Addr) (n c : Nat) (nb : Bool) (B : Option Addr) (m d : Nat) (hb : Blk w g t #[.bool a0,.slice A0 n0 c0,.bool b0,.slice B0 m0 d0]) :
    ∃ W,(((w.setCell ⟨g,0,none⟩ (.bool na)).setCell ⟨g,1,none⟩ (.slice A n c)).setCell ⟨g,2,none⟩ (.bool nb)).setCell ⟨g,3,none⟩ (.slice B m d) = W /\ Blk W g t #[.bool na,.slice A n c,.bool nb,.slice B m d] /\ Kept (fun k=>k = g) w W /\ W.heap.size = w.heap.size:=by
 have hb1 : Blk (w.setCell ⟨g,0,none⟩ (.bool na)) g t #[.bool na,.slice A0 n0 c0,.bool b0,.slice B0 m0 d0]:=hb.set_ 0 (.bool na);have hb2 : Blk ((w.setCell ⟨g,0,none⟩ (.bool na)).setCell ⟨g,1,none⟩ (.slice A n c)) g t #[.bool na,.slice A n c,.bool b0,.slice B0 m0 d0]:=hb1.set_ 1 (.slice A n c);have hb3 : Blk (((w.setCell ⟨g,0,none⟩ (.bool na)).setCell ⟨g,1,none⟩ (.slice A n c)).setCell ⟨g,2,none⟩ (.bool nb)) g t #[.bool na,.slice A n c,.bool nb,.slice B0 m0 d0]:=hb2.set_ 2 (.bool nb);have hb4 : Blk ((((w.setCell ⟨g,0,none⟩ (.bool na)).setCell ⟨g,1,none⟩ (.slice A n c)).setCell ⟨g,2,none⟩ (.bool nb)).setCell ⟨g,3,none⟩ (.slice B m d)) g t #[.bool na,.slice A n c,.bool nb,.slice B m d]:=hb3.set_ 3 (.slice B m d);have k0 : Kept (fun k=>k = g) w w:=Kept.refl _ _;exact ⟨_,rfl,hb4,(((k0.set_ (p:=⟨g,0,none⟩) (.inl rfl) _).set_ (p:=⟨g,1,none⟩) (.inl rfl) _).set_ (p:=⟨g,2,none⟩) (.inl rfl) _).set_ (p:=⟨g,3,none⟩) (.inl rfl) _,by simp⟩
theorem Zq {w : World} (t : TypeId) (cs : Array Value) : ∃ W,w.alloc (.cells cs t) = W /\ Blk W w.heap.size t cs /\ Below w.heap.size w W:=
 ⟨_,rfl,Blk.new _ _ _,(Below.refl _ _).alloc (Nat.le_refl _) _⟩
def VarF (w : World) (g : Nat) (q : Rat) : Prop:=∃ na A n c nb B m d,Blk w g 45 #[.bool na,.slice A n c,.bool nb,.slice B m d] /\ Fr w na A n c nb B m d q
theorem VarF.box {w : World} {g : Nat} {q : Rat} (h : VarF w g q) : ∃ t cs,Blk w g t cs /\ NoLimb cs:=by
 obtain ⟨na,A,n,c,nb,B,m,d,h1,-⟩:=h;exact ⟨_,_,h1,Zal _ _ _ _ _ _ _ _⟩
theorem VarF.lt {w : World} {g : Nat} {q : Rat} (h : VarF w g q) : g < w.heap.size:=by
 obtain ⟨na,A,n,c,nb,B,m,d,h1,-⟩:=h;exact h1.lt
theorem VarF.kept {w w' : World} {g : Nat} {q : Rat} {G : Nat -> Prop} (h : VarF w g q) (hk : Kept G w w') (hg : ¬ G g) (hG : ∀ k,G k -> ∃ t cs,Blk w k t cs /\ NoLimb cs) : VarF w' g q:=by
 obtain ⟨na,A,n,c,nb,B,m,d,h1,h2⟩:=h;exact ⟨na,A,n,c,nb,B,m,d,hk.blk h1 hg,hk.wd h2.1 hG,hk.wd h2.2 hG⟩
theorem VarF.below {w w' : World} {g : Nat} {q : Rat} (h : VarF w g q) (hb : Below w.heap.size w w') : VarF w' g q:=
 h.kept (G:=fun _=>False) (Kept.of_below hb |>.mono (fun _ _ h=>h)) (fun h=>h) (fun _ h=>h.elim)
theorem Fr.keptV {w w' : World} {na : Bool} {A : Option Addr} {n c : Nat} {nb : Bool} {B : Option Addr} {m d : Nat} {r : Rat} {g : Nat} {t : TypeId} {cs : Array Value} (h : Fr w na A n c nb B m d r) (hk : Kept (fun k=>k = g) w w') (hb : Blk w g t cs) (hn : NoLimb cs) : Fr w' na A n c nb B m d r:=
 ⟨hk.wd h.1 (fun k e=>by cases e;exact ⟨_,_,hb,hn⟩),hk.wd h.2 (fun k e=>by cases e;exact ⟨_,_,hb,hn⟩)⟩
theorem Zuw {z : Int} (h : I64 z) : Sm (z : Rat):=by
 unfold I64 at h;refine (SmN.int (i:=3) ?_).mono (by decide) (by decide)
 have : pw 3 = 79228162514264337593543950336:=by decide +kernel
 rw [this];omega
theorem Zd7 (z : Int) : Rat.divInt z 1 = (z : Rat):=Zf1 z
theorem Zpu (A B C : Option Addr) (n c m0 d k e0 : Nat) (rs : List RI) (rr ws : List Int) (w : World) (h : MIL w A n c rs) (hr : LimI w B m0 d rr) (hw : LimI w C k e0 ws) (E : Int) (hE : Zce rs rr ws = E) (h0 : E ≠ 0) :
    Calls Tryz.prog 18 #[.slice A n c,.slice B m0 d,.slice C k e0] w fun e w'=>e = .returned (.tuple #[.slice none 0 0,.agg #[.bool false,.slice none 0 0,.bool false,.slice none 0 0],.int .i64 E]) /\ Below w.heap.size w w':=by
 obtain ⟨W0,hW0,hB0,q0,s0⟩:=Zbp w 45 #[.bool false,.slice none 0 0,.bool false,.slice none 0 0];have t1 : decide (E ≠ 0) = true:=decide_eq_true h0
 have t1' : (E != 0) = true:=by simpa using h0
 replace h:=Za (h.below hB0);replace hr:=Za (hr.below hB0);replace hw:=Za (hw.below hB0);replace hE:=Za hE;replace h0:=Za h0;go_enter Tryz.func18,Tryz.ntmps18;go_wp2_with fail;(try rw [hW0]);refine (Zgp A B C n c m0 d k e0 rs rr ws W0 h.out hr.out hw.out E hE.out).mono ?_;rintro e w1 ⟨rfl,hb1⟩;have q1:=Zb hb1 q0;obtain ⟨c0,c1,c2,c3,f0,f1,f2,f3⟩:=q1.four;go_wp2_with fail;obtain ⟨W5,hW5,hB5,q2,-,-,s5⟩:=Zad false none 0 0 false none 0 0 (hB0.trans (hb1.mono hB0.size)) (Nat.le_refl _) q1;(try rw [hW5]);obtain ⟨r0,r1,r2,r3,-⟩:=q2.four;refine bodyPost_ret (v:=.tuple #[.slice none 0 0,.agg #[.bool false,.slice none 0 0,.bool false,.slice none 0 0],.int .i64 E]) (by simp [results,Tryz.results18,go_sem,r0,r1,r2,r3]) rfl ?_;exact ⟨rfl,hB5⟩
def Zp0 (full : Bool) (xs : List Rat) (q : Rat) (w : World) (e : Ending) (w' : World) : Prop:=
 (full = false /\ e = .returned (.tuple #[.slice none 0 0,.agg #[.bool false,.slice none 0 0,.bool false,.slice none 0 0],.int .i64 22]) /\ Below w.heap.size w w') \/
 (full = true /\ ∃ A0 n0 c0 na A n c nb B m d,e = .returned (.tuple #[.slice A0 n0 c0,.agg #[.bool na,.slice A n c,.bool nb,.slice B m d],.int .i64 0]) /\ Below w.heap.size w w' /\ FL w' A0 n0 c0 xs /\ Fr w' na A n c nb B m d q)
theorem Zlq (A B C : Option Addr) (n c d e0 m : Nat) (rs : List RI) (rr ws : List Int) (w : World) (h : MIL w A n c rs) (hr : LimI w B n d rr) (hw : LimI w C n e0 ws) (hE : Zce rs rr ws = 0) (hm : n0I rs = m) (hn0 : 0 < n) (hm0 : 0 < m) (hm9 : m <= 12)
    (hok : okZ (pw 200) (m + 1) m 0 0 (Zl (Zbj rs rr ws n m)) 1) (hfin : Zd2 (Zbj rs rr ws n m) m (m + 1)) (hrk : (Z0 m 0 0 (Zl (Zbj rs rr ws n m)) false 1).2.1 <= m)
    (X : Nat -> Nat -> Rat) (hX : (Z0 m 0 0 (Zl (Zbj rs rr ws n m)) false 1).2.1 = m -> Zea (fun i j=>(Z7 (Z0 m 0 0 (Zl (Zbj rs rr ws n m)) false 1).1 i j : Rat)) X m (m + 1))
    (full : Bool) (hfull : full = decide ((Z0 m 0 0 (Zl (Zbj rs rr ws n m)) false 1).2.1 = m)) (hP : full = true -> Zne rs rr ws (fun j=>X j m) n m) :
    Calls Tryz.prog 18 #[.slice A n c,.slice B n d,.slice C n e0] w (Zp0 full ((List.range m).map fun j=>X j m) (Zhl rs rr ws (fun j=>X j m) m n) w):=by
 have hmx : Tryz.prog.follows .mixedOrders = true:=by kernel_rfl
 obtain ⟨f1,f2,f3,f4,f5,f6,f7,f8⟩:=Zfc hE;have hl:=h.1
 have hrow : ∀ r ∈ rs,r.n = m:=fun r hr=>by rw [(f8 r hr).1,hm]
 have hrrl : rr.length = n:=by rw [f5,hl]
 have hwsl : ws.length = n:=by rw [f4,hl]
 rw [hl] at f1
 have hQr : ∀ i,i < m -> ((Zbj rs rr ws n m)[i]?.getD []).length = m + 1:=fun i hi=>by
  unfold Zbj;rw [List.getElem?_map,List.getElem?_range hi,Option.map_some,Option.getD_some,Ze0]
 obtain ⟨Q,hQ⟩ : ∃ Q,Zbj rs rr ws n m = Q:=⟨_,rfl⟩;rw [hQ] at hQr hok hfin hrk hX hfull;obtain ⟨W0,hW0,hB0,q0,s0⟩:=Zbp w 45 #[.bool false,.slice none 0 0,.bool false,.slice none 0 0];obtain ⟨gs,hgs⟩ : ∃ g,w.heap.size = g:=⟨_,rfl⟩;rw [hgs] at q0;have hM0:=Za h;have hR0:=Za hr;have hC0:=Za hw;replace h:=Za (h.below hB0);replace hr:=Za (hr.below hB0);replace hw:=Za (hw.below hB0);replace hE:=Za hE;replace hQr:=Za hQr;replace hQ:=Za hQ;replace hok:=Za hok;replace hfin:=Za hfin;replace hrk:=Za hrk;replace hX:=Za hX;replace hfull:=Za hfull;replace hP:=Za hP;replace hrow:=Za hrow;replace hl:=Za hl;replace hrrl:=Za hrrl;replace hwsl:=Za hwsl;replace q0:=Za q0;clear f2 f3 f4 f5 f6 f7 f8 hm;go_enter Tryz.func18,Tryz.ntmps18;go_wp2_with fail;(try rw [hW0]);(try rw [hgs]);rw [hgs] at hB0 s0;replace hgs:=Za hgs;refine (Zgp A B C n c n d n e0 rs rr ws W0 h.out hr.out hw.out 0 hE.out).mono ?_;rintro e w1 ⟨rfl,hb1⟩;replace q0:=Za (Zb hb1 q0.out);clear hW0;go_wp2_with fail;refine (Zps A B C n c d e0 m rs rr ws w1 (h.out.below hb1) (hr.out.below hb1) (hw.out.below hb1) hn0 (by omega) hm0 (by omega) hrow.out).mono ?_;rintro e w2 ⟨go,rs',rfl,hb2,hrl,base,hbb,hMA⟩;have hMF:=hMA.mfl (c:=m) (by omega) (by unfold maxLen;omega);rw [hrl,hQ.out] at hMF;have hB2:=hb1.trans (hb2.mono hb1.size);replace q0:=Za (Zb hb2 q0.out);replace hMF:=Za hMF;clear hMA hbb hb1 hb2 hrl;go_wp2_with fail
 by_cases hlt : (Z0 m 0 0 (Zl Q) false 1).2.1 < m
 ·have hf : full = false:=by
    have:=hfull.out;rw [this];exact decide_eq_false (by omega)
  subst hf;replace hlt:=Za hlt;refine (Zko (some ⟨go,0,none⟩) m m (m + 1) Q w2 hMF.out hm0 (by omega) (by omega) (by omega) hQr.out hok.out hfin.out hlt.out).mono ?_;rintro e w3 ⟨rfl,hb3⟩;have hB3:=hB2.trans (hb3.mono hB2.size);have q3:=Zb hb3 q0.out;obtain ⟨c0,c1,c2,c3,z0,z1,z2,z3⟩:=q3.four;go_wp2_with fail;have hB03 : Below gs w w3:=hB0.trans (hB3.mono (by omega));obtain ⟨W5,hW5,hB5,q5,-,-,s5⟩:=Zad false none 0 0 false none 0 0 hB03 (Nat.le_refl _) q3;(try rw [hW5]);obtain ⟨r0,r1,r2,r3,-⟩:=q5.four;refine bodyPost_ret (v:=.tuple #[.slice none 0 0,.agg #[.bool false,.slice none 0 0,.bool false,.slice none 0 0],.int .i64 22]) (by simp [results,Tryz.results18,go_sem,r0,r1,r2,r3]) rfl ?_;exact .inl ⟨rfl,rfl,by rw [hgs.out];exact hB5⟩
 have hre : Hid ((Z0 m 0 0 (Zl Q) false 1).2.1 = m):=Za (by have:=hrk.out;omega)
 have hf : full = true:=by
  have:=hfull.out;rw [this];exact decide_eq_true hre.out
 subst hf;replace hP:=Za (hP.out rfl);clear hlt;refine (Zka (some ⟨go,0,none⟩) m m (m + 1) Q w2 hMF.out hm0 (by omega) (by omega) (by omega) hQr.out hok.out hfin.out hre.out X (hX.out hre.out)).mono ?_;rintro e w5 ⟨gO,L5,rfl,hb5,hgO,hM5,hLq5,-⟩
 have hLl5 : L5.length = m:=by rw [<- List.length_map (f:=RF.q),hLq5];unfold Zfd;simp
 have hfl : (L5.map RF.q).flatten = (List.range m).map fun j=>X j m:=by
  rw [hLq5];unfold Zfd;rw [show m + 1 - m = 1 by omega]
  have : ∀ l : List Nat,(l.map fun i=>(List.range 1).map fun c=>X i (m + c)).flatten = l.map fun j=>X j m:=by
   intro l
   induction l with
   | nil=>rfl
   | cons x l ih=>rw [List.map_cons,List.flatten_cons,ih];rfl
  exact this _
 have hfll : (L5.map RF.q).flatten.length = m:=by rw [hfl];simp
 have hB5:=hB2.trans (hb5.mono hB2.size);replace q0:=Za (Zb hb5 q0.out);replace hM5:=Za hM5;clear hMF;go_wp2_with fail;refine (Zmw gO m m L5 w5 hM5.out hLl5 (by omega) (Nat.le_refl _) (by unfold maxLen;omega) (by omega) (by omega)).mono ?_;rintro e w6 ⟨v6,rfl,hb6,hO6⟩;rw [hfl] at hO6;have hB6:=hB5.trans (hb6.mono hB5.size);replace q0:=Za (Zb hb6 q0.out)
 have hg5 : gs < w5.heap.size:=by have:=hB5.size;omega
 obtain ⟨xs,hxs⟩ : ∃ xs,(List.range m).map (fun j=>X j m) = xs:=⟨_,rfl⟩;rw [hxs] at hO6
 obtain ⟨gx,cx,rfl,hgx,hcx1,hcx2,hOx⟩ : ∃ g c,v6 = .slice (some ⟨g,0,none⟩) m c /\ gs < g /\ m <= c /\ c <= maxLen /\ FOwn 45 w6 g xs:=by
  have hxl : xs.length = m:=by rw [<- hxs];simp
  rcases hO6.fown with ⟨-,e⟩ | ⟨g,c,e1,e2,e3,e4,e5⟩
  ·rw [e] at hxl;simp at hxl;omega
  ·rw [hxl] at e1 e3
   exact ⟨g,c,e1,by omega,e3,e4,e5⟩
 replace hOx:=Za hOx;replace hxs:=Za hxs;clear hO6 hM5 hfl hfll hLq5 hLl5 hb5 hb6 hgO hre hrk hX hfin hok hQr hQ hfull;go_wp2_with fail;refine (Zje 0 1 w6 (by decide) (by decide) (by decide) (by decide)).mono ?_;rintro e w7 ⟨hb7,n7,A7,k7,c7,m7,B7,j7,d7,rfl,hf7⟩;rw [Zd7] at hf7;have q7:=Zb hb7 q0.out;have hB7:=hB6.trans (hb7.mono hB6.size);have hOx7:=hOx.out.below hb7;obtain ⟨c0,c1,c2,c3,z0,z1,z2,z3⟩:=q7.four;clear hOx q0 hb7;go_wp2_with fail;obtain ⟨W8,hW8,q8,hK8,s8⟩:=Zdc n7 A7 k7 c7 m7 B7 j7 d7 q7;(try rw [hW8]);have hf8:=hf7.keptV hK8 q7 (Zal _ _ _ _ _ _ _ _);have hOx8:=Za (hOx7.keptG hK8 (by omega) (fun k e=>by cases e;exact ⟨_,_,q7,Zal _ _ _ _ _ _ _ _⟩));have hV8 : VarF W8 gs (Zhl rs rr ws (fun j=>X j m) m 0):=⟨_,_,_,_,_,_,_,_,q8,hf8⟩;have hB8 : Hid (Below W0.heap.size W0 w7 /\ gs + 1 = W0.heap.size):=Za ⟨hB7,by omega⟩;have hBW8 : Hid (Below gs w W8):=Za (hB0.trans ((hB7.mono (by omega)).trans (hK8.to_below (fun k e=>by omega) (by have:=hB7.size;omega))));replace hV8:=Za hV8;clear hf7 hf8 q7 q8 hOx7 hW8 c0 c1 c2 c3 z0 z1 z2 z3 hB7 hB6 hB5 hB2;unfold maxLen at hcx2
 go_loopg [53] n (fun k iv wr=>∃ i : Nat,i + k = n /\ iv = .int .i64 i /\ VarF wr gs (Zhl rs rr ws (fun j=>X j m) m i) /\ Kept (fun g=>g = gs) W8 wr)
 case atStart=>exact ⟨0,by omega,rfl,hV8.out,Kept.refl _ _⟩
 case round =>
  obtain ⟨i,hik,rfl,hVr,hKr⟩:=hrel
  have hBr : Below w.heap.size w wr:=by
   rw [hgs.out];exact hBW8.out.trans (hKr.to_below (fun k e=>by omega) (by have:=hBW8.out.size;have:=hgs.out;omega))
  cases gk with
  | zero =>
   obtain rfl : n = i:=by omega
   have t2 : decide ((n : Int) < (n : Int)) = false:=by simp
   obtain ⟨sn,sA,sk,sc,sm,sB,sj,sd,qs,hs⟩:=hVr;obtain ⟨c0,c1,c2,c3,z0,z1,z2,z3⟩:=qs.four;have hO:=Za (hOx8.out.keptG hKr (by omega) (fun k e=>by cases e;exact hV8.out.box));have hsh:=Za hs;clear hs hM0 hR0 hC0 h hr hw hOx8;go_wp2_with fail;refine Zar [] (fun wx=>wx.cell? ⟨gs,0,none⟩ = some (.bool sn) /\ wx.cell? ⟨gs,1,none⟩ = some (.slice sA sk sc) /\ wx.cell? ⟨gs,2,none⟩ = some (.bool sm) /\ wx.cell? ⟨gs,3,none⟩ = some (.slice sB sj sd)) hmx ⟨c0,c1,c2,c3⟩ (fun _=>?_);refine Zfh 1 [0] rfl (by kernel_rfl) ⟨c0,c1,c2,c3⟩ ?_
   (refine tk1 (v:=?_) rfl (Or.inl ⟨by kernel_rfl,?_⟩) ?_;rotate_left;(· intro W2 _;go_simp;try with_reducible rfl);try simp only [Act.put,Zf0,Zfg,Zfv,putG_a,putG_s,putG_z])
   refine tk0 ?_;refine Zif 1 [1] rfl (by kernel_rfl) ⟨c0,c1,c2,c3⟩ ?_
   (refine tk1 (v:=?_) rfl (Or.inl ⟨by kernel_rfl,?_⟩) ?_;rotate_left;(· intro W2 hSw;(try dsimp only at hSw);go_simp;try with_reducible rfl);try simp only [Act.put,Zf0,Zfg,Zfv,putG_a,putG_s,putG_z])
   refine tk0 ?_;refine Zfh 1 [2] rfl (by kernel_rfl) ⟨c0,c1,c2,c3⟩ ?_
   (refine tk1 (v:=?_) rfl (Or.inl ⟨by kernel_rfl,?_⟩) ?_;rotate_left;(· intro W2 _;go_simp;try with_reducible rfl);try simp only [Act.put,Zf0,Zfg,Zfv,putG_a,putG_s,putG_z])
   refine tk0 ?_;obtain ⟨W9,hW9,q9,hK9,s9⟩:=Zdc sn sA sk sc sm sB sj sd (w:=wr) qs;have q9s:=q9.four;have hS9:=And.intro q9s.1 (And.intro q9s.2.1 (And.intro q9s.2.2.1 q9s.2.2.2.1));refine Ze (i:=3) rfl (by kernel_rfl) (fun K hK=>?_);go_simp;(try rw [hW9]);refine hK.out _ _ (fun _=>hS9) ?_;clear hK K
   try simp only [Act.put,Zf0,Zfg,Zfv]
   refine Zfh 1 [4] rfl (by kernel_rfl) hS9 ?_
   (refine tk1 (v:=?_) rfl (Or.inl ⟨by kernel_rfl,?_⟩) ?_;rotate_left;(· intro W2 _;go_simp;try with_reducible rfl);try simp only [Act.put,Zf0,Zfg,Zfv,putG_a,putG_s,putG_z])
   refine tk0 ?_;refine Zk (by kernel_rfl) ?_ _;refine OnlyNormal.normal ?_;obtain ⟨r0,r1,r2,r3,-⟩ : W9.drew.cell? ⟨gs,0,none⟩ = some (.bool sn) /\ W9.drew.cell? ⟨gs,1,none⟩ = some (.slice sA sk sc) /\ W9.drew.cell? ⟨gs,2,none⟩ = some (.bool sm) /\ W9.drew.cell? ⟨gs,3,none⟩ = some (.slice sB sj sd) /\ True:=⟨q9.four.1,q9.four.2.1,q9.four.2.2.1,q9.four.2.2.2.1,trivial⟩;have hBr' : Below w.heap.size w W9.drew:=Zf (hBr.trans (hK9.to_below (fun k e=>by rw [e,hgs.out];exact Nat.le_refl _) hBr.size)) 1;have hs9:=Fr.drew (hsh.out.keptV hK9 qs (Zal _ _ _ _ _ _ _ _));have hO9':=FOwn.keptG hO.out hK9 (show ¬ gx = gs by omega) (fun k e=>by cases e;exact ⟨_,_,qs,Zal _ _ _ _ _ _ _ _⟩);have hO9 : FOwn 45 W9.drew gx xs:=hO9';clear hW9;go_wp2_with fail;refine bodyPost_ret (v:=.tuple #[.slice (some ⟨gx,0,none⟩) m cx,.agg #[.bool sn,.slice sA sk sc,.bool sm,.slice sB sj sd],.int .i64 0]) (by simp [results,Tryz.results18,go_sem,r0,r1,r2,r3]) rfl ?_
   have hxl : xs.length = m:=by rw [<- hxs.out];simp
   exact .inr ⟨rfl,_,_,_,_,_,_,_,_,_,_,_,rfl,hBr',by
    have:=hO9.fl (c:=cx) (by omega) (by unfold maxLen;omega);rw [hxl,<- hxs.out] at this
    exact this,hs9⟩
  | succ k' =>
   obtain rfl : k' = n - (i + 1):=by omega
   have hin : i < n:=by omega
   have t2 : decide ((i : Int) < (n : Int)) = true:=decide_eq_true (by omega)
   have bi : (i : Int) < (n : Int):=by omega
   obtain ⟨gA,oA,r,rfl,hri,k0,hL⟩:=(hM0.out.below hBr).at_ hin;have hrn:=hrow.out r (List.mem_of_getElem? hri)
   have hrl : ∀ t,r.l[t]?.getD 0 = Zas rs t i:=fun t=>(Zq8 hri).symm
   have hRr:=hR0.out.below hBr;have hCr:=hC0.out.below hBr;have hi6:=Zd6 hRr.2.2.2.1 i;have hw6:=Zd6 hCr.2.2.2.1 i;obtain ⟨gB,oB,rfl,hcB⟩:=hRr.2.2.2.2 hn0;obtain ⟨gC,oC,rfl,hcC⟩:=hCr.2.2.2.2 hn0;have kB:=hcB i hin;have kC:=hcC i hin;rw [hrn] at hL;have ha6 : Hid (∀ t,I64 (Zas rs t i)):=Za (fun t=>by rw [<- hrl t];exact Zd6 hL.2.2.2.1 t);obtain ⟨gr,orr,hrA,hcr0⟩:=hL.2.2.2.2 hm0;rw [hrn,hrA] at k0;have hcr : Hid (∀ t,t < m -> wr.cell? ⟨gr,orr + t,none⟩ = some (.int .i64 (Zas rs t i))):=Za (fun t ht=>by rw [<- hrl t];exact hcr0 t ht);have hrc:=hL.2.2.1;unfold maxLen at hrc;have hOr:=Za (hOx8.out.keptG hKr (by omega) (fun k e=>by cases e;exact hV8.out.box));replace hVr:=Za hVr;clear hcr0 hL hcB hcC hRr hCr;obtain ⟨wo,hwo⟩ : ∃ x : World,x = wr:=⟨_,rfl⟩;subst hwo
   change (wo.cell? _ = some (.int .i64 (Zap rr i))) at kB
   change (wo.cell? _ = some (.int .i64 (Zap ws i))) at kC
   change I64 (Zap rr i) at hi6
   change I64 (Zap ws i) at hw6
   have hi6':=hi6;unfold I64 at hi6';go_wp2_with fail;refine (Zje (Zap rr i) 1 wo (by omega) (by omega) (by decide) (by decide)).mono ?_;rintro e w2 ⟨hb2,pn,pA,pk,pc,pm,pB,pj,pd,rfl,hf2⟩;rw [Zd7] at hf2;obtain ⟨gd,hgd⟩ : ∃ g,w2.heap.size = g:=⟨_,rfl⟩;obtain ⟨V1,hV1,qd,hbV1⟩:=Zq (w:=w2) 45 #[.bool pn,.slice pA pk pc,.bool pm,.slice pB pj pd];rw [hgd] at qd;have hVd1 : VarF V1 gd (Zcg rs rr (fun j=>X j m) 0 i):=⟨_,_,_,_,_,_,_,_,qd,by rw [Zry];exact hf2.below hbV1⟩;have hb1 : Below wo.heap.size wo V1:=hb2.trans (hbV1.mono hb2.size)
   have hgd2 : wo.heap.size <= gd:=by rw [<- hgd];exact hb2.size
   have hgs2 : gs < wo.heap.size:=hVr.out.lt;replace hVd1:=Za hVd1;replace hb1:=Za hb1;clear hf2 qd hb2 hbV1 hi6';go_wp2_with fail;(try rw [hgd]);(try rw [hV1]);clear hV1 hgd
   go_loopg [68] m (fun k kv wr=>∃ t : Nat,t + k = m /\ kv = .int .i64 t /\ VarF wr gd (Zcg rs rr (fun j=>X j m) t i) /\ Kept (fun g=>g = gd) V1 wr)
   case atStart=>exact ⟨0,by omega,rfl,hVd1.out,Kept.refl _ _⟩
   case round =>
    obtain ⟨t,htk,rfl,hVd,hKd⟩:=hrel;have hbq : Below wo.heap.size wo wr:=hb1.out.trans (hKd.to_below (fun k e=>by omega) (by have:=hb1.out.size;omega));obtain ⟨dn,dA,dk,dc,dm,dB,dj,dd,qd,hd⟩:=hVd
    cases gk with
    | succ k2 =>
     obtain rfl : k2 = m - (t + 1):=by omega
     have htm : t < m:=by omega
     have t3 : decide ((t : Int) < (m : Int)) = true:=decide_eq_true (by omega)
     have b3 : (t : Int) < (m : Int):=by omega
     have kc:=Zc hbq (hcr.out t htm);have ha:=ha6.out t;have ha':=ha;unfold I64 at ha';have hxt : Hid (xs[t]?.getD 0 = X t m):=Za (by rw [<- hxs.out,List.getElem?_map,List.getElem?_range htm];rfl);replace qd:=Za qd;replace hd:=Za hd;go_wp2_with fail;refine (Zje (Zas rs t i) 1 wr (by omega) (by omega) (by decide) (by decide)).mono ?_;rintro e w3 ⟨hb3,fn,fA,fk,fc,fm,fB,fj,fd,rfl,hf3⟩;rw [Zd7] at hf3;obtain ⟨gf,hgf⟩ : ∃ g,w3.heap.size = g:=⟨_,rfl⟩;obtain ⟨V2,hV2,qf,hbV2⟩:=Zq (w:=w3) 45 #[.bool fn,.slice fA fk fc,.bool fm,.slice fB fj fd];rw [hgf] at qf;have hbq2 : Below wr.heap.size wr V2:=hb3.trans (hbV2.mono hb3.size);have hf4:=Za (hf3.below hbV2)
     have hxl : xs.length = m:=by rw [<- hxs.out];simp
     have hOq:=hOr.out.below (hbq.trans (hbq2.mono hbq.size));obtain ⟨xn,xA,xk,xc,xm,xB,xj,xd,x0,x1,x2,x3,hf6⟩:=hOq.at_ (i:=t) (by omega);rw [hxt.out] at hf6
     have hgfd : gd < gf:=by have:=qd.out.lt;have:=hb3.size;omega
     have hgfV : V1.heap.size <= gf:=by have:=hKd.size;have:=hb3.size;omega
     replace hf6:=Za hf6;obtain ⟨v0,v1,v2,v3,g0,g1,g2,g3⟩:=qf.four;replace qf:=Za qf;clear hf3 hOq hxl;go_wp2_with fail;(try rw [hgf]);(try rw [hV2]);clear hV2 hgf;refine Zar [9] (fun wx=>wx.cell? ⟨gf,0,none⟩ = some (.bool fn) /\ wx.cell? ⟨gf,1,none⟩ = some (.slice fA fk fc) /\ wx.cell? ⟨gf,2,none⟩ = some (.bool fm) /\ wx.cell? ⟨gf,3,none⟩ = some (.slice fB fj fd) /\ wx.cell? ⟨gx,t * 4,none⟩ = some (.bool xn) /\ wx.cell? ⟨gx,t * 4 + 1,none⟩ = some (.slice xA xk xc) /\ wx.cell? ⟨gx,t * 4 + 2,none⟩ = some (.bool xm) /\ wx.cell? ⟨gx,t * 4 + 3,none⟩ = some (.slice xB xj xd)) hmx ⟨v0,v1,v2,v3,x0,x1,x2,x3⟩ (fun _=>?_);refine Zif 1 [0] rfl (by kernel_rfl) ⟨v0,v1,v2,v3,x0,x1,x2,x3⟩ ?_
     (refine tk1 (v:=?_) rfl (Or.inl ⟨by kernel_rfl,?_⟩) ?_;rotate_left;(· intro W2 hSw;(try dsimp only at hSw);go_simp;try with_reducible rfl);try simp only [Act.put,Zf0,Zfg,Zfv,putG_a,putG_s,putG_z])
     refine tk0 ?_;refine Zfh 3 [1,2,3] rfl (by kernel_rfl) ⟨v0,v1,v2,v3,x0,x1,x2,x3⟩ ?_
     iterate 3 (refine tk1 (v:=?_) rfl (Or.inl ⟨by kernel_rfl,?_⟩) ?_;rotate_left;(· intro W2 _;go_simp;try with_reducible rfl);try simp only [Act.put,Zf0,Zfg,Zfv,putG_a,putG_s,putG_z])
     refine tk0 ?_;refine Zif 1 [4] rfl (by kernel_rfl) ⟨v0,v1,v2,v3,x0,x1,x2,x3⟩ ?_
     (refine tk1 (v:=?_) rfl (Or.inl ⟨by kernel_rfl,?_⟩) ?_;rotate_left;(· intro W2 hSw;(try dsimp only at hSw);go_simp;try with_reducible rfl);try simp only [Act.put,Zf0,Zfg,Zfv,putG_a,putG_s,putG_z])
     refine tk0 ?_;refine Ze (i:=5) rfl (by kernel_rfl) (fun K hK=>?_);go_simp;refine (Zj1 fn fm xn xm fA fB xA xB fk fc fj fd xk xc xj xd _ _ V2.drew hf4.out hf6.out (Zuw ha) (hP.out.xk t htm)).mono ?_;rintro e w4 ⟨hb4,yn,yA,yk,yc,ym,yB,yj,yd,rfl,hf7⟩;replace hb4:=Zs hb4;refine hK.out _ _ (fun _=>⟨Zc hb4 v0,Zc hb4 v1,Zc hb4 v2,Zc hb4 v3,Zc hb4 x0,Zc hb4 x1,Zc hb4 x2,Zc hb4 x3⟩) ?_;clear hK K
     try simp only [Act.put,Zf0,Zfg,Zfv]
     refine Zfh 3 [6,7,8] rfl (by kernel_rfl) ⟨Zc hb4 v0,Zc hb4 v1,Zc hb4 v2,Zc hb4 v3,Zc hb4 x0,Zc hb4 x1,Zc hb4 x2,Zc hb4 x3⟩ ?_
     iterate 3 (refine tk1 (v:=?_) rfl (Or.inl ⟨by kernel_rfl,?_⟩) ?_;rotate_left;(· intro W2 _;go_simp;try with_reducible rfl);try simp only [Act.put,Zf0,Zfg,Zfv,putG_a,putG_s,putG_z])
     refine tk0 ?_;have qf4:=Zb hb4 qf.out;obtain ⟨i0,i1,i2,i3,e0,e1,e2,e3⟩:=qf4.four;obtain ⟨Z4,hZ4,qz,hKz,sz⟩:=Zdc yn yA yk yc ym yB yj yd qf4;refine Zu (i:=9) rfl (by kernel_rfl) (by kernel_rfl) (fun K hK=>?_);go_simp;(try rw [hZ4]);refine hK.out _ _ ?_;clear hK K
     try simp only [Act.put,Zf0,Zfg,Zfv]
     refine Zk (by kernel_rfl) ?_ _;refine OnlyNormal.normal ?_;have hf8:=Za (hf7.keptV hKz qf4 (Zal _ _ _ _ _ _ _ _));have hbq4 : Below wr.heap.size wr w4:=hbq2.trans (hb4.mono hbq2.size);have qd4:=hKz.blk (Zb hbq4 qd.out) (show ¬ gd = gf by omega);have hd4:=Za ((hd.out.below hbq4).keptV hKz qf4 (Zal _ _ _ _ _ _ _ _));have hK4 : Hid (Kept (fun g=>g = gd) V1 Z4):=Za ((hKd.below hbq4).and hKz (fun k hk e=>by omega));clear hZ4 hf7 qf4 hKz hbq4 hbq2 hb4 v0 v1 v2 v3 g0 g1 g2 g3 i0 i1 i2 i3 e0 e1 e2 e3 x0 x1 x2 x3 qd hd hf4 hf6 qf hKd;obtain ⟨v0,v1,v2,v3,-⟩:=qz.four;obtain ⟨u0,u1,u2,u3,-⟩:=qd4.four;replace qd4:=Za qd4;go_wp2_with fail;refine (Zrj dn dm yn ym dA dB yA yB dk dc dj dd yk yc yj yd _ _ Z4 hd4.out hf8.out (hP.out.res i t hin (by omega)) (hP.out.f i t hin htm)).mono ?_;rintro e w5 ⟨hb5,zn,zA,zk,zc,zm,zB,zj,zd,rfl,hf9⟩;have qd5:=Zb hb5 qd4.out;obtain ⟨i0,i1,i2,i3,e0,e1,e2,e3⟩:=qd5.four;obtain ⟨W6,hW6,q6,hK6,s6⟩:=Zdc zn zA zk zc zm zB zj zd qd5
     have hfin : VarF W6 gd (Zcg rs rr (fun j=>X j m) (t + 1) i):=⟨_,_,_,_,_,_,_,_,q6,by
      rw [Zrr]
      exact hf9.keptV hK6 qd5 (Zal _ _ _ _ _ _ _ _)⟩
     have hKfin : Hid (Kept (fun g=>g = gd) V1 W6):=Za ((hK4.out.below hb5).trans hK6);replace hfin:=Za hfin;clear qd5 hf9 q6 hK6 u0 u1 u2 u3 v0 v1 v2 v3 qz hb5;go_wp2_with fail;(try rw [hW6]);clear hW6
     go_roundg (m - (t + 1))
     case measure=>omega
     case rel=>exact ⟨t + 1,by omega,by go_num,hfin.out,hKfin.out⟩
    | zero =>
     obtain rfl : m = t:=by omega
     have t3 : decide ((m : Int) < (m : Int)) = false:=by simp
     have kC':=Zc hbq kC;have hw6':=hw6;unfold I64 at hw6';replace qd:=Za qd;replace hd:=Za hd;go_wp2_with fail;refine (Zje (Zap ws i) 1 wr (by omega) (by omega) (by decide) (by decide)).mono ?_;rintro e w3 ⟨hb3,fn,fA,fk,fc,fm,fB,fj,fd,rfl,hf3⟩;rw [Zd7] at hf3;obtain ⟨gf,hgf⟩ : ∃ g,w3.heap.size = g:=⟨_,rfl⟩;obtain ⟨V2,hV2,qf,hbV2⟩:=Zq (w:=w3) 45 #[.bool fn,.slice fA fk fc,.bool fm,.slice fB fj fd];rw [hgf] at qf;have hbq2 : Below wr.heap.size wr V2:=hb3.trans (hbV2.mono hb3.size);have hf4:=Za (hf3.below hbV2)
     have hgfd : gd < gf:=by have:=qd.out.lt;have:=hb3.size;omega
     have qd2:=Zb hbq2 qd.out;have hd2:=Za (hd.out.below hbq2);have hVs : VarF V2 gs (Zhl rs rr ws (fun j=>X j m) m i):=hVr.out.below (hbq.trans (hbq2.mono hbq.size));have hbo : Below wo.heap.size wo V2:=hbq.trans (hbq2.mono hbq.size);obtain ⟨v0,v1,v2,v3,-⟩:=qf.four;obtain ⟨u0,u1,u2,u3,-⟩:=qd2.four;replace qf:=Za qf;replace qd2:=Za qd2;replace hVs:=Za hVs;replace hbo:=Za hbo;clear hf3 hbq2 qd hd hb3 hbV2 hbq hKd;go_wp2_with fail;(try rw [hgf]);(try rw [hV2]);clear hV2 hgf;refine (Zj1 dn dm dn dm dA dB dA dB dk dc dj dd dk dc dj dd _ _ V2 hd2.out hd2.out (hP.out.res i m hin (Nat.le_refl _)) (hP.out.res i m hin (Nat.le_refl _))).mono ?_;rintro e w4 ⟨hb4,yn,yA,yk,yc,ym,yB,yj,yd,rfl,hf5⟩;have qd4:=Zb hb4 qd2.out;obtain ⟨i0,i1,i2,i3,e0,e1,e2,e3⟩:=qd4.four;obtain ⟨W5,hW5,q5,hK5,s5⟩:=Zdc yn yA yk yc ym yB yj yd qd4
     have bx5 : ∀ k,k = gd -> ∃ t cs,Blk w4 k t cs /\ NoLimb cs:=fun k e=>by cases e;exact ⟨_,_,qd4,Zal _ _ _ _ _ _ _ _⟩
     have hf6:=Za (hf5.keptV hK5 qd4 (Zal _ _ _ _ _ _ _ _));have hw5:=Za ((hf4.out.below hb4).keptV hK5 qd4 (Zal _ _ _ _ _ _ _ _));have qf5:=hK5.blk (Zb hb4 qf.out) (show ¬ gf = gd by omega);have hVs5:=Za ((hVs.out.below hb4).kept hK5 (show ¬ gs = gd by omega) bx5);have hbo5 : Below wo.heap.size wo W5:=(hbo.out.trans (hb4.mono hbo.out.size)).trans (hK5.to_below (fun k e=>by omega) (by have:=hbo.out.size;have:=hb4.size;omega));replace hbo5:=Za hbo5;clear hf5 bx5 hK5 qd4 hb4 u0 u1 u2 u3 v0 v1 v2 v3 hd2 qd2 hVs hbo hf4 qf;obtain ⟨v0,v1,v2,v3,-⟩:=qf5.four;obtain ⟨u0,u1,u2,u3,-⟩:=q5.four;replace q5:=Za q5;replace qf5:=Za qf5;go_wp2_with fail;(try rw [hW5]);clear hW5 i0 i1 i2 i3 e0 e1 e2 e3;refine (Zj1 yn ym fn fm yA yB fA fB yk yc yj yd fk fc fj fd _ _ W5 hf6.out hw5.out (hP.out.sq i hin) (Zuw hw6)).mono ?_;rintro e w6 ⟨hb6,zn,zA,zk,zc,zm,zB,zj,zd,rfl,hf7⟩;have qd6:=Zb hb6 q5.out;obtain ⟨i0,i1,i2,i3,e0,e1,e2,e3⟩:=qd6.four;obtain ⟨W7,hW7,q7,hK7,s7⟩:=Zdc zn zA zk zc zm zB zj zd qd6;have hf8:=Za (hf7.keptV hK7 qd6 (Zal _ _ _ _ _ _ _ _));have hVs7:=(hVs5.out.below hb6).kept hK7 (show ¬ gs = gd by omega) (fun k e=>by cases e;exact ⟨_,_,qd6,Zal _ _ _ _ _ _ _ _⟩);have hbo7 : Below wo.heap.size wo W7:=(hbo5.out.trans (hb6.mono hbo5.out.size)).trans (hK7.to_below (fun k e=>by omega) (by have:=hbo5.out.size;have:=hb6.size;omega));obtain ⟨sn,sA,sk,sc,sm,sB,sj,sd,qs,hs⟩:=hVs7;replace hs:=Za hs;replace hbo7:=Za hbo7;clear hf7 hK7 qd6 hb6 u0 u1 u2 u3 v0 v1 v2 v3 hf6 hw5 qf5 q5 hVs5 hbo5
     obtain ⟨v0,v1,v2,v3,-⟩:=q7.four;obtain ⟨u0,u1,u2,u3,-⟩:=qs.four;replace q7:=Za q7;replace qs:=Za qs;go_wp2_with fail;(try rw [hW7]);clear hW7 i0 i1 i2 i3 e0 e1 e2 e3;refine (fAdd_ok sn sm zn zm sA sB zA zB sk sc sj sd zk zc zj zd _ _ W7 hs.out hf8.out (hP.out.sum i (by omega)) (hP.out.wsq i hin)).mono ?_;rintro e w8 ⟨hb8,an,aA,ak,ac,am,aB,aj,ad,rfl,hf9⟩;have qs8:=Zb hb8 qs.out;obtain ⟨i0,i1,i2,i3,e0,e1,e2,e3⟩:=qs8.four;obtain ⟨W9,hW9,q9,hK9,s9⟩:=Zdc an aA ak ac am aB aj ad qs8;have hfin : VarF W9 gs (Zhl rs rr ws (fun j=>X j m) m (i + 1)):=⟨_,_,_,_,_,_,_,_,q9,hf9.keptV hK9 qs8 (Zal _ _ _ _ _ _ _ _)⟩;have hbo8:=hbo7.out.trans (hb8.mono hbo7.out.size);have hKfin : Hid (Kept (fun g=>g = gs) W8 W9):=Za ((hKr.below hbo8).trans hK9);replace hfin:=Za hfin;clear qs8 hf9 q9 hK9 u0 u1 u2 u3 v0 v1 v2 v3 hb8 hbo8 hs hf8;go_wp2_with fail;(try rw [hW9]);clear hW9
     go_roundg (n - (i + 1))
     case measure=>omega
     case rel=>exact ⟨i + 1,by omega,by go_num,hfin.out,hKfin.out⟩
theorem Zem (x y : Int) (w : World) (hx1 : -9223372036854775808 <= x) (hx2 : x <= 9223372036854775807) (h0 : 0 < y) (hy : y <= 9223372036854775807) :
    Calls Tryz.prog 40 #[.int .i64 x,.int .i64 y] w (Zjk w (Rat.divInt x y)):=by
 obtain ⟨W0,hW0,hB0,q0,s0⟩:=Zbp w 45 #[.bool false,.slice none 0 0,.bool false,.slice none 0 0];obtain ⟨gR,hgR⟩ : ∃ g,w.heap.size = g:=⟨_,rfl⟩;rw [hgR] at q0;go_enter Tryz.func40,Tryz.ntmps40;go_wp2_with fail;(try rw [hW0]);(try rw [hgR]);rw [hgR] at hB0 s0;refine (rOf_pos x y W0 hx1 hx2 h0 hy).mono ?_;rintro e w1 ⟨hb1,pn,pA,pk,pc,pm,pB,pj,pd,rfl,hf⟩;obtain ⟨g1,hg1⟩ : ∃ g,w1.heap.size = g:=⟨_,rfl⟩;obtain ⟨V1,hV1,qv,hbV⟩:=Zq (w:=w1) 45 #[.bool pn,.slice pA pk pc,.bool pm,.slice pB pj pd];rw [hg1] at qv;have hb2:=hb1.trans (hbV.mono hb1.size);have q1:=Zb hb2 q0;have hfV:=Za (hf.below hbV);obtain ⟨v0,v1,v2,v3,-⟩:=qv.four;obtain ⟨c0,c1,c2,c3,z0,z1,z2,z3⟩:=q1.four;clear hf;replace hgR:=Za hgR;go_wp2_with fail;(try rw [hg1]);(try rw [hV1]);obtain ⟨W5,hW5,q5,hK5,s5⟩:=Zdc pn pA pk pc pm pB pj pd q1;go_wp2_with fail;(try rw [hW5]);obtain ⟨r0,r1,r2,r3,-⟩:=q5.four;refine bodyPost_ret (v:=.agg #[.bool pn,.slice pA pk pc,.bool pm,.slice pB pj pd]) (by simp [results,Tryz.results40,go_sem,r0,r1,r2,r3]) rfl ?_;refine ⟨?_,_,_,_,_,_,_,_,_,rfl,hfV.out.keptV hK5 q1 (Zal _ _ _ _ _ _ _ _)⟩;rw [hgR.out];exact hB0.trans ((hb2.mono (by omega)).trans (hK5.to_below (fun k e=>by omega) (by have:=hb2.size;omega)))
theorem Zcf (A : Option Addr) (n c : Nat) (l : List Int) (w : World) (h : LimI w A n c l) (hn9 : n <= 900) :
    Calls Tryz.prog 47 #[.slice A n c] w fun e w'=>∃ v,e = .returned v /\ Below w.heap.size w w' /\ OwnF 45 w' w.heap.size v (l.map fun (z : Int)=>(z : Rat)):=by
 obtain ⟨iF,hi,hz0,hz1,hz2⟩:=info_parts Zd5;have hl:=Za h.1;have hcm:=h.2.2.1;unfold maxLen at hcm;have hnc:=h.2.1;replace h:=Za h;go_enter Tryz.func47,Tryz.ntmps47;go_wp2_with fail
 go_loopg [3,4] n (fun k ov iv wr=>∃ i : Nat,i + k = n /\ iv = .int .i64 i /\ Below w.heap.size w wr /\ OwnF 45 wr w.heap.size ov ((l.map fun (z : Int)=>(z : Rat)).take i))
 case atStart=>exact ⟨0,by omega,rfl,Below.refl _ _,OwnF.nil _ _ _⟩
 case round =>
  obtain ⟨i,hik,rfl,hB,hO⟩:=hrel
  cases gk with
  | zero =>
   obtain rfl : i = n:=by omega
   have t1 : decide ((i : Int) < (i : Int)) = false:=by simp
   replace hO:=Za hO;go_wp2_with fail;go_ret;refine ⟨_,rfl,hB,?_⟩;have h1:=hO.out;rw [List.take_of_length_le (by rw [List.length_map,hl.out];exact Nat.le_refl _)] at h1;exact h1
  | succ k' =>
   obtain rfl : k' = n - (i + 1):=by omega
   have hin : i < n:=by omega
   have t1 : decide ((i : Int) < (n : Int)) = true:=decide_eq_true (by omega)
   have bi : (i : Int) < (n : Int):=by omega
   have hq:=h.out.below hB;have hz:=Zd6 hq.2.2.2.1 i;obtain ⟨g,o,rfl,hc⟩:=hq.2.2.2.2 (by omega);have k0:=hc i hin;have hz':=hz;unfold I64 at hz';obtain ⟨z,hze⟩ : ∃ z,l[i]?.getD 0 = z:=⟨_,rfl⟩;rw [hze] at k0 hz';replace hO:=Za hO;clear hc hq;go_wp2_with fail;refine (Zem z 1 wr (by omega) (by omega) (by decide) (by decide)).mono ?_;rintro e w3 ⟨hb3,na,B1,m1,d1,nb,B2,m2,d2,rfl,hf⟩;rw [Zd7] at hf;have hs:=hB.size
   have hll : ((l.map fun (z : Int)=>(z : Rat)).take i).length + 1 <= 1000:=by rw [List.length_take,List.length_map];omega
   have hqe : Hid ((l.map fun (z : Int)=>(z : Rat)).take i ++ [(z : Rat)] = (l.map fun (z : Int)=>(z : Rat)).take (i + 1)):=Za (by
    rw [List.take_add_one,List.getElem?_map,List.getElem?_eq_getElem (l:=l) (i:=i) (by rw [hl.out];exact hin)];rw [List.getElem?_eq_getElem (l:=l) (i:=i) (by rw [hl.out];exact hin)] at hze;simp only [Option.getD_some] at hze
    rw [hze];rfl)
   obtain ⟨gy,hgy⟩ : ∃ g,w3.heap.size = g:=⟨_,rfl⟩;obtain ⟨Y1,hY1⟩ : ∃ Y,w3.alloc (.cells #[.bool na,.slice B1 m1 d1,.bool nb,.slice B2 m2 d2] 45) = Y:=⟨_,rfl⟩
   have hBY : Below w3.heap.size w3 Y1:=by rw [<- hY1];exact (Below.refl _ _).alloc (Nat.le_refl _) _
   have hbl : Blk Y1 gy 45 #[.bool na,.slice B1 m1 d1,.bool nb,.slice B2 m2 d2]:=by rw [<- hY1,<- hgy];exact Blk.new _ _ _
   have hfY : Fr Y1 na B1 m1 d1 nb B2 m2 d2 (z : Rat):=hf.below hBY;have hb4:=hb3.trans (hBY.mono hb3.size);have hOY:=hO.out.kept hb4;have hBB:=hB.trans (hb4.mono hs);have hs2:=hBB.size;replace hll:=Za hll;clear hf hze hz hz';go_wp2_with ((try rw [hY1]);(try rw [hgy]);at_builtin;refine Zeb _ rfl (.tmp 11) (.tmp 17) 40 rfl w.heap.size 45 iF Tryz.underlying40 hi hz0 hz1 hz2 _ _ rfl hOY _ (some ⟨gy,0,none⟩) 1 1 [⟨na,B1,m1,d1,nb,B2,m2,d2,(z : Rat)⟩] rfl (Zfm _ hbl) rfl (by intro e he;rw [List.mem_singleton] at he;subst he;exact hfY) hll.out hs2 ?_;intro v2 w5 hO2 hg5 hk5);have hB5:=hBB.grown hg5 hs2 (fun k hk=>hOY.row_ge k hk);simp only [List.map_cons,List.map_nil] at hO2;rw [hqe.out] at hO2
   go_roundg (n - (i + 1))
   case measure=>omega
   case rel=>exact ⟨i + 1,by omega,by go_num,hB5,hO2⟩
open Go.ChangeShapes Go.WideShapes Go.Deep Go.RowKit
section
variable {H : Type} {enc : TypeId × Value -> H} {P : Program} {w : World} {base : Nat} {spare : Nat -> Bool} {held : Bool}
end
section
variable {H : Type} {enc : TypeId × Value -> H} {P : Program}
theorem Zl2 {f : Func} {s : ChangeSpec} {apart fresh handsOn again : Bool} {W W' : World} {args : Array Value} {v : Value} {ds gs : List (DataW H)} {before pa pv : List MemPlace}
    (hW : DataW.Whole enc P f.params.toList s.vars apart W args.toList ds gs before)
    (hres : ∀ (b : Nat) (sp : Nat -> Bool) (hd : Bool),DataW.TrodAll enc P W' b sp hd f.resultTypes.toList (v.resultList f.resultTypes.size) (s.fn H (ds ++ gs)).results [])
    (hargs : ∀ sp : Nat -> Bool,(∀ p ∈ before,sp p.block = true) -> DataW.TrodAll enc P W' 0 sp true f.params.toList args.toList (s.fn H (ds ++ gs)).args pa)
    (hvars : ∀ sp : Nat -> Bool,(∀ p ∈ before,sp p.block = true) -> DataW.TrodVars enc P W' sp s.vars (s.fn H (ds ++ gs)).vars pv)
    (hps : before = pa ++ pv) (hb : Below W.heap.size W W')
    (hok : ∀ (j : Nat) (t : TypeId) (r : Value),f.resultTypes[j]? = some t -> (v.resultList f.resultTypes.size)[j]? = some r -> Value.okWide P W' .any 0 t r) :
    s.post enc P f apart fresh handsOn again W args v W':=by
 have hlt : ∀ p ∈ before,p.block < W.heap.size:=fun p hp=>hW.lt p hp
 have hold : ∀ p ∈ before,(fun b=>decide (b < W.heap.size)) p.block = true:=fun p hp=>by simpa using hlt p hp
 refine ⟨ds,gs,before,[],pa,pv,hW,hres _ _ _,hargs _ hold,hvars _ hold,World.keptBut_mono (fun p hp=>⟨hp,?_⟩) (hb.frame (· ∈ before)),fun _=>?_⟩
 ·rw [hps,List.mem_append] at hp
  exact Or.inr hp
 ·obtain ⟨_,_,_,_,_,hz,hn⟩:=hW
  refine ⟨hok,_,_,([] ++ pa) ++ pv,⟨[] ++ pa,pv,trodAll_append (hargs _ (fun _ _=>rfl)) (hres _ _ _),hvars _ (fun _ _=>rfl),rfl,?_,?_⟩,?_⟩
  ·intro b off hp
   have hin : MemPlace.cell b off ∈ before:=by rw [hps];simpa using hp
   rw [hb.frozen (hlt _ hin)];exact hz b off hin
  ·intro ha
   have:=hn ha;rw [hps] at this
   simpa using this
  ·intro p hp _
   rw [hps]
   simpa using hp
end
theorem list_of {α : Type} (P : Nat -> α -> Prop) (n : Nat) (h : ∀ i,i < n -> ∃ e,P i e) : ∃ es : List α,es.length = n /\ ∀ (k : Nat) (e : α),es[k]? = some e -> P k e:=by
 induction n with
 | zero=>exact ⟨[],rfl,fun k e h=>by simp at h⟩
 | succ n ih =>
  obtain ⟨es,h1,h2⟩:=ih fun i hi=>h i (by omega)
  obtain ⟨e,he⟩:=h n (by omega);refine ⟨es ++ [e],by simp [h1],fun k e' hk=>?_⟩
  rcases Nat.lt_or_ge k es.length with hlt | hge
  ·rw [List.getElem?_append_left hlt] at hk;exact h2 k e' hk
  ·rw [List.getElem?_append_right hge] at hk
   rcases Nat.eq_or_lt_of_le hge with h0 | h0
   ·rw [show k - es.length = 0 by omega] at hk
    simp at hk
    subst hk;rw [<- h0,h1];exact he
   ·rw [List.getElem?_eq_none (by simp;omega)] at hk
    cases hk
section
variable {H : Type} {enc : TypeId × Value -> H} {w : World} {base : Nat} {spare : Nat -> Bool} {held : Bool}
end
section
variable {H : Type} {enc : TypeId × Value -> H} {w : World} {base : Nat} {spare : Nat -> Bool} {held : Bool}
end
section
variable {H : Type} {enc : TypeId × Value -> H} {w : World} {base : Nat} {spare : Nat -> Bool} {held : Bool}
end
theorem Fr.raw {w : World} {na : Bool} {A : Option Addr} {n c : Nat} {nb : Bool} {B : Option Addr} {m d : Nat} {r : Rat} (h : Fr w na A n c nb B m d r) : okF na (digits r.num.natAbs) nb (digits r.den) = true /\ qOf na (digits r.num.natAbs) (digits r.den) = r:=by
 have h1:=h.1.ok;have h2:=h.2.ok;have h3:=h.1.sgEq;rw [Int.natAbs_natCast] at h2;have hd:=r.den_pos;have hr:=r.reduced;unfold Nat.Coprime at hr;refine ⟨?_,?_⟩
 ·unfold okF
  rw [h1,h2,h.neg,Zi,Zi]
  simp [length_digits_pos,hd,hr]
 ·unfold qOf
  rw [h3,Zi];exact Rat.num_divInt_den r
def FE.fx (e : FE) : FX:=⟨e.na,e.A,e.n,e.c,digits e.q.num.natAbs,e.nb,e.B,e.m,e.d,digits e.q.den⟩
def Sm8 (q : Rat) : Prop:=q.num.natAbs < pw 8 /\ q.den < pw 8
theorem FE.fx_ok {w : World} {e : FE} (h : e.in_ w) (hs : Sm8 e.q) : e.fx.in_ w /\ e.fx.fine = true /\ e.fx.q = e.q:=by
 have h0 : Fr w e.na e.A e.n e.c e.nb e.B e.m e.d e.q:=h;have h1:=h0.1.2.2;have h2:=h0.2.2.2;rw [Int.natAbs_natCast] at h2;refine ⟨⟨h1,h2⟩,?_,h0.raw.2⟩;unfold FX.fine;rw [Bool.and_eq_true];refine ⟨decide_eq_true ?_,h0.raw.1⟩;have a1:=(Zt _ 8).2 hs.1;have a2:=(Zt _ 8).2 hs.2;have b1:=h1.len;have b2:=h2.len;unfold FX.few FE.fx;simp only;omega
theorem FL.fxl {w : World} {A : Option Addr} {n c : Nat} {qs : List Rat} (h : FL w A n c qs) (hs : ∀ q ∈ qs,Sm8 q) : ∃ es,FXL w A n c es /\ es.map FX.q = qs /\ Zbs es = true:=by
 obtain ⟨fs,h1,h2,h3,h4,rfl,h5⟩:=h
 have hk : ∀ e ∈ fs,e.fx.in_ w /\ e.fx.fine = true /\ e.fx.q = e.q:=fun e he=>FE.fx_ok (h4 e he) (hs _ (List.mem_map_of_mem he))
 refine ⟨fs.map FE.fx,⟨by rw [List.length_map];exact h1,h2,h3,fun x hx=>?_,fun hn=>?_⟩,?_,?_⟩
 ·obtain ⟨e,he,rfl⟩:=List.mem_map.1 hx
  exact (hk e he).1
 ·obtain ⟨g,o,e1,hc⟩:=h5 hn
  refine ⟨g,o,e1,fun k x hx=>?_⟩;rw [List.getElem?_map] at hx;obtain ⟨e,he,rfl⟩:=Option.map_eq_some_iff.1 hx;exact hc k e he
 ·rw [List.map_map]
  exact List.map_congr_left fun e he=>(hk e he).2.2
 ·unfold Zbs
  rw [List.all_eq_true];intro x hx;obtain ⟨e,he,rfl⟩:=List.mem_map.1 hx;exact (hk e he).2.1
theorem MFL.mxl {w : World} {A : Option Addr} {n c : Nat} {Q : List (List Rat)} (h : MFL w A n c Q) (hs : ∀ r ∈ Q,∀ q ∈ r,Sm8 q) : ∃ rs,MXL w A n c rs /\ qM rs = Q /\ ∀ (i : Nat) (r : RX),rs[i]? = some r -> r.n = (Q[i]?.getD []).length /\ Zbs r.es = true:=by
 obtain ⟨h1,h2,h3,h4⟩:=h
 rcases Nat.eq_zero_or_pos n with h0 | h0
 ·subst h0
  obtain rfl : Q = []:=List.eq_nil_of_length_eq_zero h1;exact ⟨[],⟨rfl,h2,h3,fun r hr=>(by cases hr),fun hn=>absurd hn (Nat.lt_irrefl _)⟩,rfl,fun i r hr=>(by simp at hr)⟩
 ·obtain ⟨g,o,rfl,hc⟩:=h4 h0
  obtain ⟨rs,r1,r2⟩:=list_of (fun i (r : RX)=>w.cell? ⟨g,o + i,none⟩ = some (.slice r.A r.n r.c) /\ FXL w r.A r.n r.c r.es /\ r.es.map FX.q = Q[i]?.getD [] /\ Zbs r.es = true /\ r.n = (Q[i]?.getD []).length) n (fun i hi=>by
   have hq : Q[i]? = some Q[i]:=List.getElem?_eq_getElem (by omega);obtain ⟨A',n',c',k0,hF⟩:=hc i _ hq;obtain ⟨es,e1,e2,e3⟩:=hF.fxl (hs _ (List.getElem_mem _))
   exact ⟨⟨A',n',c',es⟩,k0,e1,by rw [hq];exact e2,e3,by rw [hq];exact hF.len.symm⟩)
  refine ⟨rs,⟨r1,h2,h3,fun r hr=>?_,fun _=>⟨g,o,rfl,fun k r hk=>(r2 k r hk).1⟩⟩,?_,fun i r hr=>⟨(r2 i r hr).2.2.2.2,(r2 i r hr).2.2.2.1⟩⟩
  ·obtain ⟨k,hk,rfl⟩:=List.getElem_of_mem hr
   exact (r2 k _ (List.getElem?_eq_getElem hk)).2.1
  ·unfold qM
   apply List.ext_getElem?
   intro i;rw [List.getElem?_map]
   by_cases hi : i < n
   ·have hr:=List.getElem?_eq_getElem (l:=rs) (i:=i) (by omega)
    have hq : Q[i]? = some Q[i]:=List.getElem?_eq_getElem (by omega);have:=(r2 i _ hr).2.2.1;rw [hq] at this;rw [hr,hq,Option.map_some];exact congrArg some this
   ·rw [List.getElem?_eq_none (by omega),List.getElem?_eq_none (l:=Q) (by omega)];rfl
theorem Zty {w : World} {A : Option Addr} {n c m : Nat} {rs : List RX} (h : MXL w A n c rs) (hn : 0 < n) (hn12 : n <= 12) (hm : 0 < m) (hm12 : m <= 12) (hr : ∀ r ∈ rs,r.n = m /\ Zbs r.es = true) : Zdj rs = 0 /\ n0R rs = m:=by
 obtain ⟨r0,hr0⟩ : ∃ r,rs[0]? = some r:=⟨_,List.getElem?_eq_getElem (by rw [h.1];exact hn)⟩
 have h0 : n0R rs = m:=by
  unfold n0R;rw [hr0];exact (hr r0 (List.mem_of_getElem? hr0)).1
 refine ⟨?_,h0⟩;unfold Zdj
 have h1 : Zes rs = false:=by
  unfold Zes;rw [Bool.or_eq_false_iff];refine ⟨decide_eq_false (by have:=h.1;omega),List.any_eq_false.2 fun r hr'=>?_⟩;have:=(hr r hr').1
  simp [RX.long,this]
  omega
 rw [if_neg (by simp [h1]),if_neg (by omega),if_pos ?_];rw [List.all_eq_true];intro r hr';obtain ⟨a1,a2⟩:=hr r hr';unfold Zek
 simp [a1,a2,h0]
section
variable {t tS : TypeId} {w w' : World} {base : Nat} {v : Value} {xs : List FX}
end
section
variable {P : Program} (w : World)
end
end Go.Proofs.YtigdclhagmnopaaGreat
