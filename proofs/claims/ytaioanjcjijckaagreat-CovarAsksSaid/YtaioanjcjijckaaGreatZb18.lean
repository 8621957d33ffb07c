/- What a region with one call and one new variable for a -/
import Derived.Test.YtaioanjcjijckaaGreatZb17
set_option maxRecDepth 100000
set_option maxHeartbeats 2000000
set_option linter.unusedSimpArgs false
set_option linter.unusedVariables false
namespace Go.Proofs.YtaioanjcjijckaaGreat
open Go.RowKit
theorem Fr.zero_iff {w:World} {na:Bool} {A:Option Addr} {n c:Nat} {nb:Bool} {B:Option Addr} {m d:Nat} {r:Rat} (h:Fr w na A n c nb B m d r):n=0 ↔ r=0:=by
 have h1:=h.1.lim.len;have h2:=length_digits_pos (v:=r.num.natAbs)
 constructor
 ·intro hn
  have:r.num=0:=by omega
  exact Rat.num_eq_zero.1 this
 ·rintro rfl
  have:(0:Rat).num.natAbs=0:=rfl;omega
attribute [local go_sem] Zf
theorem Zkf (na nb:Bool) (A B:Option Addr) (n c m d:Nat) (za zb:Int) (w:World) (ha:Wd w na A n c za) (hb:Wd w nb B m d zb) :
    Calls Tryz.prog 127 #[.agg #[.bool na,.slice A n c],.agg #[.bool nb,.slice B m d]] w (ResW w (za+zb)):=by
 have hLa:=ha.lim;have hLb:=hb.lim;have hn:=ha.2.1;have hm:=hb.2.1
 have hB0:∀ X Y Z V:Obj,Below w.heap.size w ((((w.alloc X).alloc Y).alloc Z).alloc V):=fun X Y Z V=>((((Below.refl w.heap.size w).alloc (Nat.le_refl _) _).alloc (by simp) _).alloc (by simp;omega) _).alloc (by simp;omega) _
 have hW:∀ X Y Z t,WL ((((w.alloc X).alloc Y).alloc Z).alloc (.cells #[.bool na,.slice A n c,.bool nb,.slice B m d] t)) (some ⟨w.heap.size+1+1+1,0,none⟩) 2 2 [⟨na,A,n,c,digits za.natAbs⟩,⟨nb,B,m,d,digits zb.natAbs⟩]:=fun X Y Z t=>by
  have:=WL.two (neg:=na) (neg':=nb) (((hLa.alloc X).alloc Y).alloc Z) (((hLb.alloc X).alloc Y).alloc Z) t;simp only [World.size_alloc] at this;exact this
 have hW:=Za hW;have hB0:=Za hB0;have hgood:Hid (okW na (digits za.natAbs)=true/\okW nb (digits zb.natAbs)=true):=⟨ha.ok,hb.ok⟩;have hza:=Za ha.sgEq;have hzb:=Za hb.sgEq;clear ha hb;go_enter Tryz.func127,Tryz.ntmps127;go_wp2_with fail;refine (Zc0 (hW.out _ _ _ _) (by have:=hgood.out;simp [WE.ok,this])).mono ?_;rintro e w1 ⟨rfl,hb1⟩;obtain ⟨hc1,hf1⟩:=Zca hb1
 have hz1:w.heap.size+1+1+1 < w1.heap.size:=by have:=hb1.size;simp at this;omega
 have hB1:Below w.heap.size w w1:=(hB0.out _ _ _ _).trans (hb1.mono (by simp;omega))
 have g0:w1.cell? ⟨w.heap.size,0,none⟩=some (.bool na):=by simp [hc1,go_sem]
 have g1:w1.cell? ⟨w.heap.size,1,none⟩=some (.slice A n c):=by simp [hc1,go_sem]
 have g2:w1.cell? ⟨w.heap.size+1,0,none⟩=some (.bool nb):=by simp [hc1,go_sem]
 have g3:w1.cell? ⟨w.heap.size+1,1,none⟩=some (.slice B m d):=by simp [hc1,go_sem]
 have gf:w1.frozen? ⟨w.heap.size+1,0,none⟩=false:=by simp [hf1,go_sem]
 have gB:Blk w1 (w.heap.size+1) 27 #[.bool nb,.slice B m d]:=by
  refine Zc hb1 ((Blk.alloc (Blk.alloc ?_ _) _));have:=Blk.new (w.alloc (.cells #[.bool na,.slice A n c] 27)) 27 #[.bool nb,.slice B m d];simp only [World.size_alloc] at this;exact this
 have g7:Blk w1 (w.heap.size+1+1) 27 #[.bool false,.slice none 0 0]:=by
  refine Zc hb1 (Blk.alloc ?_ _);have:=Blk.new ((w.alloc (.cells #[.bool na,.slice A n c] 27)).alloc (.cells #[.bool nb,.slice B m d] 27)) 27 #[.bool false,.slice none 0 0];simp only [World.size_alloc] at this;exact this
 have hLa1:=hLa.below hB1;have hLb1:=hLb.below hB1;have HB:=Za gB;clear gB hc1 hf1;go_wp2_with fail;refine (Zra _ _ _ _ _ _ _ _ _ _ _ (by exact hLa1) (by exact hLb1) hn hm).mono ?_;rintro e w2 ⟨hb2,neg2,A2,n2,c2,code2,rfl,hR2⟩;have hB2:Below w.heap.size w w2:=hB1.trans (hb2.mono hB1.size);have m7:=Zc hb2 g7;have m3:=m7.cell 0;have m4:=m7.cell 1;have m5:=m7.frozen 0;have m6:=m7.frozen 1
 simp at m3 m4
 have HM:=Za m7;clear m7;go_wp2_with fail
 have HZ:sg na za.natAbs+sg nb zb.natAbs=za+zb:=by
  have h1:=hza.out;have h2:=hzb.out;rw [Zh] at h1 h2;rw [h1,h2]
 refine bodyPost_ret (v:=.tuple #[.agg #[.bool neg2,.slice A2 n2 c2],.int .i64 code2]) (by simp [results,Tryz.results127,go_sem,m3,m4]) rfl ?_;exact ResW.box (HZ ▸ hR2) hB2 (by omega) HM.out
def NumE (w:World) (z:Int) (e:Ending) (w':World):Prop:=
 Below w.heap.size w w'/\∃ neg A n c,e=.returned (.tuple #[.agg #[.bool neg,.slice A n c],.int .i64 0])/\Wd w' neg A n c z
def frP (q:Rat) (v:Value) (w:World):Prop:=∃ na A n c nb B m d,v=.tuple #[.agg #[.bool na,.slice A n c,.bool nb,.slice B m d],.int .i64 0]/\Fr w na A n c nb B m d q
def frV (q:Rat) (v:Value) (w:World):Prop:=∃ na A n c nb B m d,v=.agg #[.bool na,.slice A n c,.bool nb,.slice B m d]/\Fr w na A n c nb B m d q
def nmT (z:Int) (v:Value) (w:World):Prop:=∃ A n c,v=.agg #[.bool false,.slice A n c]/\Wd w false A n c z
def isV (x v:Value) (_:World):Prop:=v=x
def Zm3 (B0:Nat) (t:TypeId) (cs:Array Value) (v:Value) (w:World):Prop:=∃ g,v=.pointer (some ⟨g,0,none⟩)/\B0 <= g/\Blk w g t cs
def fl1V (q:Rat) (v:Value) (w:World):Prop:=∃ A c,v=.slice A 1 c/\FL w A 1 c [q]
def fl2V (p q:Rat) (v:Value) (w:World):Prop:=∃ A c,v=.slice A 2 c/\FL w A 2 c [p,q]
def Zz:List (Nat × (Value->World->Prop))->Nat->Value->World->Prop
 | [],_=>fun _ _=>True
 | (j,P) :: l,i=>if i=j then P else Zz l i
def Zdr (P:Value->World->Prop):Prop:=∀ v w w',Below w.heap.size w w'->P v w->P v w'
section
variable {q:Rat} {z:Int} {x:Value} {B0:Nat} {t:TypeId} {cs:Array Value}
theorem Zlj:Zdr (frP q):=fun _ _ _ hb ⟨na,A,n,c,nb,B,m,d,e,h⟩=>⟨na,A,n,c,nb,B,m,d,e,h.below hb⟩
theorem Zal:Zdr (frV q):=fun _ _ _ hb ⟨na,A,n,c,nb,B,m,d,e,h⟩=>⟨na,A,n,c,nb,B,m,d,e,h.below hb⟩
theorem Zsa:Zdr (nmT z):=fun _ _ _ hb ⟨A,n,c,e,h⟩=>⟨A,n,c,e,h.below hb⟩
theorem Zr0:Zdr (isV x):=fun _ _ _ _ h=>h
theorem Zcn:Zdr (Zm3 B0 t cs):=fun _ _ _ hb ⟨g,e,k,h⟩=>⟨g,e,k,Zc hb h⟩
theorem Zdo:Zdr (fl1V q):=fun _ _ _ hb ⟨A,c,e,h⟩=>⟨A,c,e,h.below hb⟩
theorem Zko {p:Rat}:Zdr (fl2V p q):=fun _ _ _ hb ⟨A,c,e,h⟩=>⟨A,c,e,h.below hb⟩
theorem Zce {l:List (Nat × (Value->World->Prop))} (h:∀ p ∈ l,Zdr p.2) (i:Nat):Zdr (Zz l i):=by
 induction l with
 | nil=>exact fun _ _ _ _ _=>trivial
 | cons p l ih =>
  unfold Zz
  by_cases e:i=p.1
  ·rw [if_pos e];exact h p List.mem_cons_self
  ·rw [if_neg e];exact ih fun r hr=>h r (List.mem_cons_of_mem _ hr)
theorem Zcy:∀ p ∈ ([]:List (Nat × (Value->World->Prop))),Zdr p.2:=fun _ h=>by cases h
theorem Zm {p:Nat × (Value->World->Prop)} {l:List (Nat × (Value->World->Prop))} (h:Zdr p.2) (k:∀ p ∈ l,Zdr p.2):∀ r ∈ p :: l,Zdr r.2:=fun r hr=>by
 rcases List.mem_cons.1 hr with rfl | h2
 ·exact h
 ·exact k r h2
end
theorem sm_addA {x y z v:Int} (hx:x.natAbs < pw 1000) (hy:y.natAbs < pw 1000) (hz:z.natAbs < pw 1000) (hv:v.natAbs < pw 1000):(x * y+z * v).natAbs < pw 4096:=by
 have h1:=Zg5 hx hy;have h2:=Zg5 hz hv;have h3:=Zpw;omega
theorem Ztp (a b:Rat):Rat.divInt (a.num * b.den+b.num * a.den) ((a.den:Int) * (b.den:Nat))=a+b:=by
 have ha:((a.den:Nat):Int) ≠ 0:=by have:=a.den_pos;omega
 have hb:((b.den:Nat):Int) ≠ 0:=by have:=b.den_pos;omega
 rw [<- Rat.divInt_add_divInt _ _ ha hb,Rat.num_divInt_den,Rat.num_divInt_den]
theorem Zpp (x y:Value) (W:World):(callFunc 190 #[x,y]).run Tryz.prog W=.ok (.enter 190 #[x,y]) W:=by simp [go_sem]
theorem Add1_ok (na nb na' nb':Bool) (A B A' B':Option Addr) (n c m d n' c' m' d':Nat) (a b:Rat) (w:World) (ha:Fr w na A n c nb B m d a) (hb:Fr w na' A' n' c' nb' B' m' d' b)
    (h1:(a.num * b.den).natAbs < pw 4096) (h2:(b.num * a.den).natAbs < pw 4096) (hs:(a.num * b.den+b.num * a.den).natAbs < pw 4096) (ht:((a.den:Int) * (b.den:Nat)).natAbs < pw 4096) :
    Calls Tryz.prog 190 #[.agg #[.bool na,.slice A n c,.bool nb,.slice B m d],.agg #[.bool na',.slice A' n' c',.bool nb',.slice B' m' d']] w (Zll w (a.num * b.den+b.num * a.den) ((a.den:Int) * (b.den:Nat))):=by
 obtain ⟨W0,hW0,hB0,⟨q0,q1,q2,q3⟩,s0⟩:=Ze9 w 29 #[.bool na,.slice A n c,.bool nb,.slice B m d] 29 #[.bool na',.slice A' n' c',.bool nb',.slice B' m' d'] 27 #[.bool false,.slice none 0 0] 27 #[.bool false,.slice none 0 0]
 have hmx:Tryz.prog.follows .mixedOrders=true:=by kernel_rfl
 have hA:=Za (ha.below hB0);have hD:=Za (hb.below hB0);replace hs:=Za hs;replace ht:=Za ht;replace h1:=Za h1;replace h2:=Za h2;have sz:=Za hB0.size;have hB:=Za hB0;clear ha hb hB0 s0;replace q0:=Za q0;replace q1:=Za q1;replace q2:=Za q2;replace q3:=Za q3;obtain ⟨a0,a1,a2,a3,-⟩:=q0.out.four;obtain ⟨b0,b1,b2,b3,-⟩:=q1.out.four;replace hW0:=Za hW0;go_enter Tryz.func190,Tryz.ntmps190;go_wp2_with fail;rw [hW0.out];clear hW0;refine Z8 [19] (fun W'=>W'.cell? ⟨w.heap.size,0,none⟩=some (.bool na)/\W'.cell? ⟨w.heap.size,1,none⟩=some (.slice A n c)/\W'.cell? ⟨w.heap.size,2,none⟩=some (.bool nb)/\W'.cell? ⟨w.heap.size,3,none⟩=some (.slice B m d)/\W'.cell? ⟨w.heap.size+1,0,none⟩=some (.bool na')/\W'.cell? ⟨w.heap.size+1,1,none⟩=some (.slice A' n' c')/\W'.cell? ⟨w.heap.size+1,2,none⟩=some (.bool nb')/\W'.cell? ⟨w.heap.size+1,3,none⟩=some (.slice B' m' d')) hmx ⟨a0,a1,a2,a3,b0,b1,b2,b3⟩ (fun _=>?_);refine Zu5 8 [0,1,3,4,10,11,12,13] rfl (by kernel_rfl) ⟨a0,a1,a2,a3,b0,b1,b2,b3⟩ ?_
 iterate 8 (refine tk1 (v:=?_) rfl (Or.inl ⟨by kernel_rfl,?_⟩) ?_;rotate_left;(· intro W2 hSw;(try dsimp only at hSw);go_simp;try with_reducible rfl);try simp only [Act.put,putL_a,putL_z,putL_s,putG_a,putG_s,putG_z])
 refine tk0 ?_;refine Ze (i:=2) rfl (by kernel_rfl) (fun K hK=>?_);go_simp;refine (Zeg na nb na' nb' A B A' B' n c m d n' c' m' d' a b W0.drew hA.out hD.out h1.out).mono ?_;rintro e w1 ⟨hb1,nu,U,k1,u,rfl,hU⟩;replace hb1:=Zq hb1;replace hU:=Za hU;replace q0:=Za (Zc hb1 q0.out);replace q1:=Za (Zc hb1 q1.out);replace q2:=Za (Zc hb1 q2.out);replace q3:=Za (Zc hb1 q3.out);replace hA:=Za (hA.out.below hb1);replace hD:=Za (hD.out.below hb1);replace hB:=Za (hB.out.trans (hb1.mono sz.out));replace sz:=Za (Nat.le_trans sz.out hb1.size);clear a0 a1 a2 a3 b0 b1 b2 b3;obtain ⟨a0,a1,a2,a3,-⟩:=q0.out.four;obtain ⟨b0,b1,b2,b3,-⟩:=q1.out.four;clear hb1;refine hK.out _ _ (fun _=>⟨a0,a1,a2,a3,b0,b1,b2,b3⟩) ?_;clear hK K
 try simp only [Act.put,putL_a,putL_z,putL_s]
 refine Ze (i:=5) rfl (by kernel_rfl) (fun K hK=>?_);go_simp;refine (Zeg na' nb' na nb A' B' A B n' c' m' d' n c m d b a w1 hD.out hA.out h2.out).mono ?_;rintro e w2 ⟨hb2,nv,V,k2,v,rfl,hV⟩;replace hU:=Za (hU.out.below hb2);replace hV:=Za hV;replace q0:=Za (Zc hb2 q0.out);replace q1:=Za (Zc hb2 q1.out);replace q2:=Za (Zc hb2 q2.out);replace q3:=Za (Zc hb2 q3.out);replace hA:=Za (hA.out.below hb2);replace hD:=Za (hD.out.below hb2);replace hB:=Za (hB.out.trans (hb2.mono sz.out));replace sz:=Za (Nat.le_trans sz.out hb2.size);clear a0 a1 a2 a3 b0 b1 b2 b3;obtain ⟨a0,a1,a2,a3,-⟩:=q0.out.four;obtain ⟨b0,b1,b2,b3,-⟩:=q1.out.four;clear hb2;refine hK.out _ _ (fun _=>⟨a0,a1,a2,a3,b0,b1,b2,b3⟩) ?_;clear hK K
 try simp only [Act.put,putL_a,putL_z,putL_s]
 refine Ze (i:=6) rfl (by kernel_rfl) (fun K hK=>?_);go_simp;refine (Zkf nu nv U V k1 u k2 v _ _ w2 hU.out hV.out).mono ?_;rintro e w3 ⟨hb3,np,P,k,q,code,rfl,hR⟩;have hP:=Za (hR.small hs.out);have hcode:=hR.code0 hs.out;subst hcode;clear hs hR hU hV;replace q0:=Za (Zc hb3 q0.out);replace q1:=Za (Zc hb3 q1.out);replace q2:=Za (Zc hb3 q2.out);replace q3:=Za (Zc hb3 q3.out);replace hA:=Za (hA.out.below hb3);replace hD:=Za (hD.out.below hb3);replace hB:=Za (hB.out.trans (hb3.mono sz.out));replace sz:=Za (Nat.le_trans sz.out hb3.size);clear a0 a1 a2 a3 b0 b1 b2 b3;obtain ⟨a0,a1,a2,a3,-⟩:=q0.out.four;obtain ⟨b0,b1,b2,b3,-⟩:=q1.out.four;clear hb3;refine hK.out _ _ (fun _=>⟨a0,a1,a2,a3,b0,b1,b2,b3⟩) ?_;clear hK K
 try simp only [Act.put,putL_a,putL_z,putL_s]
 refine Zu5 2 [7,8] rfl (by kernel_rfl) ⟨a0,a1,a2,a3,b0,b1,b2,b3⟩ ?_
 iterate 2 (refine tk1 (v:=?_) rfl (Or.inl ⟨by kernel_rfl,?_⟩) ?_;rotate_left;(· intro W2 hSw;(try dsimp only at hSw);go_simp;try with_reducible rfl);try simp only [Act.put,putL_a,putL_z,putL_s,putG_a,putG_s,putG_z])
 refine tk0 ?_;refine Ze (i:=9) rfl (by kernel_rfl) (fun K hK=>?_);go_simp;refine (Zdd np P k q w3).mono ?_;rintro e w4 ⟨rfl,hb4⟩;replace hP:=Za (hP.out.below hb4);replace q0:=Za (Zc hb4 q0.out);replace q1:=Za (Zc hb4 q1.out);replace q2:=Za (Zc hb4 q2.out);replace q3:=Za (Zc hb4 q3.out);replace hA:=Za (hA.out.below hb4);replace hD:=Za (hD.out.below hb4);replace hB:=Za (hB.out.trans (hb4.mono sz.out));replace sz:=Za (Nat.le_trans sz.out hb4.size);clear a0 a1 a2 a3 b0 b1 b2 b3;obtain ⟨a0,a1,a2,a3,-⟩:=q0.out.four;obtain ⟨b0,b1,b2,b3,-⟩:=q1.out.four;clear hb4;refine hK.out _ _ (fun _=>⟨a0,a1,a2,a3,b0,b1,b2,b3⟩) ?_;clear hK K
 try simp only [Act.put,putL_a,putL_z,putL_s]
 refine Ze (i:=14) rfl (by kernel_rfl) (fun K hK=>?_);go_simp;refine (Zie nb nb' B B' m d m' d' a.den b.den w4 hA.out.2 hD.out.2).mono ?_;rintro e w5 ⟨hb5,np',P',k',q',code,rfl,hR⟩;replace hP:=Za (hP.out.below hb5);have hP':=Za (hR.small ht.out);have hcode:=hR.code0 ht.out;subst hcode;clear ht hR;replace q0:=Za (Zc hb5 q0.out);replace q1:=Za (Zc hb5 q1.out);replace q2:=Za (Zc hb5 q2.out);replace q3:=Za (Zc hb5 q3.out);replace hA:=Za (hA.out.below hb5);replace hD:=Za (hD.out.below hb5);replace hB:=Za (hB.out.trans (hb5.mono sz.out));replace sz:=Za (Nat.le_trans sz.out hb5.size);clear a0 a1 a2 a3 b0 b1 b2 b3;obtain ⟨a0,a1,a2,a3,-⟩:=q0.out.four;obtain ⟨b0,b1,b2,b3,-⟩:=q1.out.four;clear hb5;refine hK.out _ _ (fun _=>⟨a0,a1,a2,a3,b0,b1,b2,b3⟩) ?_;clear hK K
 try simp only [Act.put,putL_a,putL_z,putL_s]
 refine Zu5 2 [15,16] rfl (by kernel_rfl) ⟨a0,a1,a2,a3,b0,b1,b2,b3⟩ ?_
 iterate 2 (refine tk1 (v:=?_) rfl (Or.inl ⟨by kernel_rfl,?_⟩) ?_;rotate_left;(· intro W2 hSw;(try dsimp only at hSw);go_simp;try with_reducible rfl);try simp only [Act.put,putL_a,putL_z,putL_s,putG_a,putG_s,putG_z])
 refine tk0 ?_;refine Ze (i:=17) rfl (by kernel_rfl) (fun K hK=>?_);go_simp;refine (Zdd np' P' k' q' w5).mono ?_;rintro e w6 ⟨rfl,hb6⟩;replace hP:=Za (hP.out.below hb6);replace hP':=Za (hP'.out.below hb6);replace q0:=Za (Zc hb6 q0.out);replace q1:=Za (Zc hb6 q1.out);replace q2:=Za (Zc hb6 q2.out);replace q3:=Za (Zc hb6 q3.out);replace hA:=Za (hA.out.below hb6);replace hD:=Za (hD.out.below hb6);replace hB:=Za (hB.out.trans (hb6.mono sz.out));replace sz:=Za (Nat.le_trans sz.out hb6.size);clear a0 a1 a2 a3 b0 b1 b2 b3;obtain ⟨a0,a1,a2,a3,-⟩:=q0.out.four;obtain ⟨b0,b1,b2,b3,-⟩:=q1.out.four;clear hb6;obtain ⟨x0,x1,f0,f1⟩:=q2.out.two;refine hK.out _ _ (fun _=>⟨a0,a1,a2,a3,b0,b1,b2,b3⟩) ?_;clear hK K
 try simp only [Act.put,putL_a,putL_z,putL_s]
 refine Ze (i:=18) rfl (by kernel_rfl) (fun K hK=>?_);go_simp;obtain ⟨W5,hW5,hB5,q2',kW,kB,s5⟩:=Zaa np P k q hB.out (by omega) q2.out;rw [hW5];clear hW5 x0 x1 f0 f1 a0 a1 a2 a3 b0 b1 b2 b3 hA hD;replace q0:=kB _ _ _ (by omega) q0.out;replace q1:=kB _ _ _ (by omega) q1.out;obtain ⟨a0,a1,a2,a3,-⟩:=q0.four;obtain ⟨b0,b1,b2,b3,-⟩:=q1.four;replace q3:=Za (kB _ _ _ (by omega) q3.out);replace hP:=Za (kW _ _ _ _ _ hP.out);replace hP':=Za (kW _ _ _ _ _ hP'.out);clear kW kB q2 hB q0 q1;obtain ⟨y0,y1,g0,g1⟩:=q3.out.two;refine hK.out _ _ (fun _=>⟨a0,a1,a2,a3,b0,b1,b2,b3⟩) ?_;clear hK K
 try simp only [Act.put,putL_a,putL_z,putL_s]
 refine Zp (i:=19) rfl (by kernel_rfl) (by kernel_rfl) (fun K hK=>?_);go_simp;obtain ⟨W6,hW6,hB6,q3',kW,kB,s6⟩:=Zaa np' P' k' q' hB5 (by omega) q3.out;rw [hW6];clear hW6 y0 y1 g0 g1 a0 a1 a2 a3 b0 b1 b2 b3;replace q2':=kB _ _ _ (by omega) q2';replace hP:=Za (kW _ _ _ _ _ hP.out);replace hP':=Za (kW _ _ _ _ _ hP'.out);clear kW kB q3 hB5;refine hK.out _ _ ?_;clear hK K
 try simp only [Act.put,putL_a,putL_z,putL_s]
 refine Zj (by kernel_rfl) ?_ _;refine OnlyNormal.normal ?_;obtain ⟨r0,r1,-⟩:=q2'.two;obtain ⟨r2,r3,-⟩:=q3'.two;go_wp2_with fail;refine bodyPost_ret (v:=.tuple #[.agg #[.bool np,.slice P k q],.agg #[.bool np',.slice P' k' q']]) (by simp [results,Tryz.results190,go_sem,r0,r1,r2,r3]) rfl ?_;exact ⟨hB6,_,_,_,_,_,_,_,_,rfl,hP.out,hP'.out⟩
theorem fAdd_ok (na nb na' nb':Bool) (A B A' B':Option Addr) (n c m d n' c' m' d':Nat) (a b:Rat) (w:World) (ha:Fr w na A n c nb B m d a) (hb:Fr w na' A' n' c' nb' B' m' d' b) (sa:Sm a) (sb:Sm b) :
    Calls Tryz.prog 123 #[.agg #[.bool na,.slice A n c,.bool nb,.slice B m d],.agg #[.bool na',.slice A' n' c',.bool nb',.slice B' m' d']] w (Zei w (a+b)):=by
 obtain ⟨W0,hW0,hB0,⟨q0,q1,q2⟩,s0⟩:=Zb5 w 29 #[.bool na,.slice A n c,.bool nb,.slice B m d] 29 #[.bool na',.slice A' n' c',.bool nb',.slice B' m' d'] 29 #[.bool false,.slice none 0 0,.bool false,.slice none 0 0];have hA:=Za (ha.below hB0);have hD:=Za (hb.below hB0)
 have hF:=fun (W:World) (h1:Fr W na A n c nb B m d a) (h2:Fr W na' A' n' c' nb' B' m' d' b)=>Add1_ok na nb na' nb' A B A' B' n c m d n' c' m' d' a b W h1 h2 (Zba sa.1 sb.dn) (Zba sb.1 sa.dn) (sm_addA sa.1 sb.dn sb.1 sa.dn) (Zba sa.dn sb.dn)
 have hG:=Za (Zmo 190 na nb na' nb' A B A' B' n c m d n' c' m' d' a b _ _ W0 hA.out hD.out (Zbz a b) Zpp hF);rw [Ztp] at hG;clear hF ha hb sa sb hA hD;obtain ⟨a0,a1,a2,a3,-⟩:=q0.four;obtain ⟨b0,b1,b2,b3,-⟩:=q1.four;replace q2:=Za q2;clear q0 q1;go_enter Tryz.func123,Tryz.ntmps123;go_wp2_with fail;refine hG.out.mono ?_;rintro e w1 ⟨hb1,nx,Ax,kx,cx,ny,Ay,ky,cy,rfl,hX⟩;have hB1:Below w.heap.size w w1:=hB0.trans (hb1.mono hB0.size);have s1:W0.heap.size <= w1.heap.size:=hb1.size;replace q2:=Za (Zc hb1 q2.out);replace hX:=Za hX;clear hb1 a0 a1 a2 a3 b0 b1 b2 b3 hB0 hG hW0;obtain ⟨c20,c21,c22,c23,f20,f21,f22,f23⟩:=q2.out.four;go_wp2_with fail;obtain ⟨W5,hW5,hB5,q2,kW,-,s5⟩:=Zv nx Ax kx cx ny Ay ky cy hB1 (by omega) q2.out;rw [hW5];obtain ⟨r0,r1,r2,r3,-⟩:=q2.four;refine bodyPost_ret (v:=.tuple #[.agg #[.bool nx,.slice Ax kx cx,.bool ny,.slice Ay ky cy],.int .i64 0]) (by simp [results,Tryz.results123,go_sem,r0,r1,r2,r3]) rfl ?_;exact ⟨hB5,_,_,_,_,_,_,_,_,rfl,kW _ _ _ _ _ hX.out.1,kW _ _ _ _ _ hX.out.2⟩
end Go.Proofs.YtaioanjcjijckaaGreat
