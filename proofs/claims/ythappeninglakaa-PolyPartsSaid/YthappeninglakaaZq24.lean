/- Reference of frac: added. Rows of fractions of the call's own. -/
import Derived.Maps.AppendAt
import Derived.Test.YthappeninglakaaZq23
set_option maxRecDepth 100000
set_option maxHeartbeats 2000000
set_option linter.unusedSimpArgs false
set_option linter.unusedVariables false
namespace Go.Proofs.Ythappeninglakaa
open Go.RowKit
attribute [local go_sem] Zj
theorem Fr.keep {w W : World} {na : Bool} {A : Option Addr} {n c : Nat} {nb : Bool} {B : Option Addr} {m d : Nat} {r : Rat} (h : Fr w na A n c nb B m d r) (k : ∀ na A n c z,Wd w na A n c z -> Wd W na A n c z) : Fr W na A n c nb B m d r:=⟨k _ _ _ _ _ h.1,k _ _ _ _ _ h.2⟩
theorem sm_add {x y z v : Int} (hx : x.natAbs < pw 1000) (hy : y.natAbs < pw 1000) (hz : z.natAbs < pw 1000) (hv : v.natAbs < pw 1000) : (x * y + z * v).natAbs < pw 4096:=by
 have h1:=Zkd hx hy;have h2:=Zkd hz hv;have h3:=Ztw;omega
theorem Zpn (na nb na' nb' : Bool) (A B A' B' : Option Addr) (n c m d n' c' m' d' : Nat) (a b : Rat) (w : World) (ha : Fr w na A n c nb B m d a) (hb : Fr w na' A' n' c' nb' B' m' d' b) (sa : Sm a) (sb : Sm b) :
    Calls Try.prog 81 #[.agg #[.bool na,.slice A n c,.bool nb,.slice B m d],.agg #[.bool na',.slice A' n' c',.bool nb',.slice B' m' d'],.bool true] w (Zn0 w (a - b)):=by
 rw [<- rat_sub];have h1:=Zb (Ze3 sa.1 sb.dn);have h2:=Zb (Ze3 sb.1 sa.dn);have h3:=Zb (Ze3 sa.dn sb.dn);have h4:=Zb (sm_add sa.1 sb.dn sb.1 sa.dn);have h5:=Zb (sm_sub sa.1 sb.dn sb.1 sa.dn);have h6:=Zb (Zis a b);obtain ⟨W0,hW0,hB0,⟨q0,q1,q2⟩,s0⟩:=Zkc w 78 #[.bool na,.slice A n c,.bool nb,.slice B m d] 78 #[.bool na',.slice A' n' c',.bool nb',.slice B' m' d'] 78 #[.bool false,.slice none 0 0,.bool false,.slice none 0 0];have hA:=Zb (ha.below hB0);have hD:=Zb (hb.below hB0);clear ha hb sa sb
 generalize hX : a.num * ((b.den : Nat) : Int) = X at *
 generalize hY : b.num * ((a.den : Nat) : Int) = Y at *
 generalize hZ : ((a.den : Nat) : Int) * ((b.den : Nat) : Int) = Z at *
 replace hX:=Zb hX;replace hY:=Zb hY;replace hZ:=Zb hZ;obtain ⟨a0,a1,a2,a3,-⟩:=q0.four;obtain ⟨b0,b1,b2,b3,-⟩:=q1.four;have hq:=Zb (And.intro q0 (And.intro q1 q2));clear q0 q1 q2;go_enter Try.func81,Try.ntmps81;go_wp2_with fail;have hM:=Zdf na nb' A B' n c m' d' a.num b.den W0 hA.out.1 hD.out.2;rw [hX.out] at hM;refine hM.mono ?_;clear hM;rintro e w1 ⟨hb1,n1,P1,k1,c1,code,rfl,hR⟩;have hP1:=Zb (hR.small h1.out);have hcode:=hR.code0 h1.out;subst hcode;have hC1 : Below w.heap.size w w1:=hB0.trans (hb1.mono hB0.size);have s1 : W0.heap.size <= w1.heap.size:=hb1.size;replace hA:=Zb (hA.out.below hb1);replace hD:=Zb (hD.out.below hb1);obtain ⟨q0,q1,q2⟩:=hq.out;replace q0:=Zd hb1 q0;replace q1:=Zd hb1 q1;replace q2:=Zd hb1 q2;clear hW0 hb1 a0 a1 a2 a3 b0 b1 b2 b3 hq hR h1 hB0 hX;obtain ⟨W1,hW1,hB1,r1,kW,kB,t1⟩:=Z8 26 #[.bool n1,.slice P1 k1 c1] hC1 hC1.size;replace q0:=kB _ _ _ q0;replace q1:=kB _ _ _ q1;replace q2:=kB _ _ _ q2;replace hA:=Zb (hA.out.keep kW);replace hD:=Zb (hD.out.keep kW);replace hP1:=Zb (kW _ _ _ _ _ hP1.out);clear kW kB hC1;obtain ⟨a0,a1,a2,a3,-⟩:=q0.four;obtain ⟨b0,b1,b2,b3,-⟩:=q1.four;have hq:=Zb (And.intro q0 (And.intro q1 (And.intro q2 r1)));clear q0 q1 q2 r1;go_wp2_with fail;have hM:=Zdf na' nb A' B n' c' m d b.num a.den W1 hD.out.1 hA.out.2;rw [hY.out] at hM;refine hM.mono ?_;clear hM;rintro e w2 ⟨hb2,n2,P2,k2,c2,code,rfl,hR⟩;have hP2:=Zb (hR.small h2.out);have hcode:=hR.code0 h2.out;subst hcode
 have hC2 : Below w.heap.size w w2:=hB1.trans (hb2.mono hB1.size);have s2 : W1.heap.size <= w2.heap.size:=hb2.size;replace hA:=Zb (hA.out.below hb2);replace hD:=Zb (hD.out.below hb2);obtain ⟨q0,q1,q2,r1⟩:=hq.out;replace q0:=Zd hb2 q0;replace q1:=Zd hb2 q1;replace q2:=Zd hb2 q2;replace r1:=Zd hb2 r1;replace hP1:=Zb (hP1.out.below hb2);clear hW1 hb2 a0 a1 a2 a3 b0 b1 b2 b3 hq hR h2 hB1 hY;obtain ⟨W2,hW2,hB2,r2,kW,kB,t2⟩:=Z8 26 #[.bool n2,.slice P2 k2 c2] hC2 hC2.size;replace q0:=kB _ _ _ q0;replace q1:=kB _ _ _ q1;replace q2:=kB _ _ _ q2;replace r1:=kB _ _ _ r1;replace hA:=Zb (hA.out.keep kW);replace hD:=Zb (hD.out.keep kW);replace hP1:=Zb (kW _ _ _ _ _ hP1.out);replace hP2:=Zb (kW _ _ _ _ _ hP2.out);clear kW kB hC2;obtain ⟨a0,a1,a2,a3,-⟩:=q0.four;obtain ⟨b0,b1,b2,b3,-⟩:=q1.four;have hq:=Zb (And.intro q0 (And.intro q1 (And.intro q2 (And.intro r1 r2))));clear q0 q1 q2 r1 r2;go_wp2_with fail;have hM:=Zdf nb nb' B B' m d m' d' a.den b.den W2 hA.out.2 hD.out.2;rw [hZ.out] at hM;refine hM.mono ?_;clear hM;rintro e w3 ⟨hb3,n3,P3,k3,c3,code,rfl,hR⟩;have hP3:=Zb (hR.small h3.out);have hcode:=hR.code0 h3.out;subst hcode;have hC3 : Below w.heap.size w w3:=hB2.trans (hb3.mono hB2.size);have s3 : W2.heap.size <= w3.heap.size:=hb3.size;replace hA:=Zb (hA.out.below hb3);replace hD:=Zb (hD.out.below hb3);obtain ⟨q0,q1,q2,r1,r2⟩:=hq.out;replace q0:=Zd hb3 q0;replace q1:=Zd hb3 q1;replace q2:=Zd hb3 q2;replace r1:=Zd hb3 r1;replace r2:=Zd hb3 r2;replace hP1:=Zb (hP1.out.below hb3)
 replace hP2:=Zb (hP2.out.below hb3);clear hW2 hb3 a0 a1 a2 a3 b0 b1 b2 b3 hq hR h3 hB2 hZ
 have hn : n3 = false:=by rw [hP3.out.1];have:=h6.out;simp;omega
 subst hn;obtain ⟨W3,hW3,hB3,r3,kW,kB,t3⟩:=Z8 26 #[.bool false,.slice P3 k3 c3] hC3 hC3.size;replace q0:=kB _ _ _ q0;replace q1:=kB _ _ _ q1;replace q2:=kB _ _ _ q2;replace r1:=kB _ _ _ r1;replace r2:=kB _ _ _ r2;replace hA:=Zb (hA.out.keep kW);replace hD:=Zb (hD.out.keep kW);replace hP1:=Zb (kW _ _ _ _ _ hP1.out);replace hP2:=Zb (kW _ _ _ _ _ hP2.out);replace hP3:=Zb (kW _ _ _ _ _ hP3.out);clear kW kB hC3;obtain ⟨a0,a1,a2,a3,-⟩:=q0.four;obtain ⟨b0,b1,b2,b3,-⟩:=q1.four;clear a0 a1 a2 a3 b0 b1 b2 b3 hA hD q0 q1;obtain ⟨x0,x1,-⟩:=r1.two;obtain ⟨y0,y1,-⟩:=r2.two;have hq:=Zb (And.intro q2 (And.intro r1 (And.intro r2 r3)));clear q2 r1 r2 r3;go_wp2_with fail;refine (rAdd_ok n1 n2 P1 P2 k1 c1 k2 c2 X Y W3 hP1.out hP2.out).mono ?_;rintro e w4 ⟨hb4,n4,P4,k4,c4,code,rfl,hR⟩;have hP4:=Zb (hR.small h4.out);have hcode:=hR.code0 h4.out;subst hcode;have hC4 : Below w.heap.size w w4:=hB3.trans (hb4.mono hB3.size);have s4 : W3.heap.size <= w4.heap.size:=hb4.size;obtain ⟨q2,r1,r2,r3⟩:=hq.out;replace q2:=Zd hb4 q2;replace r1:=Zd hb4 r1;replace r2:=Zd hb4 r2;replace r3:=Zd hb4 r3;replace hP1:=Zb (hP1.out.below hb4);replace hP2:=Zb (hP2.out.below hb4);replace hP3:=Zb (hP3.out.below hb4);clear hW3 hb4 x0 x1 y0 y1 hq hR h4 hB3;obtain ⟨W4,hW4,hB4,r4,kW,kB,t4⟩:=Z8 26 #[.bool n4,.slice P4 k4 c4] hC4 hC4.size;replace q2:=kB _ _ _ q2;replace r1:=kB _ _ _ r1;replace r2:=kB _ _ _ r2;replace r3:=kB _ _ _ r3;replace hP1:=Zb (kW _ _ _ _ _ hP1.out);replace hP2:=Zb (kW _ _ _ _ _ hP2.out)
 replace hP3:=Zb (kW _ _ _ _ _ hP3.out);replace hP4:=Zb (kW _ _ _ _ _ hP4.out);clear kW kB hC4;obtain ⟨x0,x1,-⟩:=r1.two;obtain ⟨y0,y1,-⟩:=r2.two;have hq:=Zb (And.intro q2 (And.intro r3 r4));clear q2 r1 r2 r3 r4 hP4;go_wp2_with fail;refine (Zp2 n1 n2 P1 P2 k1 c1 k2 c2 X Y W4 hP1.out hP2.out).mono ?_;rintro e w5 ⟨hb5,n5,P5,k5,c5,code,rfl,hR⟩;have hP5:=Zb (hR.small h5.out);have hcode:=hR.code0 h5.out;subst hcode;have hC5 : Below w.heap.size w w5:=hB4.trans (hb5.mono hB4.size);have s5 : W4.heap.size <= w5.heap.size:=hb5.size;obtain ⟨q2,r3,r4⟩:=hq.out;replace q2:=Zd hb5 q2;replace r3:=Zd hb5 r3;replace r4:=Zd hb5 r4;replace hP3:=Zb (hP3.out.below hb5);clear hW4 hb5 x0 x1 y0 y1 hq hR h5 hB4 hP1 hP2;obtain ⟨WS,hWS,hBS,r5,kW,kB,tS⟩:=Zu n5 P5 k5 c5 hC5 (by have:=hC5.size;omega) r4;obtain ⟨-,-,f0,f1⟩:=r4.two;obtain ⟨v0,v1,-⟩:=r4.two;have q2':=kB _ _ _ (by omega) q2;have r3':=kB _ _ _ (by omega) r3;have hP3':=Zb (kW _ _ _ _ _ hP3.out);have hP5':=Zb (kW _ _ _ _ _ hP5.out);clear kW kB q2 r3 r4 hP3 hP5 hC5;obtain ⟨x0,x1,-⟩:=r5.two;obtain ⟨y0,y1,-⟩:=r3'.two;have hq:=Zb q2';clear q2' r5 r3';go_wp2_with fail;refine (Zhn n5 P5 P3 k5 c5 k3 c3 _ _ WS hP5'.out hP3'.out h6.out).mono ?_;rintro e w6 ⟨hb6,nx,Ax,kx,cx,ny,Ay,ky,cy,rfl,hF⟩;have hB6 : Below w.heap.size w w6:=hBS.trans (hb6.mono hBS.size);have s6 : WS.heap.size <= w6.heap.size:=hb6.size;replace hq:=Zb (Zd hb6 hq.out);replace hF:=Zb hF;clear x0 x1 y0 y1 hb6;obtain ⟨c20,c21,c22,c23,f20,f21,f22,f23⟩:=hq.out.four;go_wp2_with fail
 obtain ⟨W7,hW7,hB7,q2,kW,-,s7⟩:=Zdp nx Ax kx cx ny Ay ky cy hB6 (by omega) hq.out;rw [hW7];obtain ⟨r0,r1,r2,r3,-⟩:=q2.four;refine bodyPost_ret (v:=.tuple #[.agg #[.bool nx,.slice Ax kx cx,.bool ny,.slice Ay ky cy],.int .i64 0]) (by simp [results,Try.results81,go_sem,r0,r1,r2,r3]) rfl ?_;exact ⟨hB7,_,_,_,_,_,_,_,_,rfl,kW _ _ _ _ _ hF.out.1,kW _ _ _ _ _ hF.out.2⟩
structure FE where
 na : Bool
 A : Option Addr
 n : Nat
 c : Nat
 nb : Bool
 B : Option Addr
 m : Nat
 d : Nat
 q : Rat
def FE.in_ (w : World) (e : FE) : Prop:=Fr w e.na e.A e.n e.c e.nb e.B e.m e.d e.q
def Zz : List FE -> List Value
 | []=>[]
 | e :: l=>.bool e.na :: .slice e.A e.n e.c :: .bool e.nb :: .slice e.B e.m e.d :: Zz l
def Zak (es : List FE) : Array Value:=(Zz es).toArray
theorem Zam (es : List FE) : (Zz es).length = es.length * 4:=by
 induction es with
 | nil=>rfl
 | cons e l ih=>simp only [Zz,List.length_cons,ih];omega
theorem Zhh {es : List FE} {i : Nat} {e : FE} (h : es[i]? = some e) : (Zz es)[i * 4]? = some (.bool e.na) /\ (Zz es)[i * 4 + 1]? = some (.slice e.A e.n e.c) /\ (Zz es)[i * 4 + 2]? = some (.bool e.nb) /\ (Zz es)[i * 4 + 3]? = some (.slice e.B e.m e.d):=by
 induction es generalizing i with
 | nil=>simp at h
 | cons x l ih =>
  cases i with
  | zero=>simp at h;subst h;simp [Zz]
  | succ i =>
   have:=ih (by simpa using h);rw [show (i + 1) * 4 = i * 4 + 4 by omega]
   simpa [Zz] using this
theorem Zk3 (es : List FE) : ∀ (i x : Nat),(Zz es)[i]? ≠ some (limb x):=by
 induction es with
 | nil=>intro i x;simp [Zz]
 | cons e l ih =>
  intro i x
  match i with
  | 0=>simp [Zz]
  | 1=>simp [Zz]
  | 2=>simp [Zz]
  | 3=>simp [Zz]
  | i + 4=>simpa [Zz] using ih i x
theorem Zek {es : List FE} {i : Nat} {e : FE} (h : es[i]? = some e) : (Zak es)[i * 4]? = some (.bool e.na) /\ (Zak es)[i * 4 + 1]? = some (.slice e.A e.n e.c) /\ (Zak es)[i * 4 + 2]? = some (.bool e.nb) /\ (Zak es)[i * 4 + 3]? = some (.slice e.B e.m e.d):=by
 simpa [Zak] using Zhh h
theorem Zci (es : List FE) : NoLimb (Zak es):=fun i x=>by simpa [Zak] using Zk3 es i x
def Zbh : FE:=⟨false,none,0,0,false,none,0,0,0⟩
theorem Zb4 (es fs : List FE) : Zz (es ++ fs) = Zz es ++ Zz fs:=by
 induction es with
 | nil=>rfl
 | cons e l ih=>simp only [List.cons_append,Zz,ih]
theorem Zow (fs : List FE) : ∀ u ∈ Zz fs,u.oneCell' = true:=by
 induction fs with
 | nil=>intro u h;simp [Zz] at h
 | cons e l ih =>
  intro u h;simp only [Zz,List.mem_cons] at h
  rcases h with rfl | rfl | rfl | rfl | h
  ·rfl
  ·rfl
  ·rfl
  ·rfl
  ·exact ih u h
theorem Zf6 (k : Nat) : (Builtin.zeroCells #[.bool false,.slice none 0 0,.bool false,.slice none 0 0] k).toList = Zz (List.replicate k Zbh):=by
 unfold Builtin.zeroCells
 apply List.ext_getElem?
 intro i
 by_cases h : i < k * 4
 ·have he : (List.replicate k Zbh)[i / 4]? = some Zbh:=by rw [List.getElem?_replicate,if_pos (by omega)]
  have hc:=Zhh he
  have h4 : i % 4 = 0 \/ i % 4 = 1 \/ i % 4 = 2 \/ i % 4 = 3:=by omega
  rcases h4 with h2 | h2 | h2 | h2
  ·rw [show i / 4 * 4 = i by omega] at hc;rw [hc.1];simp [h,h2,Zbh]
  ·rw [show i / 4 * 4 + 1 = i by omega] at hc;rw [hc.2.1];simp [h,h2,Zbh]
  ·rw [show i / 4 * 4 + 2 = i by omega] at hc;rw [hc.2.2.1];simp [h,h2,Zbh]
  ·rw [show i / 4 * 4 + 3 = i by omega] at hc;rw [hc.2.2.2];simp [h,h2,Zbh]
 ·rw [List.getElem?_eq_none (by simp;omega),List.getElem?_eq_none (by rw [Zam];simp;omega)]
def RowF (t : TypeId) (w : World) (base : Nat) (v : Value) (es : List FE) : Prop:=
 (v = .slice none 0 0 /\ es = []) \/ ∃ g sp,v = .slice (some ⟨g,0,none⟩) es.length (es.length + sp) /\ base <= g /\ es.length + sp <= maxLen /\ Blk w g t (Zak (es ++ List.replicate sp Zbh))
section
variable {t : TypeId} {w w' : World} {base : Nat} {v : Value} {es : List FE}
theorem RowF.own (h : RowF t w base v es) : w.ownsRow base t 4 v es.length (Zz es):=by
 refine ⟨Zam es,?_⟩
 rcases h with ⟨h1,rfl⟩ | ⟨g,sp,h1,h2,h3,h4⟩
 ·exact .inl ⟨h1,rfl⟩
 ·refine .inr ⟨g,_,_,h1,h2,h4,Nat.le_add_right _ _,h3,?_,?_⟩
  ·simp [Zak,Zam]
  ·simp only [Zak]
   rw [Zb4,<- Zam es];exact List.take_left
theorem RowF.row_ge (h : RowF t w base v es) : ∀ k,v.ownBlock = some k -> base <= k:=fun k hk=>(h.own.lt k hk).1
theorem RowF.kept (h : RowF t w base v es) (hb : Below w.heap.size w w') : RowF t w' base v es:=by
 rcases h with h | ⟨g,sp,h1,h2,h3,h4⟩
 ·exact .inl h
 ·exact .inr ⟨g,sp,h1,h2,h3,Zd hb h4⟩
theorem RowF.keep (h : RowF t w base v es) (hg : w.grownBy w' v.ownBlock) {A : Option Addr} {n c : Nat} {l : List Nat} (hL : Lim w A n c l) : Lim w' A n c l:=by
 refine ⟨hL.1,hL.2.1,hL.2.2.1,hL.2.2.2.1,fun hn=>?_⟩;obtain ⟨b,o,e,hc⟩:=hL.2.2.2.2 hn;refine ⟨b,o,e,fun k hk=>?_⟩;rw [<- hc k hk];refine World.cell?_of_block (hg.block b (Zn (hc k hk)) (fun e'=>?_))
 rcases h with ⟨rfl,_⟩ | ⟨g,sp,rfl,_,_,h4⟩
 ·cases e'
 ·have hbg : b = g:=by simpa [Value.ownBlock] using e'
  subst hbg;have h1:=hc k hk;rw [h4.cell] at h1;exact Zci _ _ _ h1
end
section
variable {P : Program} (w : World)
theorem Zi5 (base : Nat) (t ty e : TypeId) (i : TypeInfo) (ht : P.underlying t = some (.slice e)) (hi : P.info? e = some i) (hz : i.zero = some (.agg #[.bool false,.slice none 0 0,.bool false,.slice none 0 0]))
    (hs : i.size = 4) (hby : i.bytes = 64) (v : Value) (es : List FE) (hown : RowF e w base v es)
    (B : Nat) (A : Option Addr) (m c : Nat) (fs : List FE) (hr : Reads w B 4 A m (Zz fs)) (hm : fs.length = m) (h63 : es.length + m <= 1000) (hbase : base <= w.heap.size) :
    ∃ v' w',(Builtin.append_ #[t,t] ty #[v,.slice A m c]).run P w = .ok v' w' /\ RowF e w' base v' (es ++ fs) /\ w.grownBy w' v.ownBlock:=by
 rcases Nat.eq_zero_or_pos m with h0 | h0
 ·subst h0
  obtain rfl : fs = []:=List.eq_nil_of_length_eq_zero hm;rw [List.append_nil]
  rcases A with _ | ad
  ·exact ⟨v,w,Zc6 w base t ty e i 4 ht hi v _ _ hown.own c,hown,World.grownBy.refl w _⟩
  ·have hf:=run_firstCells_some (P:=P) w i.size 0 ad 0 c [] (by simp) (by simp)
   rcases hown with ⟨rfl,rfl⟩ | ⟨g,sp,rfl,h2,h3,h4⟩
   ·refine ⟨.slice none 0 0,w,?_,.inl ⟨rfl,rfl⟩,World.grownBy.refl w _⟩
    simp [Builtin.append_,run_underlying ht,sizeOf,typeInfo,hi,Builtin.lenOf,Builtin.firstCells,loadCells,loadCellsFrom]
   ·refine ⟨_,w,?_,.inr ⟨g,sp,rfl,h2,h3,h4⟩,World.grownBy.refl w _⟩
    simp [Builtin.append_,run_underlying ht,sizeOf,typeInfo,hi,Builtin.lenOf,Builtin.firstCells,loadCells,loadCellsFrom,storeCells]
 ·obtain ⟨ad,rfl,_,hc⟩:=hr.2 h0
  have hl : (Zz fs).length = m * i.size:=by rw [Zam,hm,hs]
  have hle : es.length * i.size = (Zz es).length:=by rw [Zam,hs]
  rcases hown with ⟨rfl,rfl⟩ | ⟨g,sp,rfl,h2,h3,h4⟩
  ·have hrun:=run_append_nil (P:=P) w t ty e i _ ht hi hz ad m c (Zz fs) hl hc h0 (by omega) (by rw [hby];omega)
   have hge:=grownCap_ge w m 0 e;have hcm:=grownCap_le_maxLen w m 0 e (by unfold maxLen;simp only [List.length_nil] at h63;omega);refine ⟨_,_,hrun,.inr ⟨w.heap.size,grownCap w m 0 e - m,?_,hbase,?_,?_⟩,⟨rfl,rfl,rfl,by simp,fun k hk _=>Below.heap_alloc w.drew _ k hk⟩⟩
   ·rw [List.nil_append,hm,Nat.add_sub_cancel' hge]
   ·rw [List.nil_append,hm,Nat.add_sub_cancel' hge];exact hcm
   ·have:=heap_alloc_new w.drew (.cells ((Zz fs).toArray ++ Builtin.zeroCells (Value.agg #[.bool false,.slice none 0 0,.bool false,.slice none 0 0]).cells (grownCap w m 0 e - m)) e)
    unfold Blk;refine this.trans ?_
    congr 1
    have hx : (Zz fs).toArray ++ Builtin.zeroCells (Value.agg #[.bool false,.slice none 0 0,.bool false,.slice none 0 0]).cells (grownCap w m 0 e - m) = Zak ([] ++ fs ++ List.replicate (grownCap w m 0 e - m) Zbh):=by
     apply Array.toList_inj.1
     rw [Array.toList_append,show (Value.agg #[.bool false,.slice none 0 0,.bool false,.slice none 0 0]).cells = #[.bool false,.slice none 0 0,.bool false,.slice none 0 0] from rfl,Zf6]
     simp [Zak,Zb4]
    rw [hx]
  ·by_cases hroom : m <= sp
   ·have hrun:=run_append_room (P:=P) w t ty e i ht hi g es.length (es.length + sp) _ h4 ad m c (Zz fs) hl hc (Zow fs) (by omega) (by rw [hle,Zam,Zam];simp [Zak,Zam];omega)
    refine ⟨_,_,hrun,.inr ⟨g,sp - m,?_,h2,?_,?_⟩,⟨rfl,rfl,rfl,by simp [World.setRow],fun k _ hk=>setRow_other w g k _ (fun e'=>hk (by simp [Value.ownBlock,e']))⟩⟩
    ·rw [List.length_append,hm,show es.length + m + (sp - m) = es.length + sp by omega]
    ·rw [List.length_append,hm];omega
    ·refine (setRow_heap w g _ _ e _ h4).trans ?_
     congr 2
     unfold Zak
     congr 1
     rw [hle]
     have hrep : List.replicate sp Zbh = List.replicate m Zbh ++ List.replicate (sp - m) Zbh:=by rw [List.replicate_append_replicate];congr 1;omega
     have hlm : (Zz fs).length = (Zz (List.replicate m Zbh)).length:=by rw [Zam,Zam,hm,List.length_replicate]
     simp only [Zb4];rw [List.take_left,hlm,<- List.length_append,hrep,Zb4,<- List.append_assoc (Zz es),List.drop_left,List.append_assoc]
   ·have holds : ∀ j u,(Zz es)[j]? = some u -> w.cell? ((⟨g,0,none⟩ : Addr).add j) = some u:=fun j u hu=>by
      rw [Zj,Nat.zero_add,h4.cell];simp only [Zak,List.getElem?_toArray,Zb4];rw [List.getElem?_append_left (by rw [List.getElem?_eq_some_iff] at hu;exact hu.1)];exact hu
    have hrun:=run_append_grow (P:=P) w t ty e i _ ht hi hz ⟨g,0,none⟩ es.length (es.length + sp) (Zz es) hle.symm holds ad m c (Zz fs) hl hc (by omega) (by omega) (growslice_fits (by omega) (by rw [hby];omega));have hge:=grownCap_ge w (es.length + m) (es.length + sp) e;have hcm:=grownCap_le_maxLen w (es.length + m) (es.length + sp) e (by unfold maxLen;omega);refine ⟨_,_,hrun,.inr ⟨w.heap.size,grownCap w (es.length + m) (es.length + sp) e - (es.length + m),?_,hbase,?_,?_⟩,⟨rfl,rfl,rfl,by simp,fun k hk _=>Below.heap_alloc w.drew _ k hk⟩⟩
    ·rw [List.length_append,hm,Nat.add_sub_cancel' hge]
    ·rw [List.length_append,hm,Nat.add_sub_cancel' hge];exact hcm
    ·have:=heap_alloc_new w.drew (.cells ((Zz es).toArray ++ (Zz fs).toArray ++ Builtin.zeroCells (Value.agg #[.bool false,.slice none 0 0,.bool false,.slice none 0 0]).cells (grownCap w (es.length + m) (es.length + sp) e - (es.length + m))) e)
     unfold Blk;refine this.trans ?_
     congr 1
     have hx : (Zz es).toArray ++ (Zz fs).toArray ++ Builtin.zeroCells (Value.agg #[.bool false,.slice none 0 0,.bool false,.slice none 0 0]).cells (grownCap w (es.length + m) (es.length + sp) e - (es.length + m)) = Zak (es ++ fs ++ List.replicate (grownCap w (es.length + m) (es.length + sp) e - (es.length + m)) Zbh):=by
      apply Array.toList_inj.1
      rw [Array.toList_append,Array.toList_append,show (Value.agg #[.bool false,.slice none 0 0,.bool false,.slice none 0 0]).cells = #[.bool false,.slice none 0 0,.bool false,.slice none 0 0] from rfl,Zf6]
      simp [Zak,Zb4]
     rw [hx]
end
def OwnF (t : TypeId) (w : World) (base : Nat) (v : Value) (qs : List Rat) : Prop:=∃ es,RowF t w base v es /\ (∀ e ∈ es,e.in_ w) /\ es.map FE.q = qs
theorem Fr.of_keep {w w' : World} {na : Bool} {A : Option Addr} {n c : Nat} {nb : Bool} {B : Option Addr} {m d : Nat} {r : Rat} (h : Fr w na A n c nb B m d r) (hk : ∀ (A : Option Addr) (n c : Nat) (l : List Nat),Lim w A n c l -> Lim w' A n c l) : Fr w' na A n c nb B m d r:=⟨⟨h.1.1,h.1.2.1,hk _ _ _ _ h.1.2.2⟩,⟨h.2.1,h.2.2.1,hk _ _ _ _ h.2.2.2⟩⟩
section
variable {t : TypeId} {w w' : World} {base : Nat} {v : Value} {qs : List Rat}
theorem OwnF.nil (t : TypeId) (w : World) (base : Nat) : OwnF t w base (.slice none 0 0) []:=⟨[],.inl ⟨rfl,rfl⟩,fun e h=>by simp at h,rfl⟩
theorem OwnF.kept (h : OwnF t w base v qs) (hb : Below w.heap.size w w') : OwnF t w' base v qs:=by
 obtain ⟨es,h1,h2,h3⟩:=h;exact ⟨es,h1.kept hb,fun e he=>(h2 e he).below hb,h3⟩
theorem OwnF.row_ge (h : OwnF t w base v qs) : ∀ k,v.ownBlock = some k -> base <= k:=by obtain ⟨es,h1,_⟩:=h;exact h1.row_ge
def FL (w : World) (A : Option Addr) (n c : Nat) (qs : List Rat) : Prop:=
 ∃ es : List FE,es.length = n /\ n <= c /\ c <= maxLen /\ (∀ e ∈ es,e.in_ w) /\ es.map FE.q = qs /\ (0 < n -> ∃ g o,A = some ⟨g,o,none⟩ /\ ∀ (k : Nat) (e : FE),es[k]? = some e -> w.cell? ⟨g,o + k * 4,none⟩ = some (.bool e.na) /\ w.cell? ⟨g,o + (k * 4 + 1),none⟩ = some (.slice e.A e.n e.c) /\ w.cell? ⟨g,o + (k * 4 + 2),none⟩ = some (.bool e.nb) /\ w.cell? ⟨g,o + (k * 4 + 3),none⟩ = some (.slice e.B e.m e.d))
theorem FL.below {A : Option Addr} {n c : Nat} (h : FL w A n c qs) (hb : Below w.heap.size w w') : FL w' A n c qs:=by
 obtain ⟨es,h1,h2,h3,h4,h5,h6⟩:=h;refine ⟨es,h1,h2,h3,fun e he=>(h4 e he).below hb,h5,fun hn=>?_⟩;obtain ⟨g,o,e1,hc⟩:=h6 hn;refine ⟨g,o,e1,fun k e he=>?_⟩;obtain ⟨a,b,c',d⟩:=hc k e he;exact ⟨(hb.cell (Zn a)).trans a,(hb.cell (Zn b)).trans b,(hb.cell (Zn c')).trans c',(hb.cell (Zn d)).trans d⟩
end
theorem Zpk {w : World} {g : Nat} {t : TypeId} {na : Bool} {A : Option Addr} {n c : Nat} {nb : Bool} {B : Option Addr} {m d : Nat} (q : Rat) (h : Blk w g t #[.bool na,.slice A n c,.bool nb,.slice B m d]) : Reads w (g + 1) 4 (some ⟨g,0,none⟩) 1 (Zz [⟨na,A,n,c,nb,B,m,d,q⟩]):=
 ⟨rfl,fun _=>⟨_,rfl,Nat.lt_succ_self _,fun j u hu=>by
  rw [Zj,Nat.zero_add,h.cell]
  simpa [Zz] using hu⟩⟩
section
variable {P : Program} (w : World)
theorem Zjr {o : Oper} {a : Act} {K : Act -> World -> Prop} {Q : Exit -> Act -> World -> Prop} (s x : Operand) (t : TypeId)
    (ho : o.op = .call { callee:=.builtin .append,args:=#[s,x],argTypes:=#[t,t] })
    (base : Nat) (e : TypeId) (i : TypeInfo) (ht : P.underlying t = some (.slice e)) (hi : P.info? e = some i) (hz : i.zero = some (.agg #[.bool false,.slice none 0 0,.bool false,.slice none 0 0])) (hsi : i.size = 4) (hby : i.bytes = 64)
    (v : Value) (qs : List Rat) (hs : a.eval s = v) (hown : OwnF e w base v qs)
    (B : Nat) (A : Option Addr) (m c : Nat) (fs : List FE) (hx : a.eval x = .slice A m c) (hr : Reads w B 4 A m (Zz fs)) (hm : fs.length = m) (hfs : ∀ e ∈ fs,e.in_ w)
    (h63 : qs.length + m <= 1000) (hbase : base <= w.heap.size)
    (h : ∀ v' w',OwnF e w' base v' (qs ++ fs.map FE.q) -> w.grownBy w' v.ownBlock -> (∀ (A : Option Addr) (n c : Nat) (l : List Nat),Lim w A n c l -> Lim w' A n c l) -> K (a.put o.dst v') w') : o.wp P a w K Q:=by
 obtain ⟨es,h1,h2,rfl⟩:=hown;rw [List.length_map] at h63;obtain ⟨v',w',hrun,h3,h4⟩:=Zi5 (P:=P) w base t o.type e i ht hi hz hsi hby v es h1 B A m c fs hr hm h63 hbase;unfold Oper.wp execOp;simp only [ho,resolve,invoke,builtin,Sem.run_bind,Sem.run_pure,Result.andThen_ok,List.map_toArray,List.map_cons,List.map_nil,hs,hx,hrun]
 have hk : ∀ (A : Option Addr) (n c : Nat) (l : List Nat),Lim w A n c l -> Lim w' A n c l:=fun _ _ _ _ hL=>h1.keep h4 hL
 refine h v' w' ⟨es ++ fs,h3,fun e he=>?_,by rw [List.map_append]⟩ h4 hk
 rcases List.mem_append.1 he with he | he
 ·exact (h2 e he).of_keep hk
 ·exact (hfs e he).of_keep hk
end
end Go.Proofs.Ythappeninglakaa
