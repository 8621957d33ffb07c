/- For the laws of linear without the reference: square, -/
import Derived.Test.YtigdclhagmnopaaGreatZd48
set_option maxRecDepth 100000
set_option maxHeartbeats 16000000
set_option linter.unusedSimpArgs false
set_option linter.unusedVariables false
namespace Go.Proofs.YtigdclhagmnopaaGreat
open Go.RowKit
attribute [local go_sem] Zg
theorem Zrx {u v : Nat} {f : Nat -> Rat} (h : ∀ j,SmN u v (f j)) : ∀ t,SmN (u + 1 + t * (v + 1)) (1 + t * v) (sumQ t f)
 | 0=>⟨Zbn _,by simp only [sumQ];rw [Nat.zero_mul];exact Zdn⟩
 | t + 1=>by
  have h1:=SmN.add (Zrx h t) (h t);simp only [sumQ];refine h1.mono ?_ ?_
  ·have e1 : (t + 1) * (v + 1) = t * (v + 1) + (v + 1):=Nat.succ_mul _ _
   have e2 : t * (v + 1) = t * v + t:=Nat.mul_succ _ _;omega
  ·have : (t + 1) * v = t * v + v:=Nat.succ_mul _ _
   omega
theorem Zuq {P Q : List (List Rat)} {p u v : Nat} (hP : ∀ i j,SmN u u (Zn P i j)) (hQ : ∀ i j,SmN v v (Zn Q i j)) (hp : p <= 5) (huv : u + v <= 100) : ProdP P Q p:=by
 have hPQ : ∀ i j k,SmN (u + v) (u + v) (Zn P i j * Zn Q j k):=fun i j k=>(hP i j).mulN (hQ j k)
 refine ⟨fun i j=>(hP i j).sm (by omega) (by omega),fun i j=>(hQ i j).sm (by omega) (by omega),fun i j k=>(hPQ i j k).sm (by omega) (by omega),fun i k t ht=>?_⟩;have h1 : t * (u + v + 1) <= 5 * 101:=Nat.mul_le_mul (by omega) (by omega);have h2 : t * (u + v) <= 5 * 100:=Nat.mul_le_mul (by omega) (by omega);exact (Zrx (fun j=>hPQ i j k) t).sm (by omega) (by omega)
theorem SmE.smN {k : Nat} {Q : List (List Rat)} (h : SmE k Q) (i j : Nat) : SmN (k + 1) (k + 1) (Zn Q i j):=⟨Nat.lt_of_le_of_lt (h i j).1 (Zbs (by omega)),Nat.lt_of_le_of_lt (h i j).2 (Zbs (by omega))⟩
theorem Zhl (A : Option Addr) (n c : Nat) (rs : List RX) (w : World) (h : MXL w A n c rs) :
    Calls Tryz.prog 33 #[.slice A n c] w fun e w'=>∃ b,e = .returned (.bool b) /\ Below w.heap.size w w' /\ (b = true -> calmT rs /\ sqE rs = 0 /\ n <= 4):=by
 have hcm:=h.2.2.1;have hnc:=h.2.1;unfold maxLen at hcm;replace h:=Za h;go_enter Tryz.func33,Tryz.ntmps33;go_wp2_with fail;refine (Zow A n c rs w h.out).mono ?_;rintro e w1 ⟨b1,rfl,hb1,hc1⟩
 cases b1 with
 | true =>
  clear hc1;go_wp2_with fail;go_ret;exact ⟨false,rfl,hb1,fun h=>(by cases h)⟩
 | false =>
  replace hc1:=Za (hc1 rfl);obtain ⟨E,hE⟩ : ∃ E,Zd0 rs = E:=⟨_,rfl⟩;replace hE:=Za hE;have hM1:=Za (h.out.below hb1);go_wp2_with fail;refine (Zjn A n c rs w1 hM1.out E hE.out).mono ?_;rintro e w2 ⟨rfl,hb2⟩;have hB2:=hb1.trans (hb2.mono hb1.size)
  by_cases hE0 : E = 0
  ·subst hE0
   obtain ⟨f1,f2,f3,f4,f5⟩:=Zb4 hE.out;have hl:=h.out.1
   have hn0 : 0 < n:=by
    rcases Nat.eq_zero_or_pos n with h0 | h0
    ·exfalso
     have : rs = []:=List.eq_nil_of_length_eq_zero (by omega);subst this
     simp [n0R] at f3
    ·exact h0
   obtain ⟨g,o,r0,rfl,hr0,k0,-⟩:=(h.out.below hB2).at_ hn0
   have hr0n : r0.n = n0R rs:=by unfold n0R;rw [hr0];rfl
   obtain ⟨q,hq⟩ : ∃ q,n0R rs = q:=⟨_,rfl⟩;rw [hq] at hr0n;rw [hr0n,Nat.add_zero] at k0
   have b0 : (0 : Int) < (n : Int):=by omega
   have hfin : n = q -> sqE rs = 0:=fun e=>by
    unfold sqE;rw [if_pos hE.out,if_pos (by rw [hq,hl];exact e)]
   replace hfin:=Za hfin;clear f1 f2 f3 f4 f5 hr0 hq
   by_cases hnq : n = q
   ·subst hnq
    have t1 : ((n : Int) == (n : Int)) = true:=by simp
    by_cases hn4 : n <= 4
    ·have t2 : decide ((n : Int) <= 4) = true:=decide_eq_true (by omega)
     replace hn4:=Za hn4;go_wp2_with fail;go_ret;exact ⟨true,rfl,hB2,fun _=>⟨hc1.out,hfin.out trivial,hn4.out⟩⟩
    ·have t2 : decide ((n : Int) <= 4) = false:=decide_eq_false (by omega)
     replace hn4:=Za hn4;go_wp2_with fail;go_ret;exact ⟨false,rfl,hB2,fun h=>(by cases h)⟩
   ·have t1 : ((n : Int) == (q : Int)) = false:=by simp;omega
    have t1' : decide ((n : Int) = (q : Int)) = false:=decide_eq_false (by omega);replace hnq:=Za hnq;go_wp2_with fail;go_ret;exact ⟨false,rfl,hB2,fun h=>(by cases h)⟩
  ·have t1 : (E == 0) = false:=by simpa using hE0
   have t1' : decide (E = 0) = false:=decide_eq_false hE0;replace hE0:=Za hE0;go_wp2_with fail;go_ret;exact ⟨false,rfl,hB2,fun h=>(by cases h)⟩
theorem b40_out {least x : Int} (h : Znw least x = false) (h0 : -1099511627776 <= least) : B40 x:=by
 unfold Znw at h;simp only [Bool.or_eq_false_iff,decide_eq_false_iff_not] at h;unfold B40;omega
theorem Zkx {least : Int} {l : List Int} (h : Zhf least l = false) (h0 : -1099511627776 <= least) (i : Nat) : B40 (l[i]?.getD 0):=by
 unfold Zhf at h;rw [List.any_eq_false] at h
 by_cases hi : i < l.length
 ·rw [List.getElem?_eq_getElem hi]
  exact b40_out (by simpa using h _ (List.getElem_mem hi)) h0
 ·rw [List.getElem?_eq_none (by omega)]
  show (0 : Int).natAbs <= _
  decide
theorem Zr4 {rs : List RI} {rr ws : List Int} (h : Zeh rs rr ws = 0) : (∀ r k,B40 (Zat rs k r)) /\ (∀ r,B40 (Zar rr r)) /\ ∀ r,B40 (Zar ws r):=by
 obtain ⟨f1,f2,f3,f4,f5,f6,f7,f8⟩:=Zfh h;refine ⟨fun r k=>?_,fun r=>Zkx f7 (by decide) r,fun r=>Zkx f6 (by decide) r⟩;unfold Zat
 by_cases hr : r < rs.length
 ·rw [List.getElem?_eq_getElem hr]
  exact Zkx (f8 _ (List.getElem_mem hr)).2 (by decide) k
 ·rw [List.getElem?_eq_none (l:=rs) (i:=r) (by omega)]
  show (0 : Int).natAbs <= _
  decide
def Znc (rs : List RI) (ws : List Int) (n : Nat) : Nat -> Nat -> Rat:=fun i j=>((Zbi ws (Zat rs i) (Zat rs j) n : Int) : Rat)
section
variable {rs : List RI} {rr ws : List Int} {n m : Nat}
theorem Zfx {i j : Nat} (hi : i < m) : Zn (Zbq rs rr ws n m) i j = if j < m then Znc rs ws n i j else if j = m then ((Zbi ws (Zat rs i) (Zar rr) n : Int) : Rat) else 0:=by
 unfold Zn Zbq;rw [List.getElem?_map,List.getElem?_range hi,Option.map_some,Option.getD_some]
 by_cases hj : j < m
 ·rw [if_pos hj,Zpi hj];rfl
 ·rw [if_neg hj]
  by_cases hjm : j = m
  ·subst hjm;rw [if_pos rfl,Zmi];rfl
  ·rw [if_neg hjm,List.getElem?_eq_none (by rw [Zff];omega)];rfl
theorem Zmw : (Zbq rs rr ws n m).length = m:=by unfold Zbq;simp
theorem Ztl {i : Nat} (hi : i < m) : ((Zbq rs rr ws n m)[i]?.getD []).length = m + 1:=by
 unfold Zbq;rw [List.getElem?_map,List.getElem?_range hi,Option.map_some,Option.getD_some,Zff]
theorem Ztm (hn : n <= 200) (hE : Zeh rs rr ws = 0) (i j : Nat) : BndQ (pw 4) (Zn (Zbq rs rr ws n m) i j):=by
 obtain ⟨b1,b2,b3⟩:=Zr4 hE
 by_cases hi : i < m
 ·rw [Zfx hi]
  by_cases hj : j < m
  ·rw [if_pos hj];exact ⟨_,rfl,Zgc hn fun r _=>⟨b3 r,b1 r i,b1 r j⟩⟩
  ·rw [if_neg hj]
   by_cases hjm : j = m
   ·rw [if_pos hjm];exact ⟨_,rfl,Zgc hn fun r _=>⟨b3 r,b1 r i,b2 r⟩⟩
   ·rw [if_neg hjm];exact BndQ.zero
 ·unfold Zn
  rw [List.getElem?_eq_none (l:=Zbq rs rr ws n m) (by rw [Zmw];omega)];exact BndQ.zero
theorem BndQ.den {B : Nat} {q : Rat} (h : BndQ B q) : q.den = 1:=by
 obtain ⟨z,rfl,-⟩:=h;exact Rat.den_intCast z
theorem BndQ.num {B : Nat} {q : Rat} (h : BndQ B q) : q.num.natAbs <= B:=by
 obtain ⟨z,rfl,hz⟩:=h;rw [Rat.num_intCast];exact hz
end
theorem Zm8 {B : Nat} {R : List (List Rat)} (h : ∀ i j,BndQ B (Zn R i j)) (i k : Nat) : denTo (R[i]?.getD []) k = 1:=by
 have h1:=Zoq (R[i]?.getD []) (D:=1) (fun j=>by
  have:=(h i j).den;unfold Zn at this
  rw [this];exact Nat.le_refl _) k
 have h2:=Zdm (R[i]?.getD []) k;rw [Nat.one_pow] at h1;omega
theorem Zts {B : Nat} {R : List (List Rat)} (h : ∀ i j,BndQ B (Zn R i j)) (i j : Nat) : (Zac (Zr R) i j).natAbs <= B:=by
 have h1:=Zf3 R i j;obtain ⟨z,hz,hb⟩:=h i j;have hd : denAt R i = 1:=Zm8 h i _;rw [hd,hz] at h1
 have h2 : ((Zac (Zr R) i j : Int) : Rat) = (z : Rat):=by
  rw [h1];have : ((1 : Nat) : Rat) = 1:=rfl;rw [this];grind
 rw [Rat.intCast_inj.1 h2];exact hb
theorem Znp {b n m : Nat} {R : List (List Rat)} (h : ∀ i j,BndQ (pw b) (Zn R i j)) (hl : R.length = n) (hn : n <= 900) (hrow : ∀ i,i < n -> (R[i]?.getD []).length = m) (hnm : n <= m) (h1 : (b + 1) * n < 189) (hb : b < 900) :
    okZ (pw 200) m n 0 0 (Zr R) 1 /\ okR (pw 200) (pw 200) m n 0 0 R /\ Zf7 R n m /\ (Zaa n 0 0 (Zr R) false 1).2.1 = (Zaf n 0 0 R false).2.1 /\ (Zaf n 0 0 R false).2.1 <= n /\
    ((Zaf n 0 0 R false).2.1 < n -> Zab n (Zn R) = 0) /\
    ((Zaf n 0 0 R false).2.1 = n -> Zab n (Zn R) ≠ 0 /\ ∃ X : Nat -> Nat -> Rat,Zey (Zn (Zaf n 0 0 R false).1) X n m /\ Zey (fun i j=>(Zac (Zaa n 0 0 (Zr R) false 1).1 i j : Rat)) X n m /\ SolQ (Zn R) X n m):=by
 have hbd:=Zfo (b:=b) n hn;obtain ⟨B,hB⟩ : ∃ B,Za0 (pw b) n = B:=⟨_,rfl⟩;rw [hB] at hbd;obtain ⟨d,hd⟩ : ∃ d,(b + 1) * n = d:=⟨_,rfl⟩;rw [hd] at hbd h1;have bb : B * B <= pw (d + d):=Zd3 hbd hbd
 have g1 : (n + 1) * (B * B) < pw 400:=by
  have h6 : (n + 1) * (B * B) <= pw (1 + (d + d)):=Zd3 (k_pw (by omega)) bb;exact Nat.lt_of_le_of_lt h6 (Zbs (by omega))
 have g2 : B * B * 1 < pw 400:=by rw [Nat.mul_one];exact Nat.lt_of_le_of_lt bb (Zbs (by omega))
 have g3 : B * 1 < pw 300:=by rw [Nat.mul_one];exact Nat.lt_of_le_of_lt hbd (Zbs (by omega))
 have hs:=Zlc (B:=pw b) (S:=1) (Zbn _) (Nat.le_refl _) R hl hrow (fun i hi=>Nat.le_of_eq (Zm8 h i _)) (fun i j _=>Zts h i j) hnm (by rw [hB];exact g1) (by rw [hB];exact g2) (by rw [hB];exact g3);rw [hB,Nat.mul_one] at hs;obtain ⟨o1,o2,o3,o4,o5,o6⟩:=hs;have p1 : B + 1 <= pw 200:=Nat.le_trans (Nat.add_le_add hbd (Zbn d)) (Nat.le_trans (Zje d) (Zbt (by omega)));have p2 : B < pw 200:=p1;refine ⟨Zfd p2 _ _ _ _ _ o1,Zgv p2 p2 _ _ _ _ o2,⟨fun i t hi ht=>?_,fun i j=>?_⟩,o3,o4,o5,fun hr=>?_⟩
 ·rw [Zm8 h];exact Nat.lt_of_lt_of_le Zdn (Zbt (by decide))
 ·exact Nat.lt_of_le_of_lt (h i j).num (Zbs (by omega))
 ·obtain ⟨q1,X,q2,q3,q4,-⟩:=o6 hr
  exact ⟨q1,X,q2,q3,q4⟩
section
variable {rs : List RI} {rr ws : List Int} {n m : Nat}
theorem Zuj (hn : n <= 200) (hm : m <= 12) (hE : Zeh rs rr ws = 0) : ∃ (full : Bool) (X : Nat -> Nat -> Rat),
    okZ (pw 200) (m + 1) m 0 0 (Zr (Zbq rs rr ws n m)) 1 /\ okR (pw 200) (pw 200) (m + 1) m 0 0 (Zbq rs rr ws n m) /\ Zf7 (Zbq rs rr ws n m) m (m + 1) /\
    (Zaa m 0 0 (Zr (Zbq rs rr ws n m)) false 1).2.1 = (Zaf m 0 0 (Zbq rs rr ws n m) false).2.1 /\ (Zaf m 0 0 (Zbq rs rr ws n m) false).2.1 <= m /\
    full = decide ((Zaf m 0 0 (Zbq rs rr ws n m) false).2.1 = m) /\
    (full = true ↔ Zab m (Znc rs ws n) ≠ 0) /\
    (full = true -> Zey (Zn (Zaf m 0 0 (Zbq rs rr ws n m) false).1) X m (m + 1) /\ Zey (fun i j=>(Zac (Zaa m 0 0 (Zr (Zbq rs rr ws n m)) false 1).1 i j : Rat)) X m (m + 1) /\
     Zmn rs rr ws (fun j=>X j m) n m /\ Znn rs rr ws (fun j=>X j m) n m /\ ∃ D,0 < D /\ D <= pw (5 * m) /\ ∀ k,k < m -> CD D (pw (5 * m)) (X k m)):=by
 obtain ⟨b1,b2,b3⟩:=Zr4 hE;obtain ⟨o1,o2,o3,o4,o5,o6,o7⟩:=Znp (b:=4) (n:=m) (m:=m + 1) (R:=Zbq rs rr ws n m) (fun i j=>Ztm hn hE i j) Zmw (by omega) (fun i hi=>Ztl hi) (by omega) (by omega) (by omega)
 have hdet : Zab m (Zn (Zbq rs rr ws n m)) = Zab m (Znc rs ws n):=Zav fun i j hi hj=>by rw [Zfx hi,if_pos hj]
 by_cases hr : (Zaf m 0 0 (Zbq rs rr ws n m) false).2.1 = m
 ·obtain ⟨x1,X,x2,x3,x4⟩:=o7 hr
  have hN : Zmn rs rr ws (fun j=>X j m) n m:=fun i hi=>by
   have h6:=x4 i m hi (Nat.le_refl _) (by omega);rw [Zfx hi,if_neg (Nat.lt_irrefl _),if_pos rfl] at h6;rw [<- h6]
   exact Zy fun j hj=>by rw [Zfx hi,if_pos hj];rfl
  obtain ⟨D,d1,d2,d3⟩:=Zut (B:=pw 4) (n:=m) (Q:=Znc rs ws n) (x:=fun j=>X j m) (y:=fun i=>((Zbi ws (Zat rs i) (Zar rr) n : Int) : Rat))
   (fun a b ha hb=>⟨_,rfl,Zgc hn fun r _=>⟨b3 r,b1 r a,b1 r b⟩⟩) (fun a ha=>⟨_,rfl,Zgc hn fun r _=>⟨b3 r,b1 r a,b2 r⟩⟩) hN (by rw [<- hdet];exact x1)
  have hbd:=Zfo (b:=4) m (by omega);have d4 : D <= pw (5 * m):=Nat.le_trans d2 hbd
  have d5 : ∀ k,k < m -> CD D (pw (5 * m)) (X k m):=fun k hk=>(d3 k hk).mono hbd
  refine ⟨true,X,o1,o2,o3,o4,o5,(decide_eq_true hr).symm,⟨fun _=>by rw [<- hdet];exact x1,fun _=>rfl⟩,fun _=>⟨x2,x3,hN,?_,D,d1,d4,d5⟩⟩;exact Zti hn (by omega) d1 d4 (Nat.le_refl _) (by omega) d5 (fun r k _ _=>b1 r k) (fun r _=>b2 r) (fun r _=>b3 r)
 ·have hr' : (Zaf m 0 0 (Zbq rs rr ws n m) false).2.1 < m:=by omega
  exact ⟨false,fun _ _=>0,o1,o2,o3,o4,o5,(decide_eq_false hr).symm,⟨fun h=>(by cases h),fun h=>absurd (by rw [<- hdet];exact o6 hr') h⟩,fun h=>(by cases h)⟩
end
def LeastD (w : World) (ds : List DF) (d : DF) (E : Int) (e : Ending) (w' : World) : Prop:=
 ∃ A0 n0 c0 A n c B m d1,e = .returned (.tuple #[.slice A0 n0 c0,.agg #[.bool d.na,.slice A n c,.bool d.nb,.slice B m d1],.int .i64 E]) /\ Below w.heap.size w w' /\ XL w' A0 n0 c0 ds /\ Lim w' A n c d.la /\ Lim w' B m d1 d.lb
theorem LeastD.of_bad {w w' : World} {e : Ending} {E : Int} (h : e = .returned (.tuple #[.slice none 0 0,.agg #[.bool false,.slice none 0 0,.bool false,.slice none 0 0],.int .i64 E]) /\ Below w.heap.size w w') : LeastD w [] dfZ E e w':=
 ⟨_,_,_,_,_,_,_,_,_,h.1,h.2,XL.nil _,Lim.nil _ _ _ (Nat.zero_le _),Lim.nil _ _ _ (Nat.zero_le _)⟩
theorem LeastD.of_full {full : Bool} {xs : List Rat} {q : Rat} {w w' : World} {e : Ending} (hf : full = true) (h : Zqg full xs q w e w') : LeastD w (xs.map dfQ) (dfQ q) 0 e w':=by
 rcases h with ⟨h1,-⟩ | ⟨-,A0,n0,c0,na,A,n,c,nb,B,m,d,e1,hb,hO,hfr⟩
 ·rw [hf] at h1;cases h1
 ·have hx:=hO.xl
  have h1:=hfr.1.1;have h2:=hfr.2.1;have h3:=hfr.2.2.2;rw [Int.natAbs_natCast] at h3
  have h4 : nb = false:=by rw [h2];exact decide_eq_false (by omega)
  subst h1 h4;exact ⟨_,_,_,_,_,_,_,_,_,e1,hb,hx,hfr.1.2.2,h3⟩
theorem LeastD.of_short {full : Bool} {xs : List Rat} {q : Rat} {w w' : World} {e : Ending} (hf : full = false) (h : Zqg full xs q w e w') : LeastD w [] dfZ 22 e w':=by
 rcases h with ⟨-,h1⟩ | ⟨h1,-⟩
 ·exact LeastD.of_bad h1
 ·rw [hf] at h1;cases h1
theorem Zn9 {w : World} {A : Option Addr} {n c : Nat} {rs : List RI} {rr ws : List Int} (h : MIL w A n c rs) (hE : Zeh rs rr ws = 0) : 0 < n /\ n <= 200 /\ 0 < n0I rs /\ n0I rs <= 12 /\ rr.length = n /\ ws.length = n /\ ∀ r ∈ rs,r.n = n0I rs:=by
 obtain ⟨f1,f2,f3,f4,f5,f6,f7,f8⟩:=Zfh hE;have hl:=h.1
 have hn0 : 0 < n:=by
  rcases Nat.eq_zero_or_pos n with h0 | h0
  ·exfalso
   have : rs = []:=List.eq_nil_of_length_eq_zero (by omega);subst this;exact f3 rfl
  ·exact h0
 have hm12 : n0I rs <= 12:=by
  obtain ⟨_,_,r0,_,hr0,_⟩:=h.at_ (i:=0) hn0;have h1:=List.mem_of_getElem? hr0;rw [<- (f8 r0 h1).1];exact f2 r0 h1
 exact ⟨hn0,by omega,by omega,hm12,by omega,by omega,fun r hr=>(f8 r hr).1⟩
theorem det_one (E0 : Int) (Q : List (List Rat)) (n : Nat) (hq : E0 = 0 -> SmallQ Q n) : ∃ d : DF,(E0 = 0 -> d = dfQ (Zab n (Zn Q))) /\ ∀ (w : World) (A : Option Addr) (c : Nat) (rs : List RX),MXL w A n c rs -> sqE rs = E0 -> qM rs = Q ->
    Calls Tryz.prog 24 #[.slice A n c] w (FracD w d E0):=by
 by_cases hE : E0 = 0
 ·subst hE
  obtain ⟨g1,g2,g3⟩:=(hq rfl).det;refine ⟨dfQ (Zab n (Zn Q)),fun _=>rfl,fun w A c rs h hs hqm=>?_⟩;rw [<- g3];subst hqm
  exact (Zd9 A n c rs w h hs g1).mono fun e w' he=>FracD.of_fr he
 ·refine ⟨dfZ,fun h=>absurd h hE,fun w A c rs h hs hqm=>(Zur A n c rs w h E0 hs hE).mono fun e w' he=>?_⟩
  exact ⟨_,_,_,_,_,_,he.1,he.2,Lim.nil _ _ _ (Nat.zero_le _),Lim.nil _ _ _ (Nat.zero_le _)⟩
theorem Zso (E0 : Int) (V : Bool) (Q : List (List Rat)) (b : List Rat) (n nb : Nat) (hq : E0 = 0 -> SmallQ Q n) (hb : V = true -> ∀ i : Nat,(b[i]?.getD 0).num.natAbs <= pw 2 /\ (b[i]?.getD 0).den <= pw 2) : ∃ (E : Int) (ds : List DF),
    (E0 = 0 -> V = true -> nb = n -> (Zab n (Zn Q) = 0 /\ E = 18 /\ ds = []) \/ (Zab n (Zn Q) ≠ 0 /\ E = 0 /\ ∃ X : Nat -> Rat,ds = ((List.range n).map X).map dfQ /\ (∀ i,i < n -> sumQ n (fun j=>Zn Q i j * X j) = b[i]?.getD 0) /\ ∀ i,(X i).num.natAbs <= pw ((2 * (n + 1) + 2 + 1) * n) /\ (X i).den <= pw ((2 * (n + 1) + 2 + 1) * n))) /\
    ∀ (w : World) (A B : Option Addr) (c cb : Nat) (rs : List RX) (es : List FX),MXL w A n c rs -> FXL w B nb cb es -> sqE rs = E0 -> qM rs = Q -> Zbx es = V -> es.map FX.q = b ->
    Calls Tryz.prog 26 #[.slice A n c,.slice B nb cb] w (RowD w ds E):=by
 have none_ : ∀ (E : Int) (w w' : World) (e : Ending),(e = .returned (.tuple #[.slice none 0 0,.int .i64 E]) /\ Below w.heap.size w w') -> RowD w [] E e w':=fun E w w' e h=>⟨_,_,_,h.1,h.2,XL.nil _⟩
 by_cases hE : E0 = 0
 ·subst hE
  by_cases hv : nb ≠ n \/ V = false
  ·refine ⟨8,[],fun _ h1 h2=>?_,fun w A B c cb rs es h hbx hs hqm hvv _=>?_⟩
   ·rcases hv with hv | hv
    ·exact absurd h2 hv
    ·rw [hv] at h1;cases h1
   ·rw [<- hvv] at hv
    exact (Zof A B n c nb cb rs es w h hbx hs hv).mono fun e w' he=>none_ _ _ _ _ he
  ·obtain ⟨rfl,rfl⟩ : nb = n /\ V = true:=⟨Classical.byContradiction fun h=>hv (.inl h),by cases V with
     | true=>rfl
     | false=>exact absurd (.inr rfl) hv⟩
   have hS:=hq rfl;have h5:=hS.2.1;obtain ⟨o1,o2,o3,o4,o5,o6,o7⟩:=hS.solveB (hb rfl)
   have hdet : Zab nb (Zn (wideB Q b nb nb)) = Zab nb (Zn Q):=Zav fun i j hi hj=>by rw [Zfl hS.2.2.2.1 hS.2.2.1,if_pos hi,if_pos hj]
   by_cases hr : (Zaf nb 0 0 (wideB Q b nb nb) false).2.1 = nb
   ·obtain ⟨x1,X,x2,x3,x4,x5⟩:=o7 hr
    refine ⟨0,((List.range nb).map fun j=>X j nb).map dfQ,fun _ _ _=>.inr ⟨by rw [<- hdet];exact x1,rfl,fun j=>X j nb,rfl,fun i hi=>?_,fun i=>x5 i nb⟩,fun w A B c cb rs es h hbx hs hqm hvv hbq=>?_⟩
    ·have h6:=x4 i nb hi (Nat.le_refl _) (by omega)
     rw [Zfl hS.2.2.2.1 hS.2.2.1,if_pos hi,if_neg (Nat.lt_irrefl _),if_pos rfl] at h6;rw [<- h6]
     exact Zy fun j hj=>by rw [Zfl hS.2.2.2.1 hS.2.2.1,if_pos hi,if_pos hj]
    ·subst hqm hbq
     refine (Ztk A B nb c cb rs es w h hbx hs hvv (by omega) o1 o3 (o4.trans hr) X x3).mono fun e w' he=>?_
     ·obtain ⟨v,rfl,hbw,hO⟩:=he
      obtain ⟨A1,n1,c1,rfl,hx⟩:=hO.xl;exact ⟨_,_,_,rfl,hbw,hx⟩
   ·have hr' : (Zaf nb 0 0 (wideB Q b nb nb) false).2.1 < nb:=by omega
    refine ⟨18,[],fun _ _ _=>.inl ⟨by rw [<- hdet];exact o6 hr',rfl,rfl⟩,fun w A B c cb rs es h hbx hs hqm hvv hbq=>?_⟩;subst hqm hbq
    exact (Zt2 A B nb c cb rs es w h hbx hs hvv (by omega) o1 o3 (by rw [o4];exact hr')).mono fun e w' he=>none_ _ _ _ _ he
 ·refine ⟨E0,[],fun h=>absurd h hE,fun w A B c cb rs es h hbx hs hqm hvv _=>?_⟩
  exact (Zp6 A B n c nb cb rs es w h hbx E0 hs hE).mono fun e w' he=>none_ _ _ _ _ he
theorem Zs6 (rs : List RI) (rr ws : List Int) : ∃ (E : Int) (ds : List DF) (d : DF),
    (Zeh rs rr ws ≠ 0 -> E = Zeh rs rr ws) /\
    (Zeh rs rr ws = 0 -> (Zab (n0I rs) (Znc rs ws rs.length) = 0 /\ E = 22 /\ ds = []) \/ (Zab (n0I rs) (Znc rs ws rs.length) ≠ 0 /\ E = 0 /\ ∃ x : Nat -> Rat,ds = ((List.range (n0I rs)).map x).map dfQ /\ d = dfQ (Zi3 rs rr ws x (n0I rs) rs.length) /\ Zmn rs rr ws x rs.length (n0I rs) /\ Znn rs rr ws x rs.length (n0I rs) /\
     ∃ D,0 < D /\ D <= pw (5 * n0I rs) /\ ∀ k,k < n0I rs -> CD D (pw (5 * n0I rs)) (x k))) /\
    ∀ (w : World) (A B C : Option Addr) (n c m0 d0 k e0 : Nat),MIL w A n c rs -> LimI w B m0 d0 rr -> LimI w C k e0 ws ->
    Calls Tryz.prog 18 #[.slice A n c,.slice B m0 d0,.slice C k e0] w (LeastD w ds d E):=by
 by_cases hE : Zeh rs rr ws = 0
 ·by_cases hsz : rs.length <= 200 /\ n0I rs <= 12
  ·obtain ⟨full,X,a1,a2,a3,a4,a5,a6,a7,a8⟩:=Zuj (n:=rs.length) (m:=n0I rs) hsz.1 hsz.2 hE
   cases full with
   | true =>
    obtain ⟨x1,x2,x3,x4,x5⟩:=a8 rfl;refine ⟨0,((List.range (n0I rs)).map fun j=>X j (n0I rs)).map dfQ,dfQ (Zi3 rs rr ws (fun j=>X j (n0I rs)) (n0I rs) rs.length),fun h=>absurd hE h,fun _=>.inr ⟨a7.1 rfl,rfl,fun j=>X j (n0I rs),rfl,rfl,x3,x4,x5⟩,fun w A B C n c m0 d0 k e0 h hr hw=>?_⟩;obtain ⟨p1,p2,p3,p4,p5,p6,p7⟩:=Zn9 h hE;obtain rfl : rs.length = n:=h.1
    obtain rfl : m0 = rs.length:=by rw [<- hr.1,p5]
    obtain rfl : k = rs.length:=by rw [<- hw.1,p6]
    exact (Zlg A B C _ c d0 e0 _ rs rr ws w h hr hw hE rfl p1 p3 p4 a1 a3 (by rw [a4];exact a5) X (fun _=>x2) true (by rw [a4];exact a6) (fun _=>x4)).mono fun e w' he=>LeastD.of_full rfl he
   | false =>
    refine ⟨22,[],dfZ,fun h=>absurd hE h,fun _=>.inl ⟨Classical.byContradiction fun h=>(by have:=a7.2 h;cases this),rfl,rfl⟩,fun w A B C n c m0 d0 k e0 h hr hw=>?_⟩;obtain ⟨p1,p2,p3,p4,p5,p6,p7⟩:=Zn9 h hE;obtain rfl : rs.length = n:=h.1
    obtain rfl : m0 = rs.length:=by rw [<- hr.1,p5]
    obtain rfl : k = rs.length:=by rw [<- hw.1,p6]
    have hne : (Zaf (n0I rs) 0 0 (Zbq rs rr ws rs.length (n0I rs)) false).2.1 ≠ n0I rs:=by simpa using a6
    exact (Zlg A B C _ c d0 e0 _ rs rr ws w h hr hw hE rfl p1 p3 p4 a1 a3 (by rw [a4];exact a5) X (fun h=>absurd (a4.symm.trans h) hne) false (by rw [a4];exact a6) (fun h=>(by cases h))).mono fun e w' he=>LeastD.of_short rfl he
  ·refine ⟨0,[],dfZ,fun h=>absurd hE h,fun _=>?_,fun w A B C n c m0 d0 k e0 h hr hw=>?_⟩
   ·exfalso
    obtain ⟨f1,f2,f3,f4,f5,f6,f7,f8⟩:=Zfh hE;refine hsz ⟨f1,?_⟩
    cases hrs : rs with
    | nil=>rw [hrs] at f3;exact absurd rfl f3
    | cons r t =>
     have h1 : r ∈ rs:=by rw [hrs];exact List.mem_cons_self
     rw [<- hrs,<- (f8 r h1).1];exact f2 r h1
   ·exfalso
    obtain ⟨p1,p2,p3,p4,p5,p6,p7⟩:=Zn9 h hE;have:=h.1;exact hsz ⟨by omega,p4⟩
 ·refine ⟨Zeh rs rr ws,[],dfZ,fun _=>rfl,fun h=>absurd h hE,fun w A B C n c m0 d0 k e0 h hr hw=>?_⟩
  exact (Zp5 A B C n c m0 d0 k e0 rs rr ws w h hr hw _ rfl hE).mono fun e w' he=>LeastD.of_bad he
theorem LimI.lit {w : World} {g : Nat} {t : TypeId} {l : List Int} {cs : Array Value} (h : Blk w g t cs) (hc : cs = (l.map (fun x=>Value.int .i64 x)).toArray) (hl : ∀ x ∈ l,I64 x) (hn : l.length <= 1000) : LimI w (some ⟨g,0,none⟩) l.length l.length l:=by
 subst hc;refine ⟨rfl,Nat.le_refl _,by unfold maxLen;omega,hl,fun _=>⟨g,0,rfl,fun k hk=>?_⟩⟩;rw [Nat.zero_add,h.cell]
 simp [List.getElem?_eq_getElem hk]
theorem MFL.two {w : World} {g : Nat} {t : TypeId} {A B : Option Addr} {n c m d : Nat} {p q : List Rat} (h : Blk w g t #[.slice A n c,.slice B m d]) (hp : FL w A n c p) (hq : FL w B m d q) : MFL w (some ⟨g,0,none⟩) 2 2 [p,q]:=by
 refine ⟨rfl,Nat.le_refl _,by unfold maxLen;omega,fun _=>⟨g,0,rfl,fun k r hr=>?_⟩⟩
 match k,hr with
 | 0,hr=>cases hr;exact ⟨A,n,c,h.cell 0,hp⟩
 | 1,hr=>cases hr;exact ⟨B,m,d,h.cell 1,hq⟩
 | k + 2,hr=>simp at hr
theorem FL.two {w : World} {g : Nat} {t : TypeId} {xn : Bool} {xA : Option Addr} {xk xc : Nat} {xm : Bool} {xB : Option Addr} {xj xd : Nat} {yn : Bool} {yA : Option Addr} {yk yc : Nat} {ym : Bool} {yB : Option Addr} {yj yd : Nat} {p q : Rat} (h : Blk w g t #[.bool xn,.slice xA xk xc,.bool xm,.slice xB xj xd,.bool yn,.slice yA yk yc,.bool ym,.slice yB yj yd]) (hp : Fr w xn xA xk xc xm xB xj xd p) (hq : Fr w yn yA yk yc ym yB yj yd q) : FL w (some ⟨g,0,none⟩) 2 2 [p,q]:=by
 refine ⟨[⟨xn,xA,xk,xc,xm,xB,xj,xd,p⟩,⟨yn,yA,yk,yc,ym,yB,yj,yd,q⟩],rfl,Nat.le_refl _,by unfold maxLen;omega,fun e he=>?_,rfl,fun _=>⟨g,0,rfl,fun k r hr=>?_⟩⟩
 ·simp only [List.mem_cons,List.not_mem_nil,or_false] at he
  rcases he with rfl | rfl
  ·exact hp
  ·exact hq
 ·match k,hr with
  | 0,hr=>cases hr;exact ⟨h.cell 0,h.cell 1,h.cell 2,h.cell 3⟩
  | 1,hr=>cases hr;exact ⟨h.cell 4,h.cell 5,h.cell 6,h.cell 7⟩
  | k + 2,hr=>simp at hr
theorem MIL.three {w : World} {g : Nat} {t : TypeId} {a b c : RI} (h : Blk w g t #[.slice a.A a.n a.c,.slice b.A b.n b.c,.slice c.A c.n c.c]) (ha : LimI w a.A a.n a.c a.l) (hb : LimI w b.A b.n b.c b.l) (hc : LimI w c.A c.n c.c c.l) : MIL w (some ⟨g,0,none⟩) 3 3 [a,b,c]:=by
 refine ⟨rfl,Nat.le_refl _,by unfold maxLen;omega,fun r hr=>?_,fun _=>⟨g,0,rfl,fun k r hr=>?_⟩⟩
 ·simp only [List.mem_cons,List.not_mem_nil,or_false] at hr
  rcases hr with rfl | rfl | rfl
  ·exact ha
  ·exact hb
  ·exact hc
 ·match k,hr with
  | 0,hr=>cases hr;exact h.cell 0
  | 1,hr=>cases hr;exact h.cell 1
  | 2,hr=>cases hr;exact h.cell 2
  | k + 3,hr=>simp at hr
theorem Fr.df {w : World} {na : Bool} {A : Option Addr} {n c : Nat} {nb : Bool} {B : Option Addr} {m d : Nat} {q : Rat} (h : Fr w na A n c nb B m d q) : na = (dfQ q).na /\ nb = (dfQ q).nb /\ Lim w A n c (dfQ q).la /\ Lim w B m d (dfQ q).lb:=by
 have h3:=h.2.2.2;rw [Int.natAbs_natCast] at h3;exact ⟨h.1.1,h.neg,h.1.2.2,h3⟩
theorem smE_of {k : Nat} {Q : List (List Rat)} (h : ∀ r ∈ Q,∀ q ∈ r,q.num.natAbs <= pw k /\ q.den <= pw k) : SmE k Q:=fun i j=>by
 unfold Zn
 by_cases hi : i < Q.length
 ·rw [List.getElem?_eq_getElem hi,Option.getD_some]
  by_cases hj : j < Q[i].length
  ·rw [List.getElem?_eq_getElem hj,Option.getD_some]
   exact h _ (List.getElem_mem _) _ (List.getElem_mem _)
  ·rw [List.getElem?_eq_none (l:=Q[i]) (by omega)];exact Zfc k
 ·rw [List.getElem?_eq_none (l:=Q) (by omega)];exact Zfc k
theorem Zrn {q : Rat} (h : q.num.natAbs <= 9) (h2 : q.den <= 9) : Sm8 q:=by
 have : 9 < pw 8:=by decide +kernel
 exact ⟨by omega,by omega⟩
theorem Zm6 {q : Rat} (h : q.num.natAbs <= 9) (h2 : q.den <= 9) : q.num.natAbs <= pw 2 /\ q.den <= pw 2:=by
 have : 9 <= pw 2:=by decide +kernel
 exact ⟨by omega,by omega⟩
theorem Zeq : ∀ r ∈ ([[1,2],[3,4]] : List (List Rat)),∀ q ∈ r,q.num.natAbs <= 9 /\ q.den <= 9:=by decide +kernel
theorem Zj7 : ∀ q ∈ ([5,6] : List Rat),q.num.natAbs <= 9 /\ q.den <= 9:=by decide +kernel
theorem Zih : SmallQ [[1,2],[3,4]] 2:=by
 refine ⟨by decide,by decide,rfl,fun i hi=>?_,smE_of fun r hr q hq=>Zm6 (Zeq r hr q hq).1 (Zeq r hr q hq).2⟩
 match i,hi with
 | 0,_=>rfl
 | 1,_=>rfl
theorem Zm0 : Zab 2 (Zn [[1,2],[3,4]]) = -2:=by decide +kernel
theorem Zsw (A B C : Option Addr) (a b c : Nat) : Zab 2 (Znc [⟨A,2,a,[1,0]⟩,⟨B,2,b,[1,1]⟩,⟨C,2,c,[1,2]⟩] [1,1,1] 3) ≠ 0:=by
 have : Zab 2 (Znc [⟨A,2,a,[1,0]⟩,⟨B,2,b,[1,1]⟩,⟨C,2,c,[1,2]⟩] [1,1,1] 3) = Zab 2 (Znc [⟨none,2,2,[1,0]⟩,⟨none,2,2,[1,1]⟩,⟨none,2,2,[1,2]⟩] [1,1,1] 3):=rfl;rw [this]
 decide +kernel
theorem Zsr (A B C : Option Addr) (a b c : Nat) : Zeh [⟨A,2,a,[1,0]⟩,⟨B,2,b,[1,1]⟩,⟨C,2,c,[1,2]⟩] [0,1,1] [1,1,1] = 0:=by
 have : Zeh [⟨A,2,a,[1,0]⟩,⟨B,2,b,[1,1]⟩,⟨C,2,c,[1,2]⟩] [0,1,1] [1,1,1] = Zeh [⟨none,2,2,[1,0]⟩,⟨none,2,2,[1,1]⟩,⟨none,2,2,[1,2]⟩] [0,1,1] [1,1,1]:=rfl;rw [this]
 decide +kernel
theorem Zpv {X : Nat -> Rat} (h : ∀ i,i < 2 -> sumQ 2 (fun j=>Zn [[1,2],[3,4]] i j * X j) = ([5,6] : List Rat)[i]?.getD 0) : (List.range 2).map X = [-4,9 / 2]:=by
 have h0:=h 0 (by decide);have h1:=h 1 (by decide);have e0 : (0 : Rat) + 1 * X 0 + 2 * X 1 = 5:=h0;have e1 : (0 : Rat) + 3 * X 0 + 4 * X 1 = 6:=h1
 have a0 : X 0 = -4:=by grind
 have a1 : X 1 = 9 / 2:=by grind
 show [X 0,X 1] = _;rw [a0,a1]
theorem Zo5 {A B C : Option Addr} {a b c : Nat} {x : Nat -> Rat} (h : Zmn [⟨A,2,a,[1,0]⟩,⟨B,2,b,[1,1]⟩,⟨C,2,c,[1,2]⟩] [0,1,1] [1,1,1] x 3 2) : (List.range 2).map x = [1 / 6,1 / 2] /\ Zi3 [⟨A,2,a,[1,0]⟩,⟨B,2,b,[1,1]⟩,⟨C,2,c,[1,2]⟩] [0,1,1] [1,1,1] x 2 3 = 1 / 6:=by
 have hs:=Zva h;have h0:=h 0 (by decide);have h1:=h 1 (by decide);have e0 : (0 : Rat) + ((3 : Int) : Rat) * x 0 + ((3 : Int) : Rat) * x 1 = ((2 : Int) : Rat):=h0;have e1 : (0 : Rat) + ((3 : Int) : Rat) * x 0 + ((5 : Int) : Rat) * x 1 = ((3 : Int) : Rat):=h1;have e2 : Zk5 [⟨A,2,a,[1,0]⟩,⟨B,2,b,[1,1]⟩,⟨C,2,c,[1,2]⟩] [0,1,1] [1,1,1] x 3 2 = ((2 : Int) : Rat) - ((0 : Rat) + x 0 * ((2 : Int) : Rat) + x 1 * ((3 : Int) : Rat)):=rfl;have c2 : ((2 : Int) : Rat) = 2:=rfl;have c3 : ((3 : Int) : Rat) = 3:=rfl;have c5 : ((5 : Int) : Rat) = 5:=rfl;rw [c3,c2] at e0;rw [c3,c5] at e1;rw [c3,c2] at e2
 have a1 : x 1 = 1 / 2:=by grind
 have a0 : x 0 = 1 / 6:=by grind
 refine ⟨?_,?_⟩
 ·show [x 0,x 1] = _
  rw [a0,a1]
 ·rw [hs,e2,a0,a1]
  grind
theorem Zub (w : World) : Calls Tryz.prog 32 #[] w fun e w'=>e = .returned (.bool true) /\ Below w.heap.size w w':=by
 have hmx : Tryz.prog.follows .mixedOrders = true:=by kernel_rfl
 have i64 : ∀ l : List Int,(∀ x ∈ l,x.natAbs <= 9) -> ∀ x ∈ l,I64 x:=fun l h x hx=>by have:=h x hx;unfold I64;omega
 obtain ⟨g1,hg1⟩ : ∃ g,w.heap.size = g:=⟨_,rfl⟩;obtain ⟨V1,hV1,qa,hbV1⟩:=Zaz (w:=w) 2 #[.int .i64 1,.int .i64 2];have hl1:=LimI.lit (l:=[1,2]) qa rfl (i64 _ (by decide)) (by decide);rw [hg1] at hl1;go_enter Tryz.func32,Tryz.ntmps32;go_wp2_with fail;(try rw [hg1]);(try rw [hV1]);clear hV1 qa;replace hg1:=Za hg1;refine (Zna (some ⟨g1,0,none⟩) 2 2 [1,2] V1 hl1 (by decide)).mono ?_;rintro e w2 ⟨v2,rfl,hb2,hO2⟩;have hB2:=hbV1.trans (hb2.mono hbV1.size);obtain ⟨A2,c2,rfl,hF2⟩:=hO2.fl;replace hF2 : FL w2 A2 2 c2 [1,2]:=hF2;replace hF2:=Za hF2;clear hO2 hl1 hb2 hbV1;obtain ⟨g2,hg2⟩ : ∃ g,w2.heap.size = g:=⟨_,rfl⟩;obtain ⟨V2,hV2,qa,hbV2⟩:=Zaz (w:=w2) 2 #[.int .i64 3,.int .i64 4];have hl1:=LimI.lit (l:=[3,4]) qa rfl (i64 _ (by decide)) (by decide);rw [hg2] at hl1;simp only [List.map_cons,List.map_nil,List.length_cons,List.length_nil];go_wp2_with fail;(try rw [hg2]);(try rw [hV2]);clear hV2 qa;replace hg2:=Za hg2;refine (Zna (some ⟨g2,0,none⟩) 2 2 [3,4] V2 hl1 (by decide)).mono ?_;rintro e w3 ⟨v3,rfl,hb3,hO3⟩;have hb23:=hbV2.trans (hb3.mono hbV2.size);have hB3:=hB2.trans (hb23.mono hB2.size);obtain ⟨A3,c3,rfl,hF3⟩:=hO3.fl;replace hF3 : FL w3 A3 2 c3 [3,4]:=hF3;replace hF2:=Za (hF2.out.below hb23);replace hF3:=Za hF3;clear hO3 hl1 hb3 hbV2 hb23 hB2;obtain ⟨g4,hg4⟩ : ∃ g,w3.heap.size = g:=⟨_,rfl⟩;obtain ⟨V4,hV4,qa,hbV4⟩:=Zaz (w:=w3) 40 #[.slice A2 2 c2,.slice A3 2 c3];rw [hg4] at qa;have hM4:=MFL.two qa (hF2.out.below hbV4) (hF3.out.below hbV4)
 obtain ⟨rs,hM,hqm,hrows⟩:=hM4.mxl (fun r hr q hq=>Zrn (Zeq r hr q hq).1 (Zeq r hr q hq).2);have hB4:=hB3.trans (hbV4.mono hB3.size)
 have hfine:=Zpb hM (m:=2) (by decide) (by decide) (by decide) (by decide) (fun r hr=>by
  obtain ⟨k,hk,rfl⟩:=List.getElem_of_mem hr;have h5:=hrows k _ (List.getElem?_eq_getElem hk)
  have hk2 : k < 2:=by rw [<- hM.1];exact hk
  refine ⟨h5.1.trans ?_,h5.2⟩
  match k,hk2 with
  | 0,_=>rfl
  | 1,_=>rfl)
 have hsq : sqE rs = 0:=by
  unfold sqE;rw [if_pos hfine.1,if_pos (by rw [hfine.2,hM.1])]
 obtain ⟨dd,hdd,hdet⟩:=det_one 0 [[1,2],[3,4]] 2 (fun _=>Zih)
 obtain ⟨E5,ds5,hds5,hsol⟩:=Zso 0 true [[1,2],[3,4]] [5,6] 2 2 (fun _=>Zih) (fun _ i=>by
  by_cases hi : i < 2
  ·match i,hi with
   | 0,_=>exact Zm6 (by decide +kernel) (by decide +kernel)
   | 1,_=>exact Zm6 (by decide +kernel) (by decide +kernel)
  ·rw [List.getElem?_eq_none (by simp;omega)];exact Zfc 2)
 have hE5 : E5 = 0 /\ ds5 = [dfQ (-4),dfQ (9 / 2)]:=by
  rcases hds5 rfl rfl rfl with ⟨h1,-⟩ | ⟨-,h2,X,h3,h4,-⟩
  ·rw [Zm0] at h1
   exact absurd h1 (by decide +kernel)
  ·refine ⟨h2,?_⟩
   rw [h3,Zpv h4]
   rfl
 obtain ⟨rfl,rfl⟩:=hE5;replace hdd:=hdd rfl;rw [Zm0] at hdd;subst hdd;replace hdet:=Za hdet;replace hsol:=Za hsol;replace hM:=Za hM;replace hsq:=Za hsq;replace hqm:=Za hqm;clear hds5 hfine hrows hM4 hF2 hF3 qa;go_wp2_with fail;(try rw [hg4]);(try rw [hV4]);clear hV4;replace hg4:=Za hg4;refine (hdet.out V4 (some ⟨g4,0,none⟩) 2 rs hM.out hsq.out hqm.out).mono ?_;rintro e w5 ⟨dA,dk,dc,dB,dj,dd1,rfl,hb5,l1,l2⟩;have hB5:=hB4.trans (hb5.mono hB4.size);obtain ⟨g5,hg5⟩ : ∃ g,w5.heap.size = g:=⟨_,rfl⟩;obtain ⟨V5,hV5,q5,hbV5⟩:=Zaz (w:=w5) 45 #[.bool (dfQ (-2)).na,.slice dA dk dc,.bool (dfQ (-2)).nb,.slice dB dj dd1];rw [hg5] at q5;have hB5':=hB5.trans (hbV5.mono hB5.size);have hb45:=hb5.trans (hbV5.mono hb5.size);replace l1:=Za (l1.below hbV5);replace l2:=Za (l2.below hbV5);replace q5:=Za q5;replace hM:=Za (hM.out.below hb45);clear hdet hb5 hbV5 hb45 hB4 hB5;obtain ⟨g6,hg6⟩ : ∃ g,V5.heap.size = g:=⟨_,rfl⟩;obtain ⟨V6,hV6,qa,hbV6⟩:=Zaz (w:=V5) 2 #[.int .i64 5,.int .i64 6];have hl1:=LimI.lit (l:=[5,6]) qa rfl (i64 _ (by decide)) (by decide);rw [hg6] at hl1;go_wp2_with fail;(try rw [hg5]);(try rw [hV5]);(try rw [hg6]);(try rw [hV6]);clear hV5 hV6 qa;replace hg5:=Za hg5;replace hg6:=Za hg6;refine (Zna (some ⟨g6,0,none⟩) 2 2 [5,6] V6 hl1 (by decide)).mono ?_;rintro e w7 ⟨v7,rfl,hb7,hO7⟩;have hb57:=hbV6.trans (hb7.mono hbV6.size);have hB7:=hB5'.trans (hb57.mono hB5'.size);obtain ⟨A7,c7,rfl,hF7⟩:=hO7.fl;replace hF7 : FL w7 A7 2 c7 [5,6]:=hF7
 obtain ⟨es,hX7,heq,hvec⟩:=hF7.fxl (fun q hq=>Zrn (Zj7 q hq).1 (Zj7 q hq).2);replace hM:=Za (hM.out.below hb57);replace l1:=Za (l1.out.below hb57);replace l2:=Za (l2.out.below hb57);replace q5:=Za (Zc hb57 q5.out);replace hX7:=Za hX7;replace hvec:=Za hvec;replace heq:=Za heq;clear hO7 hF7 hb7 hbV6 hb57 hB5' hl1;simp only [List.map_cons,List.map_nil,List.length_cons,List.length_nil];go_wp2_with fail;refine ((hsol.out w7 (some ⟨g4,0,none⟩) A7 2 c7 rs es hM.out hX7.out hsq.out hqm.out hvec.out heq.out)).mono ?_;rintro e w8 ⟨A8,n8,c8,rfl,hb8,y1⟩;have hB8:=hB7.trans (hb8.mono hB7.size);obtain rfl : 2 = n8:=y1.1;replace l1:=Za (l1.out.below hb8);replace l2:=Za (l2.out.below hb8);replace q5:=Za (Zc hb8 q5.out);replace y1:=Za y1;clear hsol hM hX7 hvec heq hsq hqm hb8 hB7;obtain ⟨k1,hk1⟩ : ∃ g,w8.heap.size = g:=⟨_,rfl⟩;obtain ⟨U1,hU1,r1,hbU1⟩:=Zaz (w:=w8) 2 #[.int .i64 1,.int .i64 0];rw [hk1] at r1;obtain ⟨k2,hk2⟩ : ∃ g,U1.heap.size = g:=⟨_,rfl⟩;obtain ⟨U2,hU2,r2,hbU2⟩:=Zaz (w:=U1) 2 #[.int .i64 1,.int .i64 1];rw [hk2] at r2;obtain ⟨k3,hk3⟩ : ∃ g,U2.heap.size = g:=⟨_,rfl⟩;obtain ⟨U3,hU3,r3,hbU3⟩:=Zaz (w:=U2) 2 #[.int .i64 1,.int .i64 2];rw [hk3] at r3;obtain ⟨k4,hk4⟩ : ∃ g,U3.heap.size = g:=⟨_,rfl⟩;obtain ⟨U4,hU4,r4,hbU4⟩:=Zaz (w:=U3) 34 #[.slice (some ⟨k1,0,none⟩) 2 2,.slice (some ⟨k2,0,none⟩) 2 2,.slice (some ⟨k3,0,none⟩) 2 2];rw [hk4] at r4;obtain ⟨k5,hk5⟩ : ∃ g,U4.heap.size = g:=⟨_,rfl⟩;obtain ⟨U5,hU5,r5,hbU5⟩:=Zaz (w:=U4) 2 #[.int .i64 0,.int .i64 1,.int .i64 1];rw [hk5] at r5
 obtain ⟨k6,hk6⟩ : ∃ g,U5.heap.size = g:=⟨_,rfl⟩;obtain ⟨U6,hU6,r6,hbU6⟩:=Zaz (w:=U5) 2 #[.int .i64 1,.int .i64 1,.int .i64 1];rw [hk6] at r6;have h56:=hbU5.trans (hbU6.mono hbU5.size);have h46:=hbU4.trans (h56.mono hbU4.size);have h36:=hbU3.trans (h46.mono hbU3.size);have h26:=hbU2.trans (h36.mono hbU2.size);have h16:=hbU1.trans (h26.mono hbU1.size);have hB9:=hB8.trans (h16.mono hB8.size);have la:=LimI.lit (l:=[1,0]) (Zc h26 r1) rfl (i64 _ (by decide)) (by decide);have lb:=LimI.lit (l:=[1,1]) (Zc h36 r2) rfl (i64 _ (by decide)) (by decide);have lc:=LimI.lit (l:=[1,2]) (Zc h46 r3) rfl (i64 _ (by decide)) (by decide);have hMI:=Za (MIL.three (a:=⟨some ⟨k1,0,none⟩,2,2,[1,0]⟩) (b:=⟨some ⟨k2,0,none⟩,2,2,[1,1]⟩) (c:=⟨some ⟨k3,0,none⟩,2,2,[1,2]⟩) (Zc h56 r4) la lb lc);have hR5:=Za (LimI.lit (l:=[0,1,1]) (Zc hbU6 r5) rfl (i64 _ (by decide)) (by decide));have hR6:=Za (LimI.lit (l:=[1,1,1]) r6 rfl (i64 _ (by decide)) (by decide));replace l1:=Za (l1.out.below h16);replace l2:=Za (l2.out.below h16);replace q5:=Za (Zc h16 q5.out);replace y1:=Za (y1.out.below h16);obtain ⟨E9,ds9,d9,-,hds9,hlst⟩:=Zs6 [⟨some ⟨k1,0,none⟩,2,2,[1,0]⟩,⟨some ⟨k2,0,none⟩,2,2,[1,1]⟩,⟨some ⟨k3,0,none⟩,2,2,[1,2]⟩] [0,1,1] [1,1,1]
 have hE9 : E9 = 0 /\ ds9 = [dfQ (1 / 6),dfQ (1 / 2)] /\ d9 = dfQ (1 / 6):=by
  rcases hds9 (Zsr _ _ _ _ _ _) with ⟨h1,-⟩ | ⟨-,h2,X,h3,h4,h5,-⟩
  ·exact absurd h1 (Zsw _ _ _ _ _ _)
  ·have h6:=Zo5 h5
   have e1 : ds9 = ((List.range 2).map X).map dfQ:=h3;have e2 : d9 = dfQ (Zi3 [⟨some ⟨k1,0,none⟩,2,2,[1,0]⟩,⟨some ⟨k2,0,none⟩,2,2,[1,1]⟩,⟨some ⟨k3,0,none⟩,2,2,[1,2]⟩] [0,1,1] [1,1,1] X 2 3):=h4;refine ⟨h2,?_,?_⟩
   ·rw [e1,h6.1];rfl
   ·rw [e2,h6.2]
 obtain ⟨rfl,rfl,rfl⟩:=hE9;replace hlst:=Za hlst;clear hds9 la lb lc r1 r2 r3 r4 r5 r6 hbU1 hbU2 hbU3 hbU4 hbU5 hbU6 h56 h46 h36 h26 h16 hB8;go_wp2_with fail;(try rw [hk1]);(try rw [hU1]);(try rw [hk2]);(try rw [hU2]);(try rw [hk3]);(try rw [hU3]);(try rw [hk4]);(try rw [hU4]);(try rw [hk5]);(try rw [hU5]);(try rw [hk6]);(try rw [hU6]);clear hU1 hU2 hU3 hU4 hU5 hU6;replace hk1:=Za hk1;replace hk2:=Za hk2;replace hk3:=Za hk3;replace hk4:=Za hk4;replace hk5:=Za hk5;replace hk6:=Za hk6;refine ((hlst.out U6 (some ⟨k4,0,none⟩) (some ⟨k5,0,none⟩) (some ⟨k6,0,none⟩) 3 3 3 3 3 3 hMI.out hR5.out hR6.out)).mono ?_;rintro e w9 ⟨A9,n9,c9,sA,sk,sc,sB,sj,sd,rfl,hb9,y2,l3,l4⟩;obtain rfl : 2 = n9:=y2.1;have hB10:=hB9.trans (hb9.mono hB9.size);obtain ⟨g10,hg10⟩ : ∃ g,w9.heap.size = g:=⟨_,rfl⟩;obtain ⟨V10,hV10,q10,hbV10⟩:=Zaz (w:=w9) 45 #[.bool (dfQ (1 / 6)).na,.slice sA sk sc,.bool (dfQ (1 / 6)).nb,.slice sB sj sd];rw [hg10] at q10;have hb9':=hb9.trans (hbV10.mono hb9.size);have hB11:=Za (hB10.trans (hbV10.mono hB10.size));replace l1:=Za (l1.out.below hb9');replace l2:=Za (l2.out.below hb9');replace q5:=Za (Zc hb9' q5.out);replace y1:=Za (y1.out.below hb9');replace y2:=Za (y2.below hbV10);replace l3:=Za (l3.below hbV10);replace l4:=Za (l4.below hbV10);replace q10:=Za q10;clear hlst hMI hR5 hR6 hb9 hb9' hbV10 hB9 hB10;go_wp2_with fail;(try rw [hg10]);(try rw [hV10]);clear hV10;replace hg10:=Za hg10;obtain ⟨c0,c1,c2',c3',-⟩:=q5.out.four
 refine Zaq [] (fun wx=>wx.cell? ⟨g5,0,none⟩ = some (.bool (dfQ (-2)).na) /\ wx.cell? ⟨g5,1,none⟩ = some (.slice dA dk dc) /\ wx.cell? ⟨g5,2,none⟩ = some (.bool (dfQ (-2)).nb) /\ wx.cell? ⟨g5,3,none⟩ = some (.slice dB dj dd1)) hmx ⟨c0,c1,c2',c3'⟩ (fun _=>?_);refine Zix 4 [0,1,2,3] rfl (by kernel_rfl) ⟨c0,c1,c2',c3'⟩ ?_
 iterate 4 (refine tk1 (v:=?_) rfl (Or.inl ⟨by kernel_rfl,?_⟩) ?_;rotate_left;(· intro W2 hSw;(try dsimp only at hSw);go_simp;try with_reducible rfl);try simp only [Act.put,Zf1,Zfp,Zfr,putG_a,putG_s,putG_z])
 refine tk0 ?_;refine Ze (i:=4) rfl (by kernel_rfl) (fun K hK=>?_);(try rw [if_pos (by kernel_rfl)]);go_simp;refine (Zet (-2) 1 V10.drew (by decide) (by decide) (by decide) (by decide)).mono ?_;rintro e x1 ⟨hx1,pn,pA,pk,pc,pm,pB,pj,pd,rfl,hp⟩;rw [Zdt] at hp;replace hx1:=Zq hx1;obtain ⟨e1,e2,m1,m2⟩:=hp.df;replace l1:=Za (l1.out.below hx1);replace l2:=Za (l2.out.below hx1);replace c0:=Zb hx1 c0;replace c1:=Zb hx1 c1;replace c2':=Zb hx1 c2';replace c3':=Zb hx1 c3';refine hK.out _ _ (fun _=>⟨c0,c1,c2',c3'⟩) ?_;clear hK K
 try simp only [Act.put,Zf1,Zfp,Zfr]
 subst e1 e2;refine Ze (i:=5) rfl (by kernel_rfl) (fun K hK=>?_);(try rw [if_pos (by kernel_rfl)]);go_simp;refine (Zdl (dfQ (-2)).na (dfQ (-2)).nb dA dB pA pB dk dc dj dd1 pk pc pj pd (dfQ (-2)).la (dfQ (-2)).lb x1 l1.out l2.out m1 m2).mono ?_;rintro e x2 ⟨rfl,hx2⟩;replace c0:=Zb hx2 c0;replace c1:=Zb hx2 c1;replace c2':=Zb hx2 c2';replace c3':=Zb hx2 c3';refine hK.out _ _ (fun _=>⟨c0,c1,c2',c3'⟩) ?_;clear hK K
 try simp only [Act.put,Zf1,Zfp,Zfr]
 refine Zix 7 [6,7,8,9,10,11,12] rfl (by kernel_rfl) ⟨c0,c1,c2',c3'⟩ ?_
 iterate 7 (refine tk1 (v:=?_) rfl (Or.inl ⟨by kernel_rfl,?_⟩) ?_;rotate_left;(· intro W2 hSw;(try dsimp only at hSw);go_simp;try with_reducible rfl);try simp only [Act.put,Zf1,Zfp,Zfr,putG_a,putG_s,putG_z])
 refine tk0 ?_;have hx12:=hx1.trans (hx2.mono hx1.size);replace y1:=Za (y1.out.below hx12);replace y2:=Za (y2.out.below hx12);replace l3:=Za (l3.out.below hx12);replace l4:=Za (l4.out.below hx12);replace q10:=Za (Zc hx12 q10.out);replace hB11:=Za (hB11.out.trans (hx12.mono hB11.out.size));clear hx12 hx1 hx2 m1 m2 hp l1 l2 q5;refine Ze (i:=13) rfl (by kernel_rfl) (fun K hK=>?_);(try rw [if_pos (by kernel_rfl)]);go_simp;refine (Zet (-4) 1 x2 (by decide) (by decide) (by decide) (by decide)).mono ?_;rintro e x3 ⟨h1,un,uA,uk,uc,um,uB,uj,ud,rfl,hu⟩;replace c0:=Zb h1 c0;replace c1:=Zb h1 c1;replace c2':=Zb h1 c2';replace c3':=Zb h1 c3';replace y1:=Za (y1.out.below h1);replace y2:=Za (y2.out.below h1);replace l3:=Za (l3.out.below h1);replace l4:=Za (l4.out.below h1);replace q10:=Za (Zc h1 q10.out);replace hB11:=Za (hB11.out.trans (Below.mono h1 hB11.out.size));clear h1;refine hK.out _ _ (fun _=>⟨c0,c1,c2',c3'⟩) ?_;clear hK K
 try simp only [Act.put,Zf1,Zfp,Zfr]
 refine Ze (i:=14) rfl (by kernel_rfl) (fun K hK=>?_);(try rw [if_pos (by kernel_rfl)]);go_simp;refine (Zet 9 2 x3 (by decide) (by decide) (by decide) (by decide)).mono ?_;rintro e x4 ⟨h2,vn,vA,vk,vc,vm,vB,vj,vd,rfl,hv⟩;replace hu:=hu.below h2;replace c0:=Zb h2 c0;replace c1:=Zb h2 c1;replace c2':=Zb h2 c2';replace c3':=Zb h2 c3';replace y1:=Za (y1.out.below h2);replace y2:=Za (y2.out.below h2);replace l3:=Za (l3.out.below h2);replace l4:=Za (l4.out.below h2);replace q10:=Za (Zc h2 q10.out);replace hB11:=Za (hB11.out.trans (Below.mono h2 hB11.out.size));clear h2;refine hK.out _ _ (fun _=>⟨c0,c1,c2',c3'⟩) ?_;clear hK K
 try simp only [Act.put,Zf1,Zfp,Zfr]
 obtain ⟨gl,hgl⟩ : ∃ g,x4.heap.size = g:=⟨_,rfl⟩;obtain ⟨Vl,hVl,ql,hbl⟩:=Zaz (w:=x4) 45 #[.bool un,.slice uA uk uc,.bool um,.slice uB uj ud,.bool vn,.slice vA vk vc,.bool vm,.slice vB vj vd];rw [hgl] at ql;have hFl:=(FL.two ql (hu.below hbl) (hv.below hbl)).xl;refine Ze (i:=15) rfl (by kernel_rfl) (fun K hK=>?_);(try rw [if_pos (by kernel_rfl)]);go_simp;(try rw [hgl]);(try rw [hVl]);clear hVl;replace c0:=Zb hbl c0;replace c1:=Zb hbl c1;replace c2':=Zb hbl c2';replace c3':=Zb hbl c3';replace y1:=Za (y1.out.below hbl);replace y2:=Za (y2.out.below hbl);replace l3:=Za (l3.out.below hbl);replace l4:=Za (l4.out.below hbl);replace q10:=Za (Zc hbl q10.out);replace hB11:=Za (hB11.out.trans (Below.mono hbl hB11.out.size));clear hbl;refine hK.out _ _ (fun _=>⟨c0,c1,c2',c3'⟩) ?_;clear hK K
 try simp only [Act.put,Zf1,Zfp,Zfr]
 rw [show [Rat.divInt (-4) 1,Rat.divInt 9 2].map dfQ = [dfQ (-4),dfQ (9 / 2)] by
  simp only [List.map_cons,List.map_nil]
  rw [show Rat.divInt (-4) 1 = (-4) by decide +kernel,show Rat.divInt 9 2 = (9 / 2) by decide +kernel]] at hFl
 refine Ze (i:=16) rfl (by kernel_rfl) (fun K hK=>?_);(try rw [if_pos (by kernel_rfl)]);go_simp;refine (Zh8 A8 (some ⟨gl,0,none⟩) 2 c8 2 _ Vl (y1.out) hFl).mono ?_;rintro e x5 ⟨rfl,h4⟩;replace c0:=Zb h4 c0;replace c1:=Zb h4 c1;replace c2':=Zb h4 c2';replace c3':=Zb h4 c3';replace y1:=Za (y1.out.below h4);replace y2:=Za (y2.out.below h4);replace l3:=Za (l3.out.below h4);replace l4:=Za (l4.out.below h4);replace q10:=Za (Zc h4 q10.out);replace hB11:=Za (hB11.out.trans (Below.mono h4 hB11.out.size));clear h4;refine hK.out _ _ (fun _=>⟨c0,c1,c2',c3'⟩) ?_;clear hK K
 try simp only [Act.put,Zf1,Zfp,Zfr]
 clear hFl ql hu hv;refine Zix 1 [17] rfl (by kernel_rfl) ⟨c0,c1,c2',c3'⟩ ?_
 (refine tk1 (v:=?_) rfl (Or.inl ⟨by kernel_rfl,?_⟩) ?_;rotate_left;(· intro W2 hSw;(try dsimp only at hSw);go_simp;try with_reducible rfl);try simp only [Act.put,Zf1,Zfp,Zfr,putG_a,putG_s,putG_z])
 refine tk0 ?_;refine Zfs 1 [18] rfl (by kernel_rfl) ⟨c0,c1,c2',c3'⟩ ?_
 (refine tk1 (v:=?_) rfl (Or.inl ⟨by kernel_rfl,?_⟩) ?_;rotate_left;(· intro W2 _;go_simp;try with_reducible rfl);try simp only [Act.put,Zf1,Zfp,Zfr,putG_a,putG_s,putG_z])
 refine tk0 ?_;refine Zm (by kernel_rfl) ?_ _;refine OnlyNormal.normal ?_;clear c0 c1 c2' c3';go_wp2_with fail;obtain ⟨c0,c1,c2',c3',-⟩:=q10.out.four;refine Zaq [] (fun wx=>wx.cell? ⟨g10,0,none⟩ = some (.bool (dfQ (1 / 6)).na) /\ wx.cell? ⟨g10,1,none⟩ = some (.slice sA sk sc) /\ wx.cell? ⟨g10,2,none⟩ = some (.bool (dfQ (1 / 6)).nb) /\ wx.cell? ⟨g10,3,none⟩ = some (.slice sB sj sd)) hmx ⟨c0,c1,c2',c3'⟩ (fun _=>?_);refine Zix 7 [0,1,2,3,4,5,6] rfl (by kernel_rfl) ⟨c0,c1,c2',c3'⟩ ?_
 iterate 7 (refine tk1 (v:=?_) rfl (Or.inl ⟨by kernel_rfl,?_⟩) ?_;rotate_left;(· intro W2 hSw;(try dsimp only at hSw);go_simp;try with_reducible rfl);try simp only [Act.put,Zf1,Zfp,Zfr,putG_a,putG_s,putG_z])
 refine tk0 ?_;refine Ze (i:=7) rfl (by kernel_rfl) (fun K hK=>?_);(try rw [if_pos (by kernel_rfl)]);go_simp;refine (Zet 1 6 x5.drew (by decide) (by decide) (by decide) (by decide)).mono ?_;rintro e x6 ⟨h1,un,uA,uk,uc,um,uB,uj,ud,rfl,hu⟩;replace h1:=Zq h1;replace c0:=Zb h1 c0;replace c1:=Zb h1 c1;replace c2':=Zb h1 c2';replace c3':=Zb h1 c3';replace y2:=Za (y2.out.below h1);replace l3:=Za (l3.out.below h1);replace l4:=Za (l4.out.below h1);replace hB11:=Za (hB11.out.trans (Below.mono h1 hB11.out.size));clear h1;refine hK.out _ _ (fun _=>⟨c0,c1,c2',c3'⟩) ?_;clear hK K
 try simp only [Act.put,Zf1,Zfp,Zfr]
 refine Ze (i:=8) rfl (by kernel_rfl) (fun K hK=>?_);(try rw [if_pos (by kernel_rfl)]);go_simp;refine (Zet 1 2 x6 (by decide) (by decide) (by decide) (by decide)).mono ?_;rintro e x7 ⟨h2,vn,vA,vk,vc,vm,vB,vj,vd,rfl,hv⟩;replace hu:=hu.below h2;replace c0:=Zb h2 c0;replace c1:=Zb h2 c1;replace c2':=Zb h2 c2';replace c3':=Zb h2 c3';replace y2:=Za (y2.out.below h2);replace l3:=Za (l3.out.below h2);replace l4:=Za (l4.out.below h2);replace hB11:=Za (hB11.out.trans (Below.mono h2 hB11.out.size));clear h2;refine hK.out _ _ (fun _=>⟨c0,c1,c2',c3'⟩) ?_;clear hK K
 try simp only [Act.put,Zf1,Zfp,Zfr]
 obtain ⟨gl,hgl⟩ : ∃ g,x7.heap.size = g:=⟨_,rfl⟩;obtain ⟨Vl,hVl,ql,hbl⟩:=Zaz (w:=x7) 45 #[.bool un,.slice uA uk uc,.bool um,.slice uB uj ud,.bool vn,.slice vA vk vc,.bool vm,.slice vB vj vd];rw [hgl] at ql;have hFl:=(FL.two ql (hu.below hbl) (hv.below hbl)).xl;refine Ze (i:=9) rfl (by kernel_rfl) (fun K hK=>?_);(try rw [if_pos (by kernel_rfl)]);go_simp;(try rw [hgl]);(try rw [hVl]);clear hVl;replace c0:=Zb hbl c0;replace c1:=Zb hbl c1;replace c2':=Zb hbl c2';replace c3':=Zb hbl c3';replace y2:=Za (y2.out.below hbl);replace l3:=Za (l3.out.below hbl);replace l4:=Za (l4.out.below hbl);replace hB11:=Za (hB11.out.trans (Below.mono hbl hB11.out.size));clear hbl;refine hK.out _ _ (fun _=>⟨c0,c1,c2',c3'⟩) ?_;clear hK K
 try simp only [Act.put,Zf1,Zfp,Zfr]
 rw [show [Rat.divInt 1 6,Rat.divInt 1 2].map dfQ = [dfQ (1 / 6),dfQ (1 / 2)] by
  simp only [List.map_cons,List.map_nil]
  rw [show Rat.divInt 1 6 = (1 / 6) by decide +kernel,show Rat.divInt 1 2 = (1 / 2) by decide +kernel]] at hFl
 refine Ze (i:=10) rfl (by kernel_rfl) (fun K hK=>?_);(try rw [if_pos (by kernel_rfl)]);go_simp;refine (Zh8 A9 (some ⟨gl,0,none⟩) 2 c9 2 _ Vl (y2.out) hFl).mono ?_;rintro e x8 ⟨rfl,h4⟩;replace c0:=Zb h4 c0;replace c1:=Zb h4 c1;replace c2':=Zb h4 c2';replace c3':=Zb h4 c3';replace y2:=Za (y2.out.below h4);replace l3:=Za (l3.out.below h4);replace l4:=Za (l4.out.below h4);replace hB11:=Za (hB11.out.trans (Below.mono h4 hB11.out.size));clear h4;refine hK.out _ _ (fun _=>⟨c0,c1,c2',c3'⟩) ?_;clear hK K
 try simp only [Act.put,Zf1,Zfp,Zfr]
 clear hFl ql hu hv;refine Zix 3 [11,12,13] rfl (by kernel_rfl) ⟨c0,c1,c2',c3'⟩ ?_
 iterate 3 (refine tk1 (v:=?_) rfl (Or.inl ⟨by kernel_rfl,?_⟩) ?_;rotate_left;(· intro W2 hSw;(try dsimp only at hSw);go_simp;try with_reducible rfl);try simp only [Act.put,Zf1,Zfp,Zfr,putG_a,putG_s,putG_z])
 refine tk0 ?_;refine Ze (i:=14) rfl (by kernel_rfl) (fun K hK=>?_);(try rw [if_pos (by kernel_rfl)]);go_simp;refine (Zet 1 6 x8 (by decide) (by decide) (by decide) (by decide)).mono ?_;rintro e x9 ⟨hx1,pn,pA,pk,pc,pm,pB,pj,pd,rfl,hp⟩;rw [show Rat.divInt 1 6 = 1 / 6 by decide +kernel] at hp;obtain ⟨e1,e2,m1,m2⟩:=hp.df;replace l3:=Za (l3.out.below hx1);replace l4:=Za (l4.out.below hx1);replace hB11:=Za (hB11.out.trans (Below.mono hx1 hB11.out.size));replace c0:=Zb hx1 c0;replace c1:=Zb hx1 c1;replace c2':=Zb hx1 c2';replace c3':=Zb hx1 c3';refine hK.out _ _ (fun _=>⟨c0,c1,c2',c3'⟩) ?_;clear hK K
 try simp only [Act.put,Zf1,Zfp,Zfr]
 subst e1 e2;refine Ze (i:=15) rfl (by kernel_rfl) (fun K hK=>?_);(try rw [if_pos (by kernel_rfl)]);go_simp;refine (Zdl (dfQ (1 / 6)).na (dfQ (1 / 6)).nb sA sB pA pB sk sc sj sd pk pc pj pd (dfQ (1 / 6)).la (dfQ (1 / 6)).lb x9 l3.out l4.out m1 m2).mono ?_;rintro e x10 ⟨rfl,hx2⟩;replace hB11:=Za (hB11.out.trans (Below.mono hx2 hB11.out.size));replace c0:=Zb hx2 c0;replace c1:=Zb hx2 c1;replace c2':=Zb hx2 c2';replace c3':=Zb hx2 c3';refine hK.out _ _ (fun _=>⟨c0,c1,c2',c3'⟩) ?_;clear hK K
 try simp only [Act.put,Zf1,Zfp,Zfr]
 refine Zix 1 [16] rfl (by kernel_rfl) ⟨c0,c1,c2',c3'⟩ ?_
 (refine tk1 (v:=?_) rfl (Or.inl ⟨by kernel_rfl,?_⟩) ?_;rotate_left;(· intro W2 hSw;(try dsimp only at hSw);go_simp;try with_reducible rfl);try simp only [Act.put,Zf1,Zfp,Zfr,putG_a,putG_s,putG_z])
 refine tk0 ?_;refine Zfs 1 [17] rfl (by kernel_rfl) ⟨c0,c1,c2',c3'⟩ ?_
 (refine tk1 (v:=?_) rfl (Or.inl ⟨by kernel_rfl,?_⟩) ?_;rotate_left;(· intro W2 _;go_simp;try with_reducible rfl);try simp only [Act.put,Zf1,Zfp,Zfr,putG_a,putG_s,putG_z])
 refine tk0 ?_;refine Zm (by kernel_rfl) ?_ _;refine OnlyNormal.normal ?_;clear c0 c1 c2' c3';go_wp2_with fail;go_ret;exact ⟨rfl,hB11.out⟩
theorem Zm3 {Q : List (List Rat)} {n k : Nat} (h : SmE k Q) (hl : Q.length = n) (hn : n <= 900) (hrow : ∀ i,i < n -> (Q[i]?.getD []).length = n) (h1 : (k * n + k + 1) * n < 198) (h2 : k * n + k < 900) (h3 : k * n * n < 4096) :
    Zro Q n /\ Zph Q = Zab n (Zn Q) /\ (Zab n (Zn Q)).num.natAbs <= pw ((k * n + k + 1) * n) /\ (Zab n (Zn Q)).den <= pw (k * n * n):=by
 obtain ⟨o1,-,-⟩:=Zmy (B:=pw (k * n + k)) (S:=pw (k * n)) (Zbn _) (Zbn _) Q hl hrow (fun i hi=>h.denAt (hrow i hi)) (fun i j hi=>h.whole (hrow i hi) j) (Nat.le_refl n);obtain ⟨d1,d2,d3⟩:=Zo8 (B:=pw (k * n + k)) (S:=pw (k * n)) (Zbn _) (Zbn _) Q hl hrow (fun i hi=>h.denAt (hrow i hi)) (fun i j hi=>h.whole (hrow i hi) j);have hb:=Zfo (b:=k * n + k) n hn;have hbz:=h.byZ hrow n (Nat.le_refl n);have hz : Za0 (pw (k * n + k)) n < pw 200:=Nat.lt_of_le_of_lt hb (Zbs (by omega));have hp:=Zfu Q n;refine ⟨⟨Zfd hz _ _ _ _ _ o1,⟨fun i t hi ht=>?_,fun i j=>?_⟩,fun t ht=>?_,Nat.lt_of_le_of_lt (Nat.le_trans d3 hb) (Zbs (by omega)),d1⟩,d2,?_⟩
 ·refine Nat.lt_of_le_of_lt (h.denTo i t) (Zbs ?_)
  have : k * t <= k * n:=Nat.mul_le_mul (Nat.le_refl _) ht;omega
 ·exact Nat.lt_of_le_of_lt (h i j).1 (Zbs (by omega))
 ·refine Nat.lt_of_le_of_lt (h.byZ hrow t ht) (Zbs ?_)
  have : k * n * t <= k * n * n:=Nat.mul_le_mul (Nat.le_refl _) ht;omega
 ·have hbr : ((byZ Q n : Nat) : Rat) ≠ 0:=by
    intro h0
    have : byZ Q n = 0:=by exact_mod_cast h0
    omega
  have e1 : ((byZ Q n : Nat) : Rat) * Zab n (Zn Q) = (Zd4 Q : Rat):=by
   rw [<- d2,<- d1,Rat.divInt_eq_div];have : (((byZ Q n : Nat) : Int) : Rat) = ((byZ Q n : Nat) : Rat):=Rat.intCast_natCast _;rw [this]
   grind
  have h5:=Zeo (p:=Zab n (Zn Q)) ⟨_,e1,Nat.le_trans d3 hb⟩ (⟨((byZ Q n : Nat) : Int),(Rat.intCast_natCast _).symm,by simpa using hbz⟩ : BndQ (pw (k * n * n)) ((byZ Q n : Nat) : Rat)) hbr;exact h5
theorem Zlv {w : World} {A : Option Addr} {n c : Nat} {es : List FX} (h : FXL w A n c es) (hv : Zbx es = true) (i : Nat) : ((es.map FX.q)[i]?.getD 0).num.natAbs <= pw 8 /\ ((es.map FX.q)[i]?.getD 0).den <= pw 8:=by
 rw [List.getElem?_map]
 cases he : es[i]? with
 | none=>exact ⟨Nat.zero_le _,Zbn _⟩
 | some e =>
  simp only [Option.map_some,Option.getD_some];have hem:=List.mem_of_getElem? he;have hin:=h.2.2.2.1 e hem;unfold Zbx at hv;rw [List.all_eq_true] at hv;have hfi:=hv e hem;unfold FX.fine at hfi;rw [Bool.and_eq_true,decide_eq_true_eq] at hfi;have h8:=hfi.1;unfold FX.few at h8;have hfr:=(Zki hin.1 hin.2 hfi.2).num_lt;exact ⟨Nat.le_trans (Nat.le_of_lt hfr.1) (Zbt (by omega)),Nat.le_trans (Nat.le_of_lt hfr.2) (Zbt (by omega))⟩
theorem Zt5 {w : World} {A : Option Addr} {n c : Nat} {rs : List RX} (h : MXL w A n c rs) (hE : Zd0 rs = 0) : SmE 8 (qM rs):=fun i j=>by
 obtain ⟨f1,f2,f3,f4,f5⟩:=Zb4 hE;unfold Zn qM;rw [List.getElem?_map]
 cases hr : rs[i]? with
 | none=>exact Zfc 8
 | some r =>
  have hm:=List.mem_of_getElem? hr;exact Zlv (h.2.2.2.1 r hm) (f5 r hm).2 j
theorem FL.fxr {w : World} {A : Option Addr} {n c : Nat} {qs : List Rat} (h : FL w A n c qs) : ∃ es,FXL w A n c es /\ es.map FX.q = qs:=by
 obtain ⟨fs,h1,h2,h3,h4,rfl,h5⟩:=h
 have hk : ∀ e ∈ fs,e.fx.in_ w /\ e.fx.q = e.q:=fun e he=>by
  have h0 : Fr w e.na e.A e.n e.c e.nb e.B e.m e.d e.q:=h4 e he;have h2:=h0.2.2.2;rw [Int.natAbs_natCast] at h2;exact ⟨⟨h0.1.2.2,h2⟩,h0.raw.2⟩
 refine ⟨fs.map FE.fx,⟨by rw [List.length_map];exact h1,h2,h3,fun x hx=>?_,fun hn=>?_⟩,?_⟩
 ·obtain ⟨e,he,rfl⟩:=List.mem_map.1 hx
  exact (hk e he).1
 ·obtain ⟨g,o,e1,hc⟩:=h5 hn
  refine ⟨g,o,e1,fun k x hx=>?_⟩;rw [List.getElem?_map] at hx;obtain ⟨e,he,rfl⟩:=Option.map_eq_some_iff.1 hx;exact hc k e he
 ·rw [List.map_map]
  exact List.map_congr_left fun e he=>(hk e he).2
theorem MFL.mxr {w : World} {A : Option Addr} {n c : Nat} {Q : List (List Rat)} (h : MFL w A n c Q) : ∃ rs,MXL w A n c rs /\ qM rs = Q /\ ∀ (i : Nat) (r : RX),rs[i]? = some r -> r.n = (Q[i]?.getD []).length:=by
 obtain ⟨h1,h2,h3,h4⟩:=h
 rcases Nat.eq_zero_or_pos n with h0 | h0
 ·subst h0
  obtain rfl : Q = []:=List.eq_nil_of_length_eq_zero h1;exact ⟨[],⟨rfl,h2,h3,fun r hr=>(by cases hr),fun hn=>absurd hn (Nat.lt_irrefl _)⟩,rfl,fun i r hr=>(by simp at hr)⟩
 ·obtain ⟨g,o,rfl,hc⟩:=h4 h0
  obtain ⟨rs,r1,r2⟩:=Zjx (fun i (r : RX)=>w.cell? ⟨g,o + i,none⟩ = some (.slice r.A r.n r.c) /\ FXL w r.A r.n r.c r.es /\ r.es.map FX.q = Q[i]?.getD [] /\ r.n = (Q[i]?.getD []).length) n (fun i hi=>by
   have hq : Q[i]? = some Q[i]:=List.getElem?_eq_getElem (by omega);obtain ⟨A',n',c',k0,hF⟩:=hc i _ hq;obtain ⟨es,e1,e2⟩:=hF.fxr
   exact ⟨⟨A',n',c',es⟩,k0,e1,by rw [hq];exact e2,by rw [hq];exact hF.len.symm⟩)
  refine ⟨rs,⟨r1,h2,h3,fun r hr=>?_,fun _=>⟨g,o,rfl,fun k r hk=>(r2 k r hk).1⟩⟩,?_,fun i r hr=>(r2 i r hr).2.2.2⟩
  ·obtain ⟨k,hk,rfl⟩:=List.getElem_of_mem hr
   exact (r2 k _ (List.getElem?_eq_getElem hk)).2.1
  ·unfold qM
   apply List.ext_getElem?
   intro i;rw [List.getElem?_map]
   by_cases hi : i < n
   ·have hr:=List.getElem?_eq_getElem (l:=rs) (i:=i) (by omega)
    have hq : Q[i]? = some Q[i]:=List.getElem?_eq_getElem (by omega);have:=(r2 i _ hr).2.2.1;rw [hq] at this;rw [hr,hq,Option.map_some];exact congrArg some this
   ·rw [List.getElem?_eq_none (by omega),List.getElem?_eq_none (l:=Q) (by omega)];rfl
theorem Zvf {P Q : List (List Rat)} {n : Nat} : Zab n (Zn (Zgn P Q n n n)) = Zab n (Zn P) * Zab n (Zn Q):=by
 rw [<- Zru]
 refine Zav fun i j hi hj=>?_
 unfold Zn;rw [Zmr hi];unfold Zf6;rw [List.getElem?_map,List.getElem?_range hj]
 rfl
theorem MXL.reads {w : World} {A : Option Addr} {n c : Nat} {rs : List RX} (h : MXL w A n c rs) : Reads w w.heap.size 1 A n (Zal (rs.map RX.rs)):=by
 obtain ⟨h1,h2,h3,h4,h5⟩:=h;refine ⟨by rw [Zbv,List.length_map,List.length_map,h1,Nat.mul_one],fun hn=>?_⟩;obtain ⟨g,o,rfl,hc⟩:=h5 hn;have h0:=hc 0 _ (List.getElem?_eq_getElem (by omega));refine ⟨_,rfl,Zk h0,fun j u hu=>?_⟩;rw [Zbv,List.getElem?_map,List.getElem?_map] at hu
 cases hr : rs[j]? with
 | none=>rw [hr] at hu;cases hu
 | some r =>
  rw [hr] at hu
  cases hu
  rw [Zg];exact hc j r hr
theorem MXL.of_blk {w : World} {g cap : Nat} {t : TypeId} {rs : List RX} {zs : List RS} (h : Blk w g t (Z3 (rs.map RX.rs ++ zs))) (hr : ∀ r ∈ rs,FXL w r.A r.n r.c r.es) (hc : rs.length <= cap) (hm : cap <= maxLen) : MXL w (some ⟨g,0,none⟩) rs.length cap rs:=by
 refine ⟨rfl,hc,hm,hr,fun _=>⟨g,0,rfl,fun k r hk=>?_⟩⟩;rw [Nat.zero_add,h.cell]
 have : (rs.map RX.rs ++ zs)[k]? = some r.rs:=by
  rw [List.getElem?_append_left (by rw [List.length_map];exact (List.getElem?_eq_some_iff.1 hk).1),List.getElem?_map,hk];rfl
 exact Zba this
theorem Zi5 {α : Type} {l : List α} {i k : Nat} (hi : i < l.length) (hk : k < l.length) {x : α} (h : x ∈ Zx l i k) : x ∈ l:=by
 obtain ⟨j,hj,rfl⟩:=List.getElem_of_mem h;have:=Zcg (l:=l) hi hk j;rw [List.getElem?_eq_getElem hj] at this;exact List.mem_of_getElem? this.symm
theorem SmallQ.swap {Q : List (List Rat)} {n i k : Nat} (h : SmallQ Q n) (hi : i < n) (hk : k < n) (hne : i ≠ k) : SmallQ (Zx Q i k) n /\ Zab n (Zn (Zx Q i k)) = - Zab n (Zn Q):=by
 obtain ⟨h1,h2,h3,h4,h5⟩:=h
 have e : ∀ a b,Zn (Zx Q i k) a b = Zn Q (swI i k a) b:=fun a b=>Zex (by omega) (by omega) a b
 refine ⟨⟨h1,h2,by rw [Zcf,h3],fun j hj=>?_,fun a b=>by rw [e];exact h5 _ _⟩,?_⟩
 ·rw [Zcg (by omega) (by omega)]
  exact h4 _ (Zfn hi hk hj)
 ·have h6:=Zot (Zn Q) hi hk
  rw [if_neg hne] at h6;rw [<- h6]
  exact Zav fun a b _ _=>e a b
theorem Zok {rs : List RX} {zs : List RS} {i k : Nat} {x y : RX} (hi : rs[i]? = some x) (hk : rs[k]? = some y) : ((rs.map RX.rs ++ zs).set i y.rs).set k x.rs = (Zx rs i k).map RX.rs ++ zs:=by
 have hil:=(List.getElem?_eq_some_iff.1 hi).1;have hkl:=(List.getElem?_eq_some_iff.1 hk).1;rw [List.set_append_left _ _ (by rw [List.length_map];exact hil),List.set_append_left _ _ (by rw [List.length_set,List.length_map];exact hkl)]
 congr 1
 unfold Zx;rw [hi,hk];simp only [List.map_set]
theorem Zr0 {w w' : World} {A A' : Option Addr} {n c c' : Nat} {rs : List RX} {i k : Nat} (h : MXL w A n c rs) (hs : sqE rs = 0) (h' : MXL w' A' n c' (Zx rs i k)) (hi : i < n) (hk : k < n) : sqE (Zx rs i k) = 0:=by
 obtain ⟨hE1,hE2⟩:=Zd8 hs;obtain ⟨f1,f2,f3,f4,f5⟩:=Zb4 hE1;have hl:=h.1
 have hm:=Zpb h' (m:=n) (by omega) (by omega) (by omega) (by omega) (fun r hr=>by
  obtain ⟨a1,a2⟩:=f5 r (Zi5 (by omega) (by omega) hr)
  exact ⟨by rw [a1];omega,a2⟩)
 unfold sqE;rw [if_pos hm.1,if_pos (by rw [hm.2];exact h'.1)]
theorem law_det (A B : Option Addr) (n c p d : Nat) (i k : Int) (rs ss : List RX) (w : World) (h : MXL w A n c rs) (hb : MXL w B p d ss) :
    Calls Tryz.prog 6 #[.slice A n c,.slice B p d,.int .i64 i,.int .i64 k] w fun e w'=>e = .returned (.bool true) /\ Below w.heap.size w w':=by
 obtain ⟨iS,ki,kz0,kz1,kz2⟩:=info_parts Zha
 have hmx : Tryz.prog.follows .mixedOrders = true:=by kernel_rfl
 have hcm:=h.2.2.1;have hnc:=h.2.1;unfold maxLen at hcm;have hA0:=Za h;clear h;replace hb:=Za hb;go_enter Tryz.func6,Tryz.ntmps6;go_wp2_with fail;refine (Zub w).mono ?_;rintro e w1 ⟨rfl,hb1⟩;go_wp2_with fail;refine (Zhl A n c rs w1 (hA0.out.below hb1)).mono ?_;rintro e w2 ⟨b0,rfl,hb2,hc⟩;have hB2:=hb1.trans (hb2.mono hb1.size);clear hb1 hb2
 cases b0 with
 | false =>
  clear hc;go_wp2_with fail;go_ret;exact ⟨rfl,hB2⟩
 | true =>
  obtain ⟨hct,hsq,hn4⟩:=hc rfl;clear hc;have hSP:=Za (Zjm hA0.out hct.calm hsq);replace hsq:=Za hsq;clear hct;go_wp2_with fail;refine (Zhl B p d ss w2 (hb.out.below hB2)).mono ?_;rintro e w3 ⟨b0,rfl,hb3,hc⟩;have hB3:=hB2.trans (hb3.mono hB2.size);clear hB2 hb3
  cases b0 with
  | false =>
   clear hc;go_wp2_with fail;go_ret;exact ⟨rfl,hB3⟩
  | true =>
   obtain ⟨hct,hsqb,hp4⟩:=hc rfl;clear hc;have hSQ:=Za (Zjm hb.out hct.calm hsqb);replace hsqb:=Za hsqb;clear hct
   by_cases hl : n = p
   case neg =>
    have t1 : (((n : Int)) != (p : Int)) = true:=by simp;omega
    have t1' : decide ((n : Int) = (p : Int)) = false:=decide_eq_false (by omega);replace hl:=Za hl;go_wp2_with fail;go_ret;exact ⟨rfl,hB3⟩
   subst hl
   have t1 : (((n : Int)) != (n : Int)) = false:=by simp
   have hFP:=hA0.out.good (Zd8 hsq.out).1;have hFQ:=hb.out.good (Zd8 hsqb.out).1;obtain ⟨P,hP⟩ : ∃ Q,qM rs = Q:=⟨_,rfl⟩;obtain ⟨Q,hQ⟩ : ∃ Q,qM ss = Q:=⟨_,rfl⟩;have u1 : (2 * n + 2 + 1) * n <= 11 * 4:=Nat.mul_le_mul (by omega) (by omega);have u2 : 2 * n * n <= 8 * 4:=Nat.mul_le_mul (by omega) (by omega);have u3 : (8 * n + 8 + 1) * n <= 41 * 4:=Nat.mul_le_mul (by omega) (by omega);have u4 : 8 * n * n <= 32 * 4:=Nat.mul_le_mul (by omega) (by omega);obtain ⟨gP1,gP2,gP3,gP4⟩:=Zm3 hSP.out.2.2.2.2 hSP.out.2.2.1 (by omega) hSP.out.2.2.2.1 (by omega) (by omega) (by omega);obtain ⟨gQ1,gQ2,gQ3,gQ4⟩:=Zm3 hSQ.out.2.2.2.2 hSQ.out.2.2.1 (by omega) hSQ.out.2.2.2.1 (by omega) (by omega) (by omega);have KP:=Za (fun W (hW : Below w.heap.size w W)=>Zd9 A n c rs W (hA0.out.below hW) hsq.out gP1);have KQ:=Za (fun W (hW : Below w.heap.size w W)=>Zd9 B n d ss W (hb.out.below hW) hsqb.out gQ1);have hn0 : 0 < n:=hSP.out.1;have hPr:=hSP.out.2.2.2.1;have hQr:=hSQ.out.2.2.2.1;have hPP : Hid (ProdP (qM rs) (qM ss) n):=Za (Zuq (fun i j=>hSP.out.2.2.2.2.smN i j) (fun i j=>hSQ.out.2.2.2.2.smN i j) (by omega) (by decide));rw [gP2] at KP;rw [gQ2] at KQ;rw [hP] at KP hPr hPP hFP gP3 gP4;rw [hQ] at KQ hQr hPP hFQ gQ3 gQ4;obtain ⟨x,hx⟩ : ∃ x,Zab n (Zn P) = x:=⟨_,rfl⟩;obtain ⟨y,hy⟩ : ∃ y,Zab n (Zn Q) = y:=⟨_,rfl⟩;have hdp : Hid (Zab n (Zn (Zgn P Q n n n)) = x * y):=Za (by rw [Zvf,hx,hy]);rw [hx] at KP gP3 gP4;rw [hy] at KQ gQ3 gQ4
   have sx : SmN 45 45 x:=⟨Nat.lt_of_le_of_lt gP3 (Zbs (by omega)),Nat.lt_of_le_of_lt gP4 (Zbs (by omega))⟩;have sy : SmN 45 45 y:=⟨Nat.lt_of_le_of_lt gQ3 (Zbs (by omega)),Nat.lt_of_le_of_lt gQ4 (Zbs (by omega))⟩;replace sx:=Za sx;replace sy:=Za sy;replace hPr:=Za hPr;replace hQr:=Za hQr;replace hx:=Za hx;replace hP:=Za hP;replace hFP:=Za hFP;replace hFQ:=Za hFQ;clear gP1 gP2 gP3 gP4 gQ1 gQ2 gQ3 gQ4 hsqb hSQ hb hQ hy;go_wp2_with fail;refine (Zrd A B n c n d n P Q w3 (hFP.out.below hB3) (hFQ.out.below hB3) (by omega) (by omega) (by omega) hn0 hPr.out hQr.out hPP.out).mono ?_;rintro e w4 ⟨v4,L,rfl,hb4,hMO⟩
   have hLl : L.length = n:=by rw [hMO.2.1,Zja]
   obtain ⟨go,cap,rfl,hc1,hc2,hM3⟩:=hMO.mat (fun e=>by rw [e] at hLl;simp at hLl;omega);have hMF:=hM3.mfl hc1 hc2;rw [hLl] at hMF ⊢;obtain ⟨ms,hMX,hmq,hmn⟩:=hMF.mxr
   have hmn' : ∀ r ∈ ms,r.n = n:=fun r hr=>by
    obtain ⟨j,hj,rfl⟩:=List.getElem_of_mem hr
    have hjn : j < n:=by rw [<- hMX.1];exact hj
    rw [hmn j _ (List.getElem?_eq_getElem hj),Zmr hjn,Zhb]
   have hB4:=Za (hB3.trans (hb4.mono hB3.size));replace hMX:=Za hMX;replace hmq:=Za hmq;replace hmn':=Za hmn';clear hMO hM3 hLl hb4 hMF hB3 hFP hFQ hPr hQr hPP hmn;go_wp2_with fail;refine (KP.out w4 hB4.out).mono ?_;rintro e w5 ⟨xn,xA,xk,xc,xm,xB,xj,xd,rfl,hb5,hfx⟩;obtain ⟨g1,hg1⟩ : ∃ g,w5.heap.size = g:=⟨_,rfl⟩;obtain ⟨V1,hV1,q1,hbV1⟩:=Zaz (w:=w5) 45 #[.bool xn,.slice xA xk xc,.bool xm,.slice xB xj xd];rw [hg1] at q1;have hb45:=hb5.trans (hbV1.mono hb5.size);replace hfx:=Za (hfx.below hbV1);replace q1:=Za q1;replace hMX:=Za (hMX.out.below hb45);have hB5:=Za (hB4.out.trans (hb45.mono hB4.out.size));clear hb5 hbV1 hb45 hB4 KP;go_wp2_with fail;(try rw [hg1]);(try rw [hV1]);clear hV1;replace hg1:=Za hg1;refine (KQ.out V1 hB5.out).mono ?_;rintro e w6 ⟨yn,yA,yk,yc,ym,yB,yj,yd,rfl,hb6,hfy⟩;obtain ⟨g2,hg2⟩ : ∃ g,w6.heap.size = g:=⟨_,rfl⟩;obtain ⟨V2,hV2,q2,hbV2⟩:=Zaz (w:=w6) 45 #[.bool yn,.slice yA yk yc,.bool ym,.slice yB yj yd];rw [hg2] at q2;have hb56:=hb6.trans (hbV2.mono hb6.size);replace hfx:=Za (hfx.out.below hb56);replace hfy:=Za (hfy.below hbV2);replace q1:=Za (Zc hb56 q1.out);replace hMX:=Za (hMX.out.below hb56);have hB6:=Za (hB5.out.trans (hb56.mono hB5.out.size));obtain ⟨c0,c1',c2,c3,-⟩:=q1.out.four;obtain ⟨d0,d1,d2,d3,-⟩:=q2.four;have okx:=Za hfx.out.raw.1;have oky:=Za hfy.out.raw.1;obtain ⟨lx1,lx2,lx3,lx4⟩:=hfx.out.lims;obtain ⟨ly1,ly2,ly3,ly4⟩:=hfy.out.lims;have fx : max xk xj <= 45:=hfx.out.few sx.out.1 sx.out.2;have fy : max yk yj <= 45:=hfy.out.few sy.out.1 sy.out.2
   have t2 : decide ((400 : Int) < ((max xk xj : Nat) : Int)) = false:=decide_eq_false (by omega);have t2' : decide (400 < max xk xj) = false:=decide_eq_false (by omega);have t3 : decide ((400 : Int) < ((max yk yj : Nat) : Int)) = false:=decide_eq_false (by omega);have t3' : decide (400 < max yk yj) = false:=decide_eq_false (by omega);replace lx1:=Za lx1;replace lx2:=Za lx2;replace ly1:=Za ly1;replace ly2:=Za ly2;replace q2:=Za q2;clear hb6 hbV2 hb56 hB5 KQ;go_wp2_with fail;(try rw [hg2]);(try rw [hV2]);clear hV2;replace hg2:=Za hg2;refine (Zf9 xn xm xA xB xk xc xj xd _ _ V2 lx1.out lx2.out true okx.out).mono ?_;rintro e z1 ⟨rfl,hz1⟩;simp only [Zes];replace c0:=Zb hz1 c0;replace c1':=Zb hz1 c1';replace c2:=Zb hz1 c2;replace c3:=Zb hz1 c3;replace d0:=Zb hz1 d0;replace d1:=Zb hz1 d1;replace d2:=Zb hz1 d2;replace d3:=Zb hz1 d3;go_wp2_with fail;refine (Zf9 yn ym yA yB yk yc yj yd _ _ z1 (ly1.out.below hz1) (ly2.out.below hz1) true oky.out).mono ?_;rintro e z2 ⟨rfl,hz2⟩;simp only [Zes];have hz12:=hz1.trans (hz2.mono hz1.size);replace c0:=Zb hz2 c0;replace c1':=Zb hz2 c1';replace c2:=Zb hz2 c2;replace c3:=Zb hz2 c3;replace d0:=Zb hz2 d0;replace d1:=Zb hz2 d1;replace d2:=Zb hz2 d2;replace d3:=Zb hz2 d3;clear hz1 hz2 okx oky lx1 lx2 ly1 ly2;go_wp2_with fail;refine (Znd xn xm xA xB xk xc xj xd z2 lx3 lx4).mono ?_;rintro e z3 ⟨rfl,hz3⟩;have hz13:=hz12.trans (hz3.mono hz12.size);replace d0:=Zb hz3 d0;replace d1:=Zb hz3 d1;replace d2:=Zb hz3 d2;replace d3:=Zb hz3 d3
   clear c0 c1' c2 c3 hz12 hz3;go_wp2_with fail;refine (Znd yn ym yA yB yk yc yj yd z3 ly3 ly4).mono ?_;rintro e z4 ⟨rfl,hz4⟩;have hz14:=hz13.trans (hz4.mono hz13.size);have hB7:=Za (hB6.out.trans (hz14.mono hB6.out.size));replace hfx:=Za (hfx.out.below hz14);replace hfy:=Za (hfy.out.below hz14);replace q1:=Za (Zc hz14 q1.out);replace q2:=Za (Zc hz14 q2.out);replace hMX:=Za (hMX.out.below hz14);clear d0 d1 d2 d3 hz13 hz4 hz14 hB6 fx fy lx3 lx4 ly3 ly4;obtain ⟨E,hE⟩ : ∃ E,Zd0 ms = E:=⟨_,rfl⟩;replace hE:=Za hE;go_wp2_with fail;refine (Zjn (some ⟨go,0,none⟩) n cap ms z4 hMX.out E hE.out).mono ?_;rintro e w7 ⟨rfl,hb7⟩;have hB8:=Za (hB7.out.trans (hb7.mono hB7.out.size));replace hfx:=Za (hfx.out.below hb7);replace hfy:=Za (hfy.out.below hb7);replace q1:=Za (Zc hb7 q1.out);replace q2:=Za (Zc hb7 q2.out);replace hMX:=Za (hMX.out.below hb7);clear hb7 hB7
   by_cases hE0 : E = 0
   ·subst hE0
    have hm0 : Zd0 ms = 0:=hE.out;have hsm:=Zt5 hMX.out hm0
    have hn0R : n0R ms = n:=by
     obtain ⟨r0,hr0⟩ : ∃ r,ms[0]? = some r:=⟨_,List.getElem?_eq_getElem (by rw [hMX.out.1];exact hn0)⟩;unfold n0R;rw [hr0];exact hmn'.out r0 (List.mem_of_getElem? hr0)
    have hsm2 : sqE ms = 0:=by
     unfold sqE;rw [if_pos hm0,if_pos (by rw [hn0R];exact hMX.out.1)]
    have hmrow:=Znu hMX.out hm0;rw [hn0R] at hmrow;obtain ⟨gm1,gm2,-⟩:=Zm3 hsm (Zq8 hMX.out) (by omega) hmrow (by omega) (by omega) (by omega);have KM:=Za (Zd9 (some ⟨go,0,none⟩) n cap ms w7 hMX.out hsm2 gm1);rw [gm2,hmq.out,hdp.out] at KM;have q1':=q1.out;have q2':=q2.out;clear hm0 hsm hn0R hsm2 hmrow gm1 gm2;go_wp2_with fail;refine KM.out.mono ?_;rintro e x1 ⟨pn,pA,pk,pc,pm,pB,pj,pd,rfl,hxb,hfp⟩;obtain ⟨g3,hg3⟩ : ∃ g,x1.heap.size = g:=⟨_,rfl⟩;obtain ⟨V3,hV3,q3,hbV3⟩:=Zaz (w:=x1) 45 #[.bool pn,.slice pA pk pc,.bool pm,.slice pB pj pd];rw [hg3] at q3;have hb73:=hxb.trans (hbV3.mono hxb.size);replace q1:=Za (Zc hb73 q1.out);replace q2:=Za (Zc hb73 q2.out);replace hfx:=Za (hfx.out.below hb73);replace hfy:=Za (hfy.out.below hb73);replace hfp:=Za (hfp.below hbV3);have hB9:=Za (hB8.out.trans (hb73.mono hB8.out.size));obtain ⟨c0,c1',c2,c3,-⟩:=q1.out.four;obtain ⟨d0,d1,d2,d3,-⟩:=q2.out.four;replace q3:=Za q3;clear KM hxb hbV3 hb73 hB8 hMX q1' q2';go_wp2_with fail;(try rw [hg3]);(try rw [hV3]);clear hV3;replace hg3:=Za hg3;refine (Zl7 xn xm yn ym xA xB yA yB xk xc xj xd yk yc yj yd _ _ V3 hfx.out hfy.out (sx.out.sm (by decide) (by decide)) (sy.out.sm (by decide) (by decide))).mono ?_;rintro e x2 ⟨hxb,tn,tA,tk,tc,tm,tB,tj,td,rfl,hft⟩;obtain ⟨g4,hg4⟩ : ∃ g,x2.heap.size = g:=⟨_,rfl⟩;obtain ⟨V4,hV4,q4,hbV4⟩:=Zaz (w:=x2) 45 #[.bool tn,.slice tA tk tc,.bool tm,.slice tB tj td];rw [hg4] at q4;have hb24:=hxb.trans (hbV4.mono hxb.size);replace q1:=Za (Zc hb24 q1.out)
    replace hfx:=Za (hfx.out.below hb24);have q3':=Zc hb24 q3.out;have hfp':=hfp.out.below hb24;have hft':=hft.below hbV4;have hB10:=Za (hB9.out.trans (hb24.mono hB9.out.size));obtain ⟨a6,a7,l1,l2⟩:=hfp'.df;obtain ⟨a8,a9,l3,l4⟩:=hft'.df;subst a6 a7 a8 a9;obtain ⟨m0,m1,m2,m3,-⟩:=q3'.four;obtain ⟨o0,o1,o2,o3,-⟩:=q4.four;replace l1:=Za l1;replace l2:=Za l2;replace l3:=Za l3;replace l4:=Za l4;clear c0 c1' c2 c3 d0 d1 d2 d3 hft hxb hbV4 hb24 hB9 q3 q3' q4 hfp hfp' hft' hfy q2;go_wp2_with fail;(try rw [hg4]);(try rw [hV4]);clear hV4;replace hg4:=Za hg4;refine (Zdl _ _ pA pB tA tB pk pc pj pd tk tc tj td _ _ V4 l1.out l2.out l3.out l4.out).mono ?_;rintro e x3 ⟨rfl,hxb⟩;replace q1:=Za (Zc hxb q1.out);replace hfx:=Za (hfx.out.below hxb);have hB11:=Za (hB10.out.trans (hxb.mono hB10.out.size));clear m0 m1 m2 m3 o0 o1 o2 o3 l1 l2 l3 l4 hxb hB10
    by_cases n1 : i < 0
    case pos =>
     have a1 : decide (i < 0) = true:=decide_eq_true (by omega);replace n1:=Za n1;go_wp2_with fail;go_ret;exact ⟨rfl,hB11.out⟩
    have a1 : decide (i < 0) = false:=decide_eq_false (by omega)
    by_cases n2 : k < 0
    case pos =>
     have a2 : decide (k < 0) = true:=decide_eq_true (by omega);replace n2:=Za n2;go_wp2_with fail;go_ret;exact ⟨rfl,hB11.out⟩
    have a2 : decide (k < 0) = false:=decide_eq_false (by omega)
    by_cases n3 : (n : Int) <= i
    case pos =>
     have a3 : decide ((n : Int) <= i) = true:=decide_eq_true (by omega);replace n3:=Za n3;go_wp2_with fail;go_ret;exact ⟨rfl,hB11.out⟩
    have a3 : decide ((n : Int) <= i) = false:=decide_eq_false (by omega)
    by_cases n4 : (n : Int) <= k
    case pos =>
     have a4 : decide ((n : Int) <= k) = true:=decide_eq_true (by omega);replace n4:=Za n4;go_wp2_with fail;go_ret;exact ⟨rfl,hB11.out⟩
    have a4 : decide ((n : Int) <= k) = false:=decide_eq_false (by omega)
    by_cases n5 : i = k
    case pos =>
     have a5 : decide (i = k) = true:=decide_eq_true (by omega)
     have a5' : (i == k) = true:=by simpa using n5
     replace n5:=Za n5;go_wp2_with fail;go_ret;exact ⟨rfl,hB11.out⟩
    have a5 : decide (i = k) = false:=decide_eq_false (by omega)
    have a5' : (i == k) = false:=by simpa using n5
    obtain ⟨i',rfl⟩ : ∃ j : Nat,i = j:=⟨i.toNat,by omega⟩;obtain ⟨k',rfl⟩ : ∃ j : Nat,k = j:=⟨k.toNat,by omega⟩
    have hin : i' < n:=by omega
    have hkn : k' < n:=by omega
    have hik : i' ≠ k':=by omega
    have bi : (i' : Int) < (n : Int):=by omega
    have bk : (k' : Int) < (n : Int):=by omega
    replace n1:=Za n1;replace n2:=Za n2;replace n3:=Za n3;replace n4:=Za n4;replace n5:=Za n5;obtain ⟨g5,hg5⟩ : ∃ g,x3.heap.size = g:=⟨_,rfl⟩;obtain ⟨Y,hY⟩ : ∃ Y,x3.alloc (.cells #[] 40) = Y:=⟨_,rfl⟩
    have hBY : Below x3.heap.size x3 Y:=by rw [<- hY];exact (Below.refl _ _).alloc (Nat.le_refl _) _
    have hnil : RowS 40 Y g5 (.slice (some ⟨g5,0,none⟩) 0 0) []:=.inr ⟨g5,0,rfl,Nat.le_refl _,Nat.zero_le _,by rw [<- hY,<- hg5];exact Blk.new _ _ _⟩;have hBY2:=hB11.out.trans (hBY.mono hB11.out.size);have hMY:=hA0.out.below hBY2;have hRd:=hMY.reads;have hl5:=hMY.1
    have hg5Y : g5 <= Y.heap.size:=by rw [<- hg5];exact hBY.size
    go_wp2_with ((try rw [hY]);(try rw [hg5]);at_builtin;refine Zdh _ rfl (.tmp 130) (.tmp 131) 22 rfl g5 40 iS Tryz.underlying22 ki kz0 kz1 kz2 _ _ rfl hnil _ _ _ _ (rs.map RX.rs) rfl hRd (by rw [List.length_map];exact hl5) (by simp;omega) hg5Y ?_;intro v5 Z hO5 hgr5 hk5)
    have hBZ : Below g5 x3 Z:=by
     have:=(hBY.mono (Nat.le_of_eq hg5.symm) : Below g5 x3 Y);exact this.grown hgr5 hg5Y (fun k hk=>by cases hk;exact Nat.le_refl _)
    rw [List.nil_append] at hO5
    obtain ⟨gt,sp,rfl,hgt,hsp,hbt⟩ : ∃ g sp,v5 = .slice (some ⟨g,0,none⟩) n (n + sp) /\ g5 <= g /\ n + sp <= maxLen /\ Blk Z g 40 (Z3 (rs.map RX.rs ++ List.replicate sp Zap)):=by
     rcases hO5 with ⟨-,e⟩ | ⟨g,sp,e1,e2,e3,e4⟩
     ·exfalso
      have:=congrArg List.length e;rw [List.length_map,hl5] at this
      simp at this
      omega
     ·rw [List.length_map,hl5] at e1 e3
      exact ⟨g,sp,e1,e2,e3,e4⟩
    have hBZw : Hid (Below w.heap.size w Z):=Za (hB11.out.trans ((by rw [hg5];exact hBZ : Below x3.heap.size x3 Z).mono hB11.out.size))
    have hgw : w.heap.size <= gt:=by have:=hB11.out.size;omega
    obtain ⟨gA,oA,x1,eA,hx1,kx1,-⟩:=(hA0.out.below hBZw.out).at_ hin;obtain ⟨gA',oA',x2,eA',hx2,kx2,-⟩:=(hA0.out.below hBZw.out).at_ hkn;subst eA
    obtain ⟨rfl,rfl⟩ : gA = gA' /\ oA = oA':=by cases eA';exact ⟨rfl,rfl⟩
    have hgA : gA < w.heap.size:=by
     obtain ⟨g',o',x',e',-,k1,-⟩:=hA0.out.at_ hin
     cases e'
     exact Zk k1
    have e2:=Zok (zs:=List.replicate sp Zap) hx1 hx2;have z1:=hbt.frozen i';have ci:=hbt.cell i';rw [Zba (e:=x1.rs) (by rw [List.getElem?_append_left (by rw [List.length_map,hl5];exact hin),List.getElem?_map,hx1];rfl)] at ci;have hb1:=hbt.set_ i' (.slice x2.A x2.n x2.c);rw [show Value.slice x2.A x2.n x2.c = Value.slice x2.rs.A x2.rs.n x2.rs.c from rfl,Zb0 x2.rs] at hb1;have ck:=hb1.cell k';rw [Zba (e:=x2.rs) (by rw [List.getElem?_set_ne hik,List.getElem?_append_left (by rw [List.length_map,hl5];exact hkn),List.getElem?_map,hx2];rfl)] at ck;have z2:=hb1.frozen k';have hb2:=hb1.set_ k' (.slice x1.A x1.n x1.c);rw [show Value.slice x1.A x1.n x1.c = Value.slice x1.rs.A x1.rs.n x1.rs.c from rfl,Zb0 x1.rs,e2] at hb2;obtain ⟨Z1,hZ1⟩ : ∃ X,Z.setCell ⟨gt,i',none⟩ (.slice x2.A x2.n x2.c) = X:=⟨_,rfl⟩;have hZ1' : Z.setCell ⟨gt,i',none⟩ (.slice x2.rs.A x2.rs.n x2.rs.c) = Z1:=hZ1;rw [hZ1'] at hb1 hb2 ck z2;obtain ⟨Z2,hZ2⟩ : ∃ X,Z1.setCell ⟨gt,k',none⟩ (.slice x1.A x1.n x1.c) = X:=⟨_,rfl⟩;have hZ2' : Z1.setCell ⟨gt,k',none⟩ (.slice x1.rs.A x1.rs.n x1.rs.c) = Z2:=hZ2;rw [hZ2'] at hb2
    have hBZ1 : Below w.heap.size w Z1:=by rw [<- hZ1];exact hBZw.out.setCell hgw _
    have hBZ2 : Below w.heap.size w Z2:=by rw [<- hZ2];exact hBZ1.setCell hgw _
    have kzz : Kept (fun g=>g = gt) Z Z:=Kept.refl _ _
    have kz1 : Kept (fun g=>g = gt) Z Z1:=by rw [<- hZ1];exact kzz.set_ (p:=⟨gt,i',none⟩) (.inl rfl) _
    have kz2 : Kept (fun g=>g = gt) Z Z2:=by rw [<- hZ2];exact kz1.set_ (p:=⟨gt,k',none⟩) (.inl rfl) _
    have hgg : ¬ gA = gt:=by omega
    have kx1' : Z1.cell? ⟨gA,oA + i',none⟩ = some (.slice x1.A x1.n x1.c):=(World.cell?_of_block (kz1.block gA (Zk kx1) hgg)).trans kx1;have kx2' : Z1.cell? ⟨gA,oA + k',none⟩ = some (.slice x2.A x2.n x2.c):=(World.cell?_of_block (kz1.block gA (Zk kx2) hgg)).trans kx2;have kx1'' : Z2.cell? ⟨gA,oA + i',none⟩ = some (.slice x1.A x1.n x1.c):=(World.cell?_of_block (kz2.block gA (Zk kx1) hgg)).trans kx1;have kx2'' : Z2.cell? ⟨gA,oA + k',none⟩ = some (.slice x2.A x2.n x2.c):=(World.cell?_of_block (kz2.block gA (Zk kx2) hgg)).trans kx2
    have hswl : (Zx rs i' k').length = n:=by rw [Zcf,hl5]
    have hMZ:=MXL.of_blk (cap:=n + sp) hb2 (fun r hr=>(hA0.out.below hBZ2).2.2.2.1 r (Zi5 (by omega) (by omega) hr)) (by omega) hsp;rw [hswl] at hMZ;have hsqZ:=Zr0 (hA0.out.below hBZ2) hsq.out hMZ hin hkn
    have hqZ : qM (Zx rs i' k') = Zx P i' k':=by
     rw [<- hP.out];exact Ze9 _ _ _ _
    obtain ⟨hSZ,hdZ⟩:=SmallQ.swap hSP.out hin hkn hik;rw [hP.out] at hSZ hdZ;rw [hx.out] at hdZ;obtain ⟨gZ1,gZ2,-⟩:=hSZ.det;have gZ3:=hSZ.det.2.2;rw [<- hqZ] at gZ1;have hfr2 : Hid (Below Z.heap.size Z Z):=Za (Below.refl _ _);have KZ:=Za (Zd9 (some ⟨gt,0,none⟩) n (n + sp) (Zx rs i' k') Z2.drew hMZ hsqZ gZ1);rw [hqZ,gZ3,hdZ] at KZ;have hbzz : Hid (Kept (fun g=>g = gt) Z Z2):=Za kz2;have hq1Z:=Zc (by rw [hg5];exact hBZ : Below x3.heap.size x3 Z) q1.out
    have hgt1 : ¬ g1 = gt:=by have:=q1.out.lt;omega
    have hq1Z2:=Za (hbzz.out.blk hq1Z hgt1);have hfxZ:=Za ((hfx.out.below (by rw [hg5];exact hBZ : Below x3.heap.size x3 Z)).keptV hbzz.out hbt (Za2 _));unfold maxLen at hsp;replace hg5:=Za hg5;replace hBZ2:=Za hBZ2;clear kzz kz1 kz2 hgg hMZ hsqZ hqZ hSZ hdZ gZ1 gZ2 gZ3 hb2 hq1Z hbzz hBZ hfr2 e2 hbt hb1 hnil hRd hMY hO5 hgr5 hk5 hBY hBY2 hg5Y hBZ1 hZ1' hZ2' hx1 hx2 hY hgA eA' hswl;go_wp2_with fail;refine Zaq [] (fun wx=>wx.cell? ⟨gA,oA + i',none⟩ = some (.slice x1.A x1.n x1.c) /\ wx.cell? ⟨gA,oA + k',none⟩ = some (.slice x2.A x2.n x2.c)) hmx ⟨kx1,kx2⟩ (fun _=>?_);refine Zfs 7 [0,1,2,3,4,5,6] rfl (by kernel_rfl) ⟨kx1,kx2⟩ ?_
    iterate 7 (refine tk1 (v:=?_) rfl (Or.inl ⟨by kernel_rfl,?_⟩) ?_;rotate_left;(· intro W2 _;go_simp;try with_reducible rfl);try simp only [Act.put,Zf1,Zfp,Zfr,putG_a,putG_s,putG_z])
    refine tk0 ?_;refine Zix 1 [7] rfl (by kernel_rfl) ⟨kx1,kx2⟩ ?_
    (refine tk1 (v:=?_) rfl (Or.inl ⟨by kernel_rfl,?_⟩) ?_;rotate_left;(· intro W2 hSw;(try dsimp only at hSw);go_simp;try with_reducible rfl);try simp only [Act.put,Zf1,Zfp,Zfr,putG_a,putG_s,putG_z])
    refine tk0 ?_;refine Zfs 3 [8,9,10] rfl (by kernel_rfl) ⟨kx1,kx2⟩ ?_
    iterate 3 (refine tk1 (v:=?_) rfl (Or.inl ⟨by kernel_rfl,?_⟩) ?_;rotate_left;(· intro W2 _;go_simp;try with_reducible rfl);try simp only [Act.put,Zf1,Zfp,Zfr,putG_a,putG_s,putG_z])
    refine tk0 ?_;refine Zix 1 [11] rfl (by kernel_rfl) ⟨kx1,kx2⟩ ?_
    (refine tk1 (v:=?_) rfl (Or.inl ⟨by kernel_rfl,?_⟩) ?_;rotate_left;(· intro W2 hSw;(try dsimp only at hSw);go_simp;try with_reducible rfl);try simp only [Act.put,Zf1,Zfp,Zfr,putG_a,putG_s,putG_z])
    refine tk0 ?_;refine Zfs 1 [12] rfl (by kernel_rfl) ⟨kx1,kx2⟩ ?_
    (refine tk1 (v:=?_) rfl (Or.inl ⟨by kernel_rfl,?_⟩) ?_;rotate_left;(· intro W2 _;go_simp;try with_reducible rfl);try simp only [Act.put,Zf1,Zfp,Zfr,putG_a,putG_s,putG_z])
    refine tk0 ?_;refine Ze (i:=13) rfl (by kernel_rfl) (fun K hK=>?_);go_simp;(try rw [hZ1]);refine hK.out _ _ (fun _=>⟨kx1',kx2'⟩) ?_;clear hK K
    try simp only [Act.put,Zf1,Zfp,Zfr]
    refine Zfs 1 [14] rfl (by kernel_rfl) ⟨kx1',kx2'⟩ ?_
    (refine tk1 (v:=?_) rfl (Or.inl ⟨by kernel_rfl,?_⟩) ?_;rotate_left;(· intro W2 _;go_simp;try with_reducible rfl);try simp only [Act.put,Zf1,Zfp,Zfr,putG_a,putG_s,putG_z])
    refine tk0 ?_;refine Ze (i:=15) rfl (by kernel_rfl) (fun K hK=>?_);go_simp;(try rw [hZ2]);refine hK.out _ _ (fun _=>⟨kx1'',kx2''⟩) ?_;clear hK K
    try simp only [Act.put,Zf1,Zfp,Zfr]
    refine Zm (by kernel_rfl) ?_ _;refine OnlyNormal.normal ?_;clear kx1 kx2 kx1' kx2' kx1'' kx2'' hZ1 hZ2 z1 z2 ci ck;go_wp2_with fail;refine KZ.out.mono ?_;rintro e w8 ⟨un,uA,uk,uc,um,uB,uj,ud,rfl,hb8,hfu⟩;replace hb8:=Zq hb8;obtain ⟨g6,hg6⟩ : ∃ g,w8.heap.size = g:=⟨_,rfl⟩;obtain ⟨V6,hV6,q6,hbV6⟩:=Zaz (w:=w8) 45 #[.bool un,.slice uA uk uc,.bool um,.slice uB uj ud];rw [hg6] at q6;have hb68:=hb8.trans (hbV6.mono hb8.size);have q1Z:=Za (Zc hb68 hq1Z2.out);have hfu2:=Za (hfu.below hbV6);have hfx2:=Za (hfxZ.out.below hb68);have hB9:=Za (hBZ2.out.trans (hb68.mono hBZ2.out.size));obtain ⟨c0,c1',c2,c3,-⟩:=q1Z.out.four;clear KZ hfu hb8 hbV6 hb68 hq1Z2 hfxZ hBZ2;replace q6:=Za q6;go_wp2_with fail;(try rw [hg6]);(try rw [hV6]);clear hV6;replace hg6:=Za hg6;refine (Zoe xn xm xA xB xk xc xj xd _ V6 hfx2.out).mono ?_;rintro e w9 ⟨hb9,vn,vA,vk,vc,vm,vB,vj,vd,rfl,hfv⟩;obtain ⟨g7,hg7⟩ : ∃ g,w9.heap.size = g:=⟨_,rfl⟩;obtain ⟨V7,hV7,q7,hbV7⟩:=Zaz (w:=w9) 45 #[.bool vn,.slice vA vk vc,.bool vm,.slice vB vj vd];rw [hg7] at q7;have hb79:=hb9.trans (hbV7.mono hb9.size);have q6Z:=Zc hb79 q6.out;have hfu3:=hfu2.out.below hb79;have hfv2:=hfv.below hbV7;have hB10:=Za (hB9.out.trans (hb79.mono hB9.out.size));obtain ⟨a6,a7,l1,l2⟩:=hfu3.df;obtain ⟨a8,a9,l3,l4⟩:=hfv2.df;subst a6 a7 a8 a9;obtain ⟨m0,m1,m2,m3,-⟩:=q6Z.four;obtain ⟨o0,o1,o2,o3,-⟩:=q7.four;replace l1:=Za l1;replace l2:=Za l2;replace l3:=Za l3;replace l4:=Za l4;clear hfv hb9 hbV7 hb79 hB9 q6Z q7 hfu3 hfv2 hfu2 q6 c0 c1' c2 c3 q1Z hfx2
    go_wp2_with fail;(try rw [hg7]);(try rw [hV7]);clear hV7;replace hg7:=Za hg7;refine (Zdl _ _ uA uB vA vB uk uc uj ud vk vc vj vd _ _ V7 l1.out l2.out l3.out l4.out).mono ?_;rintro e w10 ⟨rfl,hb10⟩;have hB11:=hB10.out.trans (hb10.mono hB10.out.size);clear m0 m1 m2 m3 o0 o1 o2 o3 l1 l2 l3 l4;go_wp2_with fail;go_ret;exact ⟨rfl,hB11⟩
   ·have tE : (E == 0) = false:=by simpa using hE0
    have tE' : decide (E = 0) = false:=decide_eq_false hE0;replace hE0:=Za hE0;clear hMX
    by_cases n1 : i < 0
    case pos =>
     have a1 : decide (i < 0) = true:=decide_eq_true (by omega);replace n1:=Za n1;go_wp2_with fail;go_ret;exact ⟨rfl,hB8.out⟩
    have a1 : decide (i < 0) = false:=decide_eq_false (by omega)
    by_cases n2 : k < 0
    case pos =>
     have a2 : decide (k < 0) = true:=decide_eq_true (by omega);replace n2:=Za n2;go_wp2_with fail;go_ret;exact ⟨rfl,hB8.out⟩
    have a2 : decide (k < 0) = false:=decide_eq_false (by omega)
    by_cases n3 : (n : Int) <= i
    case pos =>
     have a3 : decide ((n : Int) <= i) = true:=decide_eq_true (by omega);replace n3:=Za n3;go_wp2_with fail;go_ret;exact ⟨rfl,hB8.out⟩
    have a3 : decide ((n : Int) <= i) = false:=decide_eq_false (by omega)
    by_cases n4 : (n : Int) <= k
    case pos =>
     have a4 : decide ((n : Int) <= k) = true:=decide_eq_true (by omega);replace n4:=Za n4;go_wp2_with fail;go_ret;exact ⟨rfl,hB8.out⟩
    have a4 : decide ((n : Int) <= k) = false:=decide_eq_false (by omega)
    by_cases n5 : i = k
    case pos =>
     have a5 : decide (i = k) = true:=decide_eq_true (by omega)
     have a5' : (i == k) = true:=by simpa using n5
     replace n5:=Za n5;go_wp2_with fail;go_ret;exact ⟨rfl,hB8.out⟩
    have a5 : decide (i = k) = false:=decide_eq_false (by omega)
    have a5' : (i == k) = false:=by simpa using n5
    obtain ⟨i',rfl⟩ : ∃ j : Nat,i = j:=⟨i.toNat,by omega⟩;obtain ⟨k',rfl⟩ : ∃ j : Nat,k = j:=⟨k.toNat,by omega⟩
    have hin : i' < n:=by omega
    have hkn : k' < n:=by omega
    have hik : i' ≠ k':=by omega
    have bi : (i' : Int) < (n : Int):=by omega
    have bk : (k' : Int) < (n : Int):=by omega
    replace n1:=Za n1;replace n2:=Za n2;replace n3:=Za n3;replace n4:=Za n4;replace n5:=Za n5;obtain ⟨g5,hg5⟩ : ∃ g,w7.heap.size = g:=⟨_,rfl⟩;obtain ⟨Y,hY⟩ : ∃ Y,w7.alloc (.cells #[] 40) = Y:=⟨_,rfl⟩
    have hBY : Below w7.heap.size w7 Y:=by rw [<- hY];exact (Below.refl _ _).alloc (Nat.le_refl _) _
    have hnil : RowS 40 Y g5 (.slice (some ⟨g5,0,none⟩) 0 0) []:=.inr ⟨g5,0,rfl,Nat.le_refl _,Nat.zero_le _,by rw [<- hY,<- hg5];exact Blk.new _ _ _⟩;have hBY2:=hB8.out.trans (hBY.mono hB8.out.size);have hMY:=hA0.out.below hBY2;have hRd:=hMY.reads;have hl5:=hMY.1
    have hg5Y : g5 <= Y.heap.size:=by rw [<- hg5];exact hBY.size
    go_wp2_with ((try rw [hY]);(try rw [hg5]);at_builtin;refine Zdh _ rfl (.tmp 130) (.tmp 131) 22 rfl g5 40 iS Tryz.underlying22 ki kz0 kz1 kz2 _ _ rfl hnil _ _ _ _ (rs.map RX.rs) rfl hRd (by rw [List.length_map];exact hl5) (by simp;omega) hg5Y ?_;intro v5 Z hO5 hgr5 hk5)
    have hBZ : Below g5 w7 Z:=by
     have:=(hBY.mono (Nat.le_of_eq hg5.symm) : Below g5 w7 Y);exact this.grown hgr5 hg5Y (fun k hk=>by cases hk;exact Nat.le_refl _)
    rw [List.nil_append] at hO5
    obtain ⟨gt,sp,rfl,hgt,hsp,hbt⟩ : ∃ g sp,v5 = .slice (some ⟨g,0,none⟩) n (n + sp) /\ g5 <= g /\ n + sp <= maxLen /\ Blk Z g 40 (Z3 (rs.map RX.rs ++ List.replicate sp Zap)):=by
     rcases hO5 with ⟨-,e⟩ | ⟨g,sp,e1,e2,e3,e4⟩
     ·exfalso
      have:=congrArg List.length e;rw [List.length_map,hl5] at this
      simp at this
      omega
     ·rw [List.length_map,hl5] at e1 e3
      exact ⟨g,sp,e1,e2,e3,e4⟩
    have hBZw : Hid (Below w.heap.size w Z):=Za (hB8.out.trans ((by rw [hg5];exact hBZ : Below w7.heap.size w7 Z).mono hB8.out.size))
    have hgw : w.heap.size <= gt:=by have:=hB8.out.size;omega
    obtain ⟨gA,oA,x1,eA,hx1,kx1,-⟩:=(hA0.out.below hBZw.out).at_ hin;obtain ⟨gA',oA',x2,eA',hx2,kx2,-⟩:=(hA0.out.below hBZw.out).at_ hkn;subst eA
    obtain ⟨rfl,rfl⟩ : gA = gA' /\ oA = oA':=by cases eA';exact ⟨rfl,rfl⟩
    have hgA : gA < w.heap.size:=by
     obtain ⟨g',o',x',e',-,k1,-⟩:=hA0.out.at_ hin
     cases e'
     exact Zk k1
    have e2:=Zok (zs:=List.replicate sp Zap) hx1 hx2;have z1:=hbt.frozen i';have ci:=hbt.cell i';rw [Zba (e:=x1.rs) (by rw [List.getElem?_append_left (by rw [List.length_map,hl5];exact hin),List.getElem?_map,hx1];rfl)] at ci;have hb1:=hbt.set_ i' (.slice x2.A x2.n x2.c);rw [show Value.slice x2.A x2.n x2.c = Value.slice x2.rs.A x2.rs.n x2.rs.c from rfl,Zb0 x2.rs] at hb1;have ck:=hb1.cell k';rw [Zba (e:=x2.rs) (by rw [List.getElem?_set_ne hik,List.getElem?_append_left (by rw [List.length_map,hl5];exact hkn),List.getElem?_map,hx2];rfl)] at ck;have z2:=hb1.frozen k';have hb2:=hb1.set_ k' (.slice x1.A x1.n x1.c);rw [show Value.slice x1.A x1.n x1.c = Value.slice x1.rs.A x1.rs.n x1.rs.c from rfl,Zb0 x1.rs,e2] at hb2;obtain ⟨Z1,hZ1⟩ : ∃ X,Z.setCell ⟨gt,i',none⟩ (.slice x2.A x2.n x2.c) = X:=⟨_,rfl⟩;have hZ1' : Z.setCell ⟨gt,i',none⟩ (.slice x2.rs.A x2.rs.n x2.rs.c) = Z1:=hZ1;rw [hZ1'] at hb1 hb2 ck z2;obtain ⟨Z2,hZ2⟩ : ∃ X,Z1.setCell ⟨gt,k',none⟩ (.slice x1.A x1.n x1.c) = X:=⟨_,rfl⟩;have hZ2' : Z1.setCell ⟨gt,k',none⟩ (.slice x1.rs.A x1.rs.n x1.rs.c) = Z2:=hZ2;rw [hZ2'] at hb2
    have hBZ1 : Below w.heap.size w Z1:=by rw [<- hZ1];exact hBZw.out.setCell hgw _
    have hBZ2 : Below w.heap.size w Z2:=by rw [<- hZ2];exact hBZ1.setCell hgw _
    have kzz : Kept (fun g=>g = gt) Z Z:=Kept.refl _ _
    have kz1 : Kept (fun g=>g = gt) Z Z1:=by rw [<- hZ1];exact kzz.set_ (p:=⟨gt,i',none⟩) (.inl rfl) _
    have kz2 : Kept (fun g=>g = gt) Z Z2:=by rw [<- hZ2];exact kz1.set_ (p:=⟨gt,k',none⟩) (.inl rfl) _
    have hgg : ¬ gA = gt:=by omega
    have kx1' : Z1.cell? ⟨gA,oA + i',none⟩ = some (.slice x1.A x1.n x1.c):=(World.cell?_of_block (kz1.block gA (Zk kx1) hgg)).trans kx1;have kx2' : Z1.cell? ⟨gA,oA + k',none⟩ = some (.slice x2.A x2.n x2.c):=(World.cell?_of_block (kz1.block gA (Zk kx2) hgg)).trans kx2;have kx1'' : Z2.cell? ⟨gA,oA + i',none⟩ = some (.slice x1.A x1.n x1.c):=(World.cell?_of_block (kz2.block gA (Zk kx1) hgg)).trans kx1;have kx2'' : Z2.cell? ⟨gA,oA + k',none⟩ = some (.slice x2.A x2.n x2.c):=(World.cell?_of_block (kz2.block gA (Zk kx2) hgg)).trans kx2
    have hswl : (Zx rs i' k').length = n:=by rw [Zcf,hl5]
    have hMZ:=MXL.of_blk (cap:=n + sp) hb2 (fun r hr=>(hA0.out.below hBZ2).2.2.2.1 r (Zi5 (by omega) (by omega) hr)) (by omega) hsp;rw [hswl] at hMZ;have hsqZ:=Zr0 (hA0.out.below hBZ2) hsq.out hMZ hin hkn
    have hqZ : qM (Zx rs i' k') = Zx P i' k':=by
     rw [<- hP.out];exact Ze9 _ _ _ _
    obtain ⟨hSZ,hdZ⟩:=SmallQ.swap hSP.out hin hkn hik;rw [hP.out] at hSZ hdZ;rw [hx.out] at hdZ;obtain ⟨gZ1,gZ2,-⟩:=hSZ.det;have gZ3:=hSZ.det.2.2;rw [<- hqZ] at gZ1;have hfr2 : Hid (Below Z.heap.size Z Z):=Za (Below.refl _ _);have KZ:=Za (Zd9 (some ⟨gt,0,none⟩) n (n + sp) (Zx rs i' k') Z2.drew hMZ hsqZ gZ1);rw [hqZ,gZ3,hdZ] at KZ;have hbzz : Hid (Kept (fun g=>g = gt) Z Z2):=Za kz2;have hq1Z:=Zc (by rw [hg5];exact hBZ : Below w7.heap.size w7 Z) q1.out
    have hgt1 : ¬ g1 = gt:=by have:=q1.out.lt;omega
    have hq1Z2:=Za (hbzz.out.blk hq1Z hgt1);have hfxZ:=Za ((hfx.out.below (by rw [hg5];exact hBZ : Below w7.heap.size w7 Z)).keptV hbzz.out hbt (Za2 _));unfold maxLen at hsp;replace hg5:=Za hg5;replace hBZ2:=Za hBZ2;clear kzz kz1 kz2 hgg hMZ hsqZ hqZ hSZ hdZ gZ1 gZ2 gZ3 hb2 hq1Z hbzz hBZ hfr2 e2 hbt hb1 hnil hRd hMY hO5 hgr5 hk5 hBY hBY2 hg5Y hBZ1 hZ1' hZ2' hx1 hx2 hY hgA eA' hswl;go_wp2_with fail;refine Zaq [] (fun wx=>wx.cell? ⟨gA,oA + i',none⟩ = some (.slice x1.A x1.n x1.c) /\ wx.cell? ⟨gA,oA + k',none⟩ = some (.slice x2.A x2.n x2.c)) hmx ⟨kx1,kx2⟩ (fun _=>?_);refine Zfs 7 [0,1,2,3,4,5,6] rfl (by kernel_rfl) ⟨kx1,kx2⟩ ?_
    iterate 7 (refine tk1 (v:=?_) rfl (Or.inl ⟨by kernel_rfl,?_⟩) ?_;rotate_left;(· intro W2 _;go_simp;try with_reducible rfl);try simp only [Act.put,Zf1,Zfp,Zfr,putG_a,putG_s,putG_z])
    refine tk0 ?_;refine Zix 1 [7] rfl (by kernel_rfl) ⟨kx1,kx2⟩ ?_
    (refine tk1 (v:=?_) rfl (Or.inl ⟨by kernel_rfl,?_⟩) ?_;rotate_left;(· intro W2 hSw;(try dsimp only at hSw);go_simp;try with_reducible rfl);try simp only [Act.put,Zf1,Zfp,Zfr,putG_a,putG_s,putG_z])
    refine tk0 ?_;refine Zfs 3 [8,9,10] rfl (by kernel_rfl) ⟨kx1,kx2⟩ ?_
    iterate 3 (refine tk1 (v:=?_) rfl (Or.inl ⟨by kernel_rfl,?_⟩) ?_;rotate_left;(· intro W2 _;go_simp;try with_reducible rfl);try simp only [Act.put,Zf1,Zfp,Zfr,putG_a,putG_s,putG_z])
    refine tk0 ?_;refine Zix 1 [11] rfl (by kernel_rfl) ⟨kx1,kx2⟩ ?_
    (refine tk1 (v:=?_) rfl (Or.inl ⟨by kernel_rfl,?_⟩) ?_;rotate_left;(· intro W2 hSw;(try dsimp only at hSw);go_simp;try with_reducible rfl);try simp only [Act.put,Zf1,Zfp,Zfr,putG_a,putG_s,putG_z])
    refine tk0 ?_;refine Zfs 1 [12] rfl (by kernel_rfl) ⟨kx1,kx2⟩ ?_
    (refine tk1 (v:=?_) rfl (Or.inl ⟨by kernel_rfl,?_⟩) ?_;rotate_left;(· intro W2 _;go_simp;try with_reducible rfl);try simp only [Act.put,Zf1,Zfp,Zfr,putG_a,putG_s,putG_z])
    refine tk0 ?_;refine Ze (i:=13) rfl (by kernel_rfl) (fun K hK=>?_);go_simp;(try rw [hZ1]);refine hK.out _ _ (fun _=>⟨kx1',kx2'⟩) ?_;clear hK K
    try simp only [Act.put,Zf1,Zfp,Zfr]
    refine Zfs 1 [14] rfl (by kernel_rfl) ⟨kx1',kx2'⟩ ?_
    (refine tk1 (v:=?_) rfl (Or.inl ⟨by kernel_rfl,?_⟩) ?_;rotate_left;(· intro W2 _;go_simp;try with_reducible rfl);try simp only [Act.put,Zf1,Zfp,Zfr,putG_a,putG_s,putG_z])
    refine tk0 ?_;refine Ze (i:=15) rfl (by kernel_rfl) (fun K hK=>?_);go_simp;(try rw [hZ2]);refine hK.out _ _ (fun _=>⟨kx1'',kx2''⟩) ?_;clear hK K
    try simp only [Act.put,Zf1,Zfp,Zfr]
    refine Zm (by kernel_rfl) ?_ _;refine OnlyNormal.normal ?_;clear kx1 kx2 kx1' kx2' kx1'' kx2'' hZ1 hZ2 z1 z2 ci ck;go_wp2_with fail;refine KZ.out.mono ?_;rintro e w8 ⟨un,uA,uk,uc,um,uB,uj,ud,rfl,hb8,hfu⟩;replace hb8:=Zq hb8;obtain ⟨g6,hg6⟩ : ∃ g,w8.heap.size = g:=⟨_,rfl⟩;obtain ⟨V6,hV6,q6,hbV6⟩:=Zaz (w:=w8) 45 #[.bool un,.slice uA uk uc,.bool um,.slice uB uj ud];rw [hg6] at q6;have hb68:=hb8.trans (hbV6.mono hb8.size);have q1Z:=Za (Zc hb68 hq1Z2.out);have hfu2:=Za (hfu.below hbV6);have hfx2:=Za (hfxZ.out.below hb68);have hB9:=Za (hBZ2.out.trans (hb68.mono hBZ2.out.size));obtain ⟨c0,c1',c2,c3,-⟩:=q1Z.out.four;clear KZ hfu hb8 hbV6 hb68 hq1Z2 hfxZ hBZ2;replace q6:=Za q6;go_wp2_with fail;(try rw [hg6]);(try rw [hV6]);clear hV6;replace hg6:=Za hg6;refine (Zoe xn xm xA xB xk xc xj xd _ V6 hfx2.out).mono ?_;rintro e w9 ⟨hb9,vn,vA,vk,vc,vm,vB,vj,vd,rfl,hfv⟩;obtain ⟨g7,hg7⟩ : ∃ g,w9.heap.size = g:=⟨_,rfl⟩;obtain ⟨V7,hV7,q7,hbV7⟩:=Zaz (w:=w9) 45 #[.bool vn,.slice vA vk vc,.bool vm,.slice vB vj vd];rw [hg7] at q7;have hb79:=hb9.trans (hbV7.mono hb9.size);have q6Z:=Zc hb79 q6.out;have hfu3:=hfu2.out.below hb79;have hfv2:=hfv.below hbV7;have hB10:=Za (hB9.out.trans (hb79.mono hB9.out.size));obtain ⟨a6,a7,l1,l2⟩:=hfu3.df;obtain ⟨a8,a9,l3,l4⟩:=hfv2.df;subst a6 a7 a8 a9;obtain ⟨m0,m1,m2,m3,-⟩:=q6Z.four;obtain ⟨o0,o1,o2,o3,-⟩:=q7.four;replace l1:=Za l1;replace l2:=Za l2;replace l3:=Za l3;replace l4:=Za l4;clear hfv hb9 hbV7 hb79 hB9 q6Z q7 hfu3 hfv2 hfu2 q6 c0 c1' c2 c3 q1Z hfx2
    go_wp2_with fail;(try rw [hg7]);(try rw [hV7]);clear hV7;replace hg7:=Za hg7;refine (Zdl _ _ uA uB vA vB uk uc uj ud vk vc vj vd _ _ V7 l1.out l2.out l3.out l4.out).mono ?_;rintro e w10 ⟨rfl,hb10⟩;have hB11:=hB10.out.trans (hb10.mono hB10.out.size);clear m0 m1 m2 m3 o0 o1 o2 o3 l1 l2 l3 l4;go_wp2_with fail;go_ret;exact ⟨rfl,hB11⟩
end Go.Proofs.YtigdclhagmnopaaGreat
