/- The reference's System. The reference's System, without a -/
import Derived.Deep.LoopGhost
import Derived.Test.YtigdclhagmnopaaGreatZp46
set_option maxRecDepth 100000
set_option maxHeartbeats 4000000
set_option linter.unusedSimpArgs false
set_option linter.unusedVariables false
namespace Go.Proofs.YtigdclhagmnopaaGreat
open Go.RowKit
attribute [local go_sem] Zh
theorem Zmn (w : World) : LimI w none 0 0 []:=⟨rfl,Nat.le_refl _,Nat.zero_le _,by simp,fun h=>absurd h (by omega)⟩
def CD (D M : Nat) (q : Rat) : Prop:=∃ z : Int,q = (z : Rat) / (D : Rat) /\ z.natAbs <= M
section
variable {D M N : Nat} {p q : Rat}
theorem CD.mono (h : CD D M q) (hM : M <= N) : CD D N q:=by
 obtain ⟨z,e,hz⟩:=h;exact ⟨z,e,Nat.le_trans hz hM⟩
theorem CD.add (h : CD D M p) (k : CD D N q) : CD D (M + N) (p + q):=by
 obtain ⟨y,e,hy⟩:=h;obtain ⟨z,f,hz⟩:=k;refine ⟨y + z,?_,by omega⟩;rw [e,f,Rat.intCast_add]
 grind
theorem CD.sub (h : CD D M p) (k : CD D N q) : CD D (M + N) (p - q):=by
 obtain ⟨y,e,hy⟩:=h;obtain ⟨z,f,hz⟩:=k;refine ⟨y - z,?_,by omega⟩;rw [e,f,Rat.intCast_sub]
 grind
theorem CD.mul {E : Nat} (h : CD D M p) (k : CD E N q) : CD (D * E) (M * N) (p * q):=by
 obtain ⟨y,e,hy⟩:=h;obtain ⟨z,f,hz⟩:=k;refine ⟨y * z,?_,by rw [Int.natAbs_mul];exact Nat.mul_le_mul hy hz⟩;rw [e,f,Rat.intCast_mul,Rat.natCast_mul]
 grind
theorem CD.whole (z : Int) : CD 1 z.natAbs (z : Rat):=⟨z,by grind,Nat.le_refl _⟩
theorem CD.lift {E : Nat} (h : CD D M q) (hE : 0 < E) : CD (D * E) (M * E) q:=by
 obtain ⟨z,e,hz⟩:=h;refine ⟨z * E,?_,by rw [Int.natAbs_mul];exact Nat.mul_le_mul hz (by omega)⟩
 have h1 : (E : Rat) ≠ 0:=by
  intro h0
  have : ((E : Int) : Rat) = ((0 : Int) : Rat):=by simpa using h0
  have:=Rat.intCast_inj.1 this;omega
 rw [e,Rat.intCast_mul,Rat.natCast_mul]
 have h2 : ((E : Int) : Rat) = (E : Rat):=by first | rfl | exact Rat.intCast_natCast E | push_cast
 rw [h2]
 grind
end
theorem Zod (A : Option Addr) (n c : Nat) (rs : List RX) (w : World) (h : MXL w A n c rs) (E : Int) (hs : sqE rs = E) (hE : E ≠ 0) :
    Calls Tryz.prog 24 #[.slice A n c] w fun e w'=>e = .returned (.tuple #[.agg #[.bool false,.slice none 0 0,.bool false,.slice none 0 0],.int .i64 E]) /\ Below w.heap.size w w':=by
 obtain ⟨W0,hW0,hB0,q0,s0⟩:=Zbp w 45 #[.bool false,.slice none 0 0,.bool false,.slice none 0 0];have t1 : decide (E ≠ 0) = true:=decide_eq_true hE
 have t1' : (E != 0) = true:=by simpa using hE
 replace h:=Za (h.below hB0);replace hs:=Za hs;replace hE:=Za hE;go_enter Tryz.func24,Tryz.ntmps24;go_wp2_with fail;(try rw [hW0]);refine (Zb4 A n c rs W0 h.out E hs.out).mono ?_;rintro e w1 ⟨rfl,hb1⟩;have q1:=Zb hb1 q0;obtain ⟨c0,c1,c2,c3,f0,f1,f2,f3⟩:=q1.four;go_wp2_with fail;obtain ⟨W5,hW5,hB5,q2,-,-,s5⟩:=Zad false none 0 0 false none 0 0 (hB0.trans (hb1.mono hB0.size)) (Nat.le_refl _) q1;(try rw [hW5]);obtain ⟨r0,r1,r2,r3,-⟩:=q2.four;refine bodyPost_ret (v:=.tuple #[.agg #[.bool false,.slice none 0 0,.bool false,.slice none 0 0],.int .i64 E]) (by simp [results,Tryz.results24,go_sem,r0,r1,r2,r3]) rfl ?_;exact ⟨rfl,hB5⟩
theorem Zrt (A : Option Addr) (n c : Nat) (rs : List RX) (w : World) (h : MXL w A n c rs) (hs : sqE rs = 0) (hg : Zmu (qM rs) n) :
    Calls Tryz.prog 24 #[.slice A n c] w fun e w'=>∃ na A n c nb B m d,e = .returned (.tuple #[.agg #[.bool na,.slice A n c,.bool nb,.slice B m d],.int .i64 0]) /\ Below w.heap.size w w' /\ Fr w' na A n c nb B m d (Zhr (qM rs)):=by
 obtain ⟨hE1,hE2⟩:=Zg3 hs;obtain ⟨f1,f2,f3,f4,f5⟩:=Zci hE1;have hl:=h.1;have hQr:=Zni h hE1;rw [show n0R rs = n by omega] at hQr;obtain ⟨W0,hW0,hB0,q0,s0⟩:=Zbp w 45 #[.bool false,.slice none 0 0,.bool false,.slice none 0 0];have hF:=Za ((h.good hE1).below hB0);replace h:=Za (h.below hB0);replace hs:=Za hs;replace hQr:=Za hQr
 have hn1 : 1 <= n:=by omega
 have hn12 : n <= 12:=by omega
 clear f3 f4 f5 hE1 hE2 f1 f2;go_enter Tryz.func24,Tryz.ntmps24;go_wp2_with fail;(try rw [hW0]);refine (Zb4 A n c rs W0 h.out 0 hs.out).mono ?_;rintro e w1 ⟨rfl,hb1⟩;have q1:=Zb hb1 q0;clear hW0;go_wp2_with fail;refine (Zrl A n c (qM rs) w1 (hF.out.below hb1) (by omega) (by omega) hQr.out hg.1 hg.2.1 hg.2.2.1 hg.2.2.2.1).mono ?_;rintro e w2 ⟨hb2,na,A2,n2,c2,nb,B2,m2,d2,rfl,hf2⟩;rw [hg.2.2.2.2] at hf2;have hB2:=hB0.trans ((hb1.trans (hb2.mono hb1.size)).mono hB0.size);have q2:=Zb hb2 q1;obtain ⟨c0,c1,c2',c3,f0,f1,f2,f3⟩:=q2.four;obtain ⟨W5,hW5,hB5,q5,kW,-,s5⟩:=Zad na A2 n2 c2 nb B2 m2 d2 hB2 (Nat.le_refl _) q2;have hf5:=Za (Fr.keep hf2 kW);clear hf2;go_wp2_with fail;(try rw [hW5]);obtain ⟨r0,r1,r2,r3,-⟩:=q5.four;refine bodyPost_ret (v:=.tuple #[.agg #[.bool na,.slice A2 n2 c2,.bool nb,.slice B2 m2 d2],.int .i64 0]) (by simp [results,Tryz.results24,go_sem,r0,r1,r2,r3]) rfl ?_;exact ⟨_,_,_,_,_,_,_,_,rfl,hB5,hf5.out⟩
section
variable {k n m : Nat} {R : List (List Rat)}
def Zj2 (k m n : Nat) (R : List (List Rat)) : Prop:=
    okZ (pw 200) m n 0 0 (Zl R) 1 /\ okR (pw 200) (pw 200) m n 0 0 R /\ Zd2 R n m /\ (Z0 n 0 0 (Zl R) false 1).2.1 = (Zab n 0 0 R false).2.1 /\ (Zab n 0 0 R false).2.1 <= n /\
    ((Zab n 0 0 R false).2.1 < n -> Z6 n (Zm R) = 0) /\
    ((Zab n 0 0 R false).2.1 = n -> Z6 n (Zm R) ≠ 0 /\ ∃ X : Nat -> Nat -> Rat,Zea (Zm (Zab n 0 0 R false).1) X n m /\ Zea (fun i j=>(Z7 (Z0 n 0 0 (Zl R) false 1).1 i j : Rat)) X n m /\ SolQ (Zm R) X n m /\
     ∀ i k',(X i k').num.natAbs <= pw ((k * m + k + 1) * n) /\ (X i k').den <= pw ((k * m + k + 1) * n))
theorem SmE.solve (h : SmE k R) (hl : R.length = n) (hn : n <= 900) (hrow : ∀ i,i < n -> (R[i]?.getD []).length = m) (hnm : n <= m) (h1 : (k * m + k + 1) * n + k * m < 189) (h2 : k < 189) (h3 : 2 * ((k * m + k + 1) * n) + k * m + 1 < 400) : Zj2 k m n R:=by
 unfold Zj2;have hb:=Zft (b:=k * m + k) n hn;obtain ⟨B,hB⟩ : ∃ B,Zay (pw (k * m + k)) n = B:=⟨_,rfl⟩;rw [hB] at hb;obtain ⟨b,hbe⟩ : ∃ b,(k * m + k + 1) * n = b:=⟨_,rfl⟩;rw [hbe] at hb h1 h3 ⊢
 have bb : B * B <= pw (b + b):=by rw [Zde];exact Nat.mul_le_mul hb hb
 have bs : B * pw (k * m) <= pw (b + k * m):=by rw [Zde];exact Nat.mul_le_mul hb (Nat.le_refl _)
 have g1 : (n + 1) * (B * B) < pw 400:=by
  have h5 : n + 1 <= pw 1:=by rw [Za9,Zds];omega
  have h6 : (n + 1) * (B * B) <= pw (1 + (b + b)):=by rw [Zde];exact Nat.mul_le_mul h5 bb
  exact Nat.lt_of_le_of_lt h6 (Zb5 (by omega))
 have g2 : B * B * pw (k * m) < pw 400:=by
  have h6 : B * B * pw (k * m) <= pw (b + b + k * m):=by rw [Zde];exact Nat.mul_le_mul bb (Nat.le_refl _)
  exact Nat.lt_of_le_of_lt h6 (Zb5 (by omega))
 have g3 : B * pw (k * m) < pw 300:=Nat.lt_of_le_of_lt bs (Zb5 (by omega));have hs:=Zlo (B:=pw (k * m + k)) (S:=pw (k * m)) (Zbn _) (Zbn _) R hl hrow (fun i hi=>h.denAt (hrow i hi)) (fun i j hi=>h.whole (hrow i hi) j) hnm (by rw [hB];exact g1) (by rw [hB];exact g2) (by rw [hB];exact g3);rw [hB] at hs;obtain ⟨o1,o2,o3,o4,o5,o6⟩:=hs;have p1 : B < pw 200:=Nat.lt_of_le_of_lt hb (Zb5 (by omega));have p2 : B * pw (k * m) < pw 200:=Nat.lt_of_le_of_lt bs (Zb5 (by omega));refine ⟨Zfa p1 _ _ _ _ _ o1,Zgi p1 p2 _ _ _ _ o2,⟨fun i t hi ht=>?_,fun i j=>?_⟩,o3,o4,o5,fun hr=>?_⟩
 ·refine Nat.lt_of_le_of_lt (h.denTo i t) (Zb5 ?_)
  have : k * t <= k * m:=Nat.mul_le_mul (Nat.le_refl _) ht;omega
 ·exact Nat.lt_of_le_of_lt (h i j).1 (Zb5 (by omega))
 ·obtain ⟨q1,X,q2,q3,q4,q5⟩:=o6 hr
  exact ⟨q1,X,q2,q3,q4,fun i k'=>⟨Nat.le_trans (q5 i k').1 hb,Nat.le_trans (q5 i k').2 hb⟩⟩
end
theorem Zfe {Q : List (List Rat)} {b : List Rat} {n : Nat} (hrow : ∀ i,i < n -> (Q[i]?.getD []).length = n) (hq : Q.length = n) (i j : Nat) : Zm (wideB Q b n n) i j = if i < n then (if j < n then Zm Q i j else if j = n then b[i]?.getD 0 else 0) else 0:=by
 by_cases hi : i < n
 ·rw [if_pos hi]
  unfold Zm;rw [Zi7 hi,if_pos hi];have hr:=hrow i hi
  by_cases hj : j < n
  ·rw [if_pos hj,List.getElem?_append_left (by omega)]
  ·rw [if_neg hj,List.getElem?_append_right (by omega),hr]
   by_cases hjn : j = n
   ·subst hjn;rw [if_pos rfl,Nat.sub_self];rfl
   ·rw [if_neg hjn,List.getElem?_eq_none (by simp;omega)];rfl
 ·rw [if_neg hi]
  unfold Zm;rw [List.getElem?_eq_none (l:=wideB Q b n n) (by rw [Zmg];omega)];rfl
theorem Zfr {Q : List (List Rat)} {n : Nat} (hrow : ∀ i,i < n -> (Q[i]?.getD []).length = n) (hq : Q.length = n) (i j : Nat) : Zm (wideI Q n n 0) i j = if i < n then (if j < n then Zm Q i j else if j - n < n then (if i = j - n then 1 else 0) else 0) else 0:=by
 by_cases hi : i < n
 ·rw [if_pos hi]
  unfold Zm;rw [Zi9 hi,if_pos hi];have hr:=hrow i hi
  by_cases hj : j < n
  ·rw [if_pos hj,List.getElem?_append_left (by omega)]
  ·rw [if_neg hj,List.getElem?_append_right (by omega),hr]
   unfold Zf2;rw [List.getElem?_map]
   by_cases hjn : j - n < n
   ·rw [if_pos hjn,List.getElem?_range hjn];rfl
   ·rw [if_neg hjn,List.getElem?_eq_none (by simp;omega)];rfl
 ·rw [if_neg hi]
  unfold Zm;rw [List.getElem?_eq_none (l:=wideI Q n n 0) (by rw [Zm1];omega)];rfl
theorem Zdh (k : Nat) : (0 : Rat).num.natAbs <= pw k /\ (0 : Rat).den <= pw k:=⟨Nat.zero_le _,Zbn _⟩
theorem smE_one (k : Nat) : (1 : Rat).num.natAbs <= pw k /\ (1 : Rat).den <= pw k:=⟨Zbn _,Zbn _⟩
theorem SmE.wideB {k n : Nat} {Q : List (List Rat)} {b : List Rat} (h : SmE k Q) (hb : ∀ i : Nat,(b[i]?.getD 0).num.natAbs <= pw k /\ (b[i]?.getD 0).den <= pw k) (hrow : ∀ i,i < n -> (Q[i]?.getD []).length = n) (hq : Q.length = n) : SmE k (wideB Q b n n):=fun i j=>by
 rw [Zfe hrow hq]
 split
 ·split
  ·exact h i j
  ·split
   ·exact hb i
   ·exact Zdh k
 ·exact Zdh k
theorem SmE.wideI {k n : Nat} {Q : List (List Rat)} (h : SmE k Q) (hrow : ∀ i,i < n -> (Q[i]?.getD []).length = n) (hq : Q.length = n) : SmE k (wideI Q n n 0):=fun i j=>by
 rw [Zfr hrow hq]
 split
 ·split
  ·exact h i j
  ·split
   ·split
    ·exact smE_one k
    ·exact Zdh k
   ·exact Zdh k
 ·exact Zdh k
def FracD (w : World) (d : DF) (E : Int) (e : Ending) (w' : World) : Prop:=
 ∃ A n c B m d1,e = .returned (.tuple #[.agg #[.bool d.na,.slice A n c,.bool d.nb,.slice B m d1],.int .i64 E]) /\ Below w.heap.size w w' /\ Lim w' A n c d.la /\ Lim w' B m d1 d.lb
def RowD (w : World) (ds : List DF) (E : Int) (e : Ending) (w' : World) : Prop:=
 ∃ A n c,e = .returned (.tuple #[.slice A n c,.int .i64 E]) /\ Below w.heap.size w w' /\ XL w' A n c ds
def MatD (w : World) (D : List (List DF)) (E : Int) (e : Ending) (w' : World) : Prop:=
 ∃ A n c,e = .returned (.tuple #[.slice A n c,.int .i64 E]) /\ Below w.heap.size w w' /\ XM w' A n c D
def dfZ : DF:=⟨false,[],false,[]⟩
theorem FracD.of_fr {w w' : World} {e : Ending} {q : Rat} (h : ∃ na A n c nb B m d,e = .returned (.tuple #[.agg #[.bool na,.slice A n c,.bool nb,.slice B m d],.int .i64 0]) /\ Below w.heap.size w w' /\ Fr w' na A n c nb B m d q) : FracD w (dfQ q) 0 e w':=by
 obtain ⟨na,A,n,c,nb,B,m,d,e1,hb,hf⟩:=h;have h1:=hf.1.1;have h2:=hf.2.1;have h3:=hf.2.2.2;rw [Int.natAbs_natCast] at h3
 have h4 : nb = false:=by rw [h2];exact decide_eq_false (by omega)
 subst h1 h4;exact ⟨_,_,_,_,_,_,e1,hb,hf.1.2.2,h3⟩
def SmallQ (Q : List (List Rat)) (n : Nat) : Prop:=0 < n /\ n <= 5 /\ Q.length = n /\ (∀ i,i < n -> (Q[i]?.getD []).length = n) /\ SmE 2 Q
theorem SmallQ.det {Q : List (List Rat)} {n : Nat} (h : SmallQ Q n) : Zmu Q n /\ okR (pw 190) (pw 190) n n 0 0 Q /\ Zhr Q = Z6 n (Zm Q):=by
 obtain ⟨h1,h2,h3,h4,h5⟩:=h;have hb : (2 * n + 2 + 1) * n <= 13 * 5:=Nat.mul_le_mul (by omega) (by omega);have hb2 : 2 * n * n <= 10 * 5:=Nat.mul_le_mul (by omega) (by omega);exact h5.det h3 (by omega) h4 (by omega) (by decide) (by omega)
theorem SmallQ.solveB {Q : List (List Rat)} {n : Nat} {b : List Rat} (h : SmallQ Q n) (hb : ∀ i : Nat,(b[i]?.getD 0).num.natAbs <= pw 2 /\ (b[i]?.getD 0).den <= pw 2) : Zj2 2 (n + 1) n (wideB Q b n n):=(h.2.2.2.2.wideB hb h.2.2.2.1 h.2.2.1).solve (Zmg Q b n n) (m:=n + 1) (by have:=h.2.1;omega)
 (fun i hi=>by rw [Zi7 hi,if_pos hi,List.length_append,h.2.2.2.1 i hi];rfl) (by omega)
 (by
  have h2:=h.2.1;have : (2 * (n + 1) + 2 + 1) * n <= 15 * 5:=Nat.mul_le_mul (by omega) (by omega)
  omega) (by decide)
 (by
  have h2:=h.2.1;have : (2 * (n + 1) + 2 + 1) * n <= 15 * 5:=Nat.mul_le_mul (by omega) (by omega)
  omega)
theorem SmallQ.solveI {Q : List (List Rat)} {n : Nat} (h : SmallQ Q n) : Zj2 2 (n + n) n (wideI Q n n 0):=(h.2.2.2.2.wideI h.2.2.2.1 h.2.2.1).solve (Zm1 Q n n 0) (m:=n + n) (by have:=h.2.1;omega)
 (fun i hi=>by rw [Zi9 hi,if_pos hi,List.length_append,h.2.2.2.1 i hi,Ze2]) (by omega)
 (by
  have h2:=h.2.1;have : (2 * (n + n) + 2 + 1) * n <= 23 * 5:=Nat.mul_le_mul (by omega) (by omega)
  omega) (by decide)
 (by
  have h2:=h.2.1;have : (2 * (n + n) + 2 + 1) * n <= 23 * 5:=Nat.mul_le_mul (by omega) (by omega)
  omega)
theorem OwnF.xl {t : TypeId} {w : World} {base : Nat} {v : Value} {qs : List Rat} (h : OwnF t w base v qs) : ∃ A n c,v = .slice A n c /\ XL w A n c (qs.map dfQ):=by
 obtain ⟨A,c,e,hf⟩:=h.fl;exact ⟨A,_,c,e,hf.xl⟩
theorem Zub {n : Nat} (f g : Nat -> Rat) : sumQ n (fun i=>f i + g i) = sumQ n f + sumQ n g:=by
 induction n with
 | zero=>simp only [sumQ];grind
 | succ n ih=>simp only [sumQ];rw [ih];grind
theorem Zk9 {n : Nat} (f g : Nat -> Rat) : sumQ n (fun i=>f i - g i) = sumQ n f - sumQ n g:=by
 induction n with
 | zero=>simp only [sumQ];grind
 | succ n ih=>simp only [sumQ];rw [ih];grind
theorem Zhb {n : Nat} (f : Nat -> Rat) (c : Rat) : sumQ n (fun i=>f i * c) = sumQ n f * c:=by
 induction n with
 | zero=>simp only [sumQ];grind
 | succ n ih=>simp only [sumQ];rw [ih];grind
theorem Zi5 {n m : Nat} (f : Nat -> Nat -> Rat) : sumQ n (fun r=>sumQ m (fun k=>f r k)) = sumQ m (fun k=>sumQ n (fun r=>f r k)):=by
 induction n with
 | zero=>simp only [sumQ];rw [Ze9 (fun _ _=>rfl)]
 | succ n ih=>simp only [sumQ];rw [ih,Zub]
theorem Zib (ws : List Int) (a b : Nat -> Int) (n : Nat) : ((Zbd ws a b n : Int) : Rat) = sumQ n (fun r=>(Zap ws r : Rat) * ((a r : Rat) * (b r : Rat))):=by
 induction n with
 | zero=>rfl
 | succ n ih =>
  simp only [Zbd,sumQ];rw [Rat.intCast_add,Rat.intCast_mul,Rat.intCast_mul,ih]
  rfl
section
variable (rs : List RI) (rr ws : List Int) (x : Nat -> Rat)
def Zcg (t r : Nat) : Rat:=(Zap rr r : Rat) - sumQ t (fun k=>(Zas rs k r : Rat) * x k)
def Zhl (m t : Nat) : Rat:=sumQ t (fun r=>Zcg rs rr x m r * Zcg rs rr x m r * (Zap ws r : Rat))
def Zlk (n t : Nat) : Rat:=((Zbd ws (Zap rr) (Zap rr) n : Int) : Rat) - sumQ t (fun k=>x k * ((Zbd ws (Zas rs k) (Zap rr) n : Int) : Rat))
def Zlf (n m : Nat) : Prop:=∀ i,i < m -> sumQ m (fun j=>((Zbd ws (Zas rs i) (Zas rs j) n : Int) : Rat) * x j) = ((Zbd ws (Zas rs i) (Zap rr) n : Int) : Rat)
end
section
variable {rs : List RI} {rr ws : List Int} {x : Nat -> Rat} {n m : Nat}
theorem Zrr (t r : Nat) : Zcg rs rr x (t + 1) r = Zcg rs rr x t r - (Zas rs t r : Rat) * x t:=by
 unfold Zcg;simp only [sumQ]
 grind
theorem Zry (r : Nat) : Zcg rs rr x 0 r = (Zap rr r : Rat):=by
 unfold Zcg;simp only [sumQ]
 grind
theorem Zt3 (hN : Zlf rs rr ws x n m) {k : Nat} (hk : k < m) : sumQ n (fun r=>(Zap ws r : Rat) * (Zcg rs rr x m r * (Zas rs k r : Rat))) = 0:=by
 have h1 : sumQ n (fun r=>(Zap ws r : Rat) * (Zcg rs rr x m r * (Zas rs k r : Rat))) = sumQ n (fun r=>(Zap ws r : Rat) * ((Zas rs k r : Rat) * (Zap rr r : Rat)) - sumQ m (fun j=>(Zap ws r : Rat) * ((Zas rs k r : Rat) * (Zas rs j r : Rat)) * x j)):=Zz fun r _=>by
  have h2 : sumQ m (fun j=>(Zap ws r : Rat) * ((Zas rs k r : Rat) * (Zas rs j r : Rat)) * x j) = sumQ m (fun j=>(Zas rs j r : Rat) * x j) * ((Zap ws r : Rat) * (Zas rs k r : Rat)):=by
   rw [<- Zhb]
   exact Zz fun j _=>by grind
  rw [h2];unfold Zcg
  grind
 have h3 : sumQ n (fun r=>sumQ m (fun j=>(Zap ws r : Rat) * ((Zas rs k r : Rat) * (Zas rs j r : Rat)) * x j)) = sumQ m (fun j=>((Zbd ws (Zas rs k) (Zas rs j) n : Int) : Rat) * x j):=by
  rw [Zi5]
  exact Zz fun j _=>by rw [Zhb,Zib]
 rw [h1,Zk9,h3,hN k hk,Zib]
 grind
theorem Zu2 (hN : Zlf rs rr ws x n m) : Zhl rs rr ws x m n = Zlk rs rr ws x n m:=by
 have h1 : Zhl rs rr ws x m n = sumQ n (fun r=>(Zap ws r : Rat) * (Zcg rs rr x m r * (Zap rr r : Rat)) - sumQ m (fun k=>(Zap ws r : Rat) * (Zcg rs rr x m r * (Zas rs k r : Rat)) * x k)):=Zz fun r _=>by
  have h2 : sumQ m (fun k=>(Zap ws r : Rat) * (Zcg rs rr x m r * (Zas rs k r : Rat)) * x k) = sumQ m (fun j=>(Zas rs j r : Rat) * x j) * ((Zap ws r : Rat) * Zcg rs rr x m r):=by
   rw [<- Zhb]
   exact Zz fun j _=>by grind
  have h4 : sumQ m (fun j=>(Zas rs j r : Rat) * x j) = (Zap rr r : Rat) - Zcg rs rr x m r:=by unfold Zcg;grind
  rw [h2,h4]
  grind
 have h3 : sumQ n (fun r=>sumQ m (fun k=>(Zap ws r : Rat) * (Zcg rs rr x m r * (Zas rs k r : Rat)) * x k)) = 0:=by
  rw [Zi5]
  exact Ze9 fun k hk=>by rw [Zhb,Zt3 hN hk];grind
 have h5 : sumQ n (fun r=>(Zap ws r : Rat) * (Zcg rs rr x m r * (Zap rr r : Rat))) = Zlk rs rr ws x n m:=by
  have h6 : sumQ n (fun r=>(Zap ws r : Rat) * (Zcg rs rr x m r * (Zap rr r : Rat))) = sumQ n (fun r=>(Zap ws r : Rat) * ((Zap rr r : Rat) * (Zap rr r : Rat)) - sumQ m (fun k=>x k * ((Zap ws r : Rat) * ((Zas rs k r : Rat) * (Zap rr r : Rat))))):=Zz fun r _=>by
   have h2 : sumQ m (fun k=>x k * ((Zap ws r : Rat) * ((Zas rs k r : Rat) * (Zap rr r : Rat)))) = sumQ m (fun j=>(Zas rs j r : Rat) * x j) * ((Zap ws r : Rat) * (Zap rr r : Rat)):=by
    rw [<- Zhb]
    exact Zz fun j _=>by grind
   rw [h2];unfold Zcg
   grind
  rw [h6,Zk9];unfold Zlk;rw [<- Zib,Zi5]
  congr 1
  refine Zz fun k _=>?_
  rw [Zib];have:=Zhb (n:=n) (fun r=>(Zap ws r : Rat) * ((Zas rs k r : Rat) * (Zap rr r : Rat))) (x k);rw [show x k * sumQ n (fun r=>(Zap ws r : Rat) * ((Zas rs k r : Rat) * (Zap rr r : Rat))) = sumQ n (fun r=>(Zap ws r : Rat) * ((Zas rs k r : Rat) * (Zap rr r : Rat))) * x k by grind,<- this]
  exact Zz fun r _=>by grind
 rw [h1,Zk9,h3,h5]
 grind
end
def B40 (z : Int) : Prop:=z.natAbs <= 1099511627776
theorem b40_pw : 1099511627776 <= pw 2:=by decide +kernel
section
variable {D M N : Nat} {q : Rat}
theorem CD.small (h : CD D M q) (hD : 0 < D) : q.num.natAbs <= M /\ q.den <= D:=by
 obtain ⟨z,e,hz⟩:=h
 have hD0 : ((D : Int) : Rat) ≠ 0:=by
  intro h0;have:=Rat.intCast_inj.1 (show ((D : Int) : Rat) = ((0 : Int) : Rat) by simpa using h0);omega
 have e2 : ((D : Int) : Rat) * q = (z : Rat):=by
  have h2 : ((D : Int) : Rat) = (D : Rat):=Rat.intCast_natCast D;rw [h2] at hD0 ⊢;rw [e]
  grind
 exact Zep ⟨z,e2,hz⟩ ⟨(D : Int),rfl,by simp⟩ hD0
theorem CD.sm (h : CD D M q) (hD : 0 < D) {i j : Nat} (hM : M <= pw i) (hDj : D <= pw j) (hi : i < 1000) (hj : j < 1000) : Sm q:=
 ⟨Nat.lt_of_le_of_lt (Nat.le_trans (h.small hD).1 hM) (Zb5 hi),Nat.lt_of_le_of_lt (Nat.le_trans (h.small hD).2 hDj) (Zb5 hj)⟩
theorem CD.liftL {E : Nat} (h : CD E M q) (hD : 0 < D) (hE : E = 1) : CD D (M * D) q:=by
 subst hE;have:=h.lift hD
 rwa [Nat.one_mul] at this
theorem CD.zero : CD D M 0:=⟨0,by rw [show ((0 : Int) : Rat) = 0 from rfl];grind,Nat.zero_le _⟩
theorem CD.sumQ {n : Nat} {f : Nat -> Rat} (h : ∀ i,i < n -> CD D M (f i)) : CD D (n * M) (sumQ n f):=by
 induction n with
 | zero=>exact CD.zero
 | succ n ih =>
  rw [Nat.succ_mul];exact (ih fun i hi=>h i (by omega)).add (h n (by omega))
end
theorem Zuu {B n : Nat} {Q : Nat -> Nat -> Rat} {x y : Nat -> Rat} (hQ : ∀ a b,a < n -> b < n -> BndQ B (Q a b)) (hy : ∀ a,a < n -> BndQ B (y a)) (hE : ∀ i,i < n -> sumQ n (fun j=>Q i j * x j) = y i) (h0 : Z6 n Q ≠ 0) :
    ∃ D,0 < D /\ D <= Zay B n /\ ∀ k,k < n -> CD D (Zay B n) (x k):=by
 obtain ⟨d,hd,hdb⟩:=Zge hQ
 have hd0 : d ≠ 0:=fun e=>h0 (by rw [hd,e];rfl)
 refine ⟨d.natAbs,by omega,hdb,fun k hk=>?_⟩;have hc:=Zun Q x y hE hk
 obtain ⟨z,hz,hzb⟩:=Zge (B:=B) (n:=n) (M:=fun a b=>if b = k then y a else Q a b) (fun a b ha hb=>by
  show BndQ B (if b = k then y a else Q a b)
  by_cases h : b = k
  ·rw [if_pos h];exact hy a ha
  ·rw [if_neg h];exact hQ a b ha hb)
 rw [hz,hd] at hc
 have hdr : (d : Rat) ≠ 0:=fun e=>hd0 (by exact_mod_cast e)
 rcases Int.natAbs_eq d with h | h
 ·refine ⟨z,?_,hzb⟩
  have h1 : ((d.natAbs : Nat) : Rat) = (d : Rat):=by rw [<- Rat.intCast_natCast,<- h]
  rw [h1,<- hc]
  grind
 ·refine ⟨-z,?_,by rw [Int.natAbs_neg];exact hzb⟩
  have h1 : ((d.natAbs : Nat) : Rat) = -(d : Rat):=by
   rw [<- Rat.intCast_natCast,show ((d.natAbs : Nat) : Int) = -d by omega,Rat.intCast_neg]
  rw [h1,Rat.intCast_neg,<- hc]
  grind
structure Zne (rs : List RI) (rr ws : List Int) (x : Nat -> Rat) (n m : Nat) : Prop where
 xk : ∀ k,k < m -> Sm (x k)
 f : ∀ r k,r < n -> k < m -> Sm ((Zas rs k r : Rat) * x k)
 res : ∀ r t,r < n -> t <= m -> Sm (Zcg rs rr x t r)
 sq : ∀ r,r < n -> Sm (Zcg rs rr x m r * Zcg rs rr x m r)
 wsq : ∀ r,r < n -> Sm (Zcg rs rr x m r * Zcg rs rr x m r * (Zap ws r : Rat))
 sum : ∀ t,t <= n -> Sm (Zhl rs rr ws x m t)
 c : ∀ k,k < m -> Sm ((Zbd ws (Zas rs k) (Zap rr) n : Int) : Rat)
 xc : ∀ k,k < m -> Sm (x k * ((Zbd ws (Zas rs k) (Zap rr) n : Int) : Rat))
 Zd0 : ∀ t,t <= m -> Sm (Zlk rs rr ws x n t)
theorem Zri {ws : List Int} {a b : Nat -> Int} : ∀ (n : Nat),(∀ r,r < n -> B40 (Zap ws r) /\ B40 (a r) /\ B40 (b r)) -> (Zbd ws a b n).natAbs <= n * (1099511627776 * (1099511627776 * 1099511627776))
 | 0,_=>by simp [Zbd]
 | n + 1,h=>by
  have ih:=Zri n (fun r hr=>h r (by omega));obtain ⟨h1,h2,h3⟩:=h n (by omega)
  have h4 : ((Zap ws n) * (a n * b n)).natAbs <= 1099511627776 * (1099511627776 * 1099511627776):=by
   rw [Int.natAbs_mul,Int.natAbs_mul];exact Nat.mul_le_mul h1 (Nat.mul_le_mul h2 h3)
  have h5 : Zbd ws a b (n + 1) = Zbd ws a b n + Zap ws n * (a n * b n):=rfl;rw [h5,Nat.succ_mul];exact Nat.le_trans (Int.natAbs_add_le _ _) (Nat.add_le_add ih h4)
theorem Zs6 : 200 * (1099511627776 * (1099511627776 * 1099511627776)) <= pw 4:=by decide +kernel
theorem Zgl {ws : List Int} {a b : Nat -> Int} {n : Nat} (hn : n <= 200) (h : ∀ r,r < n -> B40 (Zap ws r) /\ B40 (a r) /\ B40 (b r)) : (Zbd ws a b n).natAbs <= pw 4:=
 Nat.le_trans (Zri n h) (Nat.le_trans (Nat.mul_le_mul hn (Nat.le_refl _)) Zs6)
theorem Zdz {a b i j : Nat} (ha : a <= pw i) (hb : b <= pw j) : a * b <= pw (i + j):=by rw [Zde];exact Nat.mul_le_mul ha hb
theorem k_pw {n : Nat} (h : n <= 4294967296) : n <= pw 1:=by
 have : pw 1 = 4294967296:=by decide +kernel
 rw [this];exact h
theorem Zsc {rs : List RI} {rr ws : List Int} {x : Nat -> Rat} {n m e D Z : Nat} (hn : n <= 200) (hm : m <= 200) (hD : 0 < D) (hDe : D <= pw e) (hZe : Z <= pw e) (he : 2 * e + 20 < 1000) (hx : ∀ k,k < m -> CD D Z (x k))
    (ha : ∀ r k,r < n -> k < m -> B40 (Zas rs k r)) (hb : ∀ r,r < n -> B40 (Zap rr r)) (hw : ∀ r,r < n -> B40 (Zap ws r)) : Zne rs rr ws x n m:=by
 have w40 : ∀ z : Int,B40 z -> CD 1 (pw 2) (z : Rat):=fun z hz=>(CD.whole z).mono (Nat.le_trans hz b40_pw)
 have hD2 : D * D <= pw (e + e):=Zdz hDe hDe;have hDD : 0 < D * D:=Nat.mul_pos hD hD
 have cf : ∀ r k,r < n -> k < m -> CD D (pw (2 + e)) ((Zas rs k r : Rat) * x k):=fun r k hr hk=>by
  have:=(w40 _ (ha r k hr hk)).mul (hx k hk);rw [Nat.one_mul] at this;exact this.mono (Zdz (Nat.le_refl _) hZe)
 have cres : ∀ r t,r < n -> t <= m -> CD D (pw (e + 4)) (Zcg rs rr x t r):=fun r t hr ht=>by
  unfold Zcg;have h1:=(w40 _ (hb r hr)).liftL hD rfl;have h2:=CD.sumQ (n:=t) (f:=fun k=>(Zas rs k r : Rat) * x k) (fun k hk=>cf r k hr (by omega));refine (h1.sub h2).mono ?_;have h3 : pw 2 * D <= pw (e + 3):=Nat.le_trans (Zdz (Nat.le_refl _) hDe) (Zb9 (by omega));have h4 : t * pw (2 + e) <= pw (e + 3):=Nat.le_trans (Zdz (k_pw (show t <= 4294967296 by omega)) (Nat.le_refl _)) (Zb9 (by omega));exact Nat.le_trans (Nat.add_le_add h3 h4) (Zkm (e + 3))
 have csq : ∀ r,r < n -> CD (D * D) (pw (e + 4 + (e + 4))) (Zcg rs rr x m r * Zcg rs rr x m r):=fun r hr =>
  ((cres r m hr (Nat.le_refl _)).mul (cres r m hr (Nat.le_refl _))).mono (Zdz (Nat.le_refl _) (Nat.le_refl _))
 have cw : ∀ r,r < n -> CD (D * D) (pw (e + 4 + (e + 4) + 2)) (Zcg rs rr x m r * Zcg rs rr x m r * (Zap ws r : Rat)):=fun r hr=>by
  have:=(csq r hr).mul (w40 _ (hw r hr));rw [Nat.mul_one] at this;exact this.mono (Zdz (Nat.le_refl _) (Nat.le_refl _))
 have csum : ∀ t,t <= n -> CD (D * D) (pw (1 + (e + 4 + (e + 4) + 2))) (Zhl rs rr ws x m t):=fun t ht =>
  (CD.sumQ (n:=t) (f:=fun r=>Zcg rs rr x m r * Zcg rs rr x m r * (Zap ws r : Rat)) (fun r hr=>cw r (by omega))).mono (Zdz (k_pw (by omega)) (Nat.le_refl _))
 have cc : ∀ a b : Nat -> Int,(∀ r,r < n -> B40 (a r) /\ B40 (b r)) -> CD 1 (pw 4) ((Zbd ws a b n : Int) : Rat):=fun a b h=>(CD.whole _).mono (Zgl hn fun r hr=>⟨hw r hr,h r hr⟩)
 have cxc : ∀ k,k < m -> CD D (pw (e + 4)) (x k * ((Zbd ws (Zas rs k) (Zap rr) n : Int) : Rat)):=fun k hk=>by
  have:=(hx k hk).mul (cc (Zas rs k) (Zap rr) (fun r hr=>⟨ha r k hr hk,hb r hr⟩));rw [Nat.mul_one] at this;exact this.mono (Zdz hZe (Nat.le_refl _))
 have cleft : ∀ t,t <= m -> CD D (pw (e + 6)) (Zlk rs rr ws x n t):=fun t ht=>by
  unfold Zlk;have h1:=(cc (Zap rr) (Zap rr) (fun r hr=>⟨hb r hr,hb r hr⟩)).liftL hD rfl;have h2:=CD.sumQ (n:=t) (f:=fun k=>x k * ((Zbd ws (Zas rs k) (Zap rr) n : Int) : Rat)) (fun k hk=>cxc k (by omega));refine (h1.sub h2).mono ?_;have h3 : pw 4 * D <= pw (e + 5):=Nat.le_trans (Zdz (Nat.le_refl _) hDe) (Zb9 (by omega));have h4 : t * pw (e + 4) <= pw (e + 5):=Nat.le_trans (Zdz (k_pw (show t <= 4294967296 by omega)) (Nat.le_refl _)) (Zb9 (by omega));exact Nat.le_trans (Nat.add_le_add h3 h4) (Zkm (e + 5))
 refine ⟨fun k hk=>(hx k hk).sm hD hZe hDe (by omega) (by omega),fun r k hr hk=>(cf r k hr hk).sm hD (Nat.le_refl _) hDe (by omega) (by omega),fun r t hr ht=>(cres r t hr ht).sm hD (Nat.le_refl _) hDe (by omega) (by omega),
  fun r hr=>(csq r hr).sm hDD (Nat.le_refl _) hD2 (by omega) (by omega),fun r hr=>(cw r hr).sm hDD (Nat.le_refl _) hD2 (by omega) (by omega),fun t ht=>(csum t ht).sm hDD (Nat.le_refl _) hD2 (by omega) (by omega),
  fun k hk=>(cc (Zas rs k) (Zap rr) (fun r hr=>⟨ha r k hr hk,hb r hr⟩)).sm (by omega) (Nat.le_refl _) (Zbn 0) (by omega) (by omega),fun k hk=>(cxc k hk).sm hD (Nat.le_refl _) hDe (by omega) (by omega),fun t ht=>(cleft t ht).sm hD (Nat.le_refl _) hDe (by omega) (by omega)⟩
theorem sm_addA {x y z v : Int} (hx : x.natAbs < pw 1000) (hy : y.natAbs < pw 1000) (hz : z.natAbs < pw 1000) (hv : v.natAbs < pw 1000) : (x * y + z * v).natAbs < pw 4096:=by
 have h1:=Zkh hx hy;have h2:=Zkh hz hv;have h3:=Zud;omega
theorem Zt0 (a b : Rat) : Rat.divInt (a.num * b.den + b.num * a.den) ((a.den : Int) * (b.den : Nat)) = a + b:=by
 have ha : ((a.den : Nat) : Int) ≠ 0:=by have:=a.den_pos;omega
 have hb : ((b.den : Nat) : Int) ≠ 0:=by have:=b.den_pos;omega
 rw [<- Rat.divInt_add_divInt _ _ ha hb,Rat.num_divInt_den,Rat.num_divInt_den]
theorem Zqf (x y : Value) (W : World) : (callFunc 125 #[x,y]).run Tryz.prog W = .ok (.enter 125 #[x,y]) W:=by simp [go_sem]
theorem Add1_ok (na nb na' nb' : Bool) (A B A' B' : Option Addr) (n c m d n' c' m' d' : Nat) (a b : Rat) (w : World) (ha : Fr w na A n c nb B m d a) (hb : Fr w na' A' n' c' nb' B' m' d' b)
    (h1 : (a.num * b.den).natAbs < pw 4096) (h2 : (b.num * a.den).natAbs < pw 4096) (hs : (a.num * b.den + b.num * a.den).natAbs < pw 4096) (ht : ((a.den : Int) * (b.den : Nat)).natAbs < pw 4096) :
    Calls Tryz.prog 125 #[.agg #[.bool na,.slice A n c,.bool nb,.slice B m d],.agg #[.bool na',.slice A' n' c',.bool nb',.slice B' m' d']] w (Zmj w (a.num * b.den + b.num * a.den) ((a.den : Int) * (b.den : Nat))):=by
 obtain ⟨W0,hW0,hB0,⟨q0,q1,q2,q3⟩,s0⟩:=Zf6 w 45 #[.bool na,.slice A n c,.bool nb,.slice B m d] 45 #[.bool na',.slice A' n' c',.bool nb',.slice B' m' d'] 43 #[.bool false,.slice none 0 0] 43 #[.bool false,.slice none 0 0]
 have hmx : Tryz.prog.follows .mixedOrders = true:=by kernel_rfl
 have hA:=Za (ha.below hB0);have hD:=Za (hb.below hB0);replace hs:=Za hs;replace ht:=Za ht;replace h1:=Za h1;replace h2:=Za h2;have sz:=Za hB0.size;have hB:=Za hB0;clear ha hb hB0 s0;replace q0:=Za q0;replace q1:=Za q1;replace q2:=Za q2;replace q3:=Za q3;obtain ⟨a0,a1,a2,a3,-⟩:=q0.out.four;obtain ⟨b0,b1,b2,b3,-⟩:=q1.out.four;replace hW0:=Za hW0;go_enter Tryz.func125,Tryz.ntmps125;go_wp2_with fail;rw [hW0.out];clear hW0;refine Zar [19] (fun W'=>W'.cell? ⟨w.heap.size,0,none⟩ = some (.bool na) /\ W'.cell? ⟨w.heap.size,1,none⟩ = some (.slice A n c) /\ W'.cell? ⟨w.heap.size,2,none⟩ = some (.bool nb) /\ W'.cell? ⟨w.heap.size,3,none⟩ = some (.slice B m d) /\ W'.cell? ⟨w.heap.size + 1,0,none⟩ = some (.bool na') /\ W'.cell? ⟨w.heap.size + 1,1,none⟩ = some (.slice A' n' c') /\ W'.cell? ⟨w.heap.size + 1,2,none⟩ = some (.bool nb') /\ W'.cell? ⟨w.heap.size + 1,3,none⟩ = some (.slice B' m' d')) hmx ⟨a0,a1,a2,a3,b0,b1,b2,b3⟩ (fun _=>?_);refine Zif 8 [0,1,3,4,10,11,12,13] rfl (by kernel_rfl) ⟨a0,a1,a2,a3,b0,b1,b2,b3⟩ ?_
 iterate 8 (refine tk1 (v:=?_) rfl (Or.inl ⟨by kernel_rfl,?_⟩) ?_;rotate_left;(· intro W2 hSw;(try dsimp only at hSw);go_simp;try with_reducible rfl);try simp only [Act.put,Zf0,Zfg,Zfv,putG_a,putG_s,putG_z])
 refine tk0 ?_;refine Ze (i:=2) rfl (by kernel_rfl) (fun K hK=>?_);go_simp;refine (Zeh na nb na' nb' A B A' B' n c m d n' c' m' d' a b W0.drew hA.out hD.out h1.out).mono ?_;rintro e w1 ⟨hb1,nu,U,k1,u,rfl,hU⟩;replace hb1:=Zs hb1;replace hU:=Za hU;replace q0:=Za (Zb hb1 q0.out);replace q1:=Za (Zb hb1 q1.out);replace q2:=Za (Zb hb1 q2.out);replace q3:=Za (Zb hb1 q3.out);replace hA:=Za (hA.out.below hb1);replace hD:=Za (hD.out.below hb1);replace hB:=Za (hB.out.trans (hb1.mono sz.out));replace sz:=Za (Nat.le_trans sz.out hb1.size);clear a0 a1 a2 a3 b0 b1 b2 b3;obtain ⟨a0,a1,a2,a3,-⟩:=q0.out.four;obtain ⟨b0,b1,b2,b3,-⟩:=q1.out.four;clear hb1;refine hK.out _ _ (fun _=>⟨a0,a1,a2,a3,b0,b1,b2,b3⟩) ?_;clear hK K
 try simp only [Act.put,Zf0,Zfg,Zfv]
 refine Ze (i:=5) rfl (by kernel_rfl) (fun K hK=>?_);go_simp;refine (Zeh na' nb' na nb A' B' A B n' c' m' d' n c m d b a w1 hD.out hA.out h2.out).mono ?_;rintro e w2 ⟨hb2,nv,V,k2,v,rfl,hV⟩;replace hU:=Za (hU.out.below hb2);replace hV:=Za hV;replace q0:=Za (Zb hb2 q0.out);replace q1:=Za (Zb hb2 q1.out);replace q2:=Za (Zb hb2 q2.out);replace q3:=Za (Zb hb2 q3.out);replace hA:=Za (hA.out.below hb2);replace hD:=Za (hD.out.below hb2);replace hB:=Za (hB.out.trans (hb2.mono sz.out));replace sz:=Za (Nat.le_trans sz.out hb2.size);clear a0 a1 a2 a3 b0 b1 b2 b3;obtain ⟨a0,a1,a2,a3,-⟩:=q0.out.four;obtain ⟨b0,b1,b2,b3,-⟩:=q1.out.four;clear hb2;refine hK.out _ _ (fun _=>⟨a0,a1,a2,a3,b0,b1,b2,b3⟩) ?_;clear hK K
 try simp only [Act.put,Zf0,Zfg,Zfv]
 refine Ze (i:=6) rfl (by kernel_rfl) (fun K hK=>?_);go_simp;refine (Zqv nu nv U V k1 u k2 v _ _ w2 hU.out hV.out).mono ?_;rintro e w3 ⟨hb3,np,P,k,q,code,rfl,hR⟩;have hP:=Za (hR.small hs.out);have hcode:=hR.code0 hs.out;subst hcode;clear hs hR hU hV;replace q0:=Za (Zb hb3 q0.out);replace q1:=Za (Zb hb3 q1.out);replace q2:=Za (Zb hb3 q2.out);replace q3:=Za (Zb hb3 q3.out);replace hA:=Za (hA.out.below hb3);replace hD:=Za (hD.out.below hb3);replace hB:=Za (hB.out.trans (hb3.mono sz.out));replace sz:=Za (Nat.le_trans sz.out hb3.size);clear a0 a1 a2 a3 b0 b1 b2 b3;obtain ⟨a0,a1,a2,a3,-⟩:=q0.out.four;obtain ⟨b0,b1,b2,b3,-⟩:=q1.out.four;clear hb3;refine hK.out _ _ (fun _=>⟨a0,a1,a2,a3,b0,b1,b2,b3⟩) ?_;clear hK K
 try simp only [Act.put,Zf0,Zfg,Zfv]
 refine Zif 2 [7,8] rfl (by kernel_rfl) ⟨a0,a1,a2,a3,b0,b1,b2,b3⟩ ?_
 iterate 2 (refine tk1 (v:=?_) rfl (Or.inl ⟨by kernel_rfl,?_⟩) ?_;rotate_left;(· intro W2 hSw;(try dsimp only at hSw);go_simp;try with_reducible rfl);try simp only [Act.put,Zf0,Zfg,Zfv,putG_a,putG_s,putG_z])
 refine tk0 ?_;refine Ze (i:=9) rfl (by kernel_rfl) (fun K hK=>?_);go_simp;refine (Zdb np P k q w3).mono ?_;rintro e w4 ⟨rfl,hb4⟩;replace hP:=Za (hP.out.below hb4);replace q0:=Za (Zb hb4 q0.out);replace q1:=Za (Zb hb4 q1.out);replace q2:=Za (Zb hb4 q2.out);replace q3:=Za (Zb hb4 q3.out);replace hA:=Za (hA.out.below hb4);replace hD:=Za (hD.out.below hb4);replace hB:=Za (hB.out.trans (hb4.mono sz.out));replace sz:=Za (Nat.le_trans sz.out hb4.size);clear a0 a1 a2 a3 b0 b1 b2 b3;obtain ⟨a0,a1,a2,a3,-⟩:=q0.out.four;obtain ⟨b0,b1,b2,b3,-⟩:=q1.out.four;clear hb4;refine hK.out _ _ (fun _=>⟨a0,a1,a2,a3,b0,b1,b2,b3⟩) ?_;clear hK K
 try simp only [Act.put,Zf0,Zfg,Zfv]
 refine Ze (i:=14) rfl (by kernel_rfl) (fun K hK=>?_);go_simp;refine (Zhs nb nb' B B' m d m' d' a.den b.den w4 hA.out.2 hD.out.2).mono ?_;rintro e w5 ⟨hb5,np',P',k',q',code,rfl,hR⟩;replace hP:=Za (hP.out.below hb5);have hP':=Za (hR.small ht.out);have hcode:=hR.code0 ht.out;subst hcode;clear ht hR;replace q0:=Za (Zb hb5 q0.out);replace q1:=Za (Zb hb5 q1.out);replace q2:=Za (Zb hb5 q2.out);replace q3:=Za (Zb hb5 q3.out);replace hA:=Za (hA.out.below hb5);replace hD:=Za (hD.out.below hb5);replace hB:=Za (hB.out.trans (hb5.mono sz.out));replace sz:=Za (Nat.le_trans sz.out hb5.size);clear a0 a1 a2 a3 b0 b1 b2 b3;obtain ⟨a0,a1,a2,a3,-⟩:=q0.out.four;obtain ⟨b0,b1,b2,b3,-⟩:=q1.out.four;clear hb5;refine hK.out _ _ (fun _=>⟨a0,a1,a2,a3,b0,b1,b2,b3⟩) ?_;clear hK K
 try simp only [Act.put,Zf0,Zfg,Zfv]
 refine Zif 2 [15,16] rfl (by kernel_rfl) ⟨a0,a1,a2,a3,b0,b1,b2,b3⟩ ?_
 iterate 2 (refine tk1 (v:=?_) rfl (Or.inl ⟨by kernel_rfl,?_⟩) ?_;rotate_left;(· intro W2 hSw;(try dsimp only at hSw);go_simp;try with_reducible rfl);try simp only [Act.put,Zf0,Zfg,Zfv,putG_a,putG_s,putG_z])
 refine tk0 ?_;refine Ze (i:=17) rfl (by kernel_rfl) (fun K hK=>?_);go_simp;refine (Zdb np' P' k' q' w5).mono ?_;rintro e w6 ⟨rfl,hb6⟩;replace hP:=Za (hP.out.below hb6);replace hP':=Za (hP'.out.below hb6);replace q0:=Za (Zb hb6 q0.out);replace q1:=Za (Zb hb6 q1.out);replace q2:=Za (Zb hb6 q2.out);replace q3:=Za (Zb hb6 q3.out);replace hA:=Za (hA.out.below hb6);replace hD:=Za (hD.out.below hb6);replace hB:=Za (hB.out.trans (hb6.mono sz.out));replace sz:=Za (Nat.le_trans sz.out hb6.size);clear a0 a1 a2 a3 b0 b1 b2 b3;obtain ⟨a0,a1,a2,a3,-⟩:=q0.out.four;obtain ⟨b0,b1,b2,b3,-⟩:=q1.out.four;clear hb6;obtain ⟨x0,x1,f0,f1⟩:=q2.out.two;refine hK.out _ _ (fun _=>⟨a0,a1,a2,a3,b0,b1,b2,b3⟩) ?_;clear hK K
 try simp only [Act.put,Zf0,Zfg,Zfv]
 refine Ze (i:=18) rfl (by kernel_rfl) (fun K hK=>?_);go_simp;obtain ⟨W5,hW5,hB5,q2',kW,kB,s5⟩:=Zax np P k q hB.out (by omega) q2.out;rw [hW5];clear hW5 x0 x1 f0 f1 a0 a1 a2 a3 b0 b1 b2 b3 hA hD;replace q0:=kB _ _ _ (by omega) q0.out;replace q1:=kB _ _ _ (by omega) q1.out;obtain ⟨a0,a1,a2,a3,-⟩:=q0.four;obtain ⟨b0,b1,b2,b3,-⟩:=q1.four;replace q3:=Za (kB _ _ _ (by omega) q3.out);replace hP:=Za (kW _ _ _ _ _ hP.out);replace hP':=Za (kW _ _ _ _ _ hP'.out);clear kW kB q2 hB q0 q1;obtain ⟨y0,y1,g0,g1⟩:=q3.out.two;refine hK.out _ _ (fun _=>⟨a0,a1,a2,a3,b0,b1,b2,b3⟩) ?_;clear hK K
 try simp only [Act.put,Zf0,Zfg,Zfv]
 refine Zu (i:=19) rfl (by kernel_rfl) (by kernel_rfl) (fun K hK=>?_);go_simp;obtain ⟨W6,hW6,hB6,q3',kW,kB,s6⟩:=Zax np' P' k' q' hB5 (by omega) q3.out;rw [hW6];clear hW6 y0 y1 g0 g1 a0 a1 a2 a3 b0 b1 b2 b3;replace q2':=kB _ _ _ (by omega) q2';replace hP:=Za (kW _ _ _ _ _ hP.out);replace hP':=Za (kW _ _ _ _ _ hP'.out);clear kW kB q3 hB5;refine hK.out _ _ ?_;clear hK K
 try simp only [Act.put,Zf0,Zfg,Zfv]
 refine Zk (by kernel_rfl) ?_ _;refine OnlyNormal.normal ?_;obtain ⟨r0,r1,-⟩:=q2'.two;obtain ⟨r2,r3,-⟩:=q3'.two;go_wp2_with fail;refine bodyPost_ret (v:=.tuple #[.agg #[.bool np,.slice P k q],.agg #[.bool np',.slice P' k' q']]) (by simp [results,Tryz.results125,go_sem,r0,r1,r2,r3]) rfl ?_;exact ⟨hB6,_,_,_,_,_,_,_,_,rfl,hP.out,hP'.out⟩
theorem fAdd_ok (na nb na' nb' : Bool) (A B A' B' : Option Addr) (n c m d n' c' m' d' : Nat) (a b : Rat) (w : World) (ha : Fr w na A n c nb B m d a) (hb : Fr w na' A' n' c' nb' B' m' d' b) (sa : Sm a) (sb : Sm b) :
    Calls Tryz.prog 68 #[.agg #[.bool na,.slice A n c,.bool nb,.slice B m d],.agg #[.bool na',.slice A' n' c',.bool nb',.slice B' m' d']] w (Zhh w (a + b)):=by
 obtain ⟨W0,hW0,hB0,⟨q0,q1,q2⟩,s0⟩:=Zee w 45 #[.bool na,.slice A n c,.bool nb,.slice B m d] 45 #[.bool na',.slice A' n' c',.bool nb',.slice B' m' d'] 45 #[.bool false,.slice none 0 0,.bool false,.slice none 0 0];have hA:=Za (ha.below hB0);have hD:=Za (hb.below hB0)
 have hF:=fun (W : World) (h1 : Fr W na A n c nb B m d a) (h2 : Fr W na' A' n' c' nb' B' m' d' b)=>Add1_ok na nb na' nb' A B A' B' n c m d n' c' m' d' a b W h1 h2 (Zcy sa.1 sb.dn) (Zcy sb.1 sa.dn) (sm_addA sa.1 sb.dn sb.1 sa.dn) (Zcy sa.dn sb.dn)
 have hG:=Za (Zno 125 na nb na' nb' A B A' B' n c m d n' c' m' d' a b _ _ W0 hA.out hD.out (Zeq a b) Zqf hF);rw [Zt0] at hG;clear hF ha hb sa sb hA hD;obtain ⟨a0,a1,a2,a3,-⟩:=q0.four;obtain ⟨b0,b1,b2,b3,-⟩:=q1.four;replace q2:=Za q2;clear q0 q1;go_enter Tryz.func68,Tryz.ntmps68;go_wp2_with fail;refine hG.out.mono ?_;rintro e w1 ⟨hb1,nx,Ax,kx,cx,ny,Ay,ky,cy,rfl,hX⟩;have hB1 : Below w.heap.size w w1:=hB0.trans (hb1.mono hB0.size);have s1 : W0.heap.size <= w1.heap.size:=hb1.size;replace q2:=Za (Zb hb1 q2.out);replace hX:=Za hX;clear hb1 a0 a1 a2 a3 b0 b1 b2 b3 hB0 hG hW0;obtain ⟨c20,c21,c22,c23,f20,f21,f22,f23⟩:=q2.out.four;go_wp2_with fail;obtain ⟨W5,hW5,hB5,q2,kW,-,s5⟩:=Zad nx Ax kx cx ny Ay ky cy hB1 (by omega) q2.out;rw [hW5];obtain ⟨r0,r1,r2,r3,-⟩:=q2.four;refine bodyPost_ret (v:=.tuple #[.agg #[.bool nx,.slice Ax kx cx,.bool ny,.slice Ay ky cy],.int .i64 0]) (by simp [results,Tryz.results68,go_sem,r0,r1,r2,r3]) rfl ?_;exact ⟨hB5,_,_,_,_,_,_,_,_,rfl,kW _ _ _ _ _ hX.out.1,kW _ _ _ _ _ hX.out.2⟩
end Go.Proofs.YtigdclhagmnopaaGreat
