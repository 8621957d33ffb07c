/- Samples on both sides of a state are the same way from it -/
import Derived.Carry
import Derived.Test.YtpehacgjclkhmaaGreatZw46
set_option maxRecDepth 100000
set_option maxHeartbeats 8000000
set_option linter.unusedSimpArgs false
set_option linter.unusedVariables false
namespace Go.Proofs.YtpehacgjclkhmaaGreat
open Go.RowKit
theorem Zh7 {N D q r : Int} (hD : 0 < D) (h : r + D * q = N) (h0 : 0 <= r) (h1 : r < D) : Int.fdiv N D = q /\ Int.fmod N D = r:=by
 rw [Int.fdiv_eq_ediv_of_nonneg _ (by omega),Int.fmod_eq_emod_of_nonneg _ (by omega)];exact (Int.ediv_emod_unique hD).2 ⟨h,h0,h1⟩
theorem Zn9 (x : Rat) : Zc9 (-x) = -Zc9 x:=by
 have hD : (0 : Int) < x.den:=by have:=x.den_pos;omega
 have hN : (-x).num = -x.num:=Rat.neg_num x;have hd : (-x).den = x.den:=Rat.neg_den x;unfold Zc9;rw [hN,hd];obtain ⟨q,hq⟩ : ∃ q,Int.fdiv x.num x.den = q:=⟨_,rfl⟩;obtain ⟨r,hr⟩ : ∃ r,Int.fmod x.num x.den = r:=⟨_,rfl⟩;have h:=Int.fmod_add_mul_fdiv x.num x.den;rw [hq,hr] at h
 have hr0 : 0 <= r /\ r < x.den:=by
  rw [<- hr,Int.fmod_eq_emod_of_nonneg _ (by omega)];exact ⟨Int.emod_nonneg _ (by omega),Int.emod_lt_of_pos _ (by omega)⟩
 rw [hq,hr]
 by_cases h0 : r = 0
 ·subst h0
  obtain ⟨e1,e2⟩:=Zh7 (N:=-x.num) (q:=-q) (r:=0) hD (by rw [<- h,Int.mul_neg];omega) (by omega) hD;rw [e1,e2,if_neg (by omega),if_neg (by omega)]
 ·obtain ⟨e1,e2⟩:=Zh7 (N:=-x.num) (q:=-q - 1) (r:=x.den - r) hD (by rw [<- h,Int.mul_sub,Int.mul_neg];omega) (by omega) (by omega)
  rw [e1,e2]
  split <;> split <;> omega
theorem Zif (d : Int) : Zc9 (d : Rat) = d:=by
 unfold Zc9;rw [Rat.num_intCast,Rat.den_intCast]
 have e1 : Int.fmod d ((1 : Nat) : Int) = 0:=by rw [Int.fmod_eq_emod_of_nonneg _ (by omega)];omega
 have e2 : Int.fdiv d ((1 : Nat) : Int) = d:=by rw [Int.fdiv_eq_ediv_of_nonneg _ (by omega)];omega
 rw [e1,e2,if_neg (by omega)]
theorem Zrc (dir : List Rat) (d : Int) (i : Nat) : Zbk dir (-d) i = -Zbk dir d i:=by
 unfold Zbk;rw [<- Zn9]
 congr 1
 rw [Rat.intCast_neg,Rat.mul_neg]
theorem Zp4 {Q : Nat -> Nat -> Rat} {k : Nat} (hk : k < 6) (h0 : Q k k ≠ 0) : (Zcm Q k)[k]?.getD 0 = 1:=by
 unfold Zcm;rw [List.getElem?_map,List.getElem?_range hk];show Q k k / Q k k = 1;rw [Rat.div_def,Rat.mul_inv_cancel _ h0]
theorem Zp1 {Q : Nat -> Nat -> Rat} {k : Nat} (hk : k < 6) (h0 : Q k k ≠ 0) (d : Int) : Zbk (Zcm Q k) d k = d:=by
 unfold Zbk;rw [Zp4 hk h0,Rat.one_mul,Zif]
theorem Zqf (dir : List Rat) (i : Nat) : Zbk dir 0 i = 0:=by
 unfold Zbk;rw [Rat.intCast_zero,Rat.mul_zero];exact Zif 0
theorem Zhb {s : St} (h : stE s = 0) (i : Nat) : -8796093022208 <= s.num i /\ s.num i <= 8796093022208:=by
 have hb : ∀ b x y z m,outB x y z m = b -> b ≠ true -> ¬ (m < x \/ m < y \/ m < z \/ x < -m \/ y < -m \/ z < -m):=fun b x y z m e hne hh=>by
  subst e;exact hne (decide_eq_true hh)
 unfold stE at h
 split at h
 ·cases h
 ·rename_i hn
  have h4:=hb _ _ _ _ _ rfl (fun e=>hn (.inr (.inr (.inr (.inl e)))));have h5:=hb _ _ _ _ _ rfl (fun e=>hn (.inr (.inr (.inr (.inr e)))));unfold St.num
  split <;> omega
theorem St.ext6 {a b : St} (h0 : a.t = b.t) (h1 : a.p0 = b.p0) (h2 : a.p1 = b.p1) (h3 : a.p2 = b.p2) (h4 : a.v0 = b.v0) (h5 : a.v1 = b.v1) (h6 : a.v2 = b.v2) : a = b:=by
 cases a;cases b;simp only at h0 h1 h2 h3 h4 h5 h6;subst h0 h1 h2 h3 h4 h5 h6;rfl
theorem Zoq {s : St} {ns : Nat -> Int} (h : stE s = 0) (hn : ∀ i,i < 6 -> Zb5 (ns i)) {i : Nat} (hi : i < 6) : (mvS s ns 6).num i = s.num i + ns i:=by
 have hs:=Zhb h i;have h2:=hn i hi;unfold Zb5 at h2
 have e : (mvS s ns 6).num i = wrap64 (s.num i + ns i):=by
  rcases (show i = 0 \/ i = 1 \/ i = 2 \/ i = 3 \/ i = 4 \/ i = 5 by omega) with rfl | rfl | rfl | rfl | rfl | rfl <;> rfl
 rw [e];unfold wrap64;omega
theorem mvS_t {s : St} {ns : Nat -> Int} : (mvS s ns 6).t = s.t:=rfl
theorem Zo2 {s : St} (h : stE s = 0) {ns : Nat -> Int} (hn : ∀ i,i < 6 -> ns i = 0) : mvS s ns 6 = s:=by
 have hx : ∀ i,i < 6 -> (mvS s ns 6).num i = s.num i:=fun i hi=>by
  rw [Zoq h (fun j hj=>by rw [hn j hj];unfold Zb5;omega) hi,hn i hi];omega
 exact St.ext6 rfl (hx 0 (by omega)) (hx 1 (by omega)) (hx 2 (by omega)) (hx 3 (by omega)) (hx 4 (by omega)) (hx 5 (by omega))
theorem Zgk {s : St} {dir : List Rat} {d : Int} (h : movE s dir d = 0) : (∀ i,i < 6 -> Zb5 (Zbk dir d i)) /\ stE (mvS s (Zbk dir d) 6) = 0 /\ movV s dir d = mvS s (Zbk dir d) 6:=by
 unfold movE at h
 split at h
 ·rename_i hb
  exact ⟨hb.1,hb.2,(Zk4 hb.1 hb.2).2⟩
 ·cases h
section
variable {rs : List RX} {s : St} {k step n : Int}
theorem Znd (h : lineE rs s k step n = 0) : stE s = 0 /\ Zb6 rs k = 0 /\ (1 <= step /\ step <= 1125899906842624 /\ 0 <= n /\ n <= 20) /\ Ze8 (Zd0 rs k) s step n.toNat:=by
 by_cases h1 : stE s = 0
 case neg=>rw [Zog rfl h1] at h;exact absurd h h1
 by_cases h2 : Zb6 rs k = 0
 case neg=>rw [Zlb h1 rfl h2] at h;exact absurd h h2
 by_cases h3 : 1 <= step /\ step <= 1125899906842624 /\ 0 <= n /\ n <= 20
 case neg=>rw [Zlw h1 h2 h3] at h;cases h
 rw [Zip h1 h2 h3] at h;refine ⟨h1,h2,h3,fun j hj=>?_⟩
 by_cases h4 : movE s (Zd0 rs k) (Zam n.toNat step j) = 0
 ·exact h4
 ·rw [Zj6 hj h4] at h;cases h
def stJ (s : St) (dir : List Rat) (d : Int) : St:=mvS s (Zbk dir d) 6
variable {dir : List Rat} {N : Nat}
theorem Zit (hB : Ze8 dir s step N) {i : Nat} (hi : i <= 2 * N) : (lineS dir s step N)[i]? = some (stJ s dir (Zam N step i)):=by
 unfold lineS;rw [List.getElem?_map,List.getElem?_range (by omega),Option.map_some,(Zgk (hB i hi)).2.2];rfl
theorem Zkj (N : Nat) (step : Int) (j : Nat) : Zam N step (N + j) = (j : Int) * step:=by
 unfold Zam
 congr 1
 omega
theorem Zo4 {N j : Nat} (step : Int) (h : j <= N) : Zam N step (N - j) = -((j : Int) * step):=by
 unfold Zam;rw [<- Int.neg_mul]
 congr 1
 omega
theorem Zqk (h : stE s = 0) : stJ s dir 0 = s:=Zo2 h (fun i _=>Zqf dir i)
theorem Zrp (h : stE s = 0) (hB : Ze8 dir s step N) : (lineS dir s step N)[N]? = some s:=by
 rw [Zit hB (by omega)];have e:=Zkj N step 0;rw [Nat.add_zero] at e;rw [e,show ((0 : Nat) : Int) * step = 0 by simp,Zqk h]
theorem Zka (hB : Ze8 dir s step N) {i : Nat} (hi : i <= 2 * N) : stE (stJ s dir (Zam N step i)) = 0:=(Zgk (hB i hi)).2.1
theorem Zhp (h : stE s = 0) (hB : Ze8 dir s step N) {i : Nat} (hi : i <= 2 * N) {m : Nat} (hm : m < 6) : (stJ s dir (Zam N step i)).num m = s.num m + Zbk dir (Zam N step i) m:=
 Zoq h (Zgk (hB i hi)).1 hm
theorem stJ_t (d : Int) : (stJ s dir d).t = s.t:=mvS_t
theorem Zpu (h : stE s = 0) (hB : Ze8 dir s step N) {j : Nat} (hj : j <= N) {m : Nat} (hm : m < 6) : (stJ s dir (Zam N step (N + j))).num m - s.num m = s.num m - (stJ s dir (Zam N step (N - j))).num m:=by
 rw [Zhp h hB (by omega) hm,Zhp h hB (by omega) hm,Zkj,Zo4 step hj,Zrc];omega
theorem Zqe {Q : Nat -> Nat -> Rat} {k : Nat} (h : stE s = 0) (hB : Ze8 (Zcm Q k) s step N) (hk : k < 6) (h0 : Q k k ≠ 0) {j : Nat} (hj : j <= N) : (stJ s (Zcm Q k) (Zam N step (N + j))).num k - s.num k = (j : Int) * step:=by
 rw [Zhp h hB (by omega) hk,Zkj,Zp1 hk h0];omega
end
attribute [local go_sem] Zg
theorem Zbo (s : St) (i : Nat) (hi : i < 6) (w : World) :
    Calls Tryz.prog 22 #[.agg #[.int .i64 s.t,.int .i64 s.p0,.int .i64 s.p1,.int .i64 s.p2,.int .i64 s.v0,.int .i64 s.v1,.int .i64 s.v2],.int .i64 i] w fun e w'=>e = .returned (.int .i64 (s.num i)) /\ Below w.heap.size w w':=by
 have hB0 : ∀ X : Obj,Below w.heap.size w (w.alloc X):=fun X=>(Below.refl w.heap.size w).alloc (Nat.le_refl _) _
 replace hB0:=Zb hB0
 rcases (show i = 0 \/ i = 1 \/ i = 2 \/ i = 3 \/ i = 4 \/ i = 5 by omega) with rfl | rfl | rfl | rfl | rfl | rfl
 all_goals
  go_enter Tryz.func22,Tryz.ntmps22;go_wp2_with fail;go_ret;exact ⟨rfl,hB0.out _⟩
theorem SL.atS {w : World} {g o n c : Nat} {ss : List St} (h : SL w (some ⟨g,o,none⟩) n c ss) {k : Nat} {s : St} (hs : ss[k]? = some s) : w.cell? ⟨g,o + k * 7,none⟩ = some (.int .i64 s.t) /\ w.cell? ⟨g,o + k * 7 + 1,none⟩ = some (.int .i64 s.p0) /\ w.cell? ⟨g,o + k * 7 + 2,none⟩ = some (.int .i64 s.p1) /\ w.cell? ⟨g,o + k * 7 + 3,none⟩ = some (.int .i64 s.p2) /\ w.cell? ⟨g,o + k * 7 + 4,none⟩ = some (.int .i64 s.v0) /\ w.cell? ⟨g,o + k * 7 + 5,none⟩ = some (.int .i64 s.v1) /\ w.cell? ⟨g,o + k * 7 + 6,none⟩ = some (.int .i64 s.v2):=by
 obtain ⟨g',o',e,hc⟩:=h.2.2.2 k s hs
 cases e
 exact hc
theorem dir_ne {rs : List RX} {k : Int} (h0 : Zb6 rs k = 0) : Zp (qM rs) k.toNat k.toNat ≠ 0:=by
 obtain ⟨hE,hl,hk0,hk5⟩:=Zgq h0;obtain ⟨hcV,hcS,hcP⟩:=Zng hE;have h1:=Zge (A:=Zp (qM rs)) (n:=rs.length) (fun i k hi hk=>symB_iff.1 hcS i k (by unfold qM;rw [List.length_map];exact hi) (by unfold qM;rw [List.length_map];exact hk)) hcP (k:=k.toNat) (by omega) k.toNat 0 (by omega);intro e;have e2 : Zab (Zp (qM rs)) 0 k.toNat k.toNat = 0:=e;rw [e2] at h1;exact absurd h1 (by decide)
theorem Zox {t : TypeId} {B : Nat} {w0 w : World} {g : Nat} {s0 : St} (s : St) (hB : Below B w0 w) (hs : B <= g) (hb : Blk w g t s0.cells) :
    ∃ W,((((((w.setCell ⟨g,0,none⟩ (.int .i64 s.t)).setCell ⟨g,1,none⟩ (.int .i64 s.p0)).setCell ⟨g,2,none⟩ (.int .i64 s.p1)).setCell ⟨g,3,none⟩ (.int .i64 s.p2)).setCell ⟨g,4,none⟩ (.int .i64 s.v0)).setCell ⟨g,5,none⟩ (.int .i64 s.v1)).setCell ⟨g,6,none⟩ (.int .i64 s.v2) = W /\ Below B w0 W /\ Blk W g t s.cells /\ ∀ g' t' cs',g' ≠ g -> Blk w g' t' cs' -> Blk W g' t' cs':=by
 obtain ⟨W,hW,h1,h2⟩:=Znb s hB hs hb;refine ⟨W,hW,h1,h2,fun g' t' cs' hg h=>?_⟩;rw [<- hW];exact ((((((h.far hg _).far hg _).far hg _).far hg _).far hg _).far hg _).far hg _
theorem Zpc (s : St) (A : Option Addr) (n c : Nat) (rs : List RX) (kk step NN : Int) (w : World) (h : MXL w A n c rs) (hk1 : -9223372036854775808 <= kk) (hk2 : kk <= 9223372036854775807) (hd1 : -9223372036854775808 <= step) (hd2 : step <= 9223372036854775807) (hn1 : -9223372036854775808 <= NN) (hn2 : NN <= 9223372036854775807) :
    Calls Tryz.prog 4 #[.agg #[.int .i64 s.t,.int .i64 s.p0,.int .i64 s.p1,.int .i64 s.p2,.int .i64 s.v0,.int .i64 s.v1,.int .i64 s.v2],.slice A n c,.int .i64 kk,.int .i64 step,.int .i64 NN] w fun e w'=>e = .returned (.bool true) /\ Below w.heap.size w w':=by
 have hmx : Tryz.prog.follows .mixedOrders = true:=by kernel_rfl
 have hcm:=h.2.2.1;have hnc:=h.2.1;unfold maxLen at hcm;have hBB : Hid (Below w.heap.size w w):=Zb (Below.refl _ _);replace h:=Zb h;obtain ⟨g1,hg2⟩ : ∃ g,w.heap.size = g:=⟨_,rfl⟩;obtain ⟨V3,hV4,q5,hb6⟩:=Zdq (w:=w) 46 #[.int .i64 s.t,.int .i64 s.p0,.int .i64 s.p1,.int .i64 s.p2,.int .i64 s.v0,.int .i64 s.v1,.int .i64 s.v2];rw [hg2] at q5;replace h:=Zb (h.out.below hb6);have hB7:=Zb (hBB.out.trans (hb6.mono hBB.out.size));clear hBB;clear hb6;replace q5:=Zb q5;go_enter Tryz.func4,Tryz.ntmps4;go_wp2_with fail;(try rw [hg2]);(try rw [hV4]);clear hV4;replace hg2:=Zb hg2;refine (Zlc V3).mono ?_;rintro e w8 ⟨rfl,hb1⟩;replace h:=Zb (h.out.below hb1);replace q5:=Zb (Zd hb1 q5.out);have hB9:=Zb (hB7.out.trans (hb1.mono hB7.out.size));clear hB7;clear hb1;go_wp2_with fail;refine (Zkm A n c rs w8 h.out).mono ?_;rintro e w10 ⟨b,rfl,hb1,hcalm⟩;replace h:=Zb (h.out.below hb1);replace q5:=Zb (Zd hb1 q5.out);have hB11:=Zb (hB9.out.trans (hb1.mono hB9.out.size));clear hB9;clear hb1
 cases b with
 | true =>
  go_wp2_with fail;go_ret;exact ⟨rfl,hB11.out⟩
 | false =>
  have hf:=(hcalm rfl).2
  have hn10 : n <= 10:=by rw [<- h.out.1];exact (hcalm rfl).1
  have hFC:=Zb (FacC.of h.out hf (fun h6=>by
   rcases (show n = 0 \/ n = 1 \/ n = 2 \/ n = 3 \/ n = 4 \/ n = 5 \/ n = 6 by omega) with rfl | rfl | rfl | rfl | rfl | rfl | rfl <;> omega))
  replace hf:=Zb hf;obtain ⟨c0,c1,c2,c3,c4,c5,c6⟩:=Za2 q5.out;clear hcalm;go_wp2_with fail;clear c0 c1 c2 c3 c4 c5 c6;refine (Zld s A n c rs kk step NN w10 h.out hFC.out hf.out hk1 hk2 hd1 hd2 hn1 hn2).mono ?_;rintro e w12 ⟨hb1,hcase⟩;replace h:=Zb (h.out.below hb1);replace q5:=Zb (Zd hb1 q5.out);have hB13:=Zb (hB11.out.trans (hb1.mono hB11.out.size));clear hB11;clear hb1;clear h;clear hFC hf
  rcases hcase with ⟨hE,A3,c3,rfl,hL⟩ | ⟨hE,rfl⟩
  case inr =>
   obtain ⟨E,hEE⟩ : ∃ E,lineE rs s kk step NN = E:=⟨_,rfl⟩;rw [hEE] at hE ⊢
   have t0 : (E == 0) = false:=by simpa using hE
   have t0' : decide (E = 0) = false:=by simpa using hE
   have t0'' : (E != 0) = true:=by rw [bne,t0];rfl
   replace hE:=Zb hE;replace hEE:=Zb hEE;go_wp2_with fail;go_ret;exact ⟨rfl,hB13.out⟩
  obtain ⟨hst,hdE,⟨ga1,ga2,ga3,ga4⟩,hB⟩:=Znd hE;obtain ⟨m,hm⟩ : ∃ m : Nat,NN = m:=⟨NN.toNat,by omega⟩;obtain ⟨-,-,k1,k2⟩:=Zgq hdE;obtain ⟨K,hK⟩ : ∃ K : Nat,kk = K:=⟨kk.toNat,by omega⟩;subst hm hK;have hne:=Zb (dir_ne hdE);rw [Int.toNat_natCast] at hL hB hne ⊢
  have hm20 : m <= 20:=by omega
  have hK6 : K < 6:=by omega
  have hD : Zd0 rs (K : Int) = Zcm (Zp (qM rs)) K:=by unfold Zd0;rw [Int.toNat_natCast]
  rw [hD] at hL hB;have hcap:=hL.2.2.1;unfold maxLen at hcap;have hmc:=hL.2.1;obtain ⟨gl,ol,s9,rfl,hs9,-⟩:=hL.at_ (k:=m) (by omega);have hmid:=Zrp hst hB;rw [hs9] at hmid
  cases hmid
  obtain ⟨d0,d1,d2,d3,d4,d5,d6⟩:=hL.atS hs9;have t1 : decide ((m : Int) < 0) = false:=decide_eq_false (by omega);have t2 : decide (20 < (m : Int)) = false:=decide_eq_false (by omega);have t2' : decide (20 < m) = false:=decide_eq_false (by omega);have t3 : decide ((K : Int) < 0) = false:=decide_eq_false (by omega);have t4 : decide (5 < (K : Int)) = false:=decide_eq_false (by omega);have t4' : decide (5 < K) = false:=decide_eq_false (by omega)
  have bm : (m : Int) < 2 * (m : Int) + 1:=by omega
  have hmw : IntKind.i64.wrap (m : Int) = (m : Int):=IntWalk.i64_in _ (by omega);have hm2 : IntKind.i64.wrap (2 * (m : Int)) = 2 * (m : Int):=IntWalk.i64_in _ (by omega);have hm3 : IntKind.i64.wrap (2 * (m : Int) + 1) = 2 * (m : Int) + 1:=IntWalk.i64_in _ (by omega)
  have hEq : ∀ w,(Op.equalIn 10000 46 (.agg #[.int .i64 s.t,.int .i64 s.p0,.int .i64 s.p1,.int .i64 s.p2,.int .i64 s.v0,.int .i64 s.v1,.int .i64 s.v2]) (.agg #[.int .i64 s.t,.int .i64 s.p0,.int .i64 s.p1,.int .i64 s.p2,.int .i64 s.v0,.int .i64 s.v1,.int .i64 s.v2])).run Tryz.prog w = .ok true w:=fun w=>by
   rw [Zid];simp
  replace hs9:=Zb hs9;replace hst:=Zb hst;replace hB:=Zb hB;replace hD:=Zb hD;replace hdE:=Zb hdE;replace hE:=Zb hE;replace hL:=Zb hL;go_wp2_with fail;have cc14 : w12.cell? ⟨g1,0,none⟩ = some (.int .i64 s.t):=q5.out.cell 0;have cc15 : w12.cell? ⟨g1,1,none⟩ = some (.int .i64 s.p0):=q5.out.cell 1;have cc16 : w12.cell? ⟨g1,2,none⟩ = some (.int .i64 s.p1):=q5.out.cell 2;have cc17 : w12.cell? ⟨g1,3,none⟩ = some (.int .i64 s.p2):=q5.out.cell 3;have cc18 : w12.cell? ⟨g1,4,none⟩ = some (.int .i64 s.v0):=q5.out.cell 4;have cc19 : w12.cell? ⟨g1,5,none⟩ = some (.int .i64 s.v1):=q5.out.cell 5;have cc20 : w12.cell? ⟨g1,6,none⟩ = some (.int .i64 s.v2):=q5.out.cell 6;have hr21 : Below w12.heap.size w12 w12.drew:=Zh (Below.refl _ _) 1;replace q5:=Zb (Zd hr21 q5.out);replace hL:=Zb (hL.out.below hr21);have hB22:=Zb (hB13.out.trans (hr21.mono hB13.out.size));clear hB13;replace d0:=Za hr21 d0;replace d1:=Za hr21 d1;replace d2:=Za hr21 d2;replace d3:=Za hr21 d3;replace d4:=Za hr21 d4;replace d5:=Za hr21 d5;replace d6:=Za hr21 d6;replace cc14:=Za hr21 cc14;replace cc15:=Za hr21 cc15;replace cc16:=Za hr21 cc16;replace cc17:=Za hr21 cc17;replace cc18:=Za hr21 cc18;replace cc19:=Za hr21 cc19;replace cc20:=Za hr21 cc20;clear hr21
  refine Z1 [] (fun wx=>(wx.cell? ⟨gl,ol + m * 7,none⟩ = some (.int .i64 s.t)) /\ (wx.cell? ⟨gl,ol + m * 7 + 1,none⟩ = some (.int .i64 s.p0)) /\ (wx.cell? ⟨gl,ol + m * 7 + 2,none⟩ = some (.int .i64 s.p1)) /\ (wx.cell? ⟨gl,ol + m * 7 + 3,none⟩ = some (.int .i64 s.p2)) /\ (wx.cell? ⟨gl,ol + m * 7 + 4,none⟩ = some (.int .i64 s.v0)) /\ (wx.cell? ⟨gl,ol + m * 7 + 5,none⟩ = some (.int .i64 s.v1)) /\ (wx.cell? ⟨gl,ol + m * 7 + 6,none⟩ = some (.int .i64 s.v2)) /\ (wx.cell? ⟨g1,0,none⟩ = some (.int .i64 s.t)) /\ (wx.cell? ⟨g1,1,none⟩ = some (.int .i64 s.p0)) /\ (wx.cell? ⟨g1,2,none⟩ = some (.int .i64 s.p1)) /\ (wx.cell? ⟨g1,3,none⟩ = some (.int .i64 s.p2)) /\ (wx.cell? ⟨g1,4,none⟩ = some (.int .i64 s.v0)) /\ (wx.cell? ⟨g1,5,none⟩ = some (.int .i64 s.v1)) /\ (wx.cell? ⟨g1,6,none⟩ = some (.int .i64 s.v2))) hmx ⟨d0,d1,d2,d3,d4,d5,d6,cc14,cc15,cc16,cc17,cc18,cc19,cc20⟩ (fun _=>?_);refine Zc (i:=0) (v:=?vt1) rfl (by kernel_rfl) (by kernel_rfl) (by kernel_rfl) (by kernel_rfl) (by kernel_rfl) (Or.inl ⟨by kernel_rfl,?hyt1⟩) ⟨d0,d1,d2,d3,d4,d5,d6,cc14,cc15,cc16,cc17,cc18,cc19,cc20⟩ ?rt1
  case hyt1=>(intro W2 hSw;(try dsimp only at hSw);go_simp;try with_reducible rfl)
  try simp only [Act.put,putL_a,putL_z,putL_s,putG_a,putG_s,putG_z]
  refine Zc (i:=1) (v:=?vt2) rfl (by kernel_rfl) (by kernel_rfl) (by kernel_rfl) (by kernel_rfl) (by kernel_rfl) (Or.inl ⟨by kernel_rfl,?hyt2⟩) ⟨d0,d1,d2,d3,d4,d5,d6,cc14,cc15,cc16,cc17,cc18,cc19,cc20⟩ ?rt2
  case hyt2=>(intro W2 hSw;(try dsimp only at hSw);go_simp;try with_reducible rfl)
  try simp only [Act.put,putL_a,putL_z,putL_s,putG_a,putG_s,putG_z]
  refine Zc (i:=2) (v:=?vt3) rfl (by kernel_rfl) (by kernel_rfl) (by kernel_rfl) (by kernel_rfl) (by kernel_rfl) (Or.inl ⟨by kernel_rfl,?hyt3⟩) ⟨d0,d1,d2,d3,d4,d5,d6,cc14,cc15,cc16,cc17,cc18,cc19,cc20⟩ ?rt3
  case hyt3=>(intro W2 hSw;(try dsimp only at hSw);go_simp;try with_reducible rfl)
  try simp only [Act.put,putL_a,putL_z,putL_s,putG_a,putG_s,putG_z]
  refine Zc (i:=3) (v:=?vt4) rfl (by kernel_rfl) (by kernel_rfl) (by kernel_rfl) (by kernel_rfl) (by kernel_rfl) (Or.inl ⟨by kernel_rfl,?hyt4⟩) ⟨d0,d1,d2,d3,d4,d5,d6,cc14,cc15,cc16,cc17,cc18,cc19,cc20⟩ ?rt4
  case hyt4=>(intro W2 hSw;(try dsimp only at hSw);go_simp;try with_reducible rfl)
  try simp only [Act.put,putL_a,putL_z,putL_s,putG_a,putG_s,putG_z]
  refine Zc (i:=4) (v:=?vt5) rfl (by kernel_rfl) (by kernel_rfl) (by kernel_rfl) (by kernel_rfl) (by kernel_rfl) (Or.inl ⟨by kernel_rfl,?hyt5⟩) ⟨d0,d1,d2,d3,d4,d5,d6,cc14,cc15,cc16,cc17,cc18,cc19,cc20⟩ ?rt5
  case hyt5=>(intro W2 hSw;(try dsimp only at hSw);go_simp;try with_reducible rfl)
  try simp only [Act.put,putL_a,putL_z,putL_s,putG_a,putG_s,putG_z]
  refine Zc (i:=5) (v:=?vt6) rfl (by kernel_rfl) (by kernel_rfl) (by kernel_rfl) (by kernel_rfl) (by kernel_rfl) (Or.inl ⟨by kernel_rfl,?hyt6⟩) ⟨d0,d1,d2,d3,d4,d5,d6,cc14,cc15,cc16,cc17,cc18,cc19,cc20⟩ ?rt6
  case hyt6=>(intro W2 hSw;(try dsimp only at hSw);go_simp;try with_reducible rfl)
  try simp only [Act.put,putL_a,putL_z,putL_s,putG_a,putG_s,putG_z]
  refine Zc (i:=6) (v:=?vt7) rfl (by kernel_rfl) (by kernel_rfl) (by kernel_rfl) (by kernel_rfl) (by kernel_rfl) (Or.inl ⟨by kernel_rfl,?hyt7⟩) ⟨d0,d1,d2,d3,d4,d5,d6,cc14,cc15,cc16,cc17,cc18,cc19,cc20⟩ ?rt7
  case hyt7=>(intro W2 hSw;(try dsimp only at hSw);go_simp;try with_reducible rfl)
  try simp only [Act.put,putL_a,putL_z,putL_s,putG_a,putG_s,putG_z]
  refine Zc (i:=7) (v:=?vt8) rfl (by kernel_rfl) (by kernel_rfl) (by kernel_rfl) (by kernel_rfl) (by kernel_rfl) (Or.inl ⟨by kernel_rfl,?hyt8⟩) ⟨d0,d1,d2,d3,d4,d5,d6,cc14,cc15,cc16,cc17,cc18,cc19,cc20⟩ ?rt8
  case hyt8=>(intro W2 hSw;(try dsimp only at hSw);go_simp;try with_reducible rfl)
  try simp only [Act.put,putL_a,putL_z,putL_s,putG_a,putG_s,putG_z]
  refine Zc (i:=8) (v:=?vt9) rfl (by kernel_rfl) (by kernel_rfl) (by kernel_rfl) (by kernel_rfl) (by kernel_rfl) (Or.inl ⟨by kernel_rfl,?hyt9⟩) ⟨d0,d1,d2,d3,d4,d5,d6,cc14,cc15,cc16,cc17,cc18,cc19,cc20⟩ ?rt9
  case hyt9=>(intro W2 hSw;(try dsimp only at hSw);go_simp;try with_reducible rfl)
  try simp only [Act.put,putL_a,putL_z,putL_s,putG_a,putG_s,putG_z]
  refine Zc (i:=9) (v:=?vt10) rfl (by kernel_rfl) (by kernel_rfl) (by kernel_rfl) (by kernel_rfl) (by kernel_rfl) (Or.inl ⟨by kernel_rfl,?hyt10⟩) ⟨d0,d1,d2,d3,d4,d5,d6,cc14,cc15,cc16,cc17,cc18,cc19,cc20⟩ ?rt10
  case hyt10=>(intro W2 hSw;(try dsimp only at hSw);go_simp;try with_reducible rfl)
  try simp only [Act.put,putL_a,putL_z,putL_s,putG_a,putG_s,putG_z]
  refine Zc (i:=10) (v:=?vt11) rfl (by kernel_rfl) (by kernel_rfl) (by kernel_rfl) (by kernel_rfl) (by kernel_rfl) (Or.inl ⟨by kernel_rfl,?hyt11⟩) ⟨d0,d1,d2,d3,d4,d5,d6,cc14,cc15,cc16,cc17,cc18,cc19,cc20⟩ ?rt11
  case hyt11=>(intro W2 hSw;(try dsimp only at hSw);go_simp;try with_reducible rfl)
  try simp only [Act.put,putL_a,putL_z,putL_s,putG_a,putG_s,putG_z]
  refine Zc (i:=11) (v:=?vt12) rfl (by kernel_rfl) (by kernel_rfl) (by kernel_rfl) (by kernel_rfl) (by kernel_rfl) (Or.inl ⟨by kernel_rfl,?hyt12⟩) ⟨d0,d1,d2,d3,d4,d5,d6,cc14,cc15,cc16,cc17,cc18,cc19,cc20⟩ ?rt12
  case hyt12=>(intro W2 hSw;(try dsimp only at hSw);go_simp;try with_reducible rfl)
  try simp only [Act.put,putL_a,putL_z,putL_s,putG_a,putG_s,putG_z]
  refine Zc (i:=12) (v:=?vt13) rfl (by kernel_rfl) (by kernel_rfl) (by kernel_rfl) (by kernel_rfl) (by kernel_rfl) (Or.inl ⟨by kernel_rfl,?hyt13⟩) ⟨d0,d1,d2,d3,d4,d5,d6,cc14,cc15,cc16,cc17,cc18,cc19,cc20⟩ ?rt13
  case hyt13=>(intro W2 hSw;(try dsimp only at hSw);go_simp;try with_reducible rfl)
  try simp only [Act.put,putL_a,putL_z,putL_s,putG_a,putG_s,putG_z]
  refine Zc (i:=13) (v:=?vt14) rfl (by kernel_rfl) (by kernel_rfl) (by kernel_rfl) (by kernel_rfl) (by kernel_rfl) (Or.inl ⟨by kernel_rfl,?hyt14⟩) ⟨d0,d1,d2,d3,d4,d5,d6,cc14,cc15,cc16,cc17,cc18,cc19,cc20⟩ ?rt14
  case hyt14=>(intro W2 hSw;(try dsimp only at hSw);go_simp;try with_reducible rfl)
  try simp only [Act.put,putL_a,putL_z,putL_s,putG_a,putG_s,putG_z]
  refine Zc (i:=14) (v:=?vt15) rfl (by kernel_rfl) (by kernel_rfl) (by kernel_rfl) (by kernel_rfl) (by kernel_rfl) (Or.inl ⟨by kernel_rfl,?hyt15⟩) ⟨d0,d1,d2,d3,d4,d5,d6,cc14,cc15,cc16,cc17,cc18,cc19,cc20⟩ ?rt15
  case hyt15=>(intro W2 hSw;(try dsimp only at hSw);go_simp;try with_reducible rfl)
  try simp only [Act.put,putL_a,putL_z,putL_s,putG_a,putG_s,putG_z]
  refine Zc (i:=15) (v:=?vt16) rfl (by kernel_rfl) (by kernel_rfl) (by kernel_rfl) (by kernel_rfl) (by kernel_rfl) (Or.inl ⟨by kernel_rfl,?hyt16⟩) ⟨d0,d1,d2,d3,d4,d5,d6,cc14,cc15,cc16,cc17,cc18,cc19,cc20⟩ ?rt16
  case hyt16=>(intro W2 hSw;(try dsimp only at hSw);go_simp;try with_reducible rfl)
  try simp only [Act.put,putL_a,putL_z,putL_s,putG_a,putG_s,putG_z]
  refine Zc (i:=16) (v:=?vt17) rfl (by kernel_rfl) (by kernel_rfl) (by kernel_rfl) (by kernel_rfl) (by kernel_rfl) (Or.inl ⟨by kernel_rfl,?hyt17⟩) ⟨d0,d1,d2,d3,d4,d5,d6,cc14,cc15,cc16,cc17,cc18,cc19,cc20⟩ ?rt17
  case hyt17=>(intro W2 hSw;(try dsimp only at hSw);go_simp;try with_reducible rfl)
  try simp only [Act.put,putL_a,putL_z,putL_s,putG_a,putG_s,putG_z]
  refine Zc (i:=17) (v:=?vt18) rfl (by kernel_rfl) (by kernel_rfl) (by kernel_rfl) (by kernel_rfl) (by kernel_rfl) (Or.inl ⟨by kernel_rfl,?hyt18⟩) ⟨d0,d1,d2,d3,d4,d5,d6,cc14,cc15,cc16,cc17,cc18,cc19,cc20⟩ ?rt18
  case hyt18=>(intro W2 hSw;(try dsimp only at hSw);go_simp;try with_reducible rfl)
  try simp only [Act.put,putL_a,putL_z,putL_s,putG_a,putG_s,putG_z]
  refine Zc (i:=18) (v:=?vt19) rfl (by kernel_rfl) (by kernel_rfl) (by kernel_rfl) (by kernel_rfl) (by kernel_rfl) (Or.inl ⟨by kernel_rfl,?hyt19⟩) ⟨d0,d1,d2,d3,d4,d5,d6,cc14,cc15,cc16,cc17,cc18,cc19,cc20⟩ ?rt19
  case hyt19=>(intro W2 hSw;(try dsimp only at hSw);go_simp;try with_reducible rfl)
  try simp only [Act.put,putL_a,putL_z,putL_s,putG_a,putG_s,putG_z]
  refine Zc (i:=19) (v:=?vt20) rfl (by kernel_rfl) (by kernel_rfl) (by kernel_rfl) (by kernel_rfl) (by kernel_rfl) (Or.inl ⟨by kernel_rfl,?hyt20⟩) ⟨d0,d1,d2,d3,d4,d5,d6,cc14,cc15,cc16,cc17,cc18,cc19,cc20⟩ ?rt20
  case hyt20=>(intro W2 hSw;(try dsimp only at hSw);go_simp;try with_reducible rfl)
  try simp only [Act.put,putL_a,putL_z,putL_s,putG_a,putG_s,putG_z]
  refine Zc (i:=20) (v:=?vt21) rfl (by kernel_rfl) (by kernel_rfl) (by kernel_rfl) (by kernel_rfl) (by kernel_rfl) (Or.inl ⟨by kernel_rfl,?hyt21⟩) ⟨d0,d1,d2,d3,d4,d5,d6,cc14,cc15,cc16,cc17,cc18,cc19,cc20⟩ ?rt21
  case hyt21=>(intro W2 hSw;(try dsimp only at hSw);go_simp;try with_reducible rfl)
  try simp only [Act.put,putL_a,putL_z,putL_s,putG_a,putG_s,putG_z]
  refine Zc (i:=21) (v:=?vt22) rfl (by kernel_rfl) (by kernel_rfl) (by kernel_rfl) (by kernel_rfl) (by kernel_rfl) (Or.inl ⟨by kernel_rfl,?hyt22⟩) ⟨d0,d1,d2,d3,d4,d5,d6,cc14,cc15,cc16,cc17,cc18,cc19,cc20⟩ ?rt22
  case hyt22=>(intro W2 hSw;(try dsimp only at hSw);go_simp;try with_reducible rfl)
  try simp only [Act.put,putL_a,putL_z,putL_s,putG_a,putG_s,putG_z]
  refine Zc (i:=22) (v:=?vt23) rfl (by kernel_rfl) (by kernel_rfl) (by kernel_rfl) (by kernel_rfl) (by kernel_rfl) (Or.inl ⟨by kernel_rfl,?hyt23⟩) ⟨d0,d1,d2,d3,d4,d5,d6,cc14,cc15,cc16,cc17,cc18,cc19,cc20⟩ ?rt23
  case hyt23=>(intro W2 hSw;(try dsimp only at hSw);go_simp;try with_reducible rfl)
  try simp only [Act.put,putL_a,putL_z,putL_s,putG_a,putG_s,putG_z]
  refine Zc (i:=23) (v:=?vt24) rfl (by kernel_rfl) (by kernel_rfl) (by kernel_rfl) (by kernel_rfl) (by kernel_rfl) (Or.inl ⟨by kernel_rfl,?hyt24⟩) ⟨d0,d1,d2,d3,d4,d5,d6,cc14,cc15,cc16,cc17,cc18,cc19,cc20⟩ ?rt24
  case hyt24=>(intro W2 hSw;(try dsimp only at hSw);go_simp;try with_reducible rfl)
  try simp only [Act.put,putL_a,putL_z,putL_s,putG_a,putG_s,putG_z]
  refine Zc (i:=24) (v:=?vt25) rfl (by kernel_rfl) (by kernel_rfl) (by kernel_rfl) (by kernel_rfl) (by kernel_rfl) (Or.inl ⟨by kernel_rfl,?hyt25⟩) ⟨d0,d1,d2,d3,d4,d5,d6,cc14,cc15,cc16,cc17,cc18,cc19,cc20⟩ ?rt25
  case hyt25=>(intro W2 hSw;(try dsimp only at hSw);go_simp;try with_reducible rfl)
  try simp only [Act.put,putL_a,putL_z,putL_s,putG_a,putG_s,putG_z]
  refine Zc (i:=25) (v:=?vt26) rfl (by kernel_rfl) (by kernel_rfl) (by kernel_rfl) (by kernel_rfl) (by kernel_rfl) (Or.inl ⟨by kernel_rfl,?hyt26⟩) ⟨d0,d1,d2,d3,d4,d5,d6,cc14,cc15,cc16,cc17,cc18,cc19,cc20⟩ ?rt26
  case hyt26=>(intro W2 hSw;(try dsimp only at hSw);go_simp;try with_reducible rfl)
  try simp only [Act.put,putL_a,putL_z,putL_s,putG_a,putG_s,putG_z]
  refine Zc (i:=26) (v:=?vt27) rfl (by kernel_rfl) (by kernel_rfl) (by kernel_rfl) (by kernel_rfl) (by kernel_rfl) (Or.inl ⟨by kernel_rfl,?hyt27⟩) ⟨d0,d1,d2,d3,d4,d5,d6,cc14,cc15,cc16,cc17,cc18,cc19,cc20⟩ ?rt27
  case hyt27=>(intro W2 hSw;(try dsimp only at hSw);go_simp;try with_reducible rfl)
  try simp only [Act.put,putL_a,putL_z,putL_s,putG_a,putG_s,putG_z]
  refine Zc (i:=27) (v:=?vt28) rfl (by kernel_rfl) (by kernel_rfl) (by kernel_rfl) (by kernel_rfl) (by kernel_rfl) (Or.inl ⟨by kernel_rfl,?hyt28⟩) ⟨d0,d1,d2,d3,d4,d5,d6,cc14,cc15,cc16,cc17,cc18,cc19,cc20⟩ ?rt28
  case hyt28=>(intro W2 hSw;(try dsimp only at hSw);go_simp;try with_reducible rfl)
  try simp only [Act.put,putL_a,putL_z,putL_s,putG_a,putG_s,putG_z]
  refine Zc (i:=28) (v:=?vt29) rfl (by kernel_rfl) (by kernel_rfl) (by kernel_rfl) (by kernel_rfl) (by kernel_rfl) (Or.inl ⟨by kernel_rfl,?hyt29⟩) ⟨d0,d1,d2,d3,d4,d5,d6,cc14,cc15,cc16,cc17,cc18,cc19,cc20⟩ ?rt29
  case hyt29=>(intro W2 hSw;(try dsimp only at hSw);go_simp;try with_reducible rfl)
  try simp only [Act.put,putL_a,putL_z,putL_s,putG_a,putG_s,putG_z]
  refine Zc (i:=29) (v:=?vt30) rfl (by kernel_rfl) (by kernel_rfl) (by kernel_rfl) (by kernel_rfl) (by kernel_rfl) (Or.inl ⟨by kernel_rfl,?hyt30⟩) ⟨d0,d1,d2,d3,d4,d5,d6,cc14,cc15,cc16,cc17,cc18,cc19,cc20⟩ ?rt30
  case hyt30=>(intro W2 hSw;(try dsimp only at hSw);go_simp;try with_reducible rfl)
  try simp only [Act.put,putL_a,putL_z,putL_s,putG_a,putG_s,putG_z]
  refine Zj (by kernel_rfl) ?_ _;refine OnlyNormal.normal ?_;clear d0 d1 d2 d3 d4 d5 d6 cc14 cc15 cc16 cc17 cc18 cc19 cc20;clear hEq;go_wp2_with fail;have hB0:=hB22
  go_loopg [14,15,16,17] (m + 1) (fun t jv xv yv iv wr=>∃ j : Nat,j + t = m + 1 /\ jv = .int .i64 j /\ Hid (Below w12.drew.heap.size w12.drew wr))
  case atStart=>exact ⟨0,by omega,by go_num,Zb (Below.refl _ _)⟩
  case round =>
   obtain ⟨wi,rfl⟩ : ∃ x : World,x = wr:=⟨_,rfl⟩;obtain ⟨j,hjt,rfl,hBi⟩:=hrel;have hBB:=Zb (hB0.out.trans (hBi.out.mono hB0.out.size))
   cases gk with
   | zero =>
    obtain rfl : j = m + 1:=by omega
    have t5 : decide (((m + 1 : Nat) : Int) <= (m : Int)) = false:=decide_eq_false (by omega);go_wp2_with fail;go_ret;exact ⟨rfl,hBB.out⟩
   | succ t' =>
    obtain rfl : t' = m + 1 - (j + 1):=by omega
    have hjm : j <= m:=by omega
    have t5 : decide ((j : Int) <= (m : Int)) = true:=decide_eq_true (by omega);have t5' : decide (j <= m) = true:=decide_eq_true hjm;obtain ⟨u,hu⟩ : ∃ u : Nat,m + j = u:=⟨_,rfl⟩;obtain ⟨v,hv⟩ : ∃ v : Nat,m - j = v:=⟨_,rfl⟩
    have hu1 : IntKind.i64.wrap ((m : Int) + (j : Int)) = (u : Int):=by rw [IntWalk.i64_in _ (by omega)];omega
    have hv1 : IntKind.i64.wrap ((m : Int) - (j : Int)) = (v : Int):=by rw [IntWalk.i64_in _ (by omega)];omega
    have hu2 : IntKind.i64.wrap (u : Int) = (u : Int):=IntWalk.i64_in _ (by omega);have hv2 : IntKind.i64.wrap (v : Int) = (v : Int):=IntWalk.i64_in _ (by omega)
    have bu : (u : Int) < 2 * (m : Int) + 1:=by omega
    have bv : (v : Int) < 2 * (m : Int) + 1:=by omega
    obtain ⟨X,hX⟩ : ∃ X,stJ s (Zcm (Zp (qM rs)) K) (Zam m step u) = X:=⟨_,rfl⟩;obtain ⟨Y,hY⟩ : ∃ Y,stJ s (Zcm (Zp (qM rs)) K) (Zam m step v) = Y:=⟨_,rfl⟩;have hLi:=hL.out.below hBi.out;have hXs:=Zit hB.out (show u <= 2 * m by omega);have hYs:=Zit hB.out (show v <= 2 * m by omega);rw [hX] at hXs;rw [hY] at hYs;obtain ⟨x0,x1,x2,x3,x4,x5,x6⟩:=hLi.atS hXs;obtain ⟨y0,y1,y2,y3,y4,y5,y6⟩:=hLi.atS hYs;have hqs:=Zb (Zd hBi.out q5.out);have hXg : Hid (stE X = 0 /\ stE Y = 0 /\ X.t = s.t):=Zb ⟨by rw [<- hX];exact Zka hB.out (by omega),by rw [<- hY];exact Zka hB.out (by omega),by rw [<- hX];exact stJ_t _⟩
    have hXY : Hid (∀ i,i < 6 -> X.num i - s.num i = s.num i - Y.num i):=Zb (fun i hi=>by
     rw [<- hX,<- hY,<- hu,<- hv];exact Zpu hst.out hB.out hjm hi)
    have hXK : Hid (X.num K - s.num K = (j : Int) * step):=Zb (by
     rw [<- hX,<- hu];exact Zqe hst.out hB.out hK6 (hne.out) hjm)
    have hbX : Hid (∀ i,(-8796093022208 <= X.num i /\ X.num i <= 8796093022208) /\ (-8796093022208 <= Y.num i /\ Y.num i <= 8796093022208) /\ (-8796093022208 <= s.num i /\ s.num i <= 8796093022208)):=Zb (fun i=>⟨Zhb hXg.out.1 i,Zhb hXg.out.2.1 i,Zhb hst.out i⟩);clear hX hY hXs hYs hLi hBB;replace hu:=Zb hu;replace hv:=Zb hv;go_wp2_with fail;have hcw : Hid (∀ W9,Below wi.heap.size wi W9 -> (W9.cell? ⟨gl,ol + u * 7,none⟩ = some (.int .i64 X.t)) /\ (W9.cell? ⟨gl,ol + u * 7 + 1,none⟩ = some (.int .i64 X.p0)) /\ (W9.cell? ⟨gl,ol + u * 7 + 2,none⟩ = some (.int .i64 X.p1)) /\ (W9.cell? ⟨gl,ol + u * 7 + 3,none⟩ = some (.int .i64 X.p2)) /\ (W9.cell? ⟨gl,ol + u * 7 + 4,none⟩ = some (.int .i64 X.v0)) /\ (W9.cell? ⟨gl,ol + u * 7 + 5,none⟩ = some (.int .i64 X.v1)) /\ (W9.cell? ⟨gl,ol + u * 7 + 6,none⟩ = some (.int .i64 X.v2)) /\ (W9.cell? ⟨gl,ol + v * 7,none⟩ = some (.int .i64 Y.t)) /\ (W9.cell? ⟨gl,ol + v * 7 + 1,none⟩ = some (.int .i64 Y.p0)) /\ (W9.cell? ⟨gl,ol + v * 7 + 2,none⟩ = some (.int .i64 Y.p1)) /\ (W9.cell? ⟨gl,ol + v * 7 + 3,none⟩ = some (.int .i64 Y.p2)) /\ (W9.cell? ⟨gl,ol + v * 7 + 4,none⟩ = some (.int .i64 Y.v0)) /\ (W9.cell? ⟨gl,ol + v * 7 + 5,none⟩ = some (.int .i64 Y.v1)) /\ (W9.cell? ⟨gl,ol + v * 7 + 6,none⟩ = some (.int .i64 Y.v2))):=Zb (fun W9 h9=>⟨Za h9 x0,Za h9 x1,Za h9 x2,Za h9 x3,Za h9 x4,Za h9 x5,Za h9 x6,Za h9 y0,Za h9 y1,Za h9 y2,Za h9 y3,Za h9 y4,Za h9 y5,Za h9 y6⟩);have hBi0:=hBi;have hqs0:=hqs
    have hr401 : Below wi.heap.size wi wi.drew:=Zh (Below.refl _ _) 1;replace hqs:=Zb (Zd hr401 hqs.out);have hB402:=Zb (hBi.out.trans (hr401.mono hBi.out.size));clear hBi;replace x0:=Za hr401 x0;replace x1:=Za hr401 x1;replace x2:=Za hr401 x2;replace x3:=Za hr401 x3;replace x4:=Za hr401 x4;replace x5:=Za hr401 x5;replace x6:=Za hr401 x6;replace y0:=Za hr401 y0;replace y1:=Za hr401 y1;replace y2:=Za hr401 y2;replace y3:=Za hr401 y3;replace y4:=Za hr401 y4;replace y5:=Za hr401 y5;replace y6:=Za hr401 y6;clear hr401;refine Z1 [] (fun wx=>(wx.cell? ⟨gl,ol + u * 7,none⟩ = some (.int .i64 X.t)) /\ (wx.cell? ⟨gl,ol + u * 7 + 1,none⟩ = some (.int .i64 X.p0)) /\ (wx.cell? ⟨gl,ol + u * 7 + 2,none⟩ = some (.int .i64 X.p1)) /\ (wx.cell? ⟨gl,ol + u * 7 + 3,none⟩ = some (.int .i64 X.p2)) /\ (wx.cell? ⟨gl,ol + u * 7 + 4,none⟩ = some (.int .i64 X.v0)) /\ (wx.cell? ⟨gl,ol + u * 7 + 5,none⟩ = some (.int .i64 X.v1)) /\ (wx.cell? ⟨gl,ol + u * 7 + 6,none⟩ = some (.int .i64 X.v2)) /\ (wx.cell? ⟨gl,ol + v * 7,none⟩ = some (.int .i64 Y.t)) /\ (wx.cell? ⟨gl,ol + v * 7 + 1,none⟩ = some (.int .i64 Y.p0)) /\ (wx.cell? ⟨gl,ol + v * 7 + 2,none⟩ = some (.int .i64 Y.p1)) /\ (wx.cell? ⟨gl,ol + v * 7 + 3,none⟩ = some (.int .i64 Y.p2)) /\ (wx.cell? ⟨gl,ol + v * 7 + 4,none⟩ = some (.int .i64 Y.v0)) /\ (wx.cell? ⟨gl,ol + v * 7 + 5,none⟩ = some (.int .i64 Y.v1)) /\ (wx.cell? ⟨gl,ol + v * 7 + 6,none⟩ = some (.int .i64 Y.v2))) hmx ⟨x0,x1,x2,x3,x4,x5,x6,y0,y1,y2,y3,y4,y5,y6⟩ (fun _=>?_)
    refine Zc (i:=0) (v:=?vt31) rfl (by kernel_rfl) (by kernel_rfl) (by kernel_rfl) (by kernel_rfl) (by kernel_rfl) (Or.inl ⟨by kernel_rfl,?hyt31⟩) ⟨x0,x1,x2,x3,x4,x5,x6,y0,y1,y2,y3,y4,y5,y6⟩ ?rt31
    case hyt31=>(intro W2 hSw;(try dsimp only at hSw);go_simp;try with_reducible rfl)
    try simp only [Act.put,putL_a,putL_z,putL_s,putG_a,putG_s,putG_z]
    refine Zc (i:=1) (v:=?vt32) rfl (by kernel_rfl) (by kernel_rfl) (by kernel_rfl) (by kernel_rfl) (by kernel_rfl) (Or.inl ⟨by kernel_rfl,?hyt32⟩) ⟨x0,x1,x2,x3,x4,x5,x6,y0,y1,y2,y3,y4,y5,y6⟩ ?rt32
    case hyt32=>(intro W2 hSw;(try dsimp only at hSw);go_simp;try with_reducible rfl)
    try simp only [Act.put,putL_a,putL_z,putL_s,putG_a,putG_s,putG_z]
    refine Zc (i:=2) (v:=?vt33) rfl (by kernel_rfl) (by kernel_rfl) (by kernel_rfl) (by kernel_rfl) (by kernel_rfl) (Or.inl ⟨by kernel_rfl,?hyt33⟩) ⟨x0,x1,x2,x3,x4,x5,x6,y0,y1,y2,y3,y4,y5,y6⟩ ?rt33
    case hyt33=>(intro W2 hSw;(try dsimp only at hSw);go_simp;try with_reducible rfl)
    try simp only [Act.put,putL_a,putL_z,putL_s,putG_a,putG_s,putG_z]
    refine Zc (i:=3) (v:=?vt34) rfl (by kernel_rfl) (by kernel_rfl) (by kernel_rfl) (by kernel_rfl) (by kernel_rfl) (Or.inl ⟨by kernel_rfl,?hyt34⟩) ⟨x0,x1,x2,x3,x4,x5,x6,y0,y1,y2,y3,y4,y5,y6⟩ ?rt34
    case hyt34=>(intro W2 hSw;(try dsimp only at hSw);go_simp;try with_reducible rfl)
    try simp only [Act.put,putL_a,putL_z,putL_s,putG_a,putG_s,putG_z]
    refine Zc (i:=4) (v:=?vt35) rfl (by kernel_rfl) (by kernel_rfl) (by kernel_rfl) (by kernel_rfl) (by kernel_rfl) (Or.inl ⟨by kernel_rfl,?hyt35⟩) ⟨x0,x1,x2,x3,x4,x5,x6,y0,y1,y2,y3,y4,y5,y6⟩ ?rt35
    case hyt35=>(intro W2 hSw;(try dsimp only at hSw);go_simp;try with_reducible rfl)
    try simp only [Act.put,putL_a,putL_z,putL_s,putG_a,putG_s,putG_z]
    refine Zc (i:=5) (v:=?vt36) rfl (by kernel_rfl) (by kernel_rfl) (by kernel_rfl) (by kernel_rfl) (by kernel_rfl) (Or.inl ⟨by kernel_rfl,?hyt36⟩) ⟨x0,x1,x2,x3,x4,x5,x6,y0,y1,y2,y3,y4,y5,y6⟩ ?rt36
    case hyt36=>(intro W2 hSw;(try dsimp only at hSw);go_simp;try with_reducible rfl)
    try simp only [Act.put,putL_a,putL_z,putL_s,putG_a,putG_s,putG_z]
    refine Zc (i:=6) (v:=?vt37) rfl (by kernel_rfl) (by kernel_rfl) (by kernel_rfl) (by kernel_rfl) (by kernel_rfl) (Or.inl ⟨by kernel_rfl,?hyt37⟩) ⟨x0,x1,x2,x3,x4,x5,x6,y0,y1,y2,y3,y4,y5,y6⟩ ?rt37
    case hyt37=>(intro W2 hSw;(try dsimp only at hSw);go_simp;try with_reducible rfl)
    try simp only [Act.put,putL_a,putL_z,putL_s,putG_a,putG_s,putG_z]
    refine Zc (i:=7) (v:=?vt38) rfl (by kernel_rfl) (by kernel_rfl) (by kernel_rfl) (by kernel_rfl) (by kernel_rfl) (Or.inl ⟨by kernel_rfl,?hyt38⟩) ⟨x0,x1,x2,x3,x4,x5,x6,y0,y1,y2,y3,y4,y5,y6⟩ ?rt38
    case hyt38=>(intro W2 hSw;(try dsimp only at hSw);go_simp;try with_reducible rfl)
    try simp only [Act.put,putL_a,putL_z,putL_s,putG_a,putG_s,putG_z]
    refine Zc (i:=8) (v:=?vt39) rfl (by kernel_rfl) (by kernel_rfl) (by kernel_rfl) (by kernel_rfl) (by kernel_rfl) (Or.inl ⟨by kernel_rfl,?hyt39⟩) ⟨x0,x1,x2,x3,x4,x5,x6,y0,y1,y2,y3,y4,y5,y6⟩ ?rt39
    case hyt39=>(intro W2 hSw;(try dsimp only at hSw);go_simp;try with_reducible rfl)
    try simp only [Act.put,putL_a,putL_z,putL_s,putG_a,putG_s,putG_z]
    refine Zc (i:=9) (v:=?vt40) rfl (by kernel_rfl) (by kernel_rfl) (by kernel_rfl) (by kernel_rfl) (by kernel_rfl) (Or.inl ⟨by kernel_rfl,?hyt40⟩) ⟨x0,x1,x2,x3,x4,x5,x6,y0,y1,y2,y3,y4,y5,y6⟩ ?rt40
    case hyt40=>(intro W2 hSw;(try dsimp only at hSw);go_simp;try with_reducible rfl)
    try simp only [Act.put,putL_a,putL_z,putL_s,putG_a,putG_s,putG_z]
    refine Zc (i:=10) (v:=?vt41) rfl (by kernel_rfl) (by kernel_rfl) (by kernel_rfl) (by kernel_rfl) (by kernel_rfl) (Or.inl ⟨by kernel_rfl,?hyt41⟩) ⟨x0,x1,x2,x3,x4,x5,x6,y0,y1,y2,y3,y4,y5,y6⟩ ?rt41
    case hyt41=>(intro W2 hSw;(try dsimp only at hSw);go_simp;try with_reducible rfl)
    try simp only [Act.put,putL_a,putL_z,putL_s,putG_a,putG_s,putG_z]
    refine Zc (i:=11) (v:=?vt42) rfl (by kernel_rfl) (by kernel_rfl) (by kernel_rfl) (by kernel_rfl) (by kernel_rfl) (Or.inl ⟨by kernel_rfl,?hyt42⟩) ⟨x0,x1,x2,x3,x4,x5,x6,y0,y1,y2,y3,y4,y5,y6⟩ ?rt42
    case hyt42=>(intro W2 hSw;(try dsimp only at hSw);go_simp;try with_reducible rfl)
    try simp only [Act.put,putL_a,putL_z,putL_s,putG_a,putG_s,putG_z]
    refine Zgv [(12,15),(13,16)] [(12,15),(13,16)] (fun _=>[]) [(12,15),(13,16)] (fun _ v w=>∃ g,v = .pointer (some ⟨g,0,none⟩) /\ wi.heap.size <= g /\ Blk w g 46 St.zero.cells) 2 (by kernel_rfl) (fun _ _ _ _ _ hb h=>by
     obtain ⟨g,e,k,hB⟩:=h
     exact ⟨g,e,k,Zd hb hB⟩) (fun w9 hw9=>⟨Za hw9 x0,Za hw9 x1,Za hw9 x2,Za hw9 x3,Za hw9 x4,Za hw9 x5,Za hw9 x6,Za hw9 y0,Za hw9 y1,Za hw9 y2,Za hw9 y3,Za hw9 y4,Za hw9 y5,Za hw9 y6⟩) ?hop12 ?hfin12
    case hop12 =>
     intro p hp;simp only [List.mem_cons,List.not_mem_nil,or_false] at hp;simp only [List.map_cons,List.map_nil,Zat,Act.put,putL_a,putL_z,putL_s]
     rcases hp with rfl | rfl
     ·intro ν wx hb hP
      refine Zcu (i:=12) rfl (fun K hK=>?_);go_simp
      exact hK.out _ _ ⟨_,rfl,⟨_,rfl,hb.size,Blk.new _ _ _⟩,(Below.refl _ _).alloc (Nat.le_refl _) _,trivial,fun _ q _ u hu e=>by
       obtain ⟨g,rfl,-,hB⟩:=hu;have h9:=hB.lt
       simp at e⟩
     ·intro ν wx hb hP
      refine Zcu (i:=13) rfl (fun K hK=>?_);go_simp
      exact hK.out _ _ ⟨_,rfl,⟨_,rfl,hb.size,Blk.new _ _ _⟩,(Below.refl _ _).alloc (Nat.le_refl _) _,trivial,fun _ q _ u hu e=>by
       obtain ⟨g,rfl,-,hB⟩:=hu;have h9:=hB.lt
       simp at e⟩
    case hfin12 =>
     intro ν wx hb hP hD;obtain ⟨gx,e1,kx,bx⟩:=hP (12,15) (by simp);obtain ⟨gy,e2,ky,byy⟩:=hP (13,16) (by simp)
     have hne : gx ≠ gy:=fun e=>hD (12,15) (by simp) (13,16) (by simp) (by decide) (by rw [e1,e2,e])
     have e1' : ν 15 = .pointer (some ⟨gx,0,none⟩):=e1;have e2' : ν 16 = .pointer (some ⟨gy,0,none⟩):=e2;simp only [List.map_cons,List.map_nil,Zat,Act.put,putL_a,putL_z,putL_s];rw [e1',e2'];clear e1 e2 e1' e2' hP hD ν;have hw1 : Below wi.heap.size wi wx:=(Zh (Below.refl _ _) 1).trans hb;obtain ⟨W1,hW1,hB1,p1,kb1⟩:=Zox X hw1 kx bx;have by1:=kb1 _ _ _ hne.symm byy;obtain ⟨v0',v1',v2',v3',v4',v5',v6'⟩:=Za2 bx;obtain ⟨f0',f1',f2',f3',f4',f5',f6'⟩:=bx.frozen7;clear x0 x1 x2 x3 x4 x5 x6 y0 y1 y2 y3 y4 y5 y6 hqs hB402;refine Ze (i:=14) rfl (by kernel_rfl) (fun K hK=>?_);go_simp;(try rw [hW1]);refine hK.out _ _ (fun _=>hcw.out _ hB1) ?_;clear hK K v0' v1' v2' v3' v4' v5' v6' f0' f1' f2' f3' f4' f5' f6'
     try simp only [Act.put,putL_a,putL_z,putL_s,putG_a,putG_s,putG_z]
     obtain ⟨W2,hW2,hB2,p2,kb2⟩:=Zox Y hB1 ky by1;have p1':=kb2 _ _ _ hne p1;obtain ⟨v0',v1',v2',v3',v4',v5',v6'⟩:=Za2 by1;obtain ⟨f0',f1',f2',f3',f4',f5',f6'⟩:=by1.frozen7;refine Ze (i:=15) rfl (by kernel_rfl) (fun K hK=>?_);go_simp;(try rw [hW2]);refine hK.out _ _ (fun _=>hcw.out _ hB2) ?_;clear hK K v0' v1' v2' v3' v4' v5' v6' f0' f1' f2' f3' f4' f5' f6'
     try simp only [Act.put,putL_a,putL_z,putL_s,putG_a,putG_s,putG_z]
     refine Zj (by kernel_rfl) ?_ _;refine OnlyNormal.normal ?_;have hqs:=Zb (Zd hB2 hqs0.out);have hBi2:=Zb (hBi0.out.trans (hB2.mono hBi0.out.size));clear hW1 hB1 p1 kb1 by1 hW2 kb2 hb hw1 bx byy hcw hqs0 hBi0 hB2 hne kx ky;have qX:=Zb p1';have qY:=Zb p2;clear p1' p2;go_wp2_with fail;have wC:=hXK.out;obtain ⟨hX0,hY0,hXt⟩:=hXg.out;obtain ⟨xk,hxk⟩ : ∃ z,X.num K = z:=⟨_,rfl⟩;obtain ⟨sk,hsk⟩ : ∃ z,s.num K = z:=⟨_,rfl⟩;obtain ⟨D,hDj⟩ : ∃ z,(j : Int) * step = z:=⟨_,rfl⟩;have hbk:=hbX.out K;rw [hxk,hsk] at hbk;rw [hxk,hsk,hDj] at wC
     have hsb : IntKind.i64.wrap (xk - sk) = D:=by rw [wC,IntWalk.i64_in _ (by omega)]
     have hml : IntKind.i64.wrap ((j : Int) * step) = D:=by rw [hDj,IntWalk.i64_in _ (by omega)]
     replace hxk:=Zb hxk;replace hsk:=Zb hsk;replace hDj:=Zb hDj;replace hX0:=Zb hX0;replace hY0:=Zb hY0;clear wC hbk;have cc403 : W2.cell? ⟨gx,0,none⟩ = some (.int .i64 X.t):=qX.out.cell 0;have cc404 : W2.cell? ⟨gx,1,none⟩ = some (.int .i64 X.p0):=qX.out.cell 1;have cc405 : W2.cell? ⟨gx,2,none⟩ = some (.int .i64 X.p1):=qX.out.cell 2;have cc406 : W2.cell? ⟨gx,3,none⟩ = some (.int .i64 X.p2):=qX.out.cell 3;have cc407 : W2.cell? ⟨gx,4,none⟩ = some (.int .i64 X.v0):=qX.out.cell 4;have cc408 : W2.cell? ⟨gx,5,none⟩ = some (.int .i64 X.v1):=qX.out.cell 5;have cc409 : W2.cell? ⟨gx,6,none⟩ = some (.int .i64 X.v2):=qX.out.cell 6;have cc410 : W2.cell? ⟨gy,0,none⟩ = some (.int .i64 Y.t):=qY.out.cell 0;have cc411 : W2.cell? ⟨gy,1,none⟩ = some (.int .i64 Y.p0):=qY.out.cell 1;have cc412 : W2.cell? ⟨gy,2,none⟩ = some (.int .i64 Y.p1):=qY.out.cell 2;have cc413 : W2.cell? ⟨gy,3,none⟩ = some (.int .i64 Y.p2):=qY.out.cell 3;have cc414 : W2.cell? ⟨gy,4,none⟩ = some (.int .i64 Y.v0):=qY.out.cell 4;have cc415 : W2.cell? ⟨gy,5,none⟩ = some (.int .i64 Y.v1):=qY.out.cell 5;have cc416 : W2.cell? ⟨gy,6,none⟩ = some (.int .i64 Y.v2):=qY.out.cell 6;have cc417 : W2.cell? ⟨g1,0,none⟩ = some (.int .i64 s.t):=hqs.out.cell 0;have cc418 : W2.cell? ⟨g1,1,none⟩ = some (.int .i64 s.p0):=hqs.out.cell 1;have cc419 : W2.cell? ⟨g1,2,none⟩ = some (.int .i64 s.p1):=hqs.out.cell 2;have cc420 : W2.cell? ⟨g1,3,none⟩ = some (.int .i64 s.p2):=hqs.out.cell 3
     have cc421 : W2.cell? ⟨g1,4,none⟩ = some (.int .i64 s.v0):=hqs.out.cell 4;have cc422 : W2.cell? ⟨g1,5,none⟩ = some (.int .i64 s.v1):=hqs.out.cell 5;have cc423 : W2.cell? ⟨g1,6,none⟩ = some (.int .i64 s.v2):=hqs.out.cell 6;rw [hXt] at cc403;have hCX:=Zb (fun W=>Zgy X W);have hNX:=Zb (fun W=>Zbo X K hK6 W);have hNs:=Zb (fun W=>Zbo s K hK6 W);rw [hXt] at hCX hNX;replace hXt:=Zb hXt;have hr424 : Below W2.heap.size W2 W2.drew:=Zh (Below.refl _ _) 1;replace hqs:=Zb (Zd hr424 hqs.out);replace qX:=Zb (Zd hr424 qX.out);replace qY:=Zb (Zd hr424 qY.out);have hB425:=Zb (hBi2.out.trans (hr424.mono hBi2.out.size));clear hBi2;replace cc403:=Za hr424 cc403;replace cc404:=Za hr424 cc404;replace cc405:=Za hr424 cc405;replace cc406:=Za hr424 cc406;replace cc407:=Za hr424 cc407;replace cc408:=Za hr424 cc408;replace cc409:=Za hr424 cc409;replace cc410:=Za hr424 cc410;replace cc411:=Za hr424 cc411;replace cc412:=Za hr424 cc412;replace cc413:=Za hr424 cc413;replace cc414:=Za hr424 cc414;replace cc415:=Za hr424 cc415;replace cc416:=Za hr424 cc416;replace cc417:=Za hr424 cc417;replace cc418:=Za hr424 cc418;replace cc419:=Za hr424 cc419;replace cc420:=Za hr424 cc420;replace cc421:=Za hr424 cc421;replace cc422:=Za hr424 cc422;replace cc423:=Za hr424 cc423;clear hr424
     refine Z1 [] (fun wx=>(wx.cell? ⟨gx,0,none⟩ = some (.int .i64 s.t)) /\ (wx.cell? ⟨gx,1,none⟩ = some (.int .i64 X.p0)) /\ (wx.cell? ⟨gx,2,none⟩ = some (.int .i64 X.p1)) /\ (wx.cell? ⟨gx,3,none⟩ = some (.int .i64 X.p2)) /\ (wx.cell? ⟨gx,4,none⟩ = some (.int .i64 X.v0)) /\ (wx.cell? ⟨gx,5,none⟩ = some (.int .i64 X.v1)) /\ (wx.cell? ⟨gx,6,none⟩ = some (.int .i64 X.v2)) /\ (wx.cell? ⟨gy,0,none⟩ = some (.int .i64 Y.t)) /\ (wx.cell? ⟨gy,1,none⟩ = some (.int .i64 Y.p0)) /\ (wx.cell? ⟨gy,2,none⟩ = some (.int .i64 Y.p1)) /\ (wx.cell? ⟨gy,3,none⟩ = some (.int .i64 Y.p2)) /\ (wx.cell? ⟨gy,4,none⟩ = some (.int .i64 Y.v0)) /\ (wx.cell? ⟨gy,5,none⟩ = some (.int .i64 Y.v1)) /\ (wx.cell? ⟨gy,6,none⟩ = some (.int .i64 Y.v2)) /\ (wx.cell? ⟨g1,0,none⟩ = some (.int .i64 s.t)) /\ (wx.cell? ⟨g1,1,none⟩ = some (.int .i64 s.p0)) /\ (wx.cell? ⟨g1,2,none⟩ = some (.int .i64 s.p1)) /\ (wx.cell? ⟨g1,3,none⟩ = some (.int .i64 s.p2)) /\ (wx.cell? ⟨g1,4,none⟩ = some (.int .i64 s.v0)) /\ (wx.cell? ⟨g1,5,none⟩ = some (.int .i64 s.v1)) /\ (wx.cell? ⟨g1,6,none⟩ = some (.int .i64 s.v2))) hmx ⟨cc403,cc404,cc405,cc406,cc407,cc408,cc409,cc410,cc411,cc412,cc413,cc414,cc415,cc416,cc417,cc418,cc419,cc420,cc421,cc422,cc423⟩ (fun _=>?_);refine Zc (i:=0) (v:=?vt43) rfl (by kernel_rfl) (by kernel_rfl) (by kernel_rfl) (by kernel_rfl) (by kernel_rfl) (Or.inl ⟨by kernel_rfl,?hyt43⟩) ⟨cc403,cc404,cc405,cc406,cc407,cc408,cc409,cc410,cc411,cc412,cc413,cc414,cc415,cc416,cc417,cc418,cc419,cc420,cc421,cc422,cc423⟩ ?rt43
     case hyt43=>(intro W2 hSw;(try dsimp only at hSw);go_simp;try with_reducible rfl)
     try simp only [Act.put,putL_a,putL_z,putL_s,putG_a,putG_s,putG_z]
     refine Ze (i:=1) rfl (by kernel_rfl) (fun K hK=>?_);(try rw [if_pos (by kernel_rfl)]);go_simp;refine (hCX.out W2.drew).mono ?_;rintro e w426 ⟨rfl,hb9⟩;replace hqs:=Zb (Zd hb9 hqs.out);replace qX:=Zb (Zd hb9 qX.out);replace qY:=Zb (Zd hb9 qY.out);have hB427:=Zb (hB425.out.trans (hb9.mono hB425.out.size));clear hB425;replace cc403:=Za hb9 cc403;replace cc404:=Za hb9 cc404;replace cc405:=Za hb9 cc405;replace cc406:=Za hb9 cc406;replace cc407:=Za hb9 cc407;replace cc408:=Za hb9 cc408;replace cc409:=Za hb9 cc409;replace cc410:=Za hb9 cc410;replace cc411:=Za hb9 cc411;replace cc412:=Za hb9 cc412;replace cc413:=Za hb9 cc413;replace cc414:=Za hb9 cc414;replace cc415:=Za hb9 cc415;replace cc416:=Za hb9 cc416;replace cc417:=Za hb9 cc417;replace cc418:=Za hb9 cc418;replace cc419:=Za hb9 cc419;replace cc420:=Za hb9 cc420;replace cc421:=Za hb9 cc421;replace cc422:=Za hb9 cc422;replace cc423:=Za hb9 cc423;clear hb9;rw [hX0.out];refine hK.out _ _ (fun _=>⟨cc403,cc404,cc405,cc406,cc407,cc408,cc409,cc410,cc411,cc412,cc413,cc414,cc415,cc416,cc417,cc418,cc419,cc420,cc421,cc422,cc423⟩) ?_;clear hK K
     try simp only [Act.put,putL_a,putL_z,putL_s,putG_a,putG_s,putG_z]
     refine Zc (i:=2) (v:=?vt44) rfl (by kernel_rfl) (by kernel_rfl) (by kernel_rfl) (by kernel_rfl) (by kernel_rfl) (Or.inl ⟨by kernel_rfl,?hyt44⟩) ⟨cc403,cc404,cc405,cc406,cc407,cc408,cc409,cc410,cc411,cc412,cc413,cc414,cc415,cc416,cc417,cc418,cc419,cc420,cc421,cc422,cc423⟩ ?rt44
     case hyt44=>(intro W2 hSw;(try dsimp only at hSw);go_simp;try with_reducible rfl)
     try simp only [Act.put,putL_a,putL_z,putL_s,putG_a,putG_s,putG_z]
     refine Zc (i:=3) (v:=?vt45) rfl (by kernel_rfl) (by kernel_rfl) (by kernel_rfl) (by kernel_rfl) (by kernel_rfl) (Or.inl ⟨by kernel_rfl,?hyt45⟩) ⟨cc403,cc404,cc405,cc406,cc407,cc408,cc409,cc410,cc411,cc412,cc413,cc414,cc415,cc416,cc417,cc418,cc419,cc420,cc421,cc422,cc423⟩ ?rt45
     case hyt45=>(intro W2 hSw;(try dsimp only at hSw);go_simp;try with_reducible rfl)
     try simp only [Act.put,putL_a,putL_z,putL_s,putG_a,putG_s,putG_z]
     refine Zc (i:=4) (v:=?vt46) rfl (by kernel_rfl) (by kernel_rfl) (by kernel_rfl) (by kernel_rfl) (by kernel_rfl) (Or.inl ⟨by kernel_rfl,?hyt46⟩) ⟨cc403,cc404,cc405,cc406,cc407,cc408,cc409,cc410,cc411,cc412,cc413,cc414,cc415,cc416,cc417,cc418,cc419,cc420,cc421,cc422,cc423⟩ ?rt46
     case hyt46=>(intro W2 hSw;(try dsimp only at hSw);go_simp;try with_reducible rfl)
     try simp only [Act.put,putL_a,putL_z,putL_s,putG_a,putG_s,putG_z]
     refine Ze (i:=5) rfl (by kernel_rfl) (fun K hK=>?_);(try rw [if_pos (by kernel_rfl)]);go_simp;refine (Zgy Y w426).mono ?_;rintro e w428 ⟨rfl,hb9⟩;replace hqs:=Zb (Zd hb9 hqs.out);replace qX:=Zb (Zd hb9 qX.out);replace qY:=Zb (Zd hb9 qY.out);have hB429:=Zb (hB427.out.trans (hb9.mono hB427.out.size));clear hB427;replace cc403:=Za hb9 cc403;replace cc404:=Za hb9 cc404;replace cc405:=Za hb9 cc405;replace cc406:=Za hb9 cc406;replace cc407:=Za hb9 cc407;replace cc408:=Za hb9 cc408;replace cc409:=Za hb9 cc409;replace cc410:=Za hb9 cc410;replace cc411:=Za hb9 cc411;replace cc412:=Za hb9 cc412;replace cc413:=Za hb9 cc413;replace cc414:=Za hb9 cc414;replace cc415:=Za hb9 cc415;replace cc416:=Za hb9 cc416;replace cc417:=Za hb9 cc417;replace cc418:=Za hb9 cc418;replace cc419:=Za hb9 cc419;replace cc420:=Za hb9 cc420;replace cc421:=Za hb9 cc421;replace cc422:=Za hb9 cc422;replace cc423:=Za hb9 cc423;clear hb9;rw [hY0.out];refine hK.out _ _ (fun _=>⟨cc403,cc404,cc405,cc406,cc407,cc408,cc409,cc410,cc411,cc412,cc413,cc414,cc415,cc416,cc417,cc418,cc419,cc420,cc421,cc422,cc423⟩) ?_;clear hK K
     try simp only [Act.put,putL_a,putL_z,putL_s,putG_a,putG_s,putG_z]
     refine Zc (i:=6) (v:=?vt47) rfl (by kernel_rfl) (by kernel_rfl) (by kernel_rfl) (by kernel_rfl) (by kernel_rfl) (Or.inl ⟨by kernel_rfl,?hyt47⟩) ⟨cc403,cc404,cc405,cc406,cc407,cc408,cc409,cc410,cc411,cc412,cc413,cc414,cc415,cc416,cc417,cc418,cc419,cc420,cc421,cc422,cc423⟩ ?rt47
     case hyt47=>(intro W2 hSw;(try dsimp only at hSw);go_simp;try with_reducible rfl)
     try simp only [Act.put,putL_a,putL_z,putL_s,putG_a,putG_s,putG_z]
     refine Zc (i:=7) (v:=?vt48) rfl (by kernel_rfl) (by kernel_rfl) (by kernel_rfl) (by kernel_rfl) (by kernel_rfl) (Or.inl ⟨by kernel_rfl,?hyt48⟩) ⟨cc403,cc404,cc405,cc406,cc407,cc408,cc409,cc410,cc411,cc412,cc413,cc414,cc415,cc416,cc417,cc418,cc419,cc420,cc421,cc422,cc423⟩ ?rt48
     case hyt48=>(intro W2 hSw;(try dsimp only at hSw);go_simp;try with_reducible rfl)
     try simp only [Act.put,putL_a,putL_z,putL_s,putG_a,putG_s,putG_z]
     refine Zc (i:=8) (v:=?vt49) rfl (by kernel_rfl) (by kernel_rfl) (by kernel_rfl) (by kernel_rfl) (by kernel_rfl) (Or.inl ⟨by kernel_rfl,?hyt49⟩) ⟨cc403,cc404,cc405,cc406,cc407,cc408,cc409,cc410,cc411,cc412,cc413,cc414,cc415,cc416,cc417,cc418,cc419,cc420,cc421,cc422,cc423⟩ ?rt49
     case hyt49=>(intro W2 hSw;(try dsimp only at hSw);go_simp;try with_reducible rfl)
     try simp only [Act.put,putL_a,putL_z,putL_s,putG_a,putG_s,putG_z]
     refine Zc (i:=9) (v:=?vt50) rfl (by kernel_rfl) (by kernel_rfl) (by kernel_rfl) (by kernel_rfl) (by kernel_rfl) (Or.inl ⟨by kernel_rfl,?hyt50⟩) ⟨cc403,cc404,cc405,cc406,cc407,cc408,cc409,cc410,cc411,cc412,cc413,cc414,cc415,cc416,cc417,cc418,cc419,cc420,cc421,cc422,cc423⟩ ?rt50
     case hyt50=>(intro W2 hSw;(try dsimp only at hSw);go_simp;try with_reducible rfl)
     try simp only [Act.put,putL_a,putL_z,putL_s,putG_a,putG_s,putG_z]
     refine Zc (i:=10) (v:=?vt51) rfl (by kernel_rfl) (by kernel_rfl) (by kernel_rfl) (by kernel_rfl) (by kernel_rfl) (Or.inl ⟨by kernel_rfl,?hyt51⟩) ⟨cc403,cc404,cc405,cc406,cc407,cc408,cc409,cc410,cc411,cc412,cc413,cc414,cc415,cc416,cc417,cc418,cc419,cc420,cc421,cc422,cc423⟩ ?rt51
     case hyt51=>(intro W2 hSw;(try dsimp only at hSw);go_simp;try with_reducible rfl)
     try simp only [Act.put,putL_a,putL_z,putL_s,putG_a,putG_s,putG_z]
     refine Zc (i:=11) (v:=?vt52) rfl (by kernel_rfl) (by kernel_rfl) (by kernel_rfl) (by kernel_rfl) (by kernel_rfl) (Or.inl ⟨by kernel_rfl,?hyt52⟩) ⟨cc403,cc404,cc405,cc406,cc407,cc408,cc409,cc410,cc411,cc412,cc413,cc414,cc415,cc416,cc417,cc418,cc419,cc420,cc421,cc422,cc423⟩ ?rt52
     case hyt52=>(intro W2 hSw;(try dsimp only at hSw);go_simp;try with_reducible rfl)
     try simp only [Act.put,putL_a,putL_z,putL_s,putG_a,putG_s,putG_z]
     refine Zc (i:=12) (v:=?vt53) rfl (by kernel_rfl) (by kernel_rfl) (by kernel_rfl) (by kernel_rfl) (by kernel_rfl) (Or.inl ⟨by kernel_rfl,?hyt53⟩) ⟨cc403,cc404,cc405,cc406,cc407,cc408,cc409,cc410,cc411,cc412,cc413,cc414,cc415,cc416,cc417,cc418,cc419,cc420,cc421,cc422,cc423⟩ ?rt53
     case hyt53=>(intro W2 hSw;(try dsimp only at hSw);go_simp;try with_reducible rfl)
     try simp only [Act.put,putL_a,putL_z,putL_s,putG_a,putG_s,putG_z]
     refine Zc (i:=13) (v:=?vt54) rfl (by kernel_rfl) (by kernel_rfl) (by kernel_rfl) (by kernel_rfl) (by kernel_rfl) (Or.inl ⟨by kernel_rfl,?hyt54⟩) ⟨cc403,cc404,cc405,cc406,cc407,cc408,cc409,cc410,cc411,cc412,cc413,cc414,cc415,cc416,cc417,cc418,cc419,cc420,cc421,cc422,cc423⟩ ?rt54
     case hyt54=>(intro W2 hSw;(try dsimp only at hSw);go_simp;try with_reducible rfl)
     try simp only [Act.put,putL_a,putL_z,putL_s,putG_a,putG_s,putG_z]
     refine Zc (i:=14) (v:=?vt55) rfl (by kernel_rfl) (by kernel_rfl) (by kernel_rfl) (by kernel_rfl) (by kernel_rfl) (Or.inl ⟨by kernel_rfl,?hyt55⟩) ⟨cc403,cc404,cc405,cc406,cc407,cc408,cc409,cc410,cc411,cc412,cc413,cc414,cc415,cc416,cc417,cc418,cc419,cc420,cc421,cc422,cc423⟩ ?rt55
     case hyt55=>(intro W2 hSw;(try dsimp only at hSw);go_simp;try with_reducible rfl)
     try simp only [Act.put,putL_a,putL_z,putL_s,putG_a,putG_s,putG_z]
     refine Zc (i:=15) (v:=?vt56) rfl (by kernel_rfl) (by kernel_rfl) (by kernel_rfl) (by kernel_rfl) (by kernel_rfl) (Or.inl ⟨by kernel_rfl,?hyt56⟩) ⟨cc403,cc404,cc405,cc406,cc407,cc408,cc409,cc410,cc411,cc412,cc413,cc414,cc415,cc416,cc417,cc418,cc419,cc420,cc421,cc422,cc423⟩ ?rt56
     case hyt56=>(intro W2 hSw;(try dsimp only at hSw);go_simp;try with_reducible rfl)
     try simp only [Act.put,putL_a,putL_z,putL_s,putG_a,putG_s,putG_z]
     refine Zc (i:=16) (v:=?vt57) rfl (by kernel_rfl) (by kernel_rfl) (by kernel_rfl) (by kernel_rfl) (by kernel_rfl) (Or.inl ⟨by kernel_rfl,?hyt57⟩) ⟨cc403,cc404,cc405,cc406,cc407,cc408,cc409,cc410,cc411,cc412,cc413,cc414,cc415,cc416,cc417,cc418,cc419,cc420,cc421,cc422,cc423⟩ ?rt57
     case hyt57=>(intro W2 hSw;(try dsimp only at hSw);go_simp;try with_reducible rfl)
     try simp only [Act.put,putL_a,putL_z,putL_s,putG_a,putG_s,putG_z]
     refine Zc (i:=17) (v:=?vt58) rfl (by kernel_rfl) (by kernel_rfl) (by kernel_rfl) (by kernel_rfl) (by kernel_rfl) (Or.inl ⟨by kernel_rfl,?hyt58⟩) ⟨cc403,cc404,cc405,cc406,cc407,cc408,cc409,cc410,cc411,cc412,cc413,cc414,cc415,cc416,cc417,cc418,cc419,cc420,cc421,cc422,cc423⟩ ?rt58
     case hyt58=>(intro W2 hSw;(try dsimp only at hSw);go_simp;try with_reducible rfl)
     try simp only [Act.put,putL_a,putL_z,putL_s,putG_a,putG_s,putG_z]
     refine Zc (i:=19) (v:=?vt59) rfl (by kernel_rfl) (by kernel_rfl) (by kernel_rfl) (by kernel_rfl) (by kernel_rfl) (Or.inl ⟨by kernel_rfl,?hyt59⟩) ⟨cc403,cc404,cc405,cc406,cc407,cc408,cc409,cc410,cc411,cc412,cc413,cc414,cc415,cc416,cc417,cc418,cc419,cc420,cc421,cc422,cc423⟩ ?rt59
     case hyt59=>(intro W2 hSw;(try dsimp only at hSw);go_simp;try with_reducible rfl)
     try simp only [Act.put,putL_a,putL_z,putL_s,putG_a,putG_s,putG_z]
     refine Zc (i:=20) (v:=?vt60) rfl (by kernel_rfl) (by kernel_rfl) (by kernel_rfl) (by kernel_rfl) (by kernel_rfl) (Or.inl ⟨by kernel_rfl,?hyt60⟩) ⟨cc403,cc404,cc405,cc406,cc407,cc408,cc409,cc410,cc411,cc412,cc413,cc414,cc415,cc416,cc417,cc418,cc419,cc420,cc421,cc422,cc423⟩ ?rt60
     case hyt60=>(intro W2 hSw;(try dsimp only at hSw);go_simp;try with_reducible rfl)
     try simp only [Act.put,putL_a,putL_z,putL_s,putG_a,putG_s,putG_z]
     refine Zc (i:=23) (v:=?vt61) rfl (by kernel_rfl) (by kernel_rfl) (by kernel_rfl) (by kernel_rfl) (by kernel_rfl) (Or.inl ⟨by kernel_rfl,?hyt61⟩) ⟨cc403,cc404,cc405,cc406,cc407,cc408,cc409,cc410,cc411,cc412,cc413,cc414,cc415,cc416,cc417,cc418,cc419,cc420,cc421,cc422,cc423⟩ ?rt61
     case hyt61=>(intro W2 hSw;(try dsimp only at hSw);go_simp;try with_reducible rfl)
     try simp only [Act.put,putL_a,putL_z,putL_s,putG_a,putG_s,putG_z]
     refine Zc (i:=24) (v:=?vt62) rfl (by kernel_rfl) (by kernel_rfl) (by kernel_rfl) (by kernel_rfl) (by kernel_rfl) (Or.inl ⟨by kernel_rfl,?hyt62⟩) ⟨cc403,cc404,cc405,cc406,cc407,cc408,cc409,cc410,cc411,cc412,cc413,cc414,cc415,cc416,cc417,cc418,cc419,cc420,cc421,cc422,cc423⟩ ?rt62
     case hyt62=>(intro W2 hSw;(try dsimp only at hSw);go_simp;try with_reducible rfl)
     try simp only [Act.put,putL_a,putL_z,putL_s,putG_a,putG_s,putG_z]
     refine Zc (i:=25) (v:=?vt63) rfl (by kernel_rfl) (by kernel_rfl) (by kernel_rfl) (by kernel_rfl) (by kernel_rfl) (Or.inl ⟨by kernel_rfl,?hyt63⟩) ⟨cc403,cc404,cc405,cc406,cc407,cc408,cc409,cc410,cc411,cc412,cc413,cc414,cc415,cc416,cc417,cc418,cc419,cc420,cc421,cc422,cc423⟩ ?rt63
     case hyt63=>(intro W2 hSw;(try dsimp only at hSw);go_simp;try with_reducible rfl)
     try simp only [Act.put,putL_a,putL_z,putL_s,putG_a,putG_s,putG_z]
     refine Ze (i:=18) rfl (by kernel_rfl) (fun K hK=>?_);(try rw [if_pos (by kernel_rfl)]);go_simp;refine (hNX.out w428).mono ?_;rintro e w430 ⟨rfl,hb9⟩;replace hqs:=Zb (Zd hb9 hqs.out);replace qX:=Zb (Zd hb9 qX.out);replace qY:=Zb (Zd hb9 qY.out);have hB431:=Zb (hB429.out.trans (hb9.mono hB429.out.size));clear hB429;replace cc403:=Za hb9 cc403;replace cc404:=Za hb9 cc404;replace cc405:=Za hb9 cc405;replace cc406:=Za hb9 cc406;replace cc407:=Za hb9 cc407;replace cc408:=Za hb9 cc408;replace cc409:=Za hb9 cc409;replace cc410:=Za hb9 cc410;replace cc411:=Za hb9 cc411;replace cc412:=Za hb9 cc412;replace cc413:=Za hb9 cc413;replace cc414:=Za hb9 cc414;replace cc415:=Za hb9 cc415;replace cc416:=Za hb9 cc416;replace cc417:=Za hb9 cc417;replace cc418:=Za hb9 cc418;replace cc419:=Za hb9 cc419;replace cc420:=Za hb9 cc420;replace cc421:=Za hb9 cc421;replace cc422:=Za hb9 cc422;replace cc423:=Za hb9 cc423;clear hb9;rw [hxk.out];refine hK.out _ _ (fun _=>⟨cc403,cc404,cc405,cc406,cc407,cc408,cc409,cc410,cc411,cc412,cc413,cc414,cc415,cc416,cc417,cc418,cc419,cc420,cc421,cc422,cc423⟩) ?_;clear hK K
     try simp only [Act.put,putL_a,putL_z,putL_s,putG_a,putG_s,putG_z]
     refine Ze (i:=21) rfl (by kernel_rfl) (fun K hK=>?_);(try rw [if_pos (by kernel_rfl)]);go_simp;refine (hNs.out w430).mono ?_;rintro e w432 ⟨rfl,hb9⟩;replace hqs:=Zb (Zd hb9 hqs.out);replace qX:=Zb (Zd hb9 qX.out);replace qY:=Zb (Zd hb9 qY.out);have hB433:=Zb (hB431.out.trans (hb9.mono hB431.out.size));clear hB431;replace cc403:=Za hb9 cc403;replace cc404:=Za hb9 cc404;replace cc405:=Za hb9 cc405;replace cc406:=Za hb9 cc406;replace cc407:=Za hb9 cc407;replace cc408:=Za hb9 cc408;replace cc409:=Za hb9 cc409;replace cc410:=Za hb9 cc410;replace cc411:=Za hb9 cc411;replace cc412:=Za hb9 cc412;replace cc413:=Za hb9 cc413;replace cc414:=Za hb9 cc414;replace cc415:=Za hb9 cc415;replace cc416:=Za hb9 cc416;replace cc417:=Za hb9 cc417;replace cc418:=Za hb9 cc418;replace cc419:=Za hb9 cc419;replace cc420:=Za hb9 cc420;replace cc421:=Za hb9 cc421;replace cc422:=Za hb9 cc422;replace cc423:=Za hb9 cc423;clear hb9;rw [hsk.out];refine hK.out _ _ (fun _=>⟨cc403,cc404,cc405,cc406,cc407,cc408,cc409,cc410,cc411,cc412,cc413,cc414,cc415,cc416,cc417,cc418,cc419,cc420,cc421,cc422,cc423⟩) ?_;clear hK K
     try simp only [Act.put,putL_a,putL_z,putL_s,putG_a,putG_s,putG_z]
     refine Zc (i:=22) (v:=?vt64) rfl (by kernel_rfl) (by kernel_rfl) (by kernel_rfl) (by kernel_rfl) (by kernel_rfl) (Or.inl ⟨by kernel_rfl,?hyt64⟩) ⟨cc403,cc404,cc405,cc406,cc407,cc408,cc409,cc410,cc411,cc412,cc413,cc414,cc415,cc416,cc417,cc418,cc419,cc420,cc421,cc422,cc423⟩ ?rt64
     case hyt64=>(intro W2 hSw;(try dsimp only at hSw);go_simp;try with_reducible rfl)
     try simp only [Act.put,putL_a,putL_z,putL_s,putG_a,putG_s,putG_z]
     refine Zc (i:=26) (v:=?vt65) rfl (by kernel_rfl) (by kernel_rfl) (by kernel_rfl) (by kernel_rfl) (by kernel_rfl) (Or.inl ⟨by kernel_rfl,?hyt65⟩) ⟨cc403,cc404,cc405,cc406,cc407,cc408,cc409,cc410,cc411,cc412,cc413,cc414,cc415,cc416,cc417,cc418,cc419,cc420,cc421,cc422,cc423⟩ ?rt65
     case hyt65=>(intro W2 hSw;(try dsimp only at hSw);go_simp;try with_reducible rfl)
     try simp only [Act.put,putL_a,putL_z,putL_s,putG_a,putG_s,putG_z]
     refine Zc (i:=27) (v:=?vt66) rfl (by kernel_rfl) (by kernel_rfl) (by kernel_rfl) (by kernel_rfl) (by kernel_rfl) (Or.inl ⟨by kernel_rfl,?hyt66⟩) ⟨cc403,cc404,cc405,cc406,cc407,cc408,cc409,cc410,cc411,cc412,cc413,cc414,cc415,cc416,cc417,cc418,cc419,cc420,cc421,cc422,cc423⟩ ?rt66
     case hyt66=>(intro W2 hSw;(try dsimp only at hSw);go_simp;try with_reducible rfl)
     try simp only [Act.put,putL_a,putL_z,putL_s,putG_a,putG_s,putG_z]
     refine Zj (by kernel_rfl) ?_ _;refine OnlyNormal.normal ?_;clear cc403 cc404 cc405 cc406 cc407 cc408 cc409 cc410 cc411 cc412 cc413 cc414 cc415 cc416 cc417 cc418 cc419 cc420 cc421 cc422 cc423;clear hsb hml hCX hNX hNs hxk hsk hDj hX0 hY0;go_wp2_with fail;have hB4:=hB433
     go_loopg [17] 6 (fun t iv wr=>∃ i : Nat,i + t = 6 /\ iv = .int .i64 i /\ Hid (Below w432.heap.size w432 wr))
     case atStart=>exact ⟨0,by omega,by go_num,Zb (Below.refl _ _)⟩
     case round =>
      obtain ⟨wj,rfl⟩ : ∃ x : World,x = wr:=⟨_,rfl⟩;obtain ⟨i,hit,rfl,hBj⟩:=hrel
      cases gk with
      | zero =>
       obtain rfl : i = 6:=by omega
       have t6 : decide (((6 : Nat) : Int) < 6) = false:=by decide
       have hfin:=Zb (hB4.out.trans (hBj.out.mono hB4.out.size));clear hBj qX qY hqs;go_wp2_with fail
       go_roundg (m + 1 - (j + 1))
       case measure=>omega
       case rel=>exact ⟨j + 1,by omega,by go_num,hfin⟩
      | succ t' =>
       obtain rfl : t' = 6 - (i + 1):=by omega
       have hi6 : i < 6:=by omega
       have t6 : decide ((i : Int) < 6) = true:=decide_eq_true (by omega);have kX:=Zb (Zd hBj.out qX.out);have kY:=Zb (Zd hBj.out qY.out);have kS:=Zb (Zd hBj.out hqs.out);have wC:=hXY.out i hi6;have hbk:=hbX.out i;obtain ⟨xi,hxi⟩ : ∃ z,X.num i = z:=⟨_,rfl⟩;obtain ⟨yi,hyi⟩ : ∃ z,Y.num i = z:=⟨_,rfl⟩;obtain ⟨si,hsi⟩ : ∃ z,s.num i = z:=⟨_,rfl⟩;rw [hxi,hyi,hsi] at wC hbk;obtain ⟨D,hDj⟩ : ∃ z,xi - si = z:=⟨_,rfl⟩
       have hs1 : IntKind.i64.wrap (xi - si) = D:=by rw [hDj,IntWalk.i64_in _ (by omega)]
       have hs2 : IntKind.i64.wrap (si - yi) = D:=by rw [<- wC,hDj,IntWalk.i64_in _ (by omega)]
       replace hxi:=Zb hxi;replace hyi:=Zb hyi;replace hsi:=Zb hsi;replace hDj:=Zb hDj;clear wC hbk;go_wp2_with fail;have cc701 : wj.cell? ⟨gx,0,none⟩ = some (.int .i64 X.t):=kX.out.cell 0;have cc702 : wj.cell? ⟨gx,1,none⟩ = some (.int .i64 X.p0):=kX.out.cell 1;have cc703 : wj.cell? ⟨gx,2,none⟩ = some (.int .i64 X.p1):=kX.out.cell 2;have cc704 : wj.cell? ⟨gx,3,none⟩ = some (.int .i64 X.p2):=kX.out.cell 3;have cc705 : wj.cell? ⟨gx,4,none⟩ = some (.int .i64 X.v0):=kX.out.cell 4;have cc706 : wj.cell? ⟨gx,5,none⟩ = some (.int .i64 X.v1):=kX.out.cell 5;have cc707 : wj.cell? ⟨gx,6,none⟩ = some (.int .i64 X.v2):=kX.out.cell 6;have cc708 : wj.cell? ⟨gy,0,none⟩ = some (.int .i64 Y.t):=kY.out.cell 0;have cc709 : wj.cell? ⟨gy,1,none⟩ = some (.int .i64 Y.p0):=kY.out.cell 1;have cc710 : wj.cell? ⟨gy,2,none⟩ = some (.int .i64 Y.p1):=kY.out.cell 2;have cc711 : wj.cell? ⟨gy,3,none⟩ = some (.int .i64 Y.p2):=kY.out.cell 3;have cc712 : wj.cell? ⟨gy,4,none⟩ = some (.int .i64 Y.v0):=kY.out.cell 4;have cc713 : wj.cell? ⟨gy,5,none⟩ = some (.int .i64 Y.v1):=kY.out.cell 5;have cc714 : wj.cell? ⟨gy,6,none⟩ = some (.int .i64 Y.v2):=kY.out.cell 6;have cc715 : wj.cell? ⟨g1,0,none⟩ = some (.int .i64 s.t):=kS.out.cell 0;have cc716 : wj.cell? ⟨g1,1,none⟩ = some (.int .i64 s.p0):=kS.out.cell 1;have cc717 : wj.cell? ⟨g1,2,none⟩ = some (.int .i64 s.p1):=kS.out.cell 2;have cc718 : wj.cell? ⟨g1,3,none⟩ = some (.int .i64 s.p2):=kS.out.cell 3;have cc719 : wj.cell? ⟨g1,4,none⟩ = some (.int .i64 s.v0):=kS.out.cell 4
       have cc720 : wj.cell? ⟨g1,5,none⟩ = some (.int .i64 s.v1):=kS.out.cell 5;have cc721 : wj.cell? ⟨g1,6,none⟩ = some (.int .i64 s.v2):=kS.out.cell 6;have hr722 : Below wj.heap.size wj wj.drew:=Zh (Below.refl _ _) 1;replace kX:=Zb (Zd hr722 kX.out);replace kY:=Zb (Zd hr722 kY.out);replace kS:=Zb (Zd hr722 kS.out);have hB723:=Zb (hBj.out.trans (hr722.mono hBj.out.size));clear hBj;replace cc701:=Za hr722 cc701;replace cc702:=Za hr722 cc702;replace cc703:=Za hr722 cc703;replace cc704:=Za hr722 cc704;replace cc705:=Za hr722 cc705;replace cc706:=Za hr722 cc706;replace cc707:=Za hr722 cc707;replace cc708:=Za hr722 cc708;replace cc709:=Za hr722 cc709;replace cc710:=Za hr722 cc710;replace cc711:=Za hr722 cc711;replace cc712:=Za hr722 cc712;replace cc713:=Za hr722 cc713;replace cc714:=Za hr722 cc714;replace cc715:=Za hr722 cc715;replace cc716:=Za hr722 cc716;replace cc717:=Za hr722 cc717;replace cc718:=Za hr722 cc718;replace cc719:=Za hr722 cc719;replace cc720:=Za hr722 cc720;replace cc721:=Za hr722 cc721;clear hr722
       refine Z1 [] (fun wx=>(wx.cell? ⟨gx,0,none⟩ = some (.int .i64 X.t)) /\ (wx.cell? ⟨gx,1,none⟩ = some (.int .i64 X.p0)) /\ (wx.cell? ⟨gx,2,none⟩ = some (.int .i64 X.p1)) /\ (wx.cell? ⟨gx,3,none⟩ = some (.int .i64 X.p2)) /\ (wx.cell? ⟨gx,4,none⟩ = some (.int .i64 X.v0)) /\ (wx.cell? ⟨gx,5,none⟩ = some (.int .i64 X.v1)) /\ (wx.cell? ⟨gx,6,none⟩ = some (.int .i64 X.v2)) /\ (wx.cell? ⟨gy,0,none⟩ = some (.int .i64 Y.t)) /\ (wx.cell? ⟨gy,1,none⟩ = some (.int .i64 Y.p0)) /\ (wx.cell? ⟨gy,2,none⟩ = some (.int .i64 Y.p1)) /\ (wx.cell? ⟨gy,3,none⟩ = some (.int .i64 Y.p2)) /\ (wx.cell? ⟨gy,4,none⟩ = some (.int .i64 Y.v0)) /\ (wx.cell? ⟨gy,5,none⟩ = some (.int .i64 Y.v1)) /\ (wx.cell? ⟨gy,6,none⟩ = some (.int .i64 Y.v2)) /\ (wx.cell? ⟨g1,0,none⟩ = some (.int .i64 s.t)) /\ (wx.cell? ⟨g1,1,none⟩ = some (.int .i64 s.p0)) /\ (wx.cell? ⟨g1,2,none⟩ = some (.int .i64 s.p1)) /\ (wx.cell? ⟨g1,3,none⟩ = some (.int .i64 s.p2)) /\ (wx.cell? ⟨g1,4,none⟩ = some (.int .i64 s.v0)) /\ (wx.cell? ⟨g1,5,none⟩ = some (.int .i64 s.v1)) /\ (wx.cell? ⟨g1,6,none⟩ = some (.int .i64 s.v2))) hmx ⟨cc701,cc702,cc703,cc704,cc705,cc706,cc707,cc708,cc709,cc710,cc711,cc712,cc713,cc714,cc715,cc716,cc717,cc718,cc719,cc720,cc721⟩ (fun _=>?_);refine Zc (i:=0) (v:=?vt67) rfl (by kernel_rfl) (by kernel_rfl) (by kernel_rfl) (by kernel_rfl) (by kernel_rfl) (Or.inl ⟨by kernel_rfl,?hyt67⟩) ⟨cc701,cc702,cc703,cc704,cc705,cc706,cc707,cc708,cc709,cc710,cc711,cc712,cc713,cc714,cc715,cc716,cc717,cc718,cc719,cc720,cc721⟩ ?rt67
       case hyt67=>(intro W2 hSw;(try dsimp only at hSw);go_simp;try with_reducible rfl)
       try simp only [Act.put,putL_a,putL_z,putL_s,putG_a,putG_s,putG_z]
       refine Zc (i:=1) (v:=?vt68) rfl (by kernel_rfl) (by kernel_rfl) (by kernel_rfl) (by kernel_rfl) (by kernel_rfl) (Or.inl ⟨by kernel_rfl,?hyt68⟩) ⟨cc701,cc702,cc703,cc704,cc705,cc706,cc707,cc708,cc709,cc710,cc711,cc712,cc713,cc714,cc715,cc716,cc717,cc718,cc719,cc720,cc721⟩ ?rt68
       case hyt68=>(intro W2 hSw;(try dsimp only at hSw);go_simp;try with_reducible rfl)
       try simp only [Act.put,putL_a,putL_z,putL_s,putG_a,putG_s,putG_z]
       refine Zc (i:=3) (v:=?vt69) rfl (by kernel_rfl) (by kernel_rfl) (by kernel_rfl) (by kernel_rfl) (by kernel_rfl) (Or.inl ⟨by kernel_rfl,?hyt69⟩) ⟨cc701,cc702,cc703,cc704,cc705,cc706,cc707,cc708,cc709,cc710,cc711,cc712,cc713,cc714,cc715,cc716,cc717,cc718,cc719,cc720,cc721⟩ ?rt69
       case hyt69=>(intro W2 hSw;(try dsimp only at hSw);go_simp;try with_reducible rfl)
       try simp only [Act.put,putL_a,putL_z,putL_s,putG_a,putG_s,putG_z]
       refine Zc (i:=4) (v:=?vt70) rfl (by kernel_rfl) (by kernel_rfl) (by kernel_rfl) (by kernel_rfl) (by kernel_rfl) (Or.inl ⟨by kernel_rfl,?hyt70⟩) ⟨cc701,cc702,cc703,cc704,cc705,cc706,cc707,cc708,cc709,cc710,cc711,cc712,cc713,cc714,cc715,cc716,cc717,cc718,cc719,cc720,cc721⟩ ?rt70
       case hyt70=>(intro W2 hSw;(try dsimp only at hSw);go_simp;try with_reducible rfl)
       try simp only [Act.put,putL_a,putL_z,putL_s,putG_a,putG_s,putG_z]
       refine Zc (i:=7) (v:=?vt71) rfl (by kernel_rfl) (by kernel_rfl) (by kernel_rfl) (by kernel_rfl) (by kernel_rfl) (Or.inl ⟨by kernel_rfl,?hyt71⟩) ⟨cc701,cc702,cc703,cc704,cc705,cc706,cc707,cc708,cc709,cc710,cc711,cc712,cc713,cc714,cc715,cc716,cc717,cc718,cc719,cc720,cc721⟩ ?rt71
       case hyt71=>(intro W2 hSw;(try dsimp only at hSw);go_simp;try with_reducible rfl)
       try simp only [Act.put,putL_a,putL_z,putL_s,putG_a,putG_s,putG_z]
       refine Zc (i:=8) (v:=?vt72) rfl (by kernel_rfl) (by kernel_rfl) (by kernel_rfl) (by kernel_rfl) (by kernel_rfl) (Or.inl ⟨by kernel_rfl,?hyt72⟩) ⟨cc701,cc702,cc703,cc704,cc705,cc706,cc707,cc708,cc709,cc710,cc711,cc712,cc713,cc714,cc715,cc716,cc717,cc718,cc719,cc720,cc721⟩ ?rt72
       case hyt72=>(intro W2 hSw;(try dsimp only at hSw);go_simp;try with_reducible rfl)
       try simp only [Act.put,putL_a,putL_z,putL_s,putG_a,putG_s,putG_z]
       refine Zc (i:=10) (v:=?vt73) rfl (by kernel_rfl) (by kernel_rfl) (by kernel_rfl) (by kernel_rfl) (by kernel_rfl) (Or.inl ⟨by kernel_rfl,?hyt73⟩) ⟨cc701,cc702,cc703,cc704,cc705,cc706,cc707,cc708,cc709,cc710,cc711,cc712,cc713,cc714,cc715,cc716,cc717,cc718,cc719,cc720,cc721⟩ ?rt73
       case hyt73=>(intro W2 hSw;(try dsimp only at hSw);go_simp;try with_reducible rfl)
       try simp only [Act.put,putL_a,putL_z,putL_s,putG_a,putG_s,putG_z]
       refine Zc (i:=11) (v:=?vt74) rfl (by kernel_rfl) (by kernel_rfl) (by kernel_rfl) (by kernel_rfl) (by kernel_rfl) (Or.inl ⟨by kernel_rfl,?hyt74⟩) ⟨cc701,cc702,cc703,cc704,cc705,cc706,cc707,cc708,cc709,cc710,cc711,cc712,cc713,cc714,cc715,cc716,cc717,cc718,cc719,cc720,cc721⟩ ?rt74
       case hyt74=>(intro W2 hSw;(try dsimp only at hSw);go_simp;try with_reducible rfl)
       try simp only [Act.put,putL_a,putL_z,putL_s,putG_a,putG_s,putG_z]
       refine Ze (i:=2) rfl (by kernel_rfl) (fun K hK=>?_);(try rw [if_pos (by kernel_rfl)]);go_simp;refine (Zbo X i hi6 wj.drew).mono ?_;rintro e w724 ⟨rfl,hb9⟩;replace kX:=Zb (Zd hb9 kX.out);replace kY:=Zb (Zd hb9 kY.out);replace kS:=Zb (Zd hb9 kS.out);have hB725:=Zb (hB723.out.trans (hb9.mono hB723.out.size));clear hB723;replace cc701:=Za hb9 cc701;replace cc702:=Za hb9 cc702;replace cc703:=Za hb9 cc703;replace cc704:=Za hb9 cc704;replace cc705:=Za hb9 cc705;replace cc706:=Za hb9 cc706;replace cc707:=Za hb9 cc707;replace cc708:=Za hb9 cc708;replace cc709:=Za hb9 cc709;replace cc710:=Za hb9 cc710;replace cc711:=Za hb9 cc711;replace cc712:=Za hb9 cc712;replace cc713:=Za hb9 cc713;replace cc714:=Za hb9 cc714;replace cc715:=Za hb9 cc715;replace cc716:=Za hb9 cc716;replace cc717:=Za hb9 cc717;replace cc718:=Za hb9 cc718;replace cc719:=Za hb9 cc719;replace cc720:=Za hb9 cc720;replace cc721:=Za hb9 cc721;clear hb9;rw [hxi.out];refine hK.out _ _ (fun _=>⟨cc701,cc702,cc703,cc704,cc705,cc706,cc707,cc708,cc709,cc710,cc711,cc712,cc713,cc714,cc715,cc716,cc717,cc718,cc719,cc720,cc721⟩) ?_;clear hK K
       try simp only [Act.put,putL_a,putL_z,putL_s,putG_a,putG_s,putG_z]
       refine Ze (i:=5) rfl (by kernel_rfl) (fun K hK=>?_);(try rw [if_pos (by kernel_rfl)]);go_simp;refine (Zbo s i hi6 w724).mono ?_;rintro e w726 ⟨rfl,hb9⟩;replace kX:=Zb (Zd hb9 kX.out);replace kY:=Zb (Zd hb9 kY.out);replace kS:=Zb (Zd hb9 kS.out);have hB727:=Zb (hB725.out.trans (hb9.mono hB725.out.size));clear hB725;replace cc701:=Za hb9 cc701;replace cc702:=Za hb9 cc702;replace cc703:=Za hb9 cc703;replace cc704:=Za hb9 cc704;replace cc705:=Za hb9 cc705;replace cc706:=Za hb9 cc706;replace cc707:=Za hb9 cc707;replace cc708:=Za hb9 cc708;replace cc709:=Za hb9 cc709;replace cc710:=Za hb9 cc710;replace cc711:=Za hb9 cc711;replace cc712:=Za hb9 cc712;replace cc713:=Za hb9 cc713;replace cc714:=Za hb9 cc714;replace cc715:=Za hb9 cc715;replace cc716:=Za hb9 cc716;replace cc717:=Za hb9 cc717;replace cc718:=Za hb9 cc718;replace cc719:=Za hb9 cc719;replace cc720:=Za hb9 cc720;replace cc721:=Za hb9 cc721;clear hb9;rw [hsi.out];refine hK.out _ _ (fun _=>⟨cc701,cc702,cc703,cc704,cc705,cc706,cc707,cc708,cc709,cc710,cc711,cc712,cc713,cc714,cc715,cc716,cc717,cc718,cc719,cc720,cc721⟩) ?_;clear hK K
       try simp only [Act.put,putL_a,putL_z,putL_s,putG_a,putG_s,putG_z]
       refine Zc (i:=6) (v:=?vt75) rfl (by kernel_rfl) (by kernel_rfl) (by kernel_rfl) (by kernel_rfl) (by kernel_rfl) (Or.inl ⟨by kernel_rfl,?hyt75⟩) ⟨cc701,cc702,cc703,cc704,cc705,cc706,cc707,cc708,cc709,cc710,cc711,cc712,cc713,cc714,cc715,cc716,cc717,cc718,cc719,cc720,cc721⟩ ?rt75
       case hyt75=>(intro W2 hSw;(try dsimp only at hSw);go_simp;try with_reducible rfl)
       try simp only [Act.put,putL_a,putL_z,putL_s,putG_a,putG_s,putG_z]
       refine Ze (i:=9) rfl (by kernel_rfl) (fun K hK=>?_);(try rw [if_pos (by kernel_rfl)]);go_simp;refine (Zbo s i hi6 w726).mono ?_;rintro e w728 ⟨rfl,hb9⟩;replace kX:=Zb (Zd hb9 kX.out);replace kY:=Zb (Zd hb9 kY.out);replace kS:=Zb (Zd hb9 kS.out);have hB729:=Zb (hB727.out.trans (hb9.mono hB727.out.size));clear hB727;replace cc701:=Za hb9 cc701;replace cc702:=Za hb9 cc702;replace cc703:=Za hb9 cc703;replace cc704:=Za hb9 cc704;replace cc705:=Za hb9 cc705;replace cc706:=Za hb9 cc706;replace cc707:=Za hb9 cc707;replace cc708:=Za hb9 cc708;replace cc709:=Za hb9 cc709;replace cc710:=Za hb9 cc710;replace cc711:=Za hb9 cc711;replace cc712:=Za hb9 cc712;replace cc713:=Za hb9 cc713;replace cc714:=Za hb9 cc714;replace cc715:=Za hb9 cc715;replace cc716:=Za hb9 cc716;replace cc717:=Za hb9 cc717;replace cc718:=Za hb9 cc718;replace cc719:=Za hb9 cc719;replace cc720:=Za hb9 cc720;replace cc721:=Za hb9 cc721;clear hb9;rw [hsi.out];refine hK.out _ _ (fun _=>⟨cc701,cc702,cc703,cc704,cc705,cc706,cc707,cc708,cc709,cc710,cc711,cc712,cc713,cc714,cc715,cc716,cc717,cc718,cc719,cc720,cc721⟩) ?_;clear hK K
       try simp only [Act.put,putL_a,putL_z,putL_s,putG_a,putG_s,putG_z]
       refine Ze (i:=12) rfl (by kernel_rfl) (fun K hK=>?_);(try rw [if_pos (by kernel_rfl)]);go_simp;refine (Zbo Y i hi6 w728).mono ?_;rintro e w730 ⟨rfl,hb9⟩;replace kX:=Zb (Zd hb9 kX.out);replace kY:=Zb (Zd hb9 kY.out);replace kS:=Zb (Zd hb9 kS.out);have hB731:=Zb (hB729.out.trans (hb9.mono hB729.out.size));clear hB729;replace cc701:=Za hb9 cc701;replace cc702:=Za hb9 cc702;replace cc703:=Za hb9 cc703;replace cc704:=Za hb9 cc704;replace cc705:=Za hb9 cc705;replace cc706:=Za hb9 cc706;replace cc707:=Za hb9 cc707;replace cc708:=Za hb9 cc708;replace cc709:=Za hb9 cc709;replace cc710:=Za hb9 cc710;replace cc711:=Za hb9 cc711;replace cc712:=Za hb9 cc712;replace cc713:=Za hb9 cc713;replace cc714:=Za hb9 cc714;replace cc715:=Za hb9 cc715;replace cc716:=Za hb9 cc716;replace cc717:=Za hb9 cc717;replace cc718:=Za hb9 cc718;replace cc719:=Za hb9 cc719;replace cc720:=Za hb9 cc720;replace cc721:=Za hb9 cc721;clear hb9;rw [hyi.out];refine hK.out _ _ (fun _=>⟨cc701,cc702,cc703,cc704,cc705,cc706,cc707,cc708,cc709,cc710,cc711,cc712,cc713,cc714,cc715,cc716,cc717,cc718,cc719,cc720,cc721⟩) ?_;clear hK K
       try simp only [Act.put,putL_a,putL_z,putL_s,putG_a,putG_s,putG_z]
       refine Zc (i:=13) (v:=?vt76) rfl (by kernel_rfl) (by kernel_rfl) (by kernel_rfl) (by kernel_rfl) (by kernel_rfl) (Or.inl ⟨by kernel_rfl,?hyt76⟩) ⟨cc701,cc702,cc703,cc704,cc705,cc706,cc707,cc708,cc709,cc710,cc711,cc712,cc713,cc714,cc715,cc716,cc717,cc718,cc719,cc720,cc721⟩ ?rt76
       case hyt76=>(intro W2 hSw;(try dsimp only at hSw);go_simp;try with_reducible rfl)
       try simp only [Act.put,putL_a,putL_z,putL_s,putG_a,putG_s,putG_z]
       refine Zc (i:=14) (v:=?vt77) rfl (by kernel_rfl) (by kernel_rfl) (by kernel_rfl) (by kernel_rfl) (by kernel_rfl) (Or.inl ⟨by kernel_rfl,?hyt77⟩) ⟨cc701,cc702,cc703,cc704,cc705,cc706,cc707,cc708,cc709,cc710,cc711,cc712,cc713,cc714,cc715,cc716,cc717,cc718,cc719,cc720,cc721⟩ ?rt77
       case hyt77=>(intro W2 hSw;(try dsimp only at hSw);go_simp;try with_reducible rfl)
       try simp only [Act.put,putL_a,putL_z,putL_s,putG_a,putG_s,putG_z]
       refine Zj (by kernel_rfl) ?_ _;refine OnlyNormal.normal ?_;clear cc701 cc702 cc703 cc704 cc705 cc706 cc707 cc708 cc709 cc710 cc711 cc712 cc713 cc714 cc715 cc716 cc717 cc718 cc719 cc720 cc721;clear hs1 hs2 kX kY kS;go_wp2_with fail
       go_roundg (6 - (i + 1))
       case measure=>omega
       case rel=>exact ⟨i + 1,by omega,by go_num,hB731⟩
open Go.ChangeShapes Go.WideShapes Go.Deep Go.RowKit
section
variable {H : Type} {enc : TypeId × Value -> H} {P : Program} {w : World} {base : Nat} {spare : Nat -> Bool} {held : Bool}
theorem Zkv {t0 t1 t2 t3 t4 : TypeId} {args : Array Value} {ds : List (DataW H)} {ps : List MemPlace} (h : DataW.TrodAll enc P w base spare held [t0,t1,t2,t3,t4] args.toList ds ps) :
    ∃ v0 v1 v2 v3 v4 d0 d1 d2 d3 d4 p0 p1 p2 p3 p4,args = #[v0,v1,v2,v3,v4] /\ ds = [d0,d1,d2,d3,d4] /\ ps = p0 ++ p1 ++ p2 ++ p3 ++ p4 /\ DataW.Trod enc P w base spare held t0 v0 d0 p0 /\ DataW.Trod enc P w base spare held t1 v1 d1 p1 /\ DataW.Trod enc P w base spare held t2 v2 d2 p2 /\ DataW.Trod enc P w base spare held t3 v3 d3 p3 /\ DataW.Trod enc P w base spare held t4 v4 d4 p4:=by
 obtain ⟨v0,vs,d0,ds',p0,q,hargs,rfl,rfl,hd,hrest⟩:=trodAll_cons h;obtain ⟨v1,vs',d1,ds'',p1,q',rfl,rfl,rfl,hd',hrest'⟩:=trodAll_cons hrest;obtain ⟨v2,vs'',d2,ds''',p2,q'',rfl,rfl,rfl,hd'',hrest''⟩:=trodAll_cons hrest';obtain ⟨v3,vs3,d3,ds3,p3,q3,rfl,rfl,rfl,hd3,hrest3⟩:=trodAll_cons hrest'';obtain ⟨v4,vs4,d4,ds4,p4,q4,rfl,rfl,rfl,hd4,hrest4⟩:=trodAll_cons hrest3;obtain ⟨rfl,rfl,rfl⟩:=trodAll_nil hrest4;exact ⟨v0,v1,v2,v3,v4,d0,d1,d2,d3,d4,p0,p1,p2,p3,p4,by cases args;simp_all,rfl,by simp,hd,hd',hd'',hd3,hd4⟩
theorem Zli {t0 t1 t2 t3 t4 : TypeId} {v0 v1 v2 v3 v4 : Value} {d0 d1 d2 d3 d4 : DataW H} {p0 p1 p2 p3 p4 : List MemPlace} (h0 : DataW.Trod enc P w base spare held t0 v0 d0 p0) (h1 : DataW.Trod enc P w base spare held t1 v1 d1 p1) (h2 : DataW.Trod enc P w base spare held t2 v2 d2 p2) (h3 : DataW.Trod enc P w base spare held t3 v3 d3 p3) (h4 : DataW.Trod enc P w base spare held t4 v4 d4 p4) :
    DataW.TrodAll enc P w base spare held [t0,t1,t2,t3,t4] [v0,v1,v2,v3,v4] [d0,d1,d2,d3,d4] (p0 ++ (p1 ++ (p2 ++ (p3 ++ p4)))):=⟨p0,p1 ++ (p2 ++ (p3 ++ p4)),h0,trodAll_mk4 h1 h2 h3 h4,rfl⟩
end
end Go.Proofs.YtpehacgjclkhmaaGreat
