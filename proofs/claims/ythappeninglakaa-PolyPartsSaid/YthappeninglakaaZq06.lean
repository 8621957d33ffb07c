/- Package poly: join, Add, Sub. Sums and products of -/
import Derived.Test.YthappeninglakaaZq05
set_option linter.unusedSimpArgs false
set_option linter.unusedVariables false
namespace Go.Proofs.Ythappeninglakaa
open Go.RowKit
attribute [local go_sem] Zj
theorem Zfm : (Try.prog.info? 26).map (fun i=>(i.zero,i.size,i.bytes)) = some (some (.agg #[.bool false,.slice none 0 0]),2,32):=by kernel_rfl
theorem Zbw {es : List WE} (h : pOk es = true) : es.length <= 9 /\ (∀ e ∈ es,e.ok = true /\ e.l.length <= 40):=by
 unfold pOk at h;simp only [Bool.and_eq_true,decide_eq_true_eq,Bool.not_eq_true',List.any_eq_false] at h;refine ⟨h.1.1,fun e he=>?_⟩;have:=h.1.2 e he;unfold WE.bad at this
 simp at this
 exact ⟨this.2,this.1⟩
theorem WE.small {w : World} {e : WE} (h : Lim w e.A e.n e.c e.l) (hk : e.ok = true) (hl : e.l.length <= 40) : e.num.natAbs < pw 40:=(WE.len40 h hk).1 hl
theorem WL.num_at {w : World} {A : Option Addr} {n c : Nat} {es : List WE} (_h : WL w A n c es) {i : Nat} {e : WE} (he : es[i]? = some e) : (es.map WE.num)[i]?.getD 0 = e.num:=by rw [List.getElem?_map,he];rfl
def Zcr (f : Nat -> Int) : Nat -> Int
 | 0=>0
 | n + 1=>Zcr f n + f n
theorem Zor {f g : Nat -> Int} {n : Nat} (h : ∀ i,i < n -> f i = g i) : Zcr f n = Zcr g n:=by
 induction n with
 | zero=>rfl
 | succ n ih=>rw [Zcr,Zcr,ih (fun i hi=>h i (by omega)),h n (by omega)]
theorem Zle {f : Nat -> Int} {n : Nat} (h : ∀ i,i < n -> f i = 0) : Zcr f n = 0:=by
 induction n with
 | zero=>rfl
 | succ n ih=>rw [Zcr,ih (fun i hi=>h i (by omega)),h n (by omega)];rfl
theorem Zk6 {f : Nat -> Int} {n m : Nat} (hnm : n <= m) (h : ∀ i,n <= i -> i < m -> f i = 0) : Zcr f m = Zcr f n:=by
 induction m with
 | zero=>obtain rfl : n = 0:=by omega
         rfl
 | succ m ih =>
  rcases Nat.lt_or_ge n (m + 1) with hlt | hge
  ·rw [Zcr,ih (by omega) (fun i h1 h2=>h i h1 (by omega)),h m (by omega) (by omega)];omega
  ·obtain rfl : n = m + 1:=by omega
   rfl
theorem psum_le {f : Nat -> Int} {n M : Nat} (h : ∀ i,i < n -> (f i).natAbs <= M) : (Zcr f n).natAbs <= n * M:=by
 induction n with
 | zero=>simp [Zcr]
 | succ n ih =>
  have h1:=ih (fun i hi=>h i (by omega));have h2:=h n (by omega);rw [Zcr,Nat.succ_mul];omega
def coP (xs ys : List Int) (j : Nat) : Int:=Zcr (fun i=>xs[i]?.getD 0 * ys[j - i]?.getD 0) (j + 1)
def Zef (xs ys : List Int) : List Int:=(List.range (xs.length + ys.length - 1)).map (coP xs ys)
theorem Zgz {a b : Int} {M : Nat} (ha : a.natAbs < M) (hb : b.natAbs < M) : (a * b).natAbs <= M * M:=by
 rw [Int.natAbs_mul];exact Nat.mul_le_mul (by omega) (by omega)
def Zaj (xs : List Int) : List Int:=(List.range (xs.length - 1)).map fun i=>xs[i + 1]?.getD 0 * ((i + 1 : Nat) : Int)
end Go.Proofs.Ythappeninglakaa
