/- Package wide: trim, made, plus, minus, times over limbs; and the library's Add32, Sub32. -/
import Derived.Test.YtljocgdhdilglaaRows
import Derived.Test.YtljocgdhdilglaaMem
namespace Go.Proofs.Ytljocgdhdilglaa
open Go.RowKit
attribute [local go_sem] add_lit

set_option maxHeartbeats 400000 in
theorem trim_any (A : Option Addr) (n c : Nat) (l : List Nat) (w : World) (h : Lim w A n c l) :
    Calls Try.prog 88 #[.slice A n c] w fun e w' => e = .returned (.slice A (digits (val l)).length c) ∧ w = w' := by
  have hn := h.2.1
  have hm := h.2.2.1
  unfold maxLen at hm
  go_enter Try.func88, Try.ntmps88
  go_wp2
  go_loop [3] (fun v => ∃ k : Nat, k ≤ n ∧ v = .int .i64 k ∧ Hid (∀ j, k ≤ j → l[j]?.getD 0 = 0)) (fun v => (intOf v).toNat)
  case atStart => exact ⟨n, Nat.le_refl _, rfl, fun j hj => by rw [List.getElem?_eq_none (by rw [h.len]; exact hj)]; rfl⟩
  case round =>
    obtain ⟨k, hk, rfl, hz⟩ := hrel
    by_cases hk0 : 0 < k
    · obtain ⟨b, o, rfl, hcell⟩ := h.at_ (k := k - 1) (by omega)
      by_cases hx : l[k-1]?.getD 0 = 0
      · have hb : (((l[k-1]?.getD 0 : Nat) : Int) == 0) = true := by simp [hx]
        clear h
        have hx := hide hx
        go_wp2
        go_round
        case rel => exact ⟨k - 1, by omega, by go_num, fun j hj => by
            rcases Nat.lt_or_ge j k with h' | h'
            · obtain rfl : j = k - 1 := by omega
              exact hx.out
            · exact hz.out j h'⟩
        case measure => simp [intOf]; omega
      · have hb : (((l[k-1]?.getD 0 : Nat) : Int) == 0) = false := by simpa using hx
        have hd := canon_take hz.out (Or.inr hx) h.lt
        have hlk := congrArg List.length hd
        rw [List.length_take, h.len, Nat.min_eq_left hk] at hlk
        have HL := hide hlk
        clear h hd hlk hx
        go_wp2
        go_ret
        exact ⟨ret_slice HL.out.symm, rfl⟩
    · obtain rfl : k = 0 := by omega
      have HL := hide (congrArg List.length (canon_take hz.out (Or.inl rfl) h.lt))
      clear h
      go_wp2
      go_ret
      exact ⟨ret_slice HL.out.symm, rfl⟩

theorem ret_pair32 {a b : Int} {s k : Nat} (h1 : a = s) (h2 : b = k) : Ending.returned (.tuple #[.int .u32 a, .int .u32 b]) = .returned (.tuple #[limb s, limb k]) := by rw [h1, h2]

/-- What Add32 hands back. -/
def Sum32 (t : Nat) (w : World) (e : Ending) (w' : World) : Prop :=
  ∃ s k : Nat, e = .returned (.tuple #[limb s, limb k]) ∧ s < 4294967296 ∧ s + 4294967296 * k = t ∧ w = w'

set_option maxHeartbeats 400000 in
theorem add32_any (x y c : Nat) (w : World) (hx : x < 4294967296) (hy : y < 4294967296) (hc : c ≤ 1) :
    Calls Try.prog 89 #[limb x, limb y, limb c] w (Sum32 (x + y + c) w) := by
  go_enter Try.func89, Try.ntmps89
  go_wp2
  go_ret2
  exact ⟨(x + y + c) % 4294967296, (x + y + c) / 4294967296, ret_pair32 (by omega) (by omega), by omega, by omega, rfl⟩

theorem testBit31 (z : Nat) (h : z < 4294967296) : z.testBit 31 = decide (2147483648 ≤ z) := by
  rw [Nat.testBit_eq_decide_div_mod_eq]
  congr 1
  apply propext
  constructor <;> intro h' <;> omega
theorem div31 (z : Nat) (h : z < 4294967296) : z / 2147483648 = (z.testBit 31).toNat := by
  rw [testBit31 z h]
  by_cases h' : 2147483648 ≤ z
  · simp [h']; omega
  · simp [h']; omega
theorem sub_borrow (x y d c : Nat) (hx : x < 4294967296) (hy : y < 4294967296) (hc : c ≤ 1) (hd : d < 4294967296) (k : Nat) (he : d + y + c = x + 4294967296 * k) :
    ((((4294967295 ^^^ x) &&& y) ||| ((4294967295 ^^^ (x ^^^ y)) &&& d)) / 2147483648) = k := by
  have hxy : x ^^^ y < 2 ^ 32 := Nat.xor_lt_two_pow (by omega) (by omega)
  have h1 : 4294967295 ^^^ x < 2 ^ 32 := Nat.xor_lt_two_pow (by omega) (by omega)
  have h2 : 4294967295 ^^^ (x ^^^ y) < 2 ^ 32 := Nat.xor_lt_two_pow (by omega) hxy
  have h3 : (4294967295 ^^^ x) &&& y < 2 ^ 32 := Nat.and_lt_two_pow _ (by omega)
  have h4 : (4294967295 ^^^ (x ^^^ y)) &&& d < 2 ^ 32 := Nat.and_lt_two_pow _ (by omega)
  have h5 := Nat.or_lt_two_pow h3 h4
  rw [div31 _ (by omega)]
  simp only [Nat.testBit_or, Nat.testBit_and, Nat.testBit_xor, testBit31 x hx, testBit31 y hy, testBit31 d hd, testBit31 4294967295 (by omega)]
  by_cases a : 2147483648 ≤ x <;> by_cases b : 2147483648 ≤ y <;> by_cases e : 2147483648 ≤ d <;> simp [a, b, e] <;> omega

/-- What Sub32 hands back. -/
def Dif32 (x y c : Nat) (w : World) (e : Ending) (w' : World) : Prop :=
  ∃ d k : Nat, e = .returned (.tuple #[limb d, limb k]) ∧ d < 4294967296 ∧ k ≤ 1 ∧ d + y + c = x + 4294967296 * k ∧ w = w'

set_option maxHeartbeats 400000 in
theorem sub32_any (x y c : Nat) (w : World) (hx : x < 4294967296) (hy : y < 4294967296) (hc : c ≤ 1) :
    Calls Try.prog 90 #[limb x, limb y, limb c] w (Dif32 x y c w) := by
  go_enter Try.func90, Try.ntmps90
  go_wp2
  go_ret2
  have e1 : ((x : Int) - y - c) % 4294967296 = (((x + 8589934592 - y - c) % 4294967296 : Nat) : Int) := by omega
  have hd : (x + 8589934592 - y - c) % 4294967296 < 4294967296 := by omega
  obtain ⟨k, hk⟩ : ∃ k, k ≤ 1 ∧ (x + 8589934592 - y - c) % 4294967296 + y + c = x + 4294967296 * k := ⟨if x < y + c then 1 else 0, by split <;> omega⟩
  refine ⟨(x + 8589934592 - y - c) % 4294967296, k, ret_pair32 e1 ?_, hd, hk.1, hk.2, rfl⟩
  show bits .or .u32 _ _ / 2147483648 = _
  rw [e1, show (IntKind.u32.max : Int) = ((4294967295 : Nat) : Int) from rfl]
  have hb := sub_borrow x y _ c hx hy hc hd k hk.2
  generalize (x + 8589934592 - y - c) % 4294967296 = d at *
  have hxy : x ^^^ y < 2 ^ 32 := Nat.xor_lt_two_pow (by omega) (by omega)
  have h1 : 4294967295 ^^^ x < 2 ^ 32 := Nat.xor_lt_two_pow (by omega) (by omega)
  have h2 : 4294967295 ^^^ (x ^^^ y) < 2 ^ 32 := Nat.xor_lt_two_pow (by omega) hxy
  have h3 : (4294967295 ^^^ x) &&& y < 2 ^ 32 := Nat.and_lt_two_pow _ (by omega)
  have h4 : (4294967295 ^^^ (x ^^^ y)) &&& d < 2 ^ 32 := Nat.and_lt_two_pow _ (by omega)
  rw [u32_xor_nat x y hx hy, u32_xor_nat _ x (by omega) hx, u32_xor_nat _ (x ^^^ y) (by omega) (by omega), u32_and_nat _ y (by omega) hy, u32_and_nat _ d (by omega) hd, u32_or_nat _ _ (by omega) (by omega)]
  omega


theorem info32 : (Try.prog.info? 59).map (fun i => (i.zero, i.size, i.bytes)) = some (some (.int .u32 0), 1, 4) := by kernel_rfl

def Plus1 (w : World) (a b : List Nat) (g n k carry : Nat) (wr : World) : Prop :=
  ∃ out, Blk wr g 59 (cells32 out) ∧ out.length = n + 1 ∧ Lt32 out ∧ (∀ j, k ≤ j → out[j]?.getD 0 = 0) ∧ val out + pw k * carry = val (a.take k) + val (b.take k) ∧ Below w.heap.size w wr

theorem Plus1.start (w : World) (a b : List Nat) (n : Nat) : Plus1 w a b w.heap.size n 0 0 (w.alloc (.cells (cells32 (List.replicate (n + 1) 0)) 59)) :=
  ⟨List.replicate (n + 1) 0, Blk.new _ _ _, by simp, Lt32.replicate _, fun j _ => getD_replicate _ _, by simp [val_replicate, val], (Below.refl _ _).alloc (Nat.le_refl _) _⟩

theorem Plus1.step {w wr : World} {a b out : List Nat} {n k carry s q : Nat} (hblk : Blk wr w.heap.size 59 (cells32 out)) (hlen : out.length = n + 1) (hlt : Lt32 out) (hz : ∀ j, k ≤ j → out[j]?.getD 0 = 0)
    (hI : val out + pw k * carry = val (a.take k) + val (b.take k)) (hB : Below w.heap.size w wr) (hk : k < n) (hs : s < 4294967296) (he : s + 4294967296 * q = a[k]?.getD 0 + b[k]?.getD 0 + carry) :
    Plus1 w a b w.heap.size n (k + 1) q (wr.setCell ⟨w.heap.size, k, none⟩ (limb s)) :=
  ⟨out.set k s, by rw [← cells32_set]; exact hblk.set_ _ _, by rw [List.length_set]; exact hlen, hlt.set _ hs, fun j hj => by rw [getD_set_ne _ (by omega)]; exact hz j (by omega),
    plus_step (by omega) (hz k (Nat.le_refl _)) hI he, hB.setCell (p := ⟨w.heap.size, k, none⟩) (Nat.le_refl _) _⟩

theorem Plus1.stop {w wr : World} {a b out : List Nat} {n carry : Nat} (hblk : Blk wr w.heap.size 59 (cells32 out)) (hlen : out.length = n + 1) (hlt : Lt32 out) (hz : ∀ j, n ≤ j → out[j]?.getD 0 = 0)
    (hI : val out + pw n * carry = val (a.take n) + val (b.take n)) (hB : Below w.heap.size w wr) (hc : carry ≤ 1) (ha : a.length ≤ n) (hb : b.length ≤ n) (hn : n < maxLen) :
    OutL w (fun l => l.length = n + 1 ∧ val l = val a + val b) (.returned (.slice (some ⟨w.heap.size, 0, none⟩) (n + 1) (n + 1))) (wr.setCell ⟨w.heap.size, n, none⟩ (limb carry)) := by
  have hb2 : Blk (wr.setCell ⟨w.heap.size, n, none⟩ (limb carry)) w.heap.size 59 (cells32 (out.set n carry)) := by rw [← cells32_set]; exact hblk.set_ _ _
  have hL := Lim.of_blk hb2 (hlt.set _ (by omega)) (by rw [List.length_set]; omega)
  rw [List.length_set, hlen] at hL
  refine ⟨_, _, _, _, rfl, hL, ⟨by rw [List.length_set]; exact hlen, ?_⟩, hB.setCell (p := ⟨w.heap.size, n, none⟩) (Nat.le_refl _) _⟩
  have := val_set (l := out) (k := n) (by omega) carry
  rw [hz n (Nat.le_refl _)] at this
  rw [val_take_all ha, val_take_all hb] at hI
  omega

set_option maxRecDepth 100000 in
set_option maxHeartbeats 1000000 in
theorem plus_aux (sw : Bool) (A B : Option Addr) (n c m d : Nat) (a b : List Nat) (w : World) (ha : Lim w A n c a) (hb : Lim w B m d b) (hsw : sw = true → m < n) (hsw' : sw = false → m ≤ n) (hn : n ≤ 1000000000) :
    Calls Try.prog 69 (if sw = true then #[.slice B m d, .slice A n c] else #[.slice A n c, .slice B m d]) w (OutL w fun l => l.length = n + 1 ∧ val l = val a + val b) := by
  obtain ⟨i0, hi, hz0, hz1, hz2⟩ := info_parts info32
  have hmk := make32 (P := Try.prog) 34 59 Try.underlying34 hi hz0 hz1 hz2 ((n : Int) + 1) (n + 1) (by omega) (by omega)
  have hnc := ha.2.1
  have hmd := hb.2.1
  have hcm := ha.2.2.1
  have hdm := hb.2.2.1
  have hnm : n < maxLen := by unfold maxLen; omega
  unfold maxLen at hcm hdm
  have HS : Hid (∀ k carry wr, Plus1 w a b w.heap.size n k carry wr → n ≤ k → k ≤ n → carry ≤ 1 → OutL w (fun l => l.length = n + 1 ∧ val l = val a + val b) (.returned (.slice (some ⟨w.heap.size, 0, none⟩) (n + 1) (n + 1))) (wr.setCell ⟨w.heap.size, n, none⟩ (limb carry))) := by
    rintro k carry wr ⟨out, h1, h2, h3, h4, h5, h6⟩ h7 h8 h9
    obtain rfl : k = n := by omega
    exact Plus1.stop h1 h2 h3 h4 h5 h6 h9 (by rw [ha.len]; omega) (by rw [hb.len]; cases sw; exact hsw' rfl; exact Nat.le_of_lt (hsw rfl)) hnm
  have hmn : m ≤ n := by cases sw; exact hsw' rfl; exact Nat.le_of_lt (hsw rfl)
  cases sw
  · clear hsw hsw' hnm
    have hdd : decide (n < m) = false := by simp; omega
    show Calls _ _ #[.slice A n c, .slice B m d] _ _
    go_enter Try.func69, Try.ntmps69
    go_wp2
    go_loopw [6, 23] (fun cv iv wr => ∃ k carry : Nat, k ≤ n ∧ carry ≤ 1 ∧ cv = limb carry ∧ iv = .int .i64 k ∧ Plus1 w a b w.heap.size n k carry wr) (fun _ iv _ => n - (intOf iv).toNat)
    case atStart => exact ⟨0, 0, Nat.zero_le _, Nat.zero_le _, rfl, rfl, Plus1.start w a b n⟩
    case round =>
      obtain ⟨k, carry, hk, hcy, rfl, rfl, hP⟩ := hrel
      by_cases hlt1 : k < n
      · have hP' := hP
        obtain ⟨out, hblk, hlen, hlt, hz, hI, hB⟩ := hP'
        have HP := hide hP
        clear hP
        have hz := hide hz
        have hI := hide hI
        have hlen := hide hlen
        have hsz := hblk.lt
        obtain ⟨ba, oa, rfl, hca⟩ := (ha.below hB).at_ hlt1
        have hxa := ha.lt.get k
        have hcg := hblk.cell k
        rw [cells32_get out k (by rw [hlen.out]; omega), hz.out k (Nat.le_refl _)] at hcg
        have hfg := hblk.frozen k
        by_cases hm1 : k < m
        · obtain ⟨bb, ob, rfl, hcb⟩ := (hb.below hB).at_ hm1
          have hxb := hb.lt.get k
          go_wp2_with (go_at_call 89; refine (add32_any _ _ _ _ hxa hxb hcy).mono ?_; rintro e w' ⟨s, q, rfl, hs, he, rfl⟩; have hE := hide he; clear he)
          go_roundw
          case rel => exact ⟨k + 1, q, by omega, by have := hE.out; omega, rfl, by go_num, Plus1.step hblk hlen.out hlt hz.out hI.out hB hlt1 hs hE.out⟩
          case measure => simp [intOf]; omega
        · have hb0 := hide (getD_none (l := b) (i := k) (by rw [hb.len]; omega))
          go_wp2_with (go_at_call 89; refine (add32_any _ 0 _ _ hxa (by omega) hcy).mono ?_; rintro e w' ⟨s, q, rfl, hs, he, rfl⟩; have hE := hide he; clear he)
          go_roundw
          case rel => exact ⟨k + 1, q, by omega, by have := hE.out; omega, rfl, by go_num, Plus1.step hblk hlen.out hlt hz.out hI.out hB hlt1 hs (by rw [hb0.out]; exact hE.out)⟩
          case measure => simp [intOf]; omega
      · have HF := hide (HS.out k carry wr hP (by omega) hk hcy)
        obtain ⟨out, hblk, hlen, hlt, hz, hI, hB⟩ := hP
        have hcg := hblk.cell n
        rw [cells32_get out n (by omega), hz n (by omega)] at hcg
        have hfg := hblk.frozen n
        have hsz := hblk.lt
        clear hblk hz hI hlen
        go_wp2
        go_ret
        exact HF.out
  · have hlt : m < n := hsw rfl
    clear hsw hsw' hnm
    have hdd : decide (m < n) = true := by simp; omega
    show Calls _ _ #[.slice B m d, .slice A n c] _ _
    go_enter Try.func69, Try.ntmps69
    go_wp2
    go_loopw [6, 23] (fun cv iv wr => ∃ k carry : Nat, k ≤ n ∧ carry ≤ 1 ∧ cv = limb carry ∧ iv = .int .i64 k ∧ Plus1 w a b w.heap.size n k carry wr) (fun _ iv _ => n - (intOf iv).toNat)
    case atStart => exact ⟨0, 0, Nat.zero_le _, Nat.zero_le _, rfl, rfl, Plus1.start w a b n⟩
    case round =>
      obtain ⟨k, carry, hk, hcy, rfl, rfl, hP⟩ := hrel
      by_cases hlt1 : k < n
      · have hP' := hP
        obtain ⟨out, hblk, hlen, hlt, hz, hI, hB⟩ := hP'
        have HP := hide hP
        clear hP
        have hz := hide hz
        have hI := hide hI
        have hlen := hide hlen
        have hsz := hblk.lt
        obtain ⟨ba, oa, rfl, hca⟩ := (ha.below hB).at_ hlt1
        have hxa := ha.lt.get k
        have hcg := hblk.cell k
        rw [cells32_get out k (by rw [hlen.out]; omega), hz.out k (Nat.le_refl _)] at hcg
        have hfg := hblk.frozen k
        by_cases hm1 : k < m
        · obtain ⟨bb, ob, rfl, hcb⟩ := (hb.below hB).at_ hm1
          have hxb := hb.lt.get k
          go_wp2_with (go_at_call 89; refine (add32_any _ _ _ _ hxa hxb hcy).mono ?_; rintro e w' ⟨s, q, rfl, hs, he, rfl⟩; have hE := hide he; clear he)
          go_roundw
          case rel => exact ⟨k + 1, q, by omega, by have := hE.out; omega, rfl, by go_num, Plus1.step hblk hlen.out hlt hz.out hI.out hB hlt1 hs hE.out⟩
          case measure => simp [intOf]; omega
        · have hb0 := hide (getD_none (l := b) (i := k) (by rw [hb.len]; omega))
          go_wp2_with (go_at_call 89; refine (add32_any _ 0 _ _ hxa (by omega) hcy).mono ?_; rintro e w' ⟨s, q, rfl, hs, he, rfl⟩; have hE := hide he; clear he)
          go_roundw
          case rel => exact ⟨k + 1, q, by omega, by have := hE.out; omega, rfl, by go_num, Plus1.step hblk hlen.out hlt hz.out hI.out hB hlt1 hs (by rw [hb0.out]; exact hE.out)⟩
          case measure => simp [intOf]; omega
      · have HF := hide (HS.out k carry wr hP (by omega) hk hcy)
        obtain ⟨out, hblk, hlen, hlt, hz, hI, hB⟩ := hP
        have hcg := hblk.cell n
        rw [cells32_get out n (by omega), hz n (by omega)] at hcg
        have hfg := hblk.frozen n
        have hsz := hblk.lt
        clear hblk hz hI hlen
        go_wp2
        go_ret
        exact HF.out

theorem plus_any (A B : Option Addr) (n c m d : Nat) (a b : List Nat) (w : World) (ha : Lim w A n c a) (hb : Lim w B m d b) (hn : n ≤ 1000000000) (hm : m ≤ 1000000000) :
    Calls Try.prog 69 #[.slice A n c, .slice B m d] w (OutL w fun l => l.length = max n m + 1 ∧ val l = val a + val b) := by
  rcases Nat.lt_or_ge n m with h | h
  · refine (plus_aux true B A m d n c b a w hb ha (fun _ => h) (fun e => by cases e) hm).mono ?_
    rintro e w' ⟨A', n', c', l, he, hL, hP, hB⟩
    exact ⟨A', n', c', l, he, hL, ⟨by rw [hP.1, Nat.max_eq_right (Nat.le_of_lt h)], by rw [hP.2, Nat.add_comm]⟩, hB⟩
  · refine (plus_aux false A B n c m d a b w ha hb (fun e => by cases e) (fun _ => h) hn).mono ?_
    rintro e w' ⟨A', n', c', l, he, hL, hP, hB⟩
    exact ⟨A', n', c', l, he, hL, ⟨by rw [hP.1, Nat.max_eq_left h], hP.2⟩, hB⟩

/-- The state of a subtraction. -/
def Minus1 (w : World) (a b : List Nat) (g n k borrow : Nat) (wr : World) : Prop :=
  ∃ out, Blk wr g 59 (cells32 out) ∧ out.length = n ∧ Lt32 out ∧ (∀ j, k ≤ j → out[j]?.getD 0 = 0) ∧ val out + val (b.take k) = val (a.take k) + pw k * borrow ∧ Below w.heap.size w wr

theorem Minus1.start (w : World) (a b : List Nat) (n : Nat) : Minus1 w a b w.heap.size n 0 0 (w.alloc (.cells (cells32 (List.replicate n 0)) 59)) :=
  ⟨List.replicate n 0, Blk.new _ _ _, by simp, Lt32.replicate _, fun j _ => getD_replicate _ _, by simp [val_replicate, val], (Below.refl _ _).alloc (Nat.le_refl _) _⟩

theorem Minus1.step {w wr : World} {a b out : List Nat} {n k borrow s q : Nat} (hblk : Blk wr w.heap.size 59 (cells32 out)) (hlen : out.length = n) (hlt : Lt32 out) (hz : ∀ j, k ≤ j → out[j]?.getD 0 = 0)
    (hI : val out + val (b.take k) = val (a.take k) + pw k * borrow) (hB : Below w.heap.size w wr) (hk : k < n) (hs : s < 4294967296) (he : s + b[k]?.getD 0 + borrow = a[k]?.getD 0 + 4294967296 * q) :
    Minus1 w a b w.heap.size n (k + 1) q (wr.setCell ⟨w.heap.size, k, none⟩ (limb s)) :=
  ⟨out.set k s, by rw [← cells32_set]; exact hblk.set_ _ _, by rw [List.length_set]; exact hlen, hlt.set _ hs, fun j hj => by rw [getD_set_ne _ (by omega)]; exact hz j (by omega),
    minus_step (by omega) (hz k (Nat.le_refl _)) hI he, hB.setCell (p := ⟨w.heap.size, k, none⟩) (Nat.le_refl _) _⟩

theorem Minus1.stop {w wr : World} {a b : List Nat} {n borrow : Nat} (h : Minus1 w a b w.heap.size n n borrow wr) (ha : a.length ≤ n) (hb : b.length ≤ n) (hab : val b ≤ val a) (hn : n ≤ maxLen) :
    OutL w (fun l => l.length = n ∧ val l + val b = val a) (.returned (.slice (some ⟨w.heap.size, 0, none⟩) n n)) wr := by
  obtain ⟨out, hblk, hlen, hlt, -, hI, hB⟩ := h
  have hL := Lim.of_blk hblk hlt (by omega)
  rw [hlen] at hL
  refine ⟨_, _, _, _, rfl, hL, ⟨hlen, ?_⟩, hB⟩
  rw [val_take_all ha, val_take_all hb] at hI
  have := val_lt hlt
  rw [hlen] at this
  rcases Nat.eq_zero_or_pos borrow with h0 | h0
  · subst h0; omega
  · have := Nat.mul_le_mul_left (pw n) h0; omega

set_option maxRecDepth 100000 in
set_option maxHeartbeats 1000000 in
theorem minus_any (A B : Option Addr) (n c m d : Nat) (a b : List Nat) (w : World) (ha : Lim w A n c a) (hb : Lim w B m d b) (hmn : m ≤ n) (hab : val b ≤ val a) (hn : n ≤ 1000000000) :
    Calls Try.prog 70 #[.slice A n c, .slice B m d] w (OutL w fun l => l.length = n ∧ val l + val b = val a) := by
  obtain ⟨i0, hi, hz0, hz1, hz2⟩ := info_parts info32
  have hmk := make32 (P := Try.prog) 34 59 Try.underlying34 hi hz0 hz1 hz2 (n : Int) n rfl (by omega)
  have hnc := ha.2.1
  have hmd := hb.2.1
  have hcm := ha.2.2.1
  have hdm := hb.2.2.1
  have hnm : n ≤ maxLen := by unfold maxLen; omega
  unfold maxLen at hcm hdm
  have HS : Hid (∀ borrow wr, Minus1 w a b w.heap.size n n borrow wr → OutL w (fun l => l.length = n ∧ val l + val b = val a) (.returned (.slice (some ⟨w.heap.size, 0, none⟩) n n)) wr) :=
    fun borrow wr h => Minus1.stop h (by rw [ha.len]; omega) (by rw [hb.len]; omega) hab hnm
  clear hnm hab
  go_enter Try.func70, Try.ntmps70
  go_wp2
  go_loopw [6, 15] (fun cv iv wr => ∃ k borrow : Nat, k ≤ n ∧ borrow ≤ 1 ∧ cv = limb borrow ∧ iv = .int .i64 k ∧ Minus1 w a b w.heap.size n k borrow wr) (fun _ iv _ => n - (intOf iv).toNat)
  case atStart => exact ⟨0, 0, Nat.zero_le _, Nat.zero_le _, rfl, rfl, Minus1.start w a b n⟩
  case round =>
    obtain ⟨k, borrow, hk, hcy, rfl, rfl, hP⟩ := hrel
    by_cases hlt1 : k < n
    · obtain ⟨out, hblk, hlen, hlt, hz, hI, hB⟩ := hP
      have hz := hide hz
      have hI := hide hI
      have hlen := hide hlen
      have hsz := hblk.lt
      obtain ⟨ba, oa, rfl, hca⟩ := (ha.below hB).at_ hlt1
      have hxa := ha.lt.get k
      have hcg := hblk.cell k
      rw [cells32_get out k (by rw [hlen.out]; omega), hz.out k (Nat.le_refl _)] at hcg
      have hfg := hblk.frozen k
      by_cases hm1 : k < m
      · obtain ⟨bb, ob, rfl, hcb⟩ := (hb.below hB).at_ hm1
        have hxb := hb.lt.get k
        go_wp2_with (go_at_call 90; refine (sub32_any _ _ _ _ hxa hxb hcy).mono ?_; rintro e w' ⟨s, q, rfl, hs, hq, he, rfl⟩; have hE := hide he; clear he)
        go_roundw
        case rel => exact ⟨k + 1, q, by omega, hq, rfl, by go_num, Minus1.step hblk hlen.out hlt hz.out hI.out hB hlt1 hs hE.out⟩
        case measure => simp [intOf]; omega
      · have hb0 := hide (getD_none (l := b) (i := k) (by rw [hb.len]; omega))
        go_wp2_with (go_at_call 90; refine (sub32_any _ 0 _ _ hxa (by omega) hcy).mono ?_; rintro e w' ⟨s, q, rfl, hs, hq, he, rfl⟩; have hE := hide he; clear he)
        go_roundw
        case rel => exact ⟨k + 1, q, by omega, hq, rfl, by go_num, Minus1.step hblk hlen.out hlt hz.out hI.out hB hlt1 hs (by rw [hb0.out]; exact hE.out)⟩
        case measure => simp [intOf]; omega
    · obtain rfl : k = n := by omega
      have HF := hide (HS.out borrow wr hP)
      clear hP
      go_wp2
      go_ret
      exact HF.out

end Go.Proofs.Ytljocgdhdilglaa
