/- Package linear: vector, Check, square; the reference's -/
import Derived.Deep.LoopGhost
import Derived.Lib.SlBuf
import Derived.Test.YtaioanjcjijckaaGreatZl39
set_option linter.unusedSimpArgs false
set_option linter.unusedVariables false
namespace Go.Proofs.YtaioanjcjijckaaGreat
open Go.RowKit
attribute [local go_sem] Zg
structure RI where
 A : Option Addr
 n : Nat
 c : Nat
 l : List Int
section
variable {w w' : World} {A : Option Addr} {n c : Nat} {rs : List RI}
end
theorem Ze1 (k : Nat) : madeCells (Value.agg #[.bool false,.slice none 0 0,.bool false,.slice none 0 0]).cells (k * 4) = Z3 (List.replicate k Zag):=by
 apply Array.toList_inj.1
 show (madeCells #[.bool false,.slice none 0 0,.bool false,.slice none 0 0] (k * 4)).toList = Zp (List.replicate k Zag)
 apply List.ext_getElem?
 intro i
 by_cases h : i < k * 4
 ·have he : (List.replicate k Zag)[i / 4]? = some Zag:=by rw [List.getElem?_replicate,if_pos (by omega)]
  have hc:=Zes he
  have h4 : i % 4 = 0 \/ i % 4 = 1 \/ i % 4 = 2 \/ i % 4 = 3:=by omega
  have hm : (madeCells #[.bool false,.slice none 0 0,.bool false,.slice none 0 0] (k * 4)).toList[i]? = some ((#[.bool false,.slice none 0 0,.bool false,.slice none 0 0] : Array Value)[i % 4]?.getD default):=by
   unfold madeCells
   simp [h]
  rw [hm]
  rcases h4 with h2 | h2 | h2 | h2
  ·rw [show i / 4 * 4 = i by omega] at hc;rw [hc.1,h2];rfl
  ·rw [show i / 4 * 4 + 1 = i by omega] at hc;rw [hc.2.1,h2];rfl
  ·rw [show i / 4 * 4 + 2 = i by omega] at hc;rw [hc.2.2.1,h2];rfl
  ·rw [show i / 4 * 4 + 3 = i by omega] at hc;rw [hc.2.2.2,h2];rfl
 ·have a1 : (Zp (List.replicate k Zag))[i]? = none:=List.getElem?_eq_none (by rw [Zu];simp;omega)
  have a2 : (madeCells #[.bool false,.slice none 0 0,.bool false,.slice none 0 0] (k * 4)).toList[i]? = none:=List.getElem?_eq_none (by unfold madeCells;simp;omega);rw [a1,a2]
theorem makeFr {P : Program} (t e : TypeId) {i : TypeInfo} (ht : P.underlying t = some (.slice e)) (hi : P.info? e = some i) (hz : i.zero = some (.agg #[.bool false,.slice none 0 0,.bool false,.slice none 0 0])) (hs : i.size = 4) (hb : i.bytes = 64)
    (x : Int) (n : Nat) (hx : x = n) (hn : n <= 1000000000000) (W : World) :
    (Instr.makeSlice t (.int .i64 x) (.int .i64 x)).run P W = .ok (.slice (some ⟨W.heap.size,0,none⟩) n n) (W.alloc (.cells (Z3 (List.replicate n Zag)) e)):=by
 subst hx;have hr:=run_make (P:=P) W t e i _ ht hi hz .i64 .i64 n n (by omega) (by omega) (by rw [hb];omega) (by omega);simp only [Int.toNat_natCast] at hr;rw [hr,hs,Ze1]
section
variable {P : Program} (w : World)
end
end Go.Proofs.YtaioanjcjijckaaGreat
