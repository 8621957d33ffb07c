/- Rows of fractions: Few, Large, and the reference's vector. -/
import Derived.Test.YtpehacgjclkhmaaGreatZw26
set_option maxRecDepth 100000
set_option maxHeartbeats 1000000
set_option linter.unusedSimpArgs false
set_option linter.unusedVariables false
namespace Go.Proofs.YtpehacgjclkhmaaGreat
open Go.RowKit
attribute [local go_sem] Zg
theorem Few_any (na nb : Bool) (A B : Option Addr) (n c m d : Nat) (w : World) (hn : n <= maxLen) (hm : m <= maxLen) :
    Calls Tryz.prog 30 #[.agg #[.bool na,.slice A n c,.bool nb,.slice B m d]] w fun e w'=>e = .returned (.int .i64 (max n m : Nat)) /\ Below w.heap.size w w':=by
 unfold maxLen at hn hm;obtain ⟨W0,hW0,hB0,q0,s0⟩:=Zbn w 29 #[.bool na,.slice A n c,.bool nb,.slice B m d];obtain ⟨a0,a1,a2,a3,-⟩:=q0.four
 have hx : max (n : Int) (m : Int) = ((max n m : Nat) : Int):=by omega
 go_enter Tryz.func30,Tryz.ntmps30;go_wp2_with fail;go_ret;exact ⟨rfl,(by first | exact hB0 | exact Zh hB0 _)⟩
end Go.Proofs.YtpehacgjclkhmaaGreat
