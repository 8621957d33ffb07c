/- Slices of int64 (and int) in memory; slices.Max, slices.Min. -/
import Derived.BigQuiet
import Derived.LoopTactic
import Derived.Deep.QuietTactic
import Derived.Test.YtdkhcplnoomcbaaGreatDoorChecked
import Derived.Test.YtdkhcplnoomcbaaGreatDoorZb01
set_option linter.unusedSimpArgs false
set_option linter.unusedVariables false
namespace Go.Proofs.YtdkhcplnoomcbaaGreatDoor
open Go.RowKit
attribute [local go_sem] Zf
def I64(z:Int):Prop:=-9223372036854775808<=z/\z<=9223372036854775807
def LimI(w:World)(A:Option Addr)(n c:Nat)(l:List Int):Prop:=
 l.length=n/\n<=c/\c<=maxLen/\(∀ x ∈ l,I64 x)/\(0<n->∃ b o,A=some ⟨b,o,none⟩/\∀ k,k<n->w.cell? ⟨b,o+k,none⟩=some (.int .i64 (l[k]?.getD 0)))
theorem LimI.keep{w w':World}{A:Option Addr}{n c:Nat}{l:List Int}(h:LimI w A n c l)(hk:∀ p:Addr,p.block<w.heap.size->w'.cell? p=w.cell? p):LimI w' A n c l:=
 ⟨h.1,h.2.1,h.2.2.1,h.2.2.2.1,λhn=>by
  obtain⟨b,o,e,hc⟩:=h.2.2.2.2 hn;exact⟨b,o,e,λk hk'=>(hk _ (Zn (hc k hk'))).trans (hc k hk')⟩⟩
theorem LimI.below{w w':World}{A:Option Addr}{n c:Nat}{l:List Int}(h:LimI w A n c l)(hb:Below w.heap.size w w'):LimI w' A n c l:=h.keep λ_ hp=>hb.cell hp
