-- Written by wip/tool/myprint.py, a program of this repo that drives the kit's print over hand-written contracts; Lean checks it.
import Derived.Test.YtoecolllimgbgaaQ24
namespace Go.Proofs.Ytoecolllimgbgaa.StTtyParts
open Go.RowKit Go.Proofs.Ytoecolllimgbgaa.Q Go.Proofs.YtoecolllimgbgaaW.PrintWords Go.Proofs.YtoecolllimgbgaaW.PrintLast
/-- THE ONE PURE STATEMENT of jobshelllaw26_TtyParts. -/
def Pure : Prop := ∀ (a0_0 : Int) (a0_1 : Int) (a0_2 : ByteArray) (l0_3 : List ByteArray) (a0_4 : ByteArray) (a0_5 : Bool) (a1 : ByteArray) (a2 : ByteArray), (Lit.int .i64 a0_0).wf = true → (Lit.int .i64 a0_1).wf = true → a0_2.size ≤ 140737488351232 → l0_3.length ≤ maxLen → l0_3.length * 16 ≤ 140737488351232 → (∀ x ∈ l0_3, x.size ≤ 140737488351232) → a0_4.size ≤ 140737488351232 → a1.size ≤ 140737488351232 → a2.size ≤ 140737488351232 → ∃ k, jobshelllaw26_TtyParts.f k a0_0 a0_1 a0_2 l0_3 a0_4 a0_5 a1 a2 = some true
end Go.Proofs.Ytoecolllimgbgaa.StTtyParts
