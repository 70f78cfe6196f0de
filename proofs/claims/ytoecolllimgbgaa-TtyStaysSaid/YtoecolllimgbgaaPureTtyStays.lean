/- TtyStays: every sequence of at most 40 operations with strings of at most 100 bytes keeps a new terminal valid, and input never changes Out; else the chapter's examples hold. -/
import Derived.Test.YtoecolllimgbgaaStTtyStays
import Derived.Test.YtoecolllimgbgaaTg
namespace Go.Proofs.Ytoecolllimgbgaa.Pure
open Go.RowKit Go.Proofs.Ytoecolllimgbgaa.Q Go.Proofs.YtoecolllimgbgaaW.PrintWords Go.Proofs.YtoecolllimgbgaaW.PrintLast Go.Proofs.YtoecolllimgbgaaM Go.Proofs.Ytoecolllimgbgaa.Ta Go.Proofs.Ytoecolllimgbgaa.Tb Go.Proofs.Ytoecolllimgbgaa.Tf
theorem TtyStays : StTtyStays.Pure := by
  intro ops _ _ _
  apply Ev.rounds
  unfold jobshelllaw26_TtyStays.f
  by_cases h : (ops.length : Int) > 40
  · exact ev_pos h (Ev.bind awake_ev (ev_some rfl))
  · exact ev_neg h (stays_l0 ops (by omega) ops.length 0 ⟨#[]⟩ [] ⟨#[]⟩ (by omega) (Fit.nil (by simp) (fun x hx => absurd hx (by simp))) (by show 0 ≤ 100 * 0; omega))
end Go.Proofs.Ytoecolllimgbgaa.Pure
