/- StatusEnds: status.Ends returns what the reference returns, for all options, exit statuses and tests; and the chapter's examples hold. -/
import Derived.Test.YtojfchkmemhlfaaDoorQ15
import Derived.Test.YtojfchkmemhlfaaDoorSa
namespace Go.Proofs.YtojfchkmemhlfaaDoor.Pure
open Go.RowKit Go.Proofs.YtojfchkmemhlfaaDoor.Q Go.Proofs.YtojfchkmemhlfaaDoorW.PrintWords Go.Proofs.YtojfchkmemhlfaaDoorW.PrintLast Go.Proofs.YtojfchkmemhlfaaDoorM Go.Proofs.YtojfchkmemhlfaaDoor.Sa
theorem StatusEnds : jobshelllaw22_StatusEnds.Pure := by
  intro o n t _ _
  apply Ev.rounds
  unfold jobshelllaw22_StatusEnds.f
  obtain ⟨b, hb⟩ : ∃ b, status_Ends.f o n t = some b := by
    unfold status_Ends.f
    by_cases h : (Go.bits .and .i64 o 1) = 0
    · exact ⟨_, if_pos h⟩
    · rw [if_neg h]
      by_cases h2 : n = 0
      · exact ⟨_, if_pos h2⟩
      · exact ⟨_, if_neg h2⟩
  exact ev_bindc hb (ev_bindc (show jobshellref22_Ends.f o n t = some b from hb) (ev_pos (by simp) (Ev.bind awake_ev (ev_some rfl))))
end Go.Proofs.YtojfchkmemhlfaaDoor.Pure
