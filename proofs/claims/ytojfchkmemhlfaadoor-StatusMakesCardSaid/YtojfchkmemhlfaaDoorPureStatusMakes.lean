/- StatusMakes: status.Exited, Killed, Stopped and Continued return what the reference returns, for all integers; and the chapter's examples hold. -/
import Derived.Test.YtojfchkmemhlfaaDoorQ7
import Derived.Test.YtojfchkmemhlfaaDoorSa
namespace Go.Proofs.YtojfchkmemhlfaaDoor.Pure
open Go.RowKit Go.Proofs.YtojfchkmemhlfaaDoor.Q Go.Proofs.YtojfchkmemhlfaaDoorW.PrintWords Go.Proofs.YtojfchkmemhlfaaDoorW.PrintLast Go.Proofs.YtojfchkmemhlfaaDoorM Go.Proofs.YtojfchkmemhlfaaDoor.Sa
theorem StatusMakes : jobshelllaw22_StatusMakes.Pure := by
  intro n s _ _
  apply Ev.rounds
  unfold jobshelllaw22_StatusMakes.f
  exact ev_bindc (s_exited n) (ev_bindc (r_exited n) (ev_pos rfl (ev_bindc (s_killed s) (ev_bindc (r_killed s) (ev_pos rfl (ev_bindc (s_stopped s) (ev_bindc (r_stopped s) (ev_pos rfl (ev_bindc rfl (ev_bindc rfl (ev_pos rfl (Ev.bind awake_ev (ev_some rfl)))))))))))))
end Go.Proofs.YtojfchkmemhlfaaDoor.Pure
