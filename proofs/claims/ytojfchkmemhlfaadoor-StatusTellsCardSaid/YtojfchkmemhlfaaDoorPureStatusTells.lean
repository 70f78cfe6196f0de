/- StatusTells: status.Kind, Shell and Describe return what the reference returns, for all integers; and the chapter's examples hold. -/
import Derived.Test.YtojfchkmemhlfaaDoorQ12
import Derived.Test.YtojfchkmemhlfaaDoorSa
namespace Go.Proofs.YtojfchkmemhlfaaDoor.Pure
open Go.RowKit Go.Proofs.YtojfchkmemhlfaaDoor.Q Go.Proofs.YtojfchkmemhlfaaDoorW.PrintWords Go.Proofs.YtojfchkmemhlfaaDoorW.PrintLast Go.Proofs.YtojfchkmemhlfaaDoorM Go.Proofs.YtojfchkmemhlfaaDoor.Sa
theorem StatusTells : jobshelllaw22_StatusTells.Pure := by
  intro n _
  apply Ev.rounds
  unfold jobshelllaw22_StatusTells.f
  exact Ev.bind (s_kind n) (Ev.bind (r_kind n) (ev_pos rfl (ev_pos rfl (Ev.bind (s_shell n) (Ev.bind (r_shell n) (ev_pos rfl (Ev.bind (s_desc n) (Ev.bind (r_desc n) (ev_pos rfl (Ev.bind awake_ev (ev_some rfl)))))))))))
end Go.Proofs.YtojfchkmemhlfaaDoor.Pure
