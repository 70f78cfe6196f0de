/- FdtabAdds: fdtab.Add returns the list and index, or the error and the unchanged list, that the reference returns, for every description and every list of at most 140 descriptions; beyond that length, and behind each comparison, the chapter's examples hold. -/
import Derived.Test.YtpljggoogodhlaaStFdtabAdds
import Derived.Test.YtpljggoogodhlaaLa
namespace Go.Proofs.Ytpljggoogodhlaa.Pure
open Go.RowKit Go.Proofs.Ytpljggoogodhlaa.Q Go.Proofs.YtpljggoogodhlaaW.PrintWords Go.Proofs.YtpljggoogodhlaaW.PrintLast Go.Proofs.YtpljggoogodhlaaM Go.Proofs.Ytpljggoogodhlaa.La
theorem FdtabAdds : StFdtabAdds.Pure := by
  intro l0 d0 d1 d2 d3 d4 d5 _ _ _ _ _ _ _ _ _
  apply Ev.rounds
  unfold jobshelllaw23_FdtabAdds.f
  refine ev_bindc (short_descs l0) ?_
  by_cases h : (l0.length : Int) ≤ 140
  · refine ev_pos (decide_eq_true h) ?_
    have hl : l0.length ≤ 140 := by omega
    have hb := addSpec_length l0 d0 d1 d2 d3 d4 d5 hl
    exact Ev.bind (add_f l0 d0 d1 d2 d3 d4 d5 hl) (Ev.bind (ref_add_f l0 d0 d1 d2 d3 d4 d5 hl) (Ev.bind (same_f _ (by omega)) (ev_pos rfl (ev_pos rfl (ev_pos rfl (Ev.bind awake_ev (ev_some rfl)))))))
  · exact ev_neg (by simpa using h) (Ev.bind awake_ev (ev_some rfl))
end Go.Proofs.Ytpljggoogodhlaa.Pure
