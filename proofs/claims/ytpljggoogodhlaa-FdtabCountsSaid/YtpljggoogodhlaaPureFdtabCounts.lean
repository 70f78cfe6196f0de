/- FdtabCounts: fdtab.Hold and Release return the list, or the error and the unchanged list, that the reference returns, for every list of at most 140 descriptions and every number; for longer lists, and behind each comparison, the chapter's examples hold. -/
import Derived.Test.YtpljggoogodhlaaStFdtabCounts
import Derived.Test.YtpljggoogodhlaaLb
namespace Go.Proofs.Ytpljggoogodhlaa.Pure
open Go.RowKit Go.Proofs.Ytpljggoogodhlaa.Q Go.Proofs.YtpljggoogodhlaaW.PrintWords Go.Proofs.YtpljggoogodhlaaW.PrintLast Go.Proofs.YtpljggoogodhlaaM Go.Proofs.Ytpljggoogodhlaa.La
theorem FdtabCounts : StFdtabCounts.Pure := by
  intro l n _ _ hok _
  apply Ev.rounds
  unfold jobshelllaw23_FdtabCounts.f
  refine ev_bindc (short_descs l) ?_
  by_cases h : (l.length : Int) ≤ 140
  · have hl : l.length ≤ 1000 := by omega
    have hb : ∀ x ∈ l, -9223372036854775808 ≤ x.f4 ∧ x.f4 ≤ 9223372036854775807 := fun x hx => i64_wf (hok x hx).2.2.2.2.1
    exact ev_pos (decide_eq_true h) (ev_bindc (hold_f l n hl) (Ev.bind (ref_hold_f l n hl) (Ev.bind (rel_f l n hl hb) (Ev.bind (ref_rel_f l n hl) (Ev.bind (same_f _ (by rw [holdSpec_length]; exact hl)) (ev_pos rfl (ev_pos rfl (Ev.bind (same_f _ (by rw [relSpec_length]; exact hl)) (ev_pos rfl (ev_pos (by simp) (ev_pos rfl (Ev.bind awake_ev (ev_some rfl)))))))))))))
  · exact ev_neg (by simpa using h) (Ev.bind awake_ev (ev_some rfl))
end Go.Proofs.Ytpljggoogodhlaa.Pure
