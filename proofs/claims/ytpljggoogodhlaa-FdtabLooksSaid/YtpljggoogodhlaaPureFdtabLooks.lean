/- FdtabLooks: fdtab.Valid, Get and Free return what the reference returns, for every list of at most 60 descriptors and every number; for longer lists, and behind each comparison, the chapter's examples hold. -/
import Derived.Test.YtpljggoogodhlaaStFdtabLooks
import Derived.Test.YtpljggoogodhlaaLc
namespace Go.Proofs.Ytpljggoogodhlaa.Pure
open Go.RowKit Go.Proofs.Ytpljggoogodhlaa.Q Go.Proofs.YtpljggoogodhlaaW.PrintWords Go.Proofs.YtpljggoogodhlaaW.PrintLast Go.Proofs.YtpljggoogodhlaaM Go.Proofs.Ytpljggoogodhlaa.La
theorem FdtabLooks : StFdtabLooks.Pure := by
  intro l n _ _ _ _
  apply Ev.rounds
  unfold jobshelllaw23_FdtabLooks.f
  by_cases h : l.length ≤ 60
  · have hl : l.length ≤ 1000 := by omega
    exact ev_bindc (short_fds l h) (ev_pos rfl (ev_bindc (get_f l n) (Ev.bind (ref_get_f l n hl) (Ev.bind (free_f l n) (Ev.bind (ref_free_f l n hl) (Ev.bind (val_f l hl) (Ev.bind (ref_val_f l hl) (ev_pos rfl (ev_pos (by simp) (ev_pos (by simp) (ev_pos rfl (ev_pos (by simp) (Ev.bind awake_ev (ev_some rfl))))))))))))))
  · exact ev_bindc (long_fds l h) (ev_neg (by simp) (Ev.bind awake_ev (ev_some rfl)))
end Go.Proofs.Ytpljggoogodhlaa.Pure
