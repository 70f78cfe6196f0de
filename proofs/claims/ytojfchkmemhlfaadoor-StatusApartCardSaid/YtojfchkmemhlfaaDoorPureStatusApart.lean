/- StatusApart: two numbers that Kind accepts are equal where their kinds and values are, and Describe is empty just for the numbers that Kind does not accept, for all integers; and the chapter's examples hold. -/
import Derived.Test.YtojfchkmemhlfaaDoorQ14
import Derived.Test.YtojfchkmemhlfaaDoorSa
namespace Go.Proofs.YtojfchkmemhlfaaDoor.Pure
open Go.RowKit Go.Proofs.YtojfchkmemhlfaaDoor.Q Go.Proofs.YtojfchkmemhlfaaDoorW.PrintWords Go.Proofs.YtojfchkmemhlfaaDoorW.PrintLast Go.Proofs.YtojfchkmemhlfaaDoorM Go.Proofs.YtojfchkmemhlfaaDoor.Sa
theorem StatusApart : jobshelllaw22_StatusApart.Pure := by
  intro a b _ _
  apply Ev.rounds
  unfold jobshelllaw22_StatusApart.f
  have hk : -1 ≤ (kind a).1 ∧ (kind a).1 ≤ 3 ∧ ((kind a).1 = -1 → (kind a).2 = 0) := by
    rcases kind_cases a with e | ⟨g0, g1, e, g2⟩
    · rw [e]; exact ⟨by decide, by decide, fun _ => rfl⟩
    · rw [e]; exact ⟨by show -1 ≤ a / 256; omega, by show a / 256 ≤ 3; omega, fun h => absurd (show a / 256 = -1 from h) (by omega)⟩
  have hd := desc_empty a
  refine Ev.bind (s_kind a) (Ev.bind (s_kind b) (ev_neg (by omega) (ev_neg (by omega) (Ev.bind (s_desc a) (ev_neg ?_ ?_)))))
  · rw [Bool.not_eq_true, bne_eq_false_iff_eq, Bool.eq_iff_iff, beq_iff_eq, beq_iff_eq]
    exact hd
  · by_cases h : (kind a).1 = -1
    · exact ev_pos h (ev_pos (hk.2.2 h) (Ev.bind awake_ev (ev_some rfl)))
    · refine ev_neg h ?_
      by_cases h1 : (kind a).1 = (kind b).1
      · refine ev_pos h1 ?_
        by_cases h2 : (kind a).2 = (kind b).2
        · refine ev_pos h2 (ev_pos ?_ (Ev.bind awake_ev (ev_some rfl)))
          rcases kind_cases a with e | ⟨g0, g1, e, g2⟩
          · rw [e] at h; exact absurd rfl h
          · rcases kind_cases b with e' | ⟨g0', g1', e', g2'⟩
            · rw [h1, e'] at h; exact absurd rfl h
            · rw [e, e'] at h1 h2
              have q1 : a / 256 = b / 256 := h1
              have q2 : a % 256 = b % 256 := h2
              omega
        · exact ev_neg h2 (Ev.bind awake_ev (ev_some rfl))
      · exact ev_neg h1 (Ev.bind awake_ev (ev_some rfl))
end Go.Proofs.YtojfchkmemhlfaaDoor.Pure
