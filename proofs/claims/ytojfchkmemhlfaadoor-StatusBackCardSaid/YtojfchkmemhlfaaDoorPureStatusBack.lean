/- StatusBack: Kind inverts Exited, Killed, Stopped and Continued, and Shell of what they make is an exit status, for all integers; and the chapter's examples hold. -/
import Derived.Test.YtojfchkmemhlfaaDoorQ13
import Derived.Test.YtojfchkmemhlfaaDoorSa
namespace Go.Proofs.YtojfchkmemhlfaaDoor.Pure
open Go.RowKit Go.Proofs.YtojfchkmemhlfaaDoor.Q Go.Proofs.YtojfchkmemhlfaaDoorW.PrintWords Go.Proofs.YtojfchkmemhlfaaDoorW.PrintLast Go.Proofs.YtojfchkmemhlfaaDoorM Go.Proofs.YtojfchkmemhlfaaDoor.Sa
theorem kind_small (v : Int) (h0 : 0 ≤ v) (h1 : v ≤ 255) : kind v = (0, v) := by
  have e1 : v / 256 = 0 := by omega
  have e2 : v % 256 = v := by omega
  unfold kind
  rw [if_neg (by omega), if_neg (by omega), e1, e2]
theorem kind_sig (b s : Int) (hb : b = 1 ∨ b = 2) (h0 : 1 ≤ s) (h1 : s ≤ 20) : kind (b * 256 + s) = (b, s) := by
  have e1 : (b * 256 + s) / 256 = b := by omega
  have e2 : (b * 256 + s) % 256 = s := by omega
  unfold kind
  rw [if_neg (by omega), if_neg (by omega), e1, e2]
theorem back_j1 (s : Int) (b : Bool) (hb : b = decide (s < 1 ∨ s > 20)) : Ev (fun k => jobshelllaw22_StatusBack.j1 k s b) true := by
  refine Ev.step (fun k => by apply jobshelllaw22_StatusBack.j1.eq_2) ?_
  by_cases h : s < 1 ∨ s > 20
  · have e : ∀ b, sigst b s = -1 := fun b => if_pos h
    exact ev_pos (by rw [hb]; exact decide_eq_true h) (ev_bindc (s_killed s) (ev_pos (e 1) (ev_bindc (s_stopped s) (ev_pos (e 2) (Ev.bind awake_ev (ev_some rfl))))))
  · have e1 : sigst 1 s = 1 * 256 + s := if_neg h
    have e2 : sigst 2 s = 2 * 256 + s := if_neg h
    have k1 := kind_sig 1 s (.inl rfl) (by omega) (by omega)
    have k2 := kind_sig 2 s (.inr rfl) (by omega) (by omega)
    have h1 : Ev (fun k => status_Kind.f k (sigst 1 s)) (1, s) := by rw [e1, ← k1]; exact s_kind _
    have h2 : Ev (fun k => status_Kind.f k (sigst 2 s)) (2, s) := by rw [e2, ← k2]; exact s_kind _
    have h3 : Ev (fun k => status_Kind.f k 768) (3, 0) := s_kind 768
    have hw : wrap64 (128 + s) = 128 + s := wrap_in (by omega) (by omega)
    have g1 : Ev (fun k => status_Shell.f k (sigst 1 s)) (128 + s) := by
      have e : shell (1 * 256 + s) = 128 + s := by unfold shell; rw [k1]; rfl
      rw [e1, ← e]; exact s_shell _
    have g2 : Ev (fun k => status_Shell.f k (sigst 2 s)) (128 + s) := by
      have e : shell (2 * 256 + s) = 128 + s := by unfold shell; rw [k2]; rfl
      rw [e2, ← e]; exact s_shell _
    refine ev_neg (by rw [hb, decide_eq_false h]; simp) ?_
    refine ev_bindc (s_killed s) (Ev.bind h1 (ev_bindc (s_stopped s) (Ev.bind h2 (ev_bindc rfl (Ev.bind h3 (ev_pos rfl (ev_pos rfl (ev_pos rfl (ev_pos rfl (ev_pos rfl (ev_pos rfl ?_)))))))))))
    exact ev_bindc (s_killed s) (Ev.bind g1 (ev_pos hw.symm (ev_bindc (s_stopped s) (Ev.bind g2 (ev_pos hw.symm (Ev.bind awake_ev (ev_some rfl)))))))
theorem StatusBack : jobshelllaw22_StatusBack.Pure := by
  intro n s _ _
  apply Ev.rounds
  unfold jobshelllaw22_StatusBack.f
  have k0 := kind_small (n % 256) (by omega) (by omega)
  have h0 : Ev (fun k => status_Kind.f k (n % 256)) (0, n % 256) := by
    have h := s_kind (n % 256)
    rw [k0] at h
    exact h
  have g0 : Ev (fun k => status_Shell.f k (n % 256)) (n % 256) := by
    have e : shell (n % 256) = n % 256 := by unfold shell; rw [k0]; rfl
    have h := s_shell (n % 256)
    rw [e] at h
    exact h
  refine ev_bindc (s_exited n) (Ev.bind h0 (ev_pos rfl (ev_neg (by omega) (ev_neg (by omega) (ev_bindc (s_exited n) (Ev.bind g0 (ev_pos rfl ?_)))))))
  have hb : ((n % 256) != (n % 256)) = false := by simp
  show Ev (fun k => jobshelllaw22_StatusBack.j0 k s ((n % 256) != (n % 256))) true
  rw [hb]
  refine Ev.step (fun k => by apply jobshelllaw22_StatusBack.j0.eq_2) (ev_neg (by simp) ?_)
  by_cases h1 : s < 1
  · exact ev_pos h1 (back_j1 s true (by simp [h1]))
  · exact ev_neg h1 (back_j1 s _ (by simp [h1]))
end Go.Proofs.YtojfchkmemhlfaaDoor.Pure
