/- TtyReads: a read and a write do what the reference says, at each valid terminal. -/
import Derived.Test.YtoecolllimgbgaaStTtyReads
import Derived.Test.YtoecolllimgbgaaTc
namespace Go.Proofs.Ytoecolllimgbgaa.Pure
open Go.RowKit Go.Proofs.Ytoecolllimgbgaa.Q Go.Proofs.YtoecolllimgbgaaW.PrintWords Go.Proofs.YtoecolllimgbgaaW.PrintLast Go.Proofs.YtoecolllimgbgaaM Go.Proofs.Ytoecolllimgbgaa.Ta Go.Proofs.Ytoecolllimgbgaa.Tb Go.Proofs.Ytoecolllimgbgaa.Tc
theorem TtyReads : StTtyReads.Pure := by
  intro sid fg e l o ts n s _ _ he _ _ ho ho2 _ _
  obtain ⟨b, hb, hb2⟩ := small_f sid fg e l o ts he ho2 ho
  apply Ev.rounds
  have out : Ev (fun k => jobshelllaw26_TtyReads.j0 k n s true sid fg e l o ts) true := Ev.step (fun k => by apply jobshelllaw26_TtyReads.j0.eq_2) (ev_pos rfl (Ev.bind awake_ev (ev_some rfl)))
  unfold jobshelllaw26_TtyReads.f
  refine Ev.bind hb ?_
  cases b with
  | false => exact ev_neg (by simp) out
  | true =>
    have hl : l.length ≤ 1000 := by have := hb2 rfl; omega
    refine ev_pos rfl (Ev.bind (ref_val_f sid fg e l o ts hl he ho) ?_)
    by_cases hv : valErr sid fg e l o = 0
    · obtain ⟨k1, _, k3⟩ := valid_keeps hv
      have k4 := lineErr_ne (s := s) k3
      refine ev_pos hv ?_
      by_cases h7 : (s.size : Int) > 70000
      · rw [decide_eq_true h7]; exact out
      · rw [decide_eq_false h7]
        have hs : s.size ≤ 70000 := by omega
        have n1 := readT_keeps sid fg e o ts l n k1
        refine Ev.step (fun k => by apply jobshelllaw26_TtyReads.j0.eq_2) (ev_neg (by simp) ?_)
        refine ev_bindc (tty_read_f sid fg e o ts l n k1) (Ev.bind (ref_read_f sid fg e o ts l n k1) ?_)
        refine Ev.bind (same_f _ _ _ _ _ _ (Nat.le_trans n1 (by omega))) (ev_pos rfl (ev_pos rfl (ev_pos rfl ?_)))
        refine ev_bindc (tty_write_f sid fg e o ts l s k4 hs) (ev_bindc (ref_write_f sid fg e o ts l s k4 hs) ?_)
        exact Ev.bind (same_f _ _ _ _ _ _ hl) (ev_pos rfl (Ev.bind awake_ev (ev_some rfl)))
    · exact ev_neg hv out
end Go.Proofs.Ytoecolllimgbgaa.Pure
