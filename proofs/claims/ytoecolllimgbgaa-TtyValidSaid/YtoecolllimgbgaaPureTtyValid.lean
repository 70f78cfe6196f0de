/- TtyValid: tty.Valid returns the reference's error for every terminal within the reference's bound Small; outside that bound, and behind the comparison, the chapter's examples hold. -/
import Derived.Test.YtoecolllimgbgaaStTtyValid
import Derived.Test.YtoecolllimgbgaaTa
namespace Go.Proofs.Ytoecolllimgbgaa.Pure
open Go.RowKit Go.Proofs.Ytoecolllimgbgaa.Q Go.Proofs.YtoecolllimgbgaaW.PrintWords Go.Proofs.YtoecolllimgbgaaW.PrintLast Go.Proofs.YtoecolllimgbgaaM Go.Proofs.Ytoecolllimgbgaa.Ta
theorem TtyValid : StTtyValid.Pure := by
  intro sid fg e l o ts _ _ he _ _ ho ho2
  obtain ⟨b, hb, hb2⟩ := small_f sid fg e l o ts he ho2 ho
  apply Ev.rounds
  unfold jobshelllaw26_TtyValid.f
  refine Ev.bind hb ?_
  cases b with
  | true =>
    have hl : l.length ≤ 1000 := by have := hb2 rfl; omega
    exact ev_pos rfl (Ev.bind (tty_val_f sid fg e l o ts hl he ho) (Ev.bind (ref_val_f sid fg e l o ts hl he ho) (ev_pos rfl (Ev.bind awake_ev (ev_some rfl)))))
  | false => exact ev_neg (by simp) (Ev.bind awake_ev (ev_some rfl))
end Go.Proofs.Ytoecolllimgbgaa.Pure
