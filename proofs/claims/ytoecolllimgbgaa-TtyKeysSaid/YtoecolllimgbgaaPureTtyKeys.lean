/- TtyKeys: a key and keys in succession do what the reference says, at each valid terminal. -/
import Derived.Test.YtoecolllimgbgaaStTtyKeys
import Derived.Test.YtoecolllimgbgaaTb
namespace Go.Proofs.Ytoecolllimgbgaa.Pure
open Go.RowKit Go.Proofs.Ytoecolllimgbgaa.Q Go.Proofs.YtoecolllimgbgaaW.PrintWords Go.Proofs.YtoecolllimgbgaaW.PrintLast Go.Proofs.YtoecolllimgbgaaM Go.Proofs.Ytoecolllimgbgaa.Ta Go.Proofs.Ytoecolllimgbgaa.Tb
theorem TtyKeys : StTtyKeys.Pure := by
  intro sid fg e l o ts c s _ _ he _ _ ho ho2 _ _
  obtain ⟨b, hb, hb2⟩ := small_f sid fg e l o ts he ho2 ho
  apply Ev.rounds
  have out : Ev (fun k => jobshelllaw26_TtyKeys.j0 k c s true sid fg e l o ts) true := Ev.step (fun k => by apply jobshelllaw26_TtyKeys.j0.eq_2) (ev_pos rfl (Ev.bind awake_ev (ev_some rfl)))
  unfold jobshelllaw26_TtyKeys.f
  refine Ev.bind hb ?_
  cases b with
  | false => exact ev_neg (by simp) out
  | true =>
    have hl : l.length ≤ 1000 := by have := hb2 rfl; omega
    refine ev_pos rfl (Ev.bind (ref_val_f sid fg e l o ts hl he ho) ?_)
    by_cases hv : valErr sid fg e l o = 0
    · obtain ⟨k1, k2, _⟩ := valid_keeps hv
      refine ev_pos hv ?_
      by_cases h300 : (s.size : Int) > 300
      · rw [decide_eq_true h300]; exact out
      · rw [decide_eq_false h300]
        have hs : s.size ≤ 1000 := by omega
        have n1 := (key_keeps e l c k1 k2).1
        have n2 := feed_keeps s.toList e l [] k1 k2
        rw [toList_length] at n2
        refine Ev.step (fun k => by apply jobshelllaw26_TtyKeys.j0.eq_2) (ev_neg (by simp) ?_)
        refine Ev.bind (tty_key_f sid fg e l o ts c k1 k2) (Ev.bind (ref_key_f sid fg e l o ts c k1 k2) (Ev.bind (tty_feed_f sid fg o ts s hs e l k1 k2) (Ev.bind (ref_feed_f sid fg o ts s hs e l k1 k2) ?_)))
        refine Ev.bind (same_f _ _ _ _ _ _ (Nat.le_trans n1 (by omega))) (ev_pos rfl (ev_pos rfl ?_))
        refine Ev.bind (same_f _ _ _ _ _ _ (Nat.le_trans n2.1 (by omega))) (ev_pos rfl ?_)
        refine Ev.bind (numbers_f _ (Nat.le_trans n2.2.2 (by rw [List.length_nil]; omega))) (ev_pos rfl (Ev.bind awake_ev (ev_some rfl)))
    · exact ev_neg hv out
end Go.Proofs.Ytoecolllimgbgaa.Pure
