/- TtyParts: keys in two parts do what they do at once. -/
import Derived.Test.YtoecolllimgbgaaStTtyParts
import Derived.Test.YtoecolllimgbgaaTc
namespace Go.Proofs.Ytoecolllimgbgaa.Pure
open Go.RowKit Go.Proofs.Ytoecolllimgbgaa.Q Go.Proofs.YtoecolllimgbgaaW.PrintWords Go.Proofs.YtoecolllimgbgaaW.PrintLast Go.Proofs.YtoecolllimgbgaaM Go.Proofs.Ytoecolllimgbgaa.Ta Go.Proofs.Ytoecolllimgbgaa.Tb Go.Proofs.Ytoecolllimgbgaa.Tc
theorem TtyParts : StTtyParts.Pure := by
  intro sid fg e l o ts a c _ _ he _ _ ho ho2 _ _
  obtain ⟨b, hb, hb2⟩ := small_f sid fg e l o ts he ho2 ho
  apply Ev.rounds
  have out : Ev (fun k => jobshelllaw26_TtyParts.j0 k a c true sid fg e l o ts) true := Ev.step (fun k => by apply jobshelllaw26_TtyParts.j0.eq_2) (ev_pos rfl (Ev.bind awake_ev (ev_some rfl)))
  unfold jobshelllaw26_TtyParts.f
  refine Ev.bind hb ?_
  cases b with
  | false => exact ev_neg (by simp) out
  | true =>
    have hl : l.length ≤ 1000 := by have := hb2 rfl; omega
    refine ev_pos rfl (Ev.bind (ref_val_f sid fg e l o ts hl he ho) ?_)
    by_cases hv : valErr sid fg e l o = 0
    · obtain ⟨k1, k2, _⟩ := valid_keeps hv
      refine ev_pos hv ?_
      by_cases ha : (a.size : Int) > 200
      · exact ev_pos ha out
      refine ev_neg ha ?_
      by_cases hc : (c.size : Int) > 200
      · rw [decide_eq_true hc]; exact out
      rw [decide_eq_false hc]
      have n1 := feed_keeps a.toList e l [] k1 k2
      have n2 := feed_keeps c.toList (feed e l [] a.toList).1 (feed e l [] a.toList).2.1 [] n1.1 n1.2.1
      rw [toList_length, List.length_nil] at n1 n2
      have hac : (a ++ c).size ≤ 1000 := by rw [app_size]; omega
      have f3 := tty_feed_f sid fg o ts (a ++ c) hac e l k1 k2
      unfold feedT at f3
      rw [app_list, feed_two] at f3
      refine Ev.step (fun k => by apply jobshelllaw26_TtyParts.j0.eq_2) (ev_neg (by simp) ?_)
      refine Ev.bind (tty_feed_f sid fg o ts a (by omega) e l k1 k2) (Ev.bind (tty_feed_f sid fg o ts c (by omega) _ _ n1.1 n1.2.1) (ev_pos (by omega) (Ev.bind f3 ?_)))
      refine Ev.bind (same_f _ _ _ _ _ _ (Nat.le_trans n2.1 (by omega))) (ev_pos rfl ?_)
      unfold feedT
      dsimp only
      have hn1 := n1.2.2
      have hn2 := n2.2.2
      generalize (feed (feed e l [] a.toList).1 (feed e l [] a.toList).2.1 [] c.toList).2.2 = g2 at hn2 ⊢
      generalize (feed e l [] a.toList).2.2 = g1 at hn1 ⊢
      refine ev_pos (by rw [wrap_in (by omega) (by omega), List.length_append]; omega) (ev_pos (by omega) (ev_pos (by rw [List.length_append]; omega) ?_))
      rw [Int.toNat_natCast, List.take_left, List.drop_left]
      exact Ev.bind (numbers_f g1 (by omega)) (ev_pos rfl (Ev.bind (numbers_f g2 (by omega)) (ev_pos rfl (Ev.bind awake_ev (ev_some rfl)))))
    · exact ev_neg hv out
end Go.Proofs.Ytoecolllimgbgaa.Pure
