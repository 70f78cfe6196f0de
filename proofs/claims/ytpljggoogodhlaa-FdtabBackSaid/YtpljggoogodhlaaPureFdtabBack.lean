/- FdtabBack: Hold and then Release restores the list; what Add inserts with one reference is free after Release, all else unchanged: for every list of at most 140 descriptions; beyond that length, and behind each comparison, the chapter's examples hold. -/
import Derived.Test.YtpljggoogodhlaaStFdtabBack
import Derived.Test.YtpljggoogodhlaaLd
namespace Go.Proofs.Ytpljggoogodhlaa.Pure
open Go.RowKit Go.Proofs.Ytpljggoogodhlaa.Q Go.Proofs.YtpljggoogodhlaaW.PrintWords Go.Proofs.YtpljggoogodhlaaW.PrintLast Go.Proofs.YtpljggoogodhlaaM Go.Proofs.Ytpljggoogodhlaa.La
theorem FdtabBack : StFdtabBack.Pure := by
  intro l d0 d1 d2 d3 d4 d5 n _ _ hok _ _ _ _ _ _ _
  apply Ev.rounds
  unfold jobshelllaw23_FdtabBack.f
  refine ev_bindc (short_descs l) ?_
  by_cases h : (l.length : Int) ≤ 140
  · have hl : l.length ≤ 140 := by omega
    have hb : ∀ x ∈ l, -9223372036854775808 ≤ x.f4 ∧ x.f4 ≤ 9223372036854775807 := fun x hx => i64_wf (hok x hx).2.2.2.2.1
    have hj := back_j1 l d0 d1 d2 d3 d4 d5 hl hb
    refine ev_pos (decide_eq_true h) (ev_bindc (hold_f l n (by omega)) ?_)
    have no : ∀ c, Ev (fun k => jobshelllaw23_FdtabBack.j0 k l n c false d0 d1 d2 d3 d4 d5) true := fun c => Ev.step (fun k => by apply jobshelllaw23_FdtabBack.j0.eq_2) (ev_neg (by simp) hj)
    by_cases ho : openAt l n
    · by_cases h4 : (rd_T24 l n).f4 ≥ 2147483647
      · have e : holdSpec l n = (l, 4) := by unfold holdSpec; rw [if_pos ho, if_pos h4]
        rw [e]
        exact ev_neg (by simp) (no _)
      · have e : holdSpec l n = (l.set n.toNat (upd (rd_T24 l n) (wrap64 ((rd_T24 l n).f4 + 1))), 0) := by unfold holdSpec; rw [if_pos ho, if_neg h4]
        rw [e]
        refine ev_pos rfl (ev_pos ho.1 (ev_pos ho.2.1 (ev_pos ho.1 (Ev.step (fun k => by apply jobshelllaw23_FdtabBack.j0.eq_2) ?_))))
        by_cases hp : (rd_T24 l n).f4 > 0
        · have hw : wrap64 ((rd_T24 l n).f4 + 1) = (rd_T24 l n).f4 + 1 := wrap_in (by omega) (by omega)
          have hrel := rel_f (l.set n.toNat (upd (rd_T24 l n) (wrap64 ((rd_T24 l n).f4 + 1)))) n (by rw [List.length_set]; omega) (by
            intro x hx
            rcases List.mem_or_eq_of_mem_set hx with h' | h'
            · exact hb x h'
            · rw [h', hw]
              show -9223372036854775808 ≤ (rd_T24 l n).f4 + 1 ∧ (rd_T24 l n).f4 + 1 ≤ 9223372036854775807
              omega)
          rw [hold_rel l n ho h4 hp] at hrel
          exact ev_pos (decide_eq_true hp) (Ev.bind hrel (ev_pos rfl (ev_neg (by simp) (Ev.bind (same_f l (by omega)) (ev_pos rfl hj)))))
        · exact ev_neg (by simpa using hp) hj
    · have e : holdSpec l n = (l, 15) := by unfold holdSpec; rw [if_neg ho]
      rw [e]
      exact ev_neg (by simp) (no _)
  · exact ev_neg (by simpa using h) (Ev.bind awake_ev (ev_some rfl))
end Go.Proofs.Ytpljggoogodhlaa.Pure
