import Derived.Test.YtnkkdpjipfjdaaaDoorQ19
import Derived.Test.YtnkkdpjipfjdaaaDoorQ20
import Derived.Test.YtnkkdpjipfjdaaaDoorQ6
import Derived.Test.YtnkkdpjipfjdaaaDoorStSignalValid
import Derived.Test.YtnkkdpjipfjdaaaDoorSh
namespace Go.Proofs.YtnkkdpjipfjdaaaDoor.Pure
open Go.RowKit Go.Proofs.YtnkkdpjipfjdaaaDoor.Q Go.Proofs.YtnkkdpjipfjdaaaDoorW.PrintWords Go.Proofs.YtnkkdpjipfjdaaaDoorW.PrintLast Go.Proofs.YtnkkdpjipfjdaaaDoorM Go.Proofs.YtnkkdpjipfjdaaaDoor.Ix Go.Proofs.YtnkkdpjipfjdaaaDoor.Sg
set_option linter.unusedVariables false
set_option linter.unusedSectionVars false
section
variable (p g c : List Int) (hp : p.length ≤ 1000) (hg : g.length ≤ 1000) (hc : c.length ≤ 1000)
include hp hg hc
theorem sl1_ev : ∀ (m i : Nat), i + m = p.length → ∃ r : Int, Ev (fun k => signal_Valid.l1 k p (p.length : Int) (i : Int) p g c) r ∧ ((r = 25 ∧ ∃ x, badB p g x) ∨ (r = 0 ∧ ∀ x, (x ∈ p.drop i → x ≠ 18 → x ∉ g) ∧ ¬ (stopsB x = true ∧ x ∈ p ∧ (18 : Int) ∈ p)))
  | 0, i, h => by
    have hd : p.drop i = [] := List.drop_eq_nil_of_le (by omega)
    have hany : ∀ b, slices_ContainsFunc_int_int_stops.f p 0 = some b ↔ b = p.any stopsB := fun b => by
      unfold slices_ContainsFunc_int_int_stops.f
      exact ⟨fun h => (Option.some.inj h).symm, fun h => by rw [h]; rfl⟩
    by_cases h18 : (18 : Int) ∈ p
    · by_cases hs : p.any stopsB = true
      · obtain ⟨x, hx, hxs⟩ := List.any_eq_true.1 hs
        exact ⟨25, Ev.step (fun k => by apply signal_Valid.l1.eq_2) (ev_neg (by omega) (Ev.bind (contains_ev p 18 hp) (ev_pos (decide_eq_true h18) (ev_bindc ((hany true).2 hs.symm) (ev_pos rfl (ev_some rfl)))))), .inl ⟨rfl, x, .inr ⟨hxs, hx, h18⟩⟩⟩
      · have hsf : p.any stopsB = false := by simpa using hs
        refine ⟨0, Ev.step (fun k => by apply signal_Valid.l1.eq_2) ?_, .inr ⟨rfl, fun x => ⟨fun hx => (by rw [hd] at hx; cases hx), fun h => hs (List.any_eq_true.2 ⟨x, h.2.1, h.1⟩)⟩⟩⟩
        refine ev_neg (by omega) (Ev.bind (contains_ev p 18 hp) (ev_pos (decide_eq_true h18) ?_))
        refine ev_bindc ((hany false).2 hsf.symm) ?_
        exact ev_neg Bool.false_ne_true (ev_some rfl)
    · exact ⟨0, Ev.step (fun k => by apply signal_Valid.l1.eq_2) (ev_neg (by omega) (Ev.bind (contains_ev p 18 hp) (ev_neg (fun h => h18 (of_decide_eq_true h)) (ev_some rfl)))), .inr ⟨rfl, fun x => ⟨fun hx => (by rw [hd] at hx; cases hx), fun h => h18 h.2.2⟩⟩⟩
  | m + 1, i, h => by
    have hi : i < p.length := by omega
    have hd := drop_at p i hi
    have hr : rd p (i : Int) = p.getD i 0 := rfl
    have hmem : p.getD i 0 ∈ p := by
      rw [List.getD_eq_getElem?_getD, List.getElem?_eq_getElem hi]
      exact List.getElem_mem hi
    obtain ⟨r, h1, h2⟩ := sl1_ev m (i + 1) (by omega)
    have hw : wrap64 ((i : Int) + 1) = ((i + 1 : Nat) : Int) := by rw [wrap_in (by omega) (by omega)]; omega
    rw [← hw] at h1
    by_cases h18 : p.getD i 0 = 18
    · refine ⟨r, Ev.step (fun k => by apply signal_Valid.l1.eq_2) (ev_pos (by omega) (ev_pos (by omega) (ev_pos (by omega) (ev_pos (by rw [hr]; exact h18) h1)))), ?_⟩
      rcases h2 with h2 | ⟨e, h2⟩
      · exact .inl h2
      · refine .inr ⟨e, fun x => ⟨fun hx hne => ?_, (h2 x).2⟩⟩
        rw [hd] at hx
        rcases List.mem_cons.1 hx with hx | hx
        · exact absurd (hx.trans h18) hne
        · exact (h2 x).1 hx hne
    · by_cases hin : p.getD i 0 ∈ g
      · exact ⟨25, Ev.step (fun k => by apply signal_Valid.l1.eq_2) (ev_pos (by omega) (ev_pos (by omega) (ev_pos (by omega) (ev_neg (by rw [hr]; exact h18) (Ev.bind (contains_ev g (p.getD i 0) hg) (ev_pos (decide_eq_true hin) (ev_some rfl))))))), .inl ⟨rfl, _, .inl ⟨h18, hmem, hin⟩⟩⟩
      · refine ⟨r, Ev.step (fun k => by apply signal_Valid.l1.eq_2) (ev_pos (by omega) (ev_pos (by omega) (ev_pos (by omega) (ev_neg (by rw [hr]; exact h18) (Ev.bind (contains_ev g (p.getD i 0) hg) (ev_neg (fun h => hin (of_decide_eq_true h)) h1)))))), ?_⟩
        rcases h2 with h2 | ⟨e, h2⟩
        · exact .inl h2
        · refine .inr ⟨e, fun x => ⟨fun hx hne => ?_, (h2 x).2⟩⟩
          rw [hd] at hx
          rcases List.mem_cons.1 hx with hx | hx
          · rw [hx]; exact hin
          · exact (h2 x).1 hx hne
theorem sl0_ev (r1 : Int) (hr1 : Ev (fun k => signal_Valid.l1 k p (p.length : Int) 0 p g c) r1) : ∀ (m i : Nat), i + m = g.length → ∃ r : Int, Ev (fun k => signal_Valid.l0 k g (g.length : Int) (i : Int) p g c) r ∧ ((r = 1 ∧ ∃ x, x ∈ g ∧ x ∈ c) ∨ (r = r1 ∧ ∀ x, x ∈ g.drop i → x ∉ c))
  | 0, i, h => ⟨r1, Ev.step (fun k => by apply signal_Valid.l0.eq_2) (ev_neg (by omega) hr1), .inr ⟨rfl, fun x hx => by rw [List.drop_eq_nil_of_le (by omega)] at hx; cases hx⟩⟩
  | m + 1, i, h => by
    have hi : i < g.length := by omega
    have hd := drop_at g i hi
    have hr : rd g (i : Int) = g.getD i 0 := rfl
    have hmem : g.getD i 0 ∈ g := by
      rw [List.getD_eq_getElem?_getD, List.getElem?_eq_getElem hi]
      exact List.getElem_mem hi
    obtain ⟨r, h1, h2⟩ := sl0_ev r1 hr1 m (i + 1) (by omega)
    have hw : wrap64 ((i : Int) + 1) = ((i + 1 : Nat) : Int) := by rw [wrap_in (by omega) (by omega)]; omega
    rw [← hw] at h1
    by_cases hin : g.getD i 0 ∈ c
    · exact ⟨1, Ev.step (fun k => by apply signal_Valid.l0.eq_2) (ev_pos (by omega) (ev_pos (by omega) (ev_pos (by omega) (Ev.bind (contains_ev c (g.getD i 0) hc) (ev_pos (decide_eq_true hin) (ev_some rfl)))))), .inl ⟨rfl, _, hmem, hin⟩⟩
    · refine ⟨r, Ev.step (fun k => by apply signal_Valid.l0.eq_2) (ev_pos (by omega) (ev_pos (by omega) (ev_pos (by omega) (Ev.bind (contains_ev c (g.getD i 0) hc) (ev_neg (fun h => hin (of_decide_eq_true h)) h1))))), ?_⟩
      rcases h2 with h2 | ⟨e, h2⟩
      · exact .inl h2
      · refine .inr ⟨e, fun x hx => ?_⟩
        rw [hd] at hx
        rcases List.mem_cons.1 hx with hx | hx
        · rw [hx]; exact hin
        · exact h2 x hx
theorem valid_sig : ∃ r : Int, Ev (fun k => signal_Valid.f k p g c) r ∧
    ((r = 1 ∧ ¬ (okFrom p 0 ∧ okFrom g 0 ∧ okFrom c 0)) ∨
     ((okFrom p 0 ∧ okFrom g 0 ∧ okFrom c 0) ∧ ((r = 1 ∧ ∃ x, badA g c x) ∨ ((∀ x, ¬ badA g c x) ∧ ((r = 25 ∧ ∃ x, badB p g x) ∨ (r = 0 ∧ ∀ x, ¬ badB p g x)))))) := by
  obtain ⟨b1, e1, _, f1⟩ := list_ev p hp
  obtain ⟨b2, e2, _, f2⟩ := list_ev g hg
  obtain ⟨b3, e3, _, f3⟩ := list_ev c hc
  have out : Ev (fun k => signal_Valid.j0 k true p g c) 1 := Ev.step (fun k => by apply signal_Valid.j0.eq_2) (ev_pos rfl (ev_some rfl))
  have hfix : ∀ l : List Int, slices_ContainsFunc_int_int_fixed.f l 0 = some (l.any fun x => (x == 9 || x == 19)) := fun _ => rfl
  cases b1 with
  | false => exact ⟨1, Ev.bind f1 (ev_neg Bool.false_ne_true out), .inl ⟨rfl, fun h => by simpa using e1.2 h.1⟩⟩
  | true =>
    cases b2 with
    | false => exact ⟨1, Ev.bind f1 (ev_pos rfl (Ev.bind f2 (ev_neg Bool.false_ne_true out))), .inl ⟨rfl, fun h => by simpa using e2.2 h.2.1⟩⟩
    | true =>
      cases b3 with
      | false => exact ⟨1, Ev.bind f1 (ev_pos rfl (Ev.bind f2 (ev_pos rfl (Ev.bind f3 (ev_neg Bool.false_ne_true out))))), .inl ⟨rfl, fun h => by simpa using e3.2 h.2.2⟩⟩
      | true =>
        have ok := And.intro (e1.1 rfl) (And.intro (e2.1 rfl) (e3.1 rfl))
        have cond : ∀ {x : Int}, (x == 9 || x == 19) = true → x = 9 ∨ x = 19 := fun h => by simpa using h
        cases hq : (g.any fun x => (x == 9 || x == 19)) with
        | true =>
          obtain ⟨x, hx, hx2⟩ := List.any_eq_true.1 hq
          exact ⟨1, Ev.bind f1 (ev_pos rfl (Ev.bind f2 (ev_pos rfl (Ev.bind f3 (ev_pos rfl (ev_bindc ((hfix g).trans (congrArg some hq)) (ev_pos rfl out))))))), .inr ⟨ok, .inl ⟨rfl, x, .inl ⟨cond hx2, .inl hx⟩⟩⟩⟩
        | false =>
          cases hq2 : (c.any fun x => (x == 9 || x == 19)) with
          | true =>
            obtain ⟨x, hx, hx2⟩ := List.any_eq_true.1 hq2
            exact ⟨1, Ev.bind f1 (ev_pos rfl (Ev.bind f2 (ev_pos rfl (Ev.bind f3 (ev_pos rfl (ev_bindc ((hfix g).trans (congrArg some hq)) (ev_neg Bool.false_ne_true (ev_bindc ((hfix c).trans (congrArg some hq2)) out)))))))), .inr ⟨ok, .inl ⟨rfl, x, .inl ⟨cond hx2, .inr hx⟩⟩⟩⟩
          | false =>
            obtain ⟨r1, g1, s1⟩ := sl1_ev p g c hp hg hc p.length 0 (by omega)
            obtain ⟨r0, g0, s0⟩ := sl0_ev p g c hp hg hc r1 g1 g.length 0 (by omega)
            refine ⟨r0, Ev.bind f1 (ev_pos rfl (Ev.bind f2 (ev_pos rfl (Ev.bind f3 (ev_pos rfl (ev_bindc ((hfix g).trans (congrArg some hq)) (ev_neg Bool.false_ne_true (ev_bindc ((hfix c).trans (congrArg some hq2)) (Ev.step (fun k => by apply signal_Valid.j0.eq_2) (ev_neg Bool.false_ne_true g0)))))))))), .inr ⟨ok, ?_⟩⟩
            have hn1 : ∀ x, x = 9 ∨ x = 19 → x ∉ g := fun x h hx => by
              have := List.any_eq_false.1 hq x hx
              rcases h with h | h <;> subst h <;> simp at this
            have hn2 : ∀ x, x = 9 ∨ x = 19 → x ∉ c := fun x h hx => by
              have := List.any_eq_false.1 hq2 x hx
              rcases h with h | h <;> subst h <;> simp at this
            rcases s0 with ⟨e, x, hx⟩ | ⟨e, hx⟩
            · exact .inl ⟨e, x, .inr hx⟩
            · rw [List.drop_zero] at hx
              refine .inr ⟨fun x h => h.elim (fun h => h.2.elim (hn1 x h.1) (hn2 x h.1)) (fun h => hx x h.1 h.2), ?_⟩
              rcases s1 with ⟨e', hy⟩ | ⟨e', hy⟩
              · exact .inl ⟨e.trans e', hy⟩
              · rw [List.drop_zero] at hy
                exact .inr ⟨e.trans e', fun x h => h.elim (fun h => (hy x).1 h.2.1 h.1 h.2.2) (hy x).2⟩
end
theorem valid_same (p g c : List Int) (hp : p.length ≤ 1000) (hg : g.length ≤ 1000) (hc : c.length ≤ 1000) : ∃ r : Int, Ev (fun k => signal_Valid.f k p g c) r ∧ Ev (fun k => jobshellref25_Valid.f k p g c) r := by
  obtain ⟨r, h1, s1⟩ := valid_sig p g c hp hg hc
  obtain ⟨r', h2, s2⟩ := valid_ref p g c hp hg hc
  have e : r = r' := by
    rcases s1 with ⟨a, b⟩ | ⟨o, ⟨a, x, b⟩ | ⟨n, ⟨a, x, b⟩ | ⟨a, b⟩⟩⟩ <;> rcases s2 with ⟨a', b'⟩ | ⟨o', ⟨a', x', b'⟩ | ⟨n', ⟨a', x', b'⟩ | ⟨a', b'⟩⟩⟩ <;>
      first
      | exact a.trans a'.symm
      | exact absurd o' b
      | exact absurd o b'
      | exact absurd b (n' x)
      | exact absurd b' (n x')
      | exact absurd b (b' x)
      | exact absurd b' (b x')
  exact ⟨r, h1, e ▸ h2⟩
theorem short_f (p g c : List Int) : jobshelllaw25_short.f p g c = some (decide (p.length ≤ 30 ∧ g.length ≤ 30 ∧ c.length ≤ 30)) := by
  unfold jobshelllaw25_short.f
  by_cases h1 : p.length ≤ 30
  · rw [if_pos (by omega)]
    by_cases h2 : g.length ≤ 30
    · rw [if_pos (by omega)]
      exact congrArg some (decide_eq_decide.2 (by omega))
    · rw [if_neg (by omega)]
      exact congrArg some (by simp [h2])
  · rw [if_neg (by omega)]
    exact congrArg some (by simp [h1])
theorem SignalValid : StSignalValid.Pure := by
  intro p g c _ _ _ _ _ _ _ _ _
  have h : Ev (fun k => jobshelllaw25_SignalValid.f k p g c) true := by
    by_cases hs : p.length ≤ 30 ∧ g.length ≤ 30 ∧ c.length ≤ 30
    · obtain ⟨r, h1, h2⟩ := valid_same p g c (by omega) (by omega) (by omega)
      exact ev_bindc (short_f p g c) (ev_pos (decide_eq_true hs) (Ev.bind h1 (Ev.bind h2 (ev_pos rfl (Ev.bind awake_ev (ev_some rfl))))))
    · exact ev_bindc (short_f p g c) (ev_neg (by simpa using hs) (Ev.bind awake_ev (ev_some rfl)))
  obtain ⟨K, hK⟩ := h
  exact ⟨K, hK K (Nat.le_refl _)⟩
end Go.Proofs.YtnkkdpjipfjdaaaDoor.Pure
