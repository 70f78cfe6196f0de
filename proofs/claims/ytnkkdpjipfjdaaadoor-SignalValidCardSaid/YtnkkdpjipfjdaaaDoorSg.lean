import Derived.Test.YtnkkdpjipfjdaaaDoorQ1
import Derived.Test.YtnkkdpjipfjdaaaDoorQ18
import Derived.Test.YtnkkdpjipfjdaaaDoorQ5
import Derived.Test.YtnkkdpjipfjdaaaDoorQ6
import Derived.Test.YtnkkdpjipfjdaaaDoorMEv
namespace Go.Proofs.YtnkkdpjipfjdaaaDoor.Sg
open Go.RowKit Go.Proofs.YtnkkdpjipfjdaaaDoor.Q Go.Proofs.YtnkkdpjipfjdaaaDoorW.PrintWords Go.Proofs.YtnkkdpjipfjdaaaDoorW.PrintLast Go.Proofs.YtnkkdpjipfjdaaaDoorM Go.Proofs.YtnkkdpjipfjdaaaDoor.Ix
set_option linter.unusedVariables false
theorem awake_30 : jobshelllaw25_awake.f 30 = some true := by kernel_rfl
theorem awake_ev : Ev (fun k => jobshelllaw25_awake.f k) true := by
  refine ⟨30, fun k hk => ?_⟩
  obtain ⟨d, rfl⟩ : ∃ d, k = 30 + d := ⟨k - 30, by omega⟩
  clear hk
  induction d with
  | zero => exact awake_30
  | succ d ih => exact jobshelllaw25_awake.mono (30 + d) _ ih
theorem in21 {n : Int} (h0 : 0 ≤ n) (h1 : n ≤ 20) : n = 0 ∨ n = 1 ∨ n = 2 ∨ n = 3 ∨ n = 4 ∨ n = 5 ∨ n = 6 ∨ n = 7 ∨ n = 8 ∨ n = 9 ∨ n = 10 ∨ n = 11 ∨ n = 12 ∨ n = 13 ∨ n = 14 ∨ n = 15 ∨ n = 16 ∨ n = 17 ∨ n = 18 ∨ n = 19 ∨ n = 20 := by omega
theorem name_out {n : Int} (h : ¬ (0 ≤ n ∧ n ≤ 20)) : sigName n = ⟨#[]⟩ := by
  unfold sigName
  by_cases h0 : 0 ≤ n
  · rw [if_pos h0]
    have : sigNames.length ≤ n.toNat := by show 21 ≤ _; omega
    rw [List.getD_eq_getElem?_getD, List.getElem?_eq_none this]
    rfl
  · rw [if_neg h0]
theorem name_eq (n : Int) : jobshellref25_Name.f n = some (sigName n) := by
  by_cases h : 0 ≤ n ∧ n ≤ 20
  · rcases in21 h.1 h.2 with h | h | h | h | h | h | h | h | h | h | h | h | h | h | h | h | h | h | h | h | h <;> subst h <;> rfl
  · rw [name_out h]
    unfold jobshellref25_Name.f
    repeat rw [if_neg (by omega)]
theorem name_f (n : Int) : signal_Name.f n = some (sigName n) := rfl
/-- A signal: a number with a name. -/
def named (n : Int) : Prop := ¬ (sigName n).toList = ([] : List UInt8)
instance (n : Int) : Decidable (named n) := inferInstanceAs (Decidable (¬ _))
theorem empty_toList : (⟨#[]⟩ : ByteArray).toList = ([] : List UInt8) := by kernel_rfl
theorem named_in {n : Int} (h : named n) : 1 ≤ n ∧ n ≤ 20 := by
  by_cases hr : 0 ≤ n ∧ n ≤ 20
  · by_cases h0 : n = 0
    · subst h0
      exact absurd (show (sigName 0).toList = [] by kernel_rfl) h
    · omega
  · rw [named, name_out hr] at h
    exact absurd empty_toList h
theorem drop_at (l : List Int) (i : Nat) (hi : i < l.length) : l.drop i = l.getD i 0 :: l.drop (i + 1) := by
  rw [List.drop_eq_getElem_cons hi, List.getD_eq_getElem?_getD, List.getElem?_eq_getElem hi]
  rfl
theorem has_from (l : List Int) (n : Int) (hl : l.length ≤ 1000) : ∀ (m i : Nat), i + m = l.length → Ev (fun k => jobshellref25_Has.l0 k l n (i : Int)) (decide (n ∈ l.drop i))
  | 0, i, h => Ev.step (fun k => by apply jobshellref25_Has.l0.eq_2) (ev_neg (by omega) (ev_some (by rw [List.drop_eq_nil_of_le (by omega)]; rfl)))
  | m + 1, i, h => by
    have hi : i < l.length := by omega
    have hd := drop_at l i hi
    have hr : rd l (i : Int) = l.getD i 0 := rfl
    refine Ev.step (fun k => by apply jobshellref25_Has.l0.eq_2) (ev_pos (by omega) (ev_pos (by omega) ?_))
    rw [hr]
    by_cases hq : l.getD i 0 = n
    · exact ev_pos hq (ev_some (by rw [hd, hq]; simp))
    · refine ev_neg hq ?_
      rw [wrap_in (by omega) (by omega), show (i : Int) + 1 = ((i + 1 : Nat) : Int) by omega]
      refine ev_eq (has_from l n hl m (i + 1) (by omega)) ?_
      rw [hd]
      exact decide_eq_decide.2 (by rw [List.mem_cons]; exact ⟨.inr, fun h => h.resolve_left (fun e => hq e.symm)⟩)
theorem has_ev (l : List Int) (n : Int) (hl : l.length ≤ 1000) : Ev (fun k => jobshellref25_Has.f k l n) (decide (n ∈ l)) := by
  have := has_from l n hl l.length 0 (by omega)
  rwa [List.drop_zero] at this
theorem index_from (l : List Int) (n : Int) (hl : l.length ≤ 1000) : ∀ (m i : Nat), i + m = l.length → ∃ r : Int, (r ≥ 0 ↔ n ∈ l.drop i) ∧ Ev (fun k => slices_Index_int_int.l0 k l n (l.length : Int) (i : Int)) r
  | 0, i, h => ⟨-1, by rw [List.drop_eq_nil_of_le (by omega)]; simp, Ev.step (fun k => by apply slices_Index_int_int.l0.eq_2) (ev_neg (by omega) (ev_some rfl))⟩
  | m + 1, i, h => by
    have hi : i < l.length := by omega
    have hd := drop_at l i hi
    have hr : rd l (i : Int) = l.getD i 0 := rfl
    by_cases hq : n = l.getD i 0
    · refine ⟨i, by rw [hd, ← hq]; simp, Ev.step (fun k => by apply slices_Index_int_int.l0.eq_2) (ev_pos (by omega) (ev_pos (by omega) (ev_pos (by omega) (ev_pos (by rw [hr]; exact hq) (ev_some rfl)))))⟩
    · obtain ⟨r, h1, h2⟩ := index_from l n hl m (i + 1) (by omega)
      refine ⟨r, by rw [h1, hd, List.mem_cons]; exact ⟨.inr, fun h => h.resolve_left hq⟩, Ev.step (fun k => by apply slices_Index_int_int.l0.eq_2) (ev_pos (by omega) (ev_pos (by omega) (ev_pos (by omega) (ev_neg (by rw [hr]; exact hq) ?_))))⟩
      rw [wrap_in (by omega) (by omega), show (i : Int) + 1 = ((i + 1 : Nat) : Int) by omega]
      exact h2
theorem contains_ev (l : List Int) (n : Int) (hl : l.length ≤ 1000) : Ev (fun k => slices_Contains_int_int.f k l n) (decide (n ∈ l)) := by
  obtain ⟨r, h1, h2⟩ := index_from l n hl l.length 0 (by omega)
  rw [List.drop_zero] at h1
  exact Ev.bind h2 (ev_some (congrArg some (decide_eq_decide.2 h1)))
/-- From i on, a list has signals only, each above the one ahead. -/
def okFrom (l : List Int) (i : Nat) : Prop := ∀ j, i ≤ j → j < l.length → named (l.getD j 0) ∧ (0 < j → l.getD (j - 1) 0 < l.getD j 0)
theorem ok_next {l : List Int} {i : Nat} (h : named (l.getD i 0) ∧ (0 < i → l.getD (i - 1) 0 < l.getD i 0)) : okFrom l i ↔ okFrom l (i + 1) := by
  constructor
  · exact fun k j h1 h2 => k j (by omega) h2
  · intro k j h1 h2
    by_cases e : j = i
    · subst e; exact h
    · exact k j (by omega) h2
theorem list_from (l : List Int) (hl : l.length ≤ 1000) : ∀ (m i : Nat), i + m = l.length → ∃ b : Bool, (b = true ↔ okFrom l i) ∧ Ev (fun k => jobshellref25_list.l0 k l (i : Int)) b
  | 0, i, h => ⟨true, ⟨fun _ j h1 h2 => by omega, fun _ => rfl⟩, Ev.step (fun k => by apply jobshellref25_list.l0.eq_2) (ev_neg (by omega) (ev_some rfl))⟩
  | m + 1, i, h => by
    have hi : i < l.length := by omega
    have hr : rd l (i : Int) = l.getD i 0 := rfl
    have go : ∀ {b : Bool} {g : Nat → Option Bool}, (∀ k, g k = (if ((sigName (l.getD i 0)).toList = ([] : List UInt8)) then some false else (if (i : Int) > 0 then (if 0 ≤ (wrap64 ((i : Int) - 1)) then (if (wrap64 ((i : Int) - 1)) < (l.length : Int) then (if (rd l (i : Int)) ≤ (rd l (wrap64 ((i : Int) - 1))) then (some false) else (jobshellref25_list.l0 k l (wrap64 ((i : Int) + 1)))) else (none)) else (none)) else (jobshellref25_list.l0 k l (wrap64 ((i : Int) + 1)))))) → Ev g b → Ev (fun k => jobshellref25_list.l0 k l (i : Int)) b := by
      intro b g hg hb
      refine Ev.step (fun k => by apply jobshellref25_list.l0.eq_2) (ev_pos (by omega) (ev_pos (by omega) ?_))
      refine ev_bindc (by rw [hr]; exact name_eq _) ?_
      exact Ev.congr (fun k => (hg k).symm) hb
    by_cases hn : named (l.getD i 0)
    · by_cases h0 : 0 < i
      · have hw : wrap64 ((i : Int) - 1) = ((i - 1 : Nat) : Int) := by rw [wrap_in (by omega) (by omega)]; omega
        have hr2 : rd l ((i - 1 : Nat) : Int) = l.getD (i - 1) 0 := rfl
        by_cases hle : l.getD i 0 ≤ l.getD (i - 1) 0
        · exact ⟨false, ⟨fun h => (by cases h), fun h => absurd ((h i (Nat.le_refl _) hi).2 h0) (by omega)⟩, go (fun k => rfl) (ev_neg hn (ev_pos (by omega) (by rw [hw]; exact ev_pos (by omega) (ev_pos (by omega) (ev_pos (by rw [hr, hr2]; exact hle) (ev_some rfl))))))⟩
        · obtain ⟨b, h1, h2⟩ := list_from l hl m (i + 1) (by omega)
          refine ⟨b, h1.trans (ok_next ⟨hn, fun _ => by omega⟩).symm, go (fun k => rfl) (ev_neg hn (ev_pos (by omega) (by rw [hw]; refine ev_pos (by omega) (ev_pos (by omega) (ev_neg (by rw [hr, hr2]; exact hle) ?_)); rw [wrap_in (by omega) (by omega), show (i : Int) + 1 = ((i + 1 : Nat) : Int) by omega]; exact h2)))⟩
      · obtain ⟨b, h1, h2⟩ := list_from l hl m (i + 1) (by omega)
        refine ⟨b, h1.trans (ok_next ⟨hn, fun h => absurd h h0⟩).symm, go (fun k => rfl) (ev_neg hn (ev_neg (by omega) (by rw [wrap_in (by omega) (by omega), show (i : Int) + 1 = ((i + 1 : Nat) : Int) by omega]; exact h2)))⟩
    · exact ⟨false, ⟨fun h => (by cases h), fun h => absurd (h i (Nat.le_refl _) hi).1 hn⟩, go (fun k => rfl) (ev_pos (Decidable.not_not.1 hn) (ev_some rfl))⟩
theorem asc_list (l : List Int) : ∀ (k : Nat) (i : Int), signal_ascending.l0 k l l (l.length : Int) i = jobshellref25_list.l0 k l i
  | 0, _ => rfl
  | k + 1, i => by
    unfold signal_ascending.l0 jobshellref25_list.l0
    by_cases h1 : i < (l.length : Int)
    · simp only [h1, if_true, name_f, name_eq, asc_list l k]
    · simp only [h1, if_false]
theorem list_ev (l : List Int) (hl : l.length ≤ 1000) : ∃ b : Bool, (b = true ↔ okFrom l 0) ∧ Ev (fun k => jobshellref25_list.f k l) b ∧ Ev (fun k => signal_ascending.f k l) b := by
  obtain ⟨b, h1, h2⟩ := list_from l hl l.length 0 (by omega)
  exact ⟨b, h1, h2, Ev.congr (fun k => asc_list l k 0) h2⟩
theorem ok_named {l : List Int} (h : okFrom l 0) {x : Int} (hx : x ∈ l) : named x := by
  obtain ⟨j, hj, rfl⟩ := List.getElem_of_mem hx
  have := (h j (Nat.zero_le _) hj).1
  rwa [List.getD_eq_getElem?_getD, List.getElem?_eq_getElem hj] at this
end Go.Proofs.YtnkkdpjipfjdaaaDoor.Sg
