import Derived.Test.YtpljggoogodhlaaLb
import Derived.Test.YtpljggoogodhlaaQ23
namespace Go.Proofs.Ytpljggoogodhlaa.La
open Go.RowKit Go.Proofs.Ytpljggoogodhlaa.Q Go.Proofs.YtpljggoogodhlaaW.PrintWords Go.Proofs.YtpljggoogodhlaaW.PrintLast Go.Proofs.YtpljggoogodhlaaM
theorem free_at (l : List S24) : ∀ (m i : Nat), i + m = l.length → free l i = -1 ∨ ∃ j : Nat, j < l.length ∧ free l i = (j : Int) ∧ (l.getD j z24).f0 = 0
  | 0, i, h => .inl (free_end l i (by omega))
  | m + 1, i, h => by
    rw [free_step l i (by omega)]
    by_cases h0 : (l.getD i z24).f0 = 0
    · rw [if_pos h0]
      exact .inr ⟨i, by omega, rfl, h0⟩
    · rw [if_neg h0]
      exact free_at l m (i + 1) (by omega)
theorem getD_set_ne (l : List S24) (i k : Nat) (d : S24) (h : k ≠ i) : (l.set i d).getD k z24 = l.getD k z24 := by
  rw [List.getD_eq_getElem?_getD, List.getElem?_set, if_neg (fun e => h e.symm), List.getD_eq_getElem?_getD]
theorem getD_set_eq (l : List S24) (i : Nat) (d : S24) (h : i < l.length) : (l.set i d).getD i z24 = d := by
  rw [List.getD_eq_getElem?_getD, List.getElem?_set, if_pos rfl, if_pos h]; rfl
theorem add_cases (l : List S24) (d0 d1 d2 d3 d4 : Int) (d5 : ByteArray) (hl : l.length ≤ 140) :
    ((addSpec l d0 d1 d2 d3 d4 d5).2.2 ≠ 0 ∧ (addSpec l d0 d1 d2 d3 d4 d5).1 = l) ∨
    ∃ (c : List S24) (i : Nat), addSpec l d0 d1 d2 d3 d4 d5 = (c, (i : Int), 0) ∧ i < c.length ∧ c.length = max l.length (i + 1) ∧ c.getD i z24 = ⟨d0, d1, d2, d3, d4, d5⟩ ∧ (∀ k, k < l.length → k ≠ i → c.getD k z24 = l.getD k z24) ∧ (i < l.length → (l.getD i z24).f0 = 0) ∧ 1 ≤ d0 ∧ c.length ≤ 141 ∧ (∀ x ∈ c, x = ⟨d0, d1, d2, d3, d4, d5⟩ ∨ x ∈ l) := by
  unfold addSpec
  by_cases h1 : d0 < 1 ∨ d0 > 7
  · rw [if_pos h1]
    exact .inl ⟨by simp, rfl⟩
  · rw [if_neg h1]
    unfold addTo
    rcases free_at l l.length 0 (by omega) with hf | ⟨j, hj, hf, h0⟩
    · rw [hf, if_neg (by omega)]
      by_cases h128 : l.length ≥ 128
      · rw [if_pos h128]
        exact .inl ⟨by simp, rfl⟩
      · rw [if_neg h128]
        refine .inr ⟨_, l.length, rfl, by simp, by rw [List.length_append, List.length_singleton]; omega, ?_, fun k hk _ => ?_, fun h => absurd h (by omega), by omega, by rw [List.length_append, List.length_singleton]; omega, fun x hx => ?_⟩
        · rw [List.getD_eq_getElem?_getD, List.getElem?_append_right (Nat.le_refl _), Nat.sub_self]; rfl
        · rw [List.getD_eq_getElem?_getD, List.getElem?_append_left hk, List.getD_eq_getElem?_getD]
        · rcases List.mem_append.1 hx with h | h
          · exact .inr h
          · exact .inl (List.mem_singleton.1 h)
    · rw [hf, if_pos (by omega), setI_nonneg _ _ _ (by omega), Int.toNat_natCast]
      refine .inr ⟨_, j, rfl, by rw [List.length_set]; exact hj, by rw [List.length_set]; omega, getD_set_eq l j _ hj, fun k _ hk => getD_set_ne l j k _ hk, fun _ => h0, by omega, by rw [List.length_set]; omega, fun x hx => ?_⟩
      rcases List.mem_or_eq_of_mem_set hx with h | h
      · exact .inr h
      · exact .inl h
theorem rel_open (c : List S24) (i : Nat) (hi : i < c.length) (h0 : (c.getD i z24).f0 ≠ 0) (h4 : (c.getD i z24).f4 = 1) : relSpec c (i : Int) = (c.set i z24, true, 0) := by
  have ho : openAt c (i : Int) := ⟨by omega, by omega, h0⟩
  have h5 : (rd_T24 c (i : Int)).f4 = 1 := h4
  unfold relSpec
  rw [if_pos ⟨ho, by omega⟩, if_pos h5, Int.toNat_natCast]
theorem hold_rel (l : List S24) (n : Int) (ho : openAt l n) (h4 : ¬ (rd_T24 l n).f4 ≥ 2147483647) (hp : (rd_T24 l n).f4 > 0) : relSpec (l.set n.toNat (upd (rd_T24 l n) (wrap64 ((rd_T24 l n).f4 + 1)))) n = (l, false, 0) := by
  have hw : wrap64 ((rd_T24 l n).f4 + 1) = (rd_T24 l n).f4 + 1 := wrap_in (by omega) (by omega)
  rw [hw]
  have hs := rd_set l n (upd (rd_T24 l n) ((rd_T24 l n).f4 + 1)) ho.1 ho.2.1
  have ho' : openAt (l.set n.toNat (upd (rd_T24 l n) ((rd_T24 l n).f4 + 1))) n := ⟨ho.1, by rw [List.length_set]; exact ho.2.1, by rw [hs]; exact ho.2.2⟩
  unfold relSpec
  have hu : (upd (rd_T24 l n) ((rd_T24 l n).f4 + 1)).f4 = (rd_T24 l n).f4 + 1 := rfl
  have hw2 : wrap64 ((rd_T24 l n).f4 + 1 - 1) = (rd_T24 l n).f4 := by rw [wrap_in (by omega) (by omega)]; omega
  rw [if_pos ⟨ho', by rw [hs, hu]; omega⟩, if_neg (by rw [hs, hu]; omega), hs, hu, hw2, List.set_set]
  have e : upd (upd (rd_T24 l n) ((rd_T24 l n).f4 + 1)) (rd_T24 l n).f4 = rd_T24 l n := rfl
  rw [e]
  have hn : n.toNat < l.length := by have := ho.1; have := ho.2.1; omega
  have e2 : rd_T24 l n = l[n.toNat] := by
    unfold rd_T24
    rw [List.getD_eq_getElem?_getD, List.getElem?_eq_getElem hn]; rfl
  rw [e2, List.set_getElem_self]
theorem back_l0 (l c : List S24) (i : Nat) (hl : l.length ≤ 140) (hc : c.length = max l.length (i + 1)) (hg : ∀ k, k < l.length → k ≠ i → c.getD k z24 = l.getD k z24) (h0 : i < l.length → (l.getD i z24).f0 = 0) : ∀ (m j : Nat), j + m = l.length →
    Ev (fun k => jobshelllaw23_FdtabBack.l0 k l c (i : Int) (c.set i z24) (j : Int)) true
  | 0, j, h => Ev.step (fun k => by apply jobshelllaw23_FdtabBack.l0.eq_2) (ev_neg (by omega) (Ev.bind awake_ev (ev_some rfl)))
  | m + 1, j, h => by
    have hw : wrap64 ((j : Int) + 1) = ((j + 1 : Nat) : Int) := by rw [wrap_in (by omega) (by omega)]; omega
    have ih := back_l0 l c i hl hc hg h0 m (j + 1) (by omega)
    have hr : rd_T24 l (j : Int) = l.getD j z24 := rfl
    have hr2 : rd_T24 c (j : Int) = c.getD j z24 := rfl
    have hr3 : rd_T24 (c.set i z24) (j : Int) = (c.set i z24).getD j z24 := rfl
    refine Ev.step (fun k => by apply jobshelllaw23_FdtabBack.l0.eq_2) (ev_pos (by omega) ?_)
    rw [hw, hr, hr2, hr3]
    by_cases e : j = i
    · subst e
      exact ev_pos rfl (ev_pos (by omega) (ev_pos (h0 (by omega)) ih))
    · have hgj := hg j (by omega) e
      rw [getD_set_ne _ _ _ _ e, hgj]
      exact ev_neg (by omega) (ev_pos (by omega) (ev_pos (by omega) (ev_neg (by simp) (ev_pos (by rw [List.length_set]; omega) (ev_neg (by simp) ih)))))
theorem back_j1 (l : List S24) (d0 d1 d2 d3 d4 : Int) (d5 : ByteArray) (hl : l.length ≤ 140) (hb : ∀ x ∈ l, -9223372036854775808 ≤ x.f4 ∧ x.f4 ≤ 9223372036854775807) : Ev (fun k => jobshelllaw23_FdtabBack.j1 k l d0 d1 d2 d3 d4 d5) true := by
  refine Ev.step (fun k => by apply jobshelllaw23_FdtabBack.j1.eq_2) (Ev.bind (add_f l d0 d1 d2 d3 1 d5 hl) ?_)
  rcases add_cases l d0 d1 d2 d3 1 d5 hl with ⟨h1, h2⟩ | ⟨c, i, hs, hi, hc, hd, hg, h0, hd0, hc2, hm⟩
  · rw [h2]
    exact ev_neg h1 (Ev.bind (same_f l (by omega)) (ev_pos rfl (Ev.bind awake_ev (ev_some rfl))))
  · rw [hs]
    have hcb : ∀ x ∈ c, -9223372036854775808 ≤ x.f4 ∧ x.f4 ≤ 9223372036854775807 := by
      intro x hx
      rcases hm x hx with rfl | h
      · exact ⟨show (-9223372036854775808 : Int) ≤ 1 by decide, show (1 : Int) ≤ 9223372036854775807 by decide⟩
      · exact hb x h
    have hr : rd_T24 c (i : Int) = c.getD i z24 := rfl
    have hr2 : rd_T24 (c.set i z24) (i : Int) = (c.set i z24).getD i z24 := rfl
    have hw : wrap64 ((i : Int) + 1) = ((i + 1 : Nat) : Int) := by rw [wrap_in (by omega) (by omega)]; omega
    have hrel := rel_f c (i : Int) (by omega) hcb
    rw [rel_open c i hi (by rw [hd]; show d0 ≠ 0; omega) (by rw [hd])] at hrel
    refine ev_pos rfl (Ev.bind hrel ?_)
    dsimp only
    refine ev_pos rfl (ev_pos rfl (ev_neg (by omega) (ev_neg (by rw [List.length_set]; omega) (ev_pos ?_ (ev_pos (by omega) (ev_pos (by omega) (ev_neg ?_ (ev_pos (by rw [List.length_set]; omega) ?_))))))))
    · rw [hw, List.length_set]
      unfold mx
      split <;> omega
    · rw [hr, hd]; simp
    · refine Ev.step (fun k => by apply jobshelllaw23_FdtabBack.j2.eq_2) (ev_neg ?_ (back_l0 l c i hl hc hg h0 l.length 0 (by omega)))
      rw [hr2, getD_set_eq _ _ _ hi]
      decide +kernel
end Go.Proofs.Ytpljggoogodhlaa.La
