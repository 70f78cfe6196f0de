import Derived.Test.YtpljggoogodhlaaLa
import Derived.Test.YtpljggoogodhlaaQ14
import Derived.Test.YtpljggoogodhlaaQ15
import Derived.Test.YtpljggoogodhlaaQ16
import Derived.Test.YtpljggoogodhlaaQ18
import Derived.Test.YtpljggoogodhlaaQ5
import Derived.Test.YtpljggoogodhlaaQ7
namespace Go.Proofs.Ytpljggoogodhlaa.La
open Go.RowKit Go.Proofs.Ytpljggoogodhlaa.Q Go.Proofs.YtpljggoogodhlaaW.PrintWords Go.Proofs.YtpljggoogodhlaaW.PrintLast Go.Proofs.YtpljggoogodhlaaM
def chk (x : S36) : Int := if x.f0 < 0 ∨ x.f0 ≥ 32 then 2 else if x.f1 < 0 ∨ x.f1 ≥ 128 then 1 else 0
theorem chk_f (a b : Int) (c : Bool) : Ev (fun k => fdtab_check.f k a b c) (chk ⟨a, b, c⟩) := by
  unfold fdtab_check.f chk
  by_cases h0 : a < 0
  · exact ev_eq (ev_pos h0 (Ev.step (fun k => by apply fdtab_check.j0.eq_2) (ev_pos rfl (ev_some rfl)))) (by rw [if_pos (.inl h0)])
  · refine ev_neg h0 (Ev.step (fun k => by apply fdtab_check.j0.eq_2) ?_)
    by_cases h1 : a ≥ 32
    · exact ev_eq (ev_pos (decide_eq_true h1) (ev_some rfl)) (by rw [if_pos (.inr h1)])
    · refine ev_neg (by simpa using h1) ?_
      have hn : ¬ (a < 0 ∨ a ≥ 32) := by omega
      by_cases h2 : b < 0
      · exact ev_eq (ev_pos h2 (ev_some rfl)) (by rw [if_neg hn, if_pos (.inl h2)])
      · refine ev_neg h2 ?_
        by_cases h3 : b ≥ 128
        · exact ev_eq (ev_pos h3 (ev_some rfl)) (by rw [if_neg hn, if_pos (.inr h3)])
        · exact ev_eq (ev_neg h3 (ev_some rfl)) (by rw [if_neg hn, if_neg (by simp only; omega)])
theorem one_f (a b : Int) (c : Bool) : Ev (fun k => jobshellref23_one.f k a b c) (chk ⟨a, b, c⟩) := by
  unfold jobshellref23_one.f chk
  by_cases h0 : a < 0
  · exact ev_eq (ev_pos h0 (Ev.step (fun k => by apply jobshellref23_one.j0.eq_2) (ev_pos rfl (ev_some rfl)))) (by rw [if_pos (.inl h0)])
  · refine ev_neg h0 (Ev.step (fun k => by apply jobshellref23_one.j0.eq_2) ?_)
    by_cases h1 : a ≥ 32
    · exact ev_eq (ev_pos (decide_eq_true h1) (ev_some rfl)) (by rw [if_pos (.inr h1)])
    · refine ev_neg (by simpa using h1) ?_
      have hn : ¬ (a < 0 ∨ a ≥ 32) := by omega
      by_cases h2 : b < 0
      · exact ev_eq (ev_pos h2 (ev_some rfl)) (by rw [if_neg hn, if_pos (.inl h2)])
      · refine ev_neg h2 ?_
        by_cases h3 : b ≥ 128
        · exact ev_eq (ev_pos h3 (ev_some rfl)) (by rw [if_neg hn, if_pos (.inr h3)])
        · exact ev_eq (ev_neg h3 (ev_some rfl)) (by rw [if_neg hn, if_neg (by simp only; omega)])
/-- The error of a table, from the i-th descriptor on. -/
def valFrom (l : List S36) : Nat → Nat → Int
  | 0, _ => 0
  | m + 1, i => if chk (l.getD i z36) = 0 then (if 0 < i ∧ (l.getD i z36).f0 ≤ (l.getD (i - 1) z36).f0 then 25 else valFrom l m (i + 1)) else chk (l.getD i z36)
theorem val_l0 (l : List S36) (hl : l.length ≤ 1000) : ∀ (m i : Nat), i + m = l.length → Ev (fun k => fdtab_Valid.l0 k l l (l.length : Int) (i : Int)) (valFrom l m i)
  | 0, i, h => Ev.step (fun k => by apply fdtab_Valid.l0.eq_2) (ev_neg (by omega) (ev_some rfl))
  | m + 1, i, h => by
    refine Ev.step (fun k => by apply fdtab_Valid.l0.eq_2) ?_
    have hw : wrap64 ((i : Int) + 1) = ((i + 1 : Nat) : Int) := by rw [wrap_in (by omega) (by omega)]; omega
    have hr : rd_T36 l (i : Int) = l.getD i z36 := rfl
    refine ev_pos (by omega) (ev_pos (by omega) (ev_pos (by omega) ?_))
    rw [hr]
    refine Ev.bind (chk_f _ _ _) ?_
    have ih := val_l0 l hl m (i + 1) (by omega)
    have ec : chk ⟨(l.getD i z36).f0, (l.getD i z36).f1, (l.getD i z36).f2⟩ = chk (l.getD i z36) := rfl
    rw [ec]
    unfold valFrom
    by_cases h0 : chk (l.getD i z36) = 0
    · rw [if_pos h0]
      refine ev_pos h0 ?_
      by_cases hi : 0 < i
      · have hw2 : wrap64 ((i : Int) - 1) = ((i - 1 : Nat) : Int) := by rw [wrap_in (by omega) (by omega)]; omega
        have hr2 : rd_T36 l ((i - 1 : Nat) : Int) = l.getD (i - 1) z36 := by unfold rd_T36; rw [Int.toNat_natCast]
        refine ev_pos (by omega) (ev_pos (by omega) (ev_pos (by omega) ?_))
        rw [hw2, hr2, hw]
        by_cases hle : (l.getD i z36).f0 ≤ (l.getD (i - 1) z36).f0
        · exact ev_eq (ev_pos hle (ev_some rfl)) (by rw [if_pos ⟨hi, hle⟩])
        · exact ev_eq (ev_neg hle ih) (by rw [if_neg (fun h => hle h.2)])
      · refine ev_neg (by omega) ?_
        rw [hw, if_neg (fun h => hi h.1)]
        exact ih
    · rw [if_neg h0]
      exact ev_neg h0 (ev_some rfl)
theorem ref_val_l0 (l : List S36) (hl : l.length ≤ 1000) : ∀ (m i : Nat), i + m = l.length → Ev (fun k => jobshellref23_Valid.l0 k l (i : Int)) (valFrom l m i)
  | 0, i, h => Ev.step (fun k => by apply jobshellref23_Valid.l0.eq_2) (ev_neg (by omega) (ev_some rfl))
  | m + 1, i, h => by
    refine Ev.step (fun k => by apply jobshellref23_Valid.l0.eq_2) ?_
    have hw : wrap64 ((i : Int) + 1) = ((i + 1 : Nat) : Int) := by rw [wrap_in (by omega) (by omega)]; omega
    have hr : rd_T36 l (i : Int) = l.getD i z36 := rfl
    refine ev_pos (by omega) (ev_pos (by omega) ?_)
    rw [hr]
    refine Ev.bind (one_f _ _ _) ?_
    have ih := ref_val_l0 l hl m (i + 1) (by omega)
    have ec : chk ⟨(l.getD i z36).f0, (l.getD i z36).f1, (l.getD i z36).f2⟩ = chk (l.getD i z36) := rfl
    rw [ec]
    unfold valFrom
    by_cases h0 : chk (l.getD i z36) = 0
    · rw [if_pos h0]
      refine ev_pos h0 ?_
      by_cases hi : 0 < i
      · have hw2 : wrap64 ((i : Int) - 1) = ((i - 1 : Nat) : Int) := by rw [wrap_in (by omega) (by omega)]; omega
        have hr2 : rd_T36 l ((i - 1 : Nat) : Int) = l.getD (i - 1) z36 := by unfold rd_T36; rw [Int.toNat_natCast]
        refine ev_pos (by omega) (ev_pos (by omega) (ev_pos (by omega) ?_))
        rw [hw2, hr2, hw]
        by_cases hle : (l.getD i z36).f0 ≤ (l.getD (i - 1) z36).f0
        · exact ev_eq (ev_pos hle (ev_some rfl)) (by rw [if_pos ⟨hi, hle⟩])
        · exact ev_eq (ev_neg hle ih) (by rw [if_neg (fun h => hle h.2)])
      · refine ev_neg (by omega) ?_
        rw [hw, if_neg (fun h => hi h.1)]
        exact ih
    · rw [if_neg h0]
      exact ev_neg h0 (ev_some rfl)
theorem val_f (l : List S36) (hl : l.length ≤ 1000) : Ev (fun k => fdtab_Valid.f k l) (valFrom l l.length 0) := val_l0 l hl l.length 0 (by omega)
theorem ref_val_f (l : List S36) (hl : l.length ≤ 1000) : Ev (fun k => jobshellref23_Valid.f k l) (valFrom l l.length 0) := ref_val_l0 l hl l.length 0 (by omega)
/-- The first descriptor with a number. -/
def at0 (l : List S36) (n : Int) (i : Nat) : Int := idxP (fun x => x.f0 == n) (l.drop i) i
def getSpec (l : List S36) (n : Int) (i : Nat) : Int × Int × Bool × Bool := if 0 ≤ at0 l n i then ((rd_T36 l (at0 l n i)).f0, (rd_T36 l (at0 l n i)).f1, (rd_T36 l (at0 l n i)).f2, true) else (0, 0, false, false)
theorem at0_end (l : List S36) (n : Int) (i : Nat) (h : l.length ≤ i) : at0 l n i = -1 := by unfold at0; rw [List.drop_eq_nil_of_le h]; rfl
theorem at0_step (l : List S36) (n : Int) (i : Nat) (h : i < l.length) : at0 l n i = if (l.getD i z36).f0 = n then (i : Int) else at0 l n (i + 1) := by
  unfold at0
  rw [List.drop_eq_getElem_cons h, idxP, List.getD_eq_getElem?_getD, List.getElem?_eq_getElem h]
  simp only [Option.getD_some, beq_iff_eq]
theorem at0_lt (l : List S36) (n : Int) : ∀ (m i : Nat), i + m = l.length → at0 l n i < (l.length : Int) ∧ (0 ≤ at0 l n i ∨ at0 l n i = -1)
  | 0, i, h => by rw [at0_end l n i (by omega)]; omega
  | m + 1, i, h => by
    rw [at0_step l n i (by omega)]
    split
    · omega
    · exact at0_lt l n m (i + 1) (by omega)
theorem get_f (l : List S36) (n : Int) : fdtab_Get.f l n = some (getSpec l n 0) := by
  unfold fdtab_Get.f fdtab_index.f getSpec
  rw [Option.bind_some]
  have e : idxP (fun x : S36 => x.f0 == n) l 0 = at0 l n 0 := rfl
  rw [e]
  have hb := at0_lt l n l.length 0 (by omega)
  by_cases h : 0 ≤ at0 l n 0
  · rw [if_pos h, if_pos h, if_pos hb.1, if_pos h]
  · rw [if_neg h, if_neg h]
theorem ref_get_l0 (l : List S36) (n : Int) (hl : l.length ≤ 1000) : ∀ (m i : Nat), i + m = l.length → Ev (fun k => jobshellref23_Get.l0 k l n (i : Int)) (getSpec l n i)
  | 0, i, h => by
    refine Ev.step (fun k => by apply jobshellref23_Get.l0.eq_2) (ev_neg (by omega) (ev_some ?_))
    unfold getSpec; rw [at0_end l n i (by omega), if_neg (by omega)]
  | m + 1, i, h => by
    refine Ev.step (fun k => by apply jobshellref23_Get.l0.eq_2) ?_
    have hw : wrap64 ((i : Int) + 1) = ((i + 1 : Nat) : Int) := by rw [wrap_in (by omega) (by omega)]; omega
    have hr : rd_T36 l (i : Int) = l.getD i z36 := rfl
    have hs := at0_step l n i (by omega)
    refine ev_pos (by omega) (ev_pos (by omega) ?_)
    by_cases h0 : (l.getD i z36).f0 = n
    · rw [if_pos h0] at hs
      refine ev_eq (ev_pos h0 (ev_some rfl)) ?_
      unfold getSpec; rw [hs, if_pos (by omega)]
    · rw [if_neg h0] at hs
      refine ev_eq (ev_neg h0 (by rw [hw]; exact ref_get_l0 l n hl m (i + 1) (by omega))) ?_
      unfold getSpec; rw [hs]
theorem ref_get_f (l : List S36) (n : Int) (hl : l.length ≤ 1000) : Ev (fun k => jobshellref23_Get.f k l n) (getSpec l n 0) := ref_get_l0 l n hl l.length 0 (by omega)
theorem get_used (l : List S36) (n : Int) : (getSpec l n 0).2.2.2 = decide (0 ≤ at0 l n 0) := by
  unfold getSpec
  split
  · rename_i h; simp [h]
  · rename_i h; simp [h]
/-- The least free number from i on (m of them are left). -/
def freeFrom (l : List S36) (least : Int) : Nat → Nat → Int × Bool
  | 0, _ => (0, false)
  | m + 1, i => if least ≤ (i : Int) ∧ at0 l (i : Int) 0 < 0 then ((i : Int), true) else freeFrom l least m (i + 1)
theorem ref_free_l0 (l : List S36) (n : Int) (hl : l.length ≤ 1000) : ∀ (m i : Nat), i + m = 32 → Ev (fun k => jobshellref23_Free.l0 k l n (i : Int)) (freeFrom l n m i)
  | 0, i, h => Ev.step (fun k => by apply jobshellref23_Free.l0.eq_2) (ev_neg (by omega) (ev_some rfl))
  | m + 1, i, h => by
    refine Ev.step (fun k => by apply jobshellref23_Free.l0.eq_2) ?_
    have hw : wrap64 ((i : Int) + 1) = ((i + 1 : Nat) : Int) := by rw [wrap_in (by omega) (by omega)]; omega
    refine ev_pos (by omega) (Ev.bind (ref_get_f l (i : Int) hl) ?_)
    have ih := ref_free_l0 l n hl m (i + 1) (by omega)
    rw [get_used]
    unfold freeFrom
    by_cases h0 : (i : Int) ≥ n
    · refine ev_pos h0 ?_
      by_cases h1 : 0 ≤ at0 l (i : Int) 0
      · refine ev_eq (ev_pos (decide_eq_true h1) (by rw [hw]; exact ih)) ?_
        rw [if_neg (fun h => by have := h.2; omega)]
      · refine ev_eq (ev_neg (by simpa using h1) (ev_some rfl)) ?_
        rw [if_pos ⟨h0, by omega⟩]
    · refine ev_eq (ev_neg h0 (by rw [hw]; exact ih)) ?_
      rw [if_neg (fun h => h0 h.1)]
theorem free_l0 (l : List S36) (n : Int) : ∀ (m i : Nat), i + m = 32 → n ≤ (i : Int) → Ev (fun k => fdtab_Free.l0 k l (i : Int)) (freeFrom l n m i)
  | 0, i, h, _ => Ev.step (fun k => by apply fdtab_Free.l0.eq_2) (ev_neg (by omega) (ev_some rfl))
  | m + 1, i, h, hn => by
    refine Ev.step (fun k => by apply fdtab_Free.l0.eq_2) ?_
    have hw : wrap64 ((i : Int) + 1) = ((i + 1 : Nat) : Int) := by rw [wrap_in (by omega) (by omega)]; omega
    refine ev_pos (by omega) (ev_bindc (show fdtab_index.f l (i : Int) = some (at0 l (i : Int) 0) from rfl) ?_)
    unfold freeFrom
    by_cases h1 : at0 l (i : Int) 0 < 0
    · exact ev_eq (ev_pos h1 (ev_some rfl)) (by rw [if_pos ⟨hn, h1⟩])
    · refine ev_eq (ev_neg h1 (by rw [hw]; exact free_l0 l n m (i + 1) (by omega) (by omega))) ?_
      rw [if_neg (fun h => h1 h.2)]
theorem freeFrom_skip (l : List S36) (n : Int) : ∀ (d m i : Nat), (i : Int) + d ≤ n → i + (d + m) = 32 → freeFrom l n (d + m) i = freeFrom l n m (i + d)
  | 0, m, i, _, _ => by rw [Nat.zero_add, Nat.add_zero]
  | d + 1, m, i, h, h2 => by
    have e : d + 1 + m = (d + m) + 1 := by omega
    rw [e, freeFrom, if_neg (fun h' => by have := h'.1; omega), freeFrom_skip l n d m (i + 1) (by omega) (by omega)]
    congr 1
    omega
theorem freeFrom_none (l : List S36) (n : Int) : ∀ (m i : Nat), ((i + m : Nat) : Int) ≤ n → freeFrom l n m i = (0, false)
  | 0, _, _ => rfl
  | m + 1, i, h => by
    rw [freeFrom, if_neg (fun h' => by have := h'.1; omega)]
    exact freeFrom_none l n m (i + 1) (by omega)
theorem ref_free_f (l : List S36) (n : Int) (hl : l.length ≤ 1000) : Ev (fun k => jobshellref23_Free.f k l n) (freeFrom l n 32 0) := ref_free_l0 l n hl 32 0 (by omega)
theorem free_f (l : List S36) (n : Int) : Ev (fun k => fdtab_Free.f k l n) (freeFrom l n 32 0) := by
  unfold fdtab_Free.f
  by_cases h0 : n ≤ 0
  · have e : mx n 0 = ((0 : Nat) : Int) := by unfold mx; split <;> omega
    rw [e]
    exact free_l0 l n 32 0 (by omega) (by omega)
  · have e : mx n 0 = n := by unfold mx; split <;> omega
    rw [e]
    by_cases h1 : n ≤ 32
    · obtain ⟨d, rfl⟩ := Int.eq_ofNat_of_zero_le (show 0 ≤ n by omega)
      have hs := freeFrom_skip l (d : Int) d (32 - d) 0 (by omega) (by omega)
      have e2 : d + (32 - d) = 32 := by omega
      rw [e2, Nat.zero_add] at hs
      rw [hs]
      exact free_l0 l (d : Int) (32 - d) d (by omega) (by omega)
    · refine ev_eq (Ev.step (fun k => by apply fdtab_Free.l0.eq_2) (ev_neg (by omega) (ev_some rfl))) ?_
      rw [freeFrom_none l n 32 0 (by omega)]
end Go.Proofs.Ytpljggoogodhlaa.La
