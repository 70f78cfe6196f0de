import Derived.Test.YtpljggoogodhlaaQ10
import Derived.Test.YtpljggoogodhlaaQ12
import Derived.Test.YtpljggoogodhlaaQ13
import Derived.Test.YtpljggoogodhlaaQ3
import Derived.Test.YtpljggoogodhlaaQ4
import Derived.Test.YtpljggoogodhlaaMEv
namespace Go.Proofs.Ytpljggoogodhlaa.La
open Go.RowKit Go.Proofs.Ytpljggoogodhlaa.Q Go.Proofs.YtpljggoogodhlaaW.PrintWords Go.Proofs.YtpljggoogodhlaaW.PrintLast Go.Proofs.YtpljggoogodhlaaM
/-- A list with another element at an index. -/
def setI (l : List S24) (n : Int) (d : S24) : List S24 := if 0 ≤ n then l.set n.toNat d else l
theorem setI_length (l : List S24) (n : Int) (d : S24) : (setI l n d).length = l.length := by unfold setI; split <;> simp
theorem setI_get (l : List S24) (n : Int) (d : S24) (i : Nat) (h : i < l.length) : (setI l n d)[i]? = some (if (i : Int) = n then d else l.getD i z24) := by
  unfold setI
  split
  · rw [List.getElem?_set]
    by_cases e : n.toNat = i
    · rw [if_pos e, if_pos (by omega), if_pos (by omega)]
    · rw [if_neg e, if_neg (by omega), List.getElem?_eq_getElem h, List.getD_eq_getElem?_getD, List.getElem?_eq_getElem h]; rfl
  · rw [if_neg (by omega), List.getElem?_eq_getElem h, List.getD_eq_getElem?_getD, List.getElem?_eq_getElem h]; rfl
theorem take_snoc_get {α : Type} (l : List α) (i : Nat) (x : α) (h : l[i]? = some x) : l.take i ++ [x] = l.take (i + 1) := by
  rw [List.take_add_one, h]; rfl
theorem changed_l0 (l : List S24) (n : Int) (d0 d1 d2 d3 d4 : Int) (d5 : ByteArray) (hl : l.length ≤ 1000) : ∀ (m i : Nat), i + m = l.length →
    Ev (fun k => jobshellref23_changed.l0 k l n ((setI l n ⟨d0, d1, d2, d3, d4, d5⟩).take i) (i : Int) d0 d1 d2 d3 d4 d5) (setI l n ⟨d0, d1, d2, d3, d4, d5⟩)
  | 0, i, h => by
    refine Ev.step (fun k => by apply jobshellref23_changed.l0.eq_2) ?_
    refine ev_neg (by omega) (ev_some ?_)
    rw [List.take_of_length_le (by rw [setI_length]; omega)]
  | m + 1, i, h => by
    refine Ev.step (fun k => by apply jobshellref23_changed.l0.eq_2) ?_
    refine ev_pos (by omega) ?_
    have hg := setI_get l n ⟨d0, d1, d2, d3, d4, d5⟩ i (by omega)
    have hw : wrap64 ((i : Int) + 1) = ((i + 1 : Nat) : Int) := by rw [wrap_in (by omega) (by omega)]; omega
    have hlen : ((setI l n ⟨d0, d1, d2, d3, d4, d5⟩).take i).length < 2513169434916 := by rw [List.length_take, setI_length]; omega
    have ih := changed_l0 l n d0 d1 d2 d3 d4 d5 hl m (i + 1) (by omega)
    by_cases hn : (i : Int) = n
    · refine ev_pos hn (ev_pos hlen ?_)
      rw [if_pos hn] at hg
      rw [hw, take_snoc_get _ _ _ hg]
      exact ih
    · refine ev_neg hn (ev_pos (by omega) (ev_pos hlen ?_))
      rw [if_neg hn] at hg
      have he : (⟨(rd_T24 l (i : Int)).f0, (rd_T24 l (i : Int)).f1, (rd_T24 l (i : Int)).f2, (rd_T24 l (i : Int)).f3, (rd_T24 l (i : Int)).f4, (rd_T24 l (i : Int)).f5⟩ : S24) = l.getD i z24 := rfl
      rw [hw, he, take_snoc_get _ _ _ hg]
      exact ih
theorem changed_f (l : List S24) (n : Int) (d0 d1 d2 d3 d4 : Int) (d5 : ByteArray) (hl : l.length ≤ 1000) : Ev (fun k => jobshellref23_changed.f k l n d0 d1 d2 d3 d4 d5) (setI l n ⟨d0, d1, d2, d3, d4, d5⟩) :=
  changed_l0 l n d0 d1 d2 d3 d4 d5 hl l.length 0 (by omega)
theorem same_l0 (l : List S24) (hl : l.length ≤ 1000) : ∀ (m i : Nat), i + m = l.length → Ev (fun k => jobshellref23_SameDescs.l0 k l l (i : Int)) true
  | 0, i, h => by
    refine Ev.step (fun k => by apply jobshellref23_SameDescs.l0.eq_2) ?_
    exact ev_neg (by omega) (ev_some rfl)
  | m + 1, i, h => by
    refine Ev.step (fun k => by apply jobshellref23_SameDescs.l0.eq_2) ?_
    have hw : wrap64 ((i : Int) + 1) = ((i + 1 : Nat) : Int) := by rw [wrap_in (by omega) (by omega)]; omega
    refine ev_pos (by omega) (ev_pos (by omega) (ev_pos (by omega) (ev_neg (by simp) ?_)))
    rw [hw]
    exact same_l0 l hl m (i + 1) (by omega)
theorem same_f (l : List S24) (hl : l.length ≤ 1000) : Ev (fun k => jobshellref23_SameDescs.f k l l) true := by
  unfold jobshellref23_SameDescs.f
  exact ev_pos rfl (same_l0 l hl l.length 0 (by omega))
/-- Where the first free description is. -/
def free (l : List S24) (i : Nat) : Int := idxP (fun x => x.f0 == 0) (l.drop i) i
def addTo (l : List S24) (d : S24) (i : Nat) : List S24 × Int × Int := if 0 ≤ free l i then (setI l (free l i) d, free l i, 0) else if l.length ≥ 128 then (l, 0, 4) else (l ++ [d], (l.length : Int), 0)
theorem free_end (l : List S24) (i : Nat) (h : l.length ≤ i) : free l i = -1 := by unfold free; rw [List.drop_eq_nil_of_le h]; rfl
theorem free_step (l : List S24) (i : Nat) (h : i < l.length) : free l i = if (l.getD i z24).f0 = 0 then (i : Int) else free l (i + 1) := by
  unfold free
  rw [List.drop_eq_getElem_cons h, idxP, List.getD_eq_getElem?_getD, List.getElem?_eq_getElem h]
  simp only [Option.getD_some, beq_iff_eq]
theorem ref_add_l0 (l : List S24) (d0 d1 d2 d3 d4 : Int) (d5 : ByteArray) (hl : l.length ≤ 140) : ∀ (m i : Nat), i + m = l.length →
    Ev (fun k => jobshellref23_Add.l0 k l (i : Int) d0 d1 d2 d3 d4 d5) (addTo l ⟨d0, d1, d2, d3, d4, d5⟩ i)
  | 0, i, h => by
    refine Ev.step (fun k => by apply jobshellref23_Add.l0.eq_2) ?_
    refine ev_neg (by omega) ?_
    have hf := free_end l i (by omega)
    unfold addTo
    rw [hf, if_neg (by omega)]
    by_cases h128 : l.length ≥ 128
    · rw [if_pos h128]
      exact ev_pos (by omega) (ev_some rfl)
    · rw [if_neg h128]
      refine ev_neg (by omega) (Ev.bind (changed_f l (-1) d0 d1 d2 d3 d4 d5 (by omega)) ?_)
      have e : setI l (-1) ⟨d0, d1, d2, d3, d4, d5⟩ = l := rfl
      rw [e]
      exact ev_pos (by omega) (ev_some rfl)
  | m + 1, i, h => by
    refine Ev.step (fun k => by apply jobshellref23_Add.l0.eq_2) ?_
    have hw : wrap64 ((i : Int) + 1) = ((i + 1 : Nat) : Int) := by rw [wrap_in (by omega) (by omega)]; omega
    have hf := free_step l i (by omega)
    have hr : rd_T24 l (i : Int) = l.getD i z24 := rfl
    refine ev_pos (by omega) (ev_pos (by omega) ?_)
    rw [hr]
    by_cases h0 : (l.getD i z24).f0 = 0
    · rw [if_pos h0] at hf
      refine ev_pos h0 (Ev.bind (changed_f l (i : Int) d0 d1 d2 d3 d4 d5 (by omega)) (ev_some ?_))
      unfold addTo
      rw [hf, if_pos (by omega)]
    · rw [if_neg h0] at hf
      refine ev_neg h0 ?_
      have e : addTo l ⟨d0, d1, d2, d3, d4, d5⟩ i = addTo l ⟨d0, d1, d2, d3, d4, d5⟩ (i + 1) := by unfold addTo; rw [hf]
      rw [hw, e]
      exact ref_add_l0 l d0 d1 d2 d3 d4 d5 hl m (i + 1) (by omega)
theorem add_l0 (l : List S24) (d0 d1 d2 d3 d4 : Int) (d5 : ByteArray) (hl : l.length ≤ 140) : ∀ (m i : Nat), i + m = l.length →
    Ev (fun k => fdtab_Add.l0 k l l (l.length : Int) (i : Int) d0 d1 d2 d3 d4 d5 0 0 0 0 0 (⟨#[]⟩ : ByteArray)) (addTo l ⟨d0, d1, d2, d3, d4, d5⟩ i)
  | 0, i, h => by
    refine Ev.step (fun k => by apply fdtab_Add.l0.eq_2) ?_
    refine ev_neg (by omega) ?_
    have hf := free_end l i (by omega)
    by_cases h128 : l.length ≥ 128
    · have hs : addTo l ⟨d0, d1, d2, d3, d4, d5⟩ i = (l, 0, 4) := by unfold addTo; rw [hf, if_neg (by omega), if_pos h128]
      rw [hs]
      exact ev_pos (by omega) (ev_some rfl)
    · have hs : addTo l ⟨d0, d1, d2, d3, d4, d5⟩ i = (l ++ [⟨d0, d1, d2, d3, d4, d5⟩], (l.length : Int), 0) := by unfold addTo; rw [hf, if_neg (by omega), if_neg h128]
      rw [hs]
      have e : api_Desc.f l = some l := by unfold api_Desc.f; rw [if_pos (by omega)]
      refine ev_neg (by omega) (ev_bindc e (ev_bindc rfl ?_))
      exact ev_pos (by simp; omega) (ev_some rfl)
  | m + 1, i, h => by
    refine Ev.step (fun k => by apply fdtab_Add.l0.eq_2) ?_
    have hw : wrap64 ((i : Int) + 1) = ((i + 1 : Nat) : Int) := by rw [wrap_in (by omega) (by omega)]; omega
    have hf := free_step l i (by omega)
    have hr : rd_T24 l (i : Int) = l.getD i z24 := rfl
    have e : api_Desc.f l = some l := by unfold api_Desc.f; rw [if_pos (by omega)]
    refine ev_pos (by omega) (ev_pos (by omega) (ev_pos (by omega) ?_))
    rw [hr]
    have hset : (l.getD i z24).f0 = 0 → Ev (fun k => (api_Desc.f l).bind fun t => if (i : Int) < (t.length : Int) then some (t.set (i : Int).toNat (⟨d0, d1, d2, d3, d4, d5⟩ : S24), (i : Int), (0 : Int)) else none) (addTo l ⟨d0, d1, d2, d3, d4, d5⟩ i) := by
      intro h0
      rw [if_pos h0] at hf
      refine ev_bindc e (ev_pos (by omega) (ev_some ?_))
      unfold addTo setI
      rw [hf, if_pos (by omega), if_pos (by omega)]
    by_cases hz : ((((l.getD i z24).f0) == 0 && (((l.getD i z24).f1) == 0 && (((l.getD i z24).f2) == 0 && (((l.getD i z24).f3) == 0 && (((l.getD i z24).f4) == 0 && ((((l.getD i z24).f5).toList) == (⟨#[]⟩ : ByteArray).toList)))))) : Bool) = true
    · refine ev_pos hz (hset ?_)
      simp only [Bool.and_eq_true, beq_iff_eq] at hz
      exact hz.1
    · refine ev_neg hz ?_
      by_cases h0 : (l.getD i z24).f0 = 0
      · exact ev_pos h0 (hset h0)
      · rw [if_neg h0] at hf
        refine ev_neg h0 ?_
        have e2 : addTo l ⟨d0, d1, d2, d3, d4, d5⟩ i = addTo l ⟨d0, d1, d2, d3, d4, d5⟩ (i + 1) := by unfold addTo; rw [hf]
        rw [hw, e2]
        exact add_l0 l d0 d1 d2 d3 d4 d5 hl m (i + 1) (by omega)
def addSpec (l : List S24) (d0 d1 d2 d3 d4 : Int) (d5 : ByteArray) : List S24 × Int × Int := if d0 < 1 ∨ d0 > 7 then (l, 0, 1) else addTo l ⟨d0, d1, d2, d3, d4, d5⟩ 0
theorem add_f (l : List S24) (d0 d1 d2 d3 d4 : Int) (d5 : ByteArray) (hl : l.length ≤ 140) : Ev (fun k => fdtab_Add.f k l d0 d1 d2 d3 d4 d5) (addSpec l d0 d1 d2 d3 d4 d5) := by
  unfold fdtab_Add.f addSpec
  by_cases h1 : d0 < 1
  · rw [if_pos (.inl h1)]
    refine ev_pos h1 ?_
    refine Ev.step (fun k => by apply fdtab_Add.j0.eq_2) ?_
    exact ev_pos rfl (ev_some rfl)
  · refine ev_neg h1 ?_
    refine Ev.step (fun k => by apply fdtab_Add.j0.eq_2) ?_
    by_cases h2 : d0 > 7
    · rw [if_pos (.inr h2)]
      exact ev_pos (decide_eq_true h2) (ev_some rfl)
    · rw [if_neg (by omega)]
      exact ev_neg (by simp; omega) (add_l0 l d0 d1 d2 d3 d4 d5 hl l.length 0 (by omega))
theorem ref_add_f (l : List S24) (d0 d1 d2 d3 d4 : Int) (d5 : ByteArray) (hl : l.length ≤ 140) : Ev (fun k => jobshellref23_Add.f k l d0 d1 d2 d3 d4 d5) (addSpec l d0 d1 d2 d3 d4 d5) := by
  unfold jobshellref23_Add.f addSpec
  by_cases h1 : d0 < 1
  · rw [if_pos (.inl h1)]
    refine ev_pos h1 ?_
    refine Ev.step (fun k => by apply jobshellref23_Add.j0.eq_2) ?_
    exact ev_pos rfl (ev_some rfl)
  · refine ev_neg h1 ?_
    refine Ev.step (fun k => by apply jobshellref23_Add.j0.eq_2) ?_
    by_cases h2 : d0 > 7
    · rw [if_pos (.inr h2)]
      exact ev_pos (decide_eq_true h2) (ev_some rfl)
    · rw [if_neg (by omega)]
      exact ev_neg (by simp; omega) (ref_add_l0 l d0 d1 d2 d3 d4 d5 hl l.length 0 (by omega))
theorem addSpec_length (l : List S24) (d0 d1 d2 d3 d4 : Int) (d5 : ByteArray) (hl : l.length ≤ 140) : (addSpec l d0 d1 d2 d3 d4 d5).1.length ≤ 141 := by
  unfold addSpec addTo
  split
  · simp only; omega
  · split
    · simp only [setI_length]; omega
    · split
      · simp only; omega
      · simp only [List.length_append, List.length_singleton]; omega
theorem short_descs (l : List S24) : jobshelllaw23_short.f ([] : List S36) l = some (decide ((l.length : Int) ≤ 140)) := by
  unfold jobshelllaw23_short.f
  rw [if_pos (by simp)]
theorem short_fds (l : List S36) (h : l.length ≤ 60) : jobshelllaw23_short.f l ([] : List S24) = some true := by
  unfold jobshelllaw23_short.f
  rw [if_pos (by omega)]
  simp
theorem long_fds (l : List S36) (h : ¬ l.length ≤ 60) : jobshelllaw23_short.f l ([] : List S24) = some false := by
  unfold jobshelllaw23_short.f
  rw [if_neg (by omega)]
theorem awake_ev : Ev (fun k => jobshelllaw23_awake.f k) true := Ev.of (fun k => jobshelllaw23_awake.mono k) (k := 60) (by decide +kernel)
end Go.Proofs.Ytpljggoogodhlaa.La
