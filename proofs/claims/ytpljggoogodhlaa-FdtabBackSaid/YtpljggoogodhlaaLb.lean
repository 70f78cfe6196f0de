import Derived.Test.YtpljggoogodhlaaLa
import Derived.Test.YtpljggoogodhlaaQ19
import Derived.Test.YtpljggoogodhlaaQ20
import Derived.Test.YtpljggoogodhlaaQ21
import Derived.Test.YtpljggoogodhlaaQ8
namespace Go.Proofs.Ytpljggoogodhlaa.La
open Go.RowKit Go.Proofs.Ytpljggoogodhlaa.Q Go.Proofs.YtpljggoogodhlaaW.PrintWords Go.Proofs.YtpljggoogodhlaaW.PrintLast Go.Proofs.YtpljggoogodhlaaM
def openAt (l : List S24) (n : Int) : Prop := 0 ≤ n ∧ n < (l.length : Int) ∧ ¬ (rd_T24 l n).f0 = 0
instance (l : List S24) (n : Int) : Decidable (openAt l n) := by unfold openAt; infer_instance
theorem open_f (l : List S24) (n : Int) : fdtab_open.f l n = some (decide (openAt l n)) := by
  unfold fdtab_open.f openAt
  by_cases h0 : 0 ≤ n
  · rw [if_pos (by omega)]
    by_cases h1 : n < (l.length : Int)
    · rw [if_pos h1, if_pos h0]
      congr 1
      rw [Bool.eq_iff_iff]
      simp [h0, h1]
    · rw [if_neg h1]
      congr 1
      simp [h1]
  · rw [if_neg (by omega)]
    congr 1
    simp [h0]
theorem clone_f (l : List S24) (h : l.length ≤ 1000) : api_Desc.f l = some l := by unfold api_Desc.f; rw [if_pos (by omega)]
def upd (x : S24) (r : Int) : S24 := ⟨x.f0, x.f1, x.f2, x.f3, r, x.f5⟩
def holdSpec (l : List S24) (n : Int) : List S24 × Int := if openAt l n then (if (rd_T24 l n).f4 ≥ 2147483647 then (l, 4) else (l.set n.toNat (upd (rd_T24 l n) (wrap64 ((rd_T24 l n).f4 + 1))), 0)) else (l, 15)
def relSpec (l : List S24) (n : Int) : List S24 × Bool × Int := if openAt l n ∧ ¬ (rd_T24 l n).f4 < 1 then (if (rd_T24 l n).f4 = 1 then (l.set n.toNat z24, true, 0) else (l.set n.toNat (upd (rd_T24 l n) (wrap64 ((rd_T24 l n).f4 - 1))), false, 0)) else (l, false, 15)
theorem hold_f (l : List S24) (n : Int) (hl : l.length ≤ 1000) : fdtab_Hold.f l n = some (holdSpec l n) := by
  unfold fdtab_Hold.f holdSpec
  rw [open_f, Option.bind_some]
  by_cases h : openAt l n
  · rw [if_pos (decide_eq_true h), if_pos h, if_pos h.1, if_pos h.2.1]
    by_cases h4 : (rd_T24 l n).f4 ≥ 2147483647
    · rw [if_pos h4, if_pos h4]
    · rw [if_neg h4, if_neg h4, clone_f l hl, Option.bind_some, if_pos h.2.1]
      rfl
  · rw [if_neg (by simpa using h), if_neg h]
theorem setI_nonneg (l : List S24) (n : Int) (d : S24) (h : 0 ≤ n) : setI l n d = l.set n.toNat d := if_pos h
theorem ref_hold_f (l : List S24) (n : Int) (hl : l.length ≤ 1000) : Ev (fun k => jobshellref23_Hold.f k l n) (holdSpec l n) := by
  unfold jobshellref23_Hold.f
  by_cases h0 : n < 0
  · refine ev_pos h0 (Ev.step (fun k => by apply jobshellref23_Hold.j0.eq_2) (ev_pos rfl (ev_some ?_)))
    unfold holdSpec; rw [if_neg (fun h => by have := h.1; omega)]
  · refine ev_neg h0 ?_
    by_cases h1 : n ≥ (l.length : Int)
    · refine ev_pos h1 (Ev.step (fun k => by apply jobshellref23_Hold.j0.eq_2) (ev_pos rfl (ev_some ?_)))
      unfold holdSpec; rw [if_neg (fun h => by have := h.2.1; omega)]
    · refine ev_neg h1 (ev_pos (by omega) (ev_pos (by omega) (Ev.step (fun k => by apply jobshellref23_Hold.j0.eq_2) ?_)))
      by_cases h2 : (rd_T24 l n).f0 = 0
      · refine ev_pos (by simpa using h2) (ev_some ?_)
        unfold holdSpec; rw [if_neg (fun h => h.2.2 h2)]
      · refine ev_neg (by simpa using h2) (ev_pos (by omega) (ev_pos (by omega) ?_))
        have ho : openAt l n := ⟨by omega, by omega, h2⟩
        unfold holdSpec
        by_cases h4 : (rd_T24 l n).f4 ≥ 2147483647
        · exact ev_eq (ev_pos h4 (ev_some rfl)) (by rw [if_pos ho, if_pos h4])
        · refine ev_eq (ev_neg h4 (Ev.bind (changed_f l n _ _ _ _ _ _ hl) (ev_some rfl))) ?_
          rw [if_pos ho, if_neg h4, setI_nonneg _ _ _ ho.1]
          rfl
theorem rd_set (l : List S24) (n : Int) (d : S24) (h0 : 0 ≤ n) (h1 : n < (l.length : Int)) : rd_T24 (l.set n.toNat d) n = d := by
  unfold rd_T24
  rw [List.getD_eq_getElem?_getD, List.getElem?_set, if_pos rfl, if_pos (by omega)]; rfl
theorem rel_f (l : List S24) (n : Int) (hl : l.length ≤ 1000) (hb : ∀ x ∈ l, -9223372036854775808 ≤ x.f4 ∧ x.f4 ≤ 9223372036854775807) : Ev (fun k => fdtab_Release.f k l n) (relSpec l n) := by
  unfold fdtab_Release.f
  refine ev_bindc (open_f l n) ?_
  by_cases ho : openAt l n
  · refine ev_pos (decide_eq_true ho) (ev_pos ho.1 (ev_pos ho.2.1 (Ev.step (fun k => by apply fdtab_Release.j0.eq_2) ?_)))
    by_cases h1 : (rd_T24 l n).f4 < 1
    · refine ev_eq (ev_pos (decide_eq_true h1) (ev_some rfl)) ?_
      unfold relSpec; rw [if_neg (fun h => h.2 h1)]
    · refine ev_neg (by simpa using h1) (ev_bindc (clone_f l hl) (ev_pos ho.1 (ev_pos ho.2.1 (ev_bindc rfl ?_))))
      rw [rd_set l n _ ho.1 ho.2.1]
      have hm : rd_T24 l n ∈ l := by
        unfold rd_T24
        rw [List.getD_eq_getElem?_getD, List.getElem?_eq_getElem (by have := ho.2.1; have := ho.1; omega)]
        exact List.getElem_mem _
      have hbx := hb _ hm
      have hw : wrap64 ((rd_T24 l n).f4 - 1) = (rd_T24 l n).f4 - 1 := wrap_in (by omega) (by omega)
      unfold relSpec
      by_cases h2 : (rd_T24 l n).f4 = 1
      · refine ev_eq (ev_pos (by show wrap64 ((rd_T24 l n).f4 - 1) = 0; rw [hw]; omega) (ev_some rfl)) ?_
        rw [if_pos ⟨ho, h1⟩, if_pos h2, List.set_set]
        have e : (wrap64 ((rd_T24 l n).f4 - 1) == 0) = true := by rw [hw]; simp; omega
        rw [e]; rfl
      · refine ev_eq (ev_neg (by show ¬ wrap64 ((rd_T24 l n).f4 - 1) = 0; rw [hw]; omega) (ev_some rfl)) ?_
        have e : (wrap64 ((rd_T24 l n).f4 - 1) == 0) = false := by rw [hw]; simp; omega
        rw [if_pos ⟨ho, h1⟩, if_neg h2, e]; rfl
  · refine ev_neg (by simpa using ho) (Ev.step (fun k => by apply fdtab_Release.j0.eq_2) ?_)
    refine ev_eq (ev_pos rfl (ev_some rfl)) ?_
    unfold relSpec; rw [if_neg (fun h => ho h.1)]
theorem ref_rel_f (l : List S24) (n : Int) (hl : l.length ≤ 1000) : Ev (fun k => jobshellref23_Release.f k l n) (relSpec l n) := by
  unfold jobshellref23_Release.f
  by_cases h0 : n < 0
  · refine ev_pos h0 (Ev.step (fun k => by apply jobshellref23_Release.j0.eq_2) (ev_pos rfl (ev_some ?_)))
    unfold relSpec; rw [if_neg (fun h => by have := h.1.1; omega)]
  · refine ev_neg h0 ?_
    by_cases h1 : n ≥ (l.length : Int)
    · refine ev_pos h1 (Ev.step (fun k => by apply jobshellref23_Release.j0.eq_2) (ev_pos rfl (ev_some ?_)))
      unfold relSpec; rw [if_neg (fun h => by have := h.1.2.1; omega)]
    · refine ev_neg h1 (ev_pos (by omega) (ev_pos (by omega) ?_))
      by_cases h2 : (rd_T24 l n).f0 = 0
      · refine ev_pos h2 (Ev.step (fun k => by apply jobshellref23_Release.j0.eq_2) (ev_pos rfl (ev_some ?_)))
        unfold relSpec; rw [if_neg (fun h => h.1.2.2 h2)]
      · refine ev_neg h2 (Ev.step (fun k => by apply jobshellref23_Release.j0.eq_2) ?_)
        have ho : openAt l n := ⟨by omega, by omega, h2⟩
        unfold relSpec
        by_cases h4 : (rd_T24 l n).f4 < 1
        · exact ev_eq (ev_pos (decide_eq_true h4) (ev_some rfl)) (by rw [if_neg (fun h => h.2 h4)])
        · refine ev_neg (by simpa using h4) (ev_pos ho.1 (ev_pos ho.2.1 ?_))
          by_cases h5 : (rd_T24 l n).f4 = 1
          · refine ev_eq (ev_pos h5 (Ev.bind (changed_f l n _ _ _ _ _ _ hl) (ev_some rfl))) ?_
            rw [if_pos ⟨ho, h4⟩, if_pos h5, setI_nonneg _ _ _ ho.1]; rfl
          · refine ev_eq (ev_neg h5 (Ev.bind (changed_f l n _ _ _ _ _ _ hl) (ev_some rfl))) ?_
            rw [if_pos ⟨ho, h4⟩, if_neg h5, setI_nonneg _ _ _ ho.1]; rfl
theorem holdSpec_length (l : List S24) (n : Int) : (holdSpec l n).1.length = l.length := by
  unfold holdSpec; split <;> (try split) <;> simp
theorem relSpec_length (l : List S24) (n : Int) : (relSpec l n).1.length = l.length := by
  unfold relSpec; split <;> (try split) <;> simp
end Go.Proofs.Ytpljggoogodhlaa.La
