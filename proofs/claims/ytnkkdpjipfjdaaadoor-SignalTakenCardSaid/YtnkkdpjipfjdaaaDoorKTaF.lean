/- Own texts of one claim, put one behind the other by wip/tool/pack.py: words beside the print's, what each printed function computes, and the plain laws. -/
import Derived.Test.YtnkkdpjipfjdaaaDoorKTaE
import Derived.SizedLaws
import Derived.ProofKit
import Derived.WideShapes
import Derived.OpenShut
import Derived.ChangeArms
import Derived.Deep.Slices
import Derived.ChangeSame
import Derived.Test.YtnkkdpjipfjdaaaDoorRows
import Derived.LaidLaws
import Derived.LaidSub
import Derived.Lib.LaidTab
import Derived.KernelRfl
section
namespace Go.Proofs.YtnkkdpjipfjdaaaDoor.Sg
open Go.RowKit Go.Proofs.YtnkkdpjipfjdaaaDoor.Q Go.Proofs.YtnkkdpjipfjdaaaDoorW.PrintWords Go.Proofs.YtnkkdpjipfjdaaaDoorW.PrintLast Go.Proofs.YtnkkdpjipfjdaaaDoorM Go.Proofs.YtnkkdpjipfjdaaaDoor.Ix
set_option linter.unusedVariables false
theorem less_f (x y : Int) : cmp_Less_int.f x y = some (decide (x < y)) := by
  have h : cmp_isNaN_int.f x = some false := by unfold cmp_isNaN_int.f; simp
  unfold cmp_Less_int.f
  rw [h, Option.bind_some, if_neg Bool.false_ne_true]
theorem nan_f (x : Int) : slices_isNaN_int.f x = some false := by unfold slices_isNaN_int.f; simp
theorem mid_eq (s : Int) (h0 : 0 ≤ s) (h1 : s ≤ 4000) : wrap64 ((IntKind.u64.wrap (wrap64 s)) / 2) = s / 2 := by
  rw [wrap_in (x := s) (by omega) (by omega), show IntKind.u64.wrap s = s by rw [IntKind.wrap_u64]; omega, wrap_in (by omega) (by omega)]
/-- Below p, a list is below x; from p on it is not. -/
def cutAt (l : List Int) (x : Int) (p : Nat) : Prop := p ≤ l.length ∧ (∀ q, q < p → l.getD q 0 < x) ∧ ∀ q, p ≤ q → q < l.length → x ≤ l.getD q 0
theorem asc_get {l : List Int} (h : okFrom l 0) : ∀ (d i : Nat), i + d < l.length → l.getD i 0 ≤ l.getD (i + d) 0
  | 0, i, _ => Int.le_refl _
  | d + 1, i, hd => by
    have h1 := asc_get h d i (by omega)
    have h2 := (h (i + d + 1) (Nat.zero_le _) (by omega)).2 (by omega)
    rw [Nat.add_sub_cancel] at h2
    rw [← Nat.add_assoc]
    omega
theorem bs_from (l : List Int) (x : Int) (hl : l.length ≤ 1000) (ha : okFrom l 0) : ∀ (d i j : Nat), j = i + d → j ≤ l.length → (∀ q, q < i → l.getD q 0 < x) → (∀ q, j ≤ q → q < l.length → x ≤ l.getD q 0) →
    ∃ p : Nat, cutAt l x p ∧ Ev (fun k => slices_BinarySearch_int_int.l0 k l x (l.length : Int) (i : Int) (j : Int)) ((p : Int), decide (p < l.length ∧ l.getD p 0 = x)) := by
  intro d
  induction d using Nat.strongRecOn with
  | ind d ih =>
    intro i j hj hjl h1 h2
    by_cases hd : d = 0
    · subst hd
      obtain rfl : i = j := by omega
      refine ⟨i, ⟨hjl, h1, h2⟩, Ev.step (fun k => by apply slices_BinarySearch_int_int.l0.eq_2) (ev_neg (by omega) ?_)⟩
      by_cases hi : i < l.length
      · refine ev_pos (by omega) (ev_pos (by omega) (ev_pos (by omega) ?_))
        have hr : rd l (i : Int) = l.getD i 0 := rfl
        rw [hr]
        by_cases hx : l.getD i 0 = x
        · exact ev_pos hx (ev_some (by rw [decide_eq_true (p := _ ∧ _) ⟨hi, hx⟩]))
        · refine ev_neg hx (ev_bindc (nan_f _) ?_)
          exact ev_neg Bool.false_ne_true (ev_some (by rw [decide_eq_false (p := _ ∧ _) (fun h => hx h.2)]))
      · exact ev_neg (by omega) (ev_some (by rw [decide_eq_false (p := _ ∧ _) (fun h => hi h.1)]))
    · have hm := mid_eq ((i : Int) + (j : Int)) (by omega) (by omega)
      obtain ⟨m, hmm⟩ : ∃ m : Nat, m = (i + j) / 2 := ⟨_, rfl⟩
      have hmi : ((i : Int) + (j : Int)) / 2 = (m : Int) := by omega
      rw [hmi] at hm
      have hr : rd l (m : Int) = l.getD m 0 := rfl
      by_cases hlt : l.getD m 0 < x
      · obtain ⟨p, hp, hev⟩ := ih (j - (m + 1)) (by omega) (m + 1) j (by omega) hjl (fun q hq => by
          have := asc_get ha (m - q) q (by omega)
          rw [show q + (m - q) = m by omega] at this
          omega) h2
        refine ⟨p, hp, Ev.step (fun k => by apply slices_BinarySearch_int_int.l0.eq_2) (ev_pos (by omega) ?_)⟩
        rw [hm]
        refine ev_pos (by omega) (ev_pos (by omega) (ev_bindc (less_f _ _) ?_))
        rw [hr]
        refine ev_pos (decide_eq_true hlt) ?_
        rw [wrap_in (by omega) (by omega), show (m : Int) + 1 = ((m + 1 : Nat) : Int) by omega]
        exact hev
      · obtain ⟨p, hp, hev⟩ := ih (m - i) (by omega) i m (by omega) (by omega) h1 (fun q hq hql => by
          have := asc_get ha (q - m) m (by omega)
          rw [show m + (q - m) = q by omega] at this
          omega)
        refine ⟨p, hp, Ev.step (fun k => by apply slices_BinarySearch_int_int.l0.eq_2) (ev_pos (by omega) ?_)⟩
        rw [hm]
        refine ev_pos (by omega) (ev_pos (by omega) (ev_bindc (less_f _ _) ?_))
        rw [hr]
        exact ev_neg (fun h => hlt (of_decide_eq_true h)) hev
/-- A list with another number. -/
theorem with_ev (l : List Int) (x : Int) (hl : l.length ≤ 1000) (ha : okFrom l 0) : ∃ p : Nat, cutAt l x p ∧ Ev (fun k => signal_with.f k l x) (if p < l.length ∧ l.getD p 0 = x then l else l.take p ++ x :: l.drop p) := by
  obtain ⟨p, hp, hev⟩ := bs_from l x hl ha l.length 0 l.length (by omega) (Nat.le_refl _) (fun q hq => absurd hq (Nat.not_lt_zero _)) (fun q hq hq2 => absurd hq2 (by omega))
  refine ⟨p, hp, Ev.bind hev (ev_pos (by omega) ?_)⟩
  by_cases h : p < l.length ∧ l.getD p 0 = x
  · rw [if_pos h]
    exact ev_pos (decide_eq_true h) (ev_some rfl)
  · rw [if_neg h]
    have := hp.1
    exact ev_neg (fun e => h (of_decide_eq_true e)) (ev_pos (by show (0 : Int) ≤ (p : Int) ∧ (p : Int) ≤ _; omega) (ev_some rfl))
end Go.Proofs.YtnkkdpjipfjdaaaDoor.Sg

end
section
namespace Go.Proofs.YtnkkdpjipfjdaaaDoor.Sg
open Go.RowKit Go.Proofs.YtnkkdpjipfjdaaaDoor.Q Go.Proofs.YtnkkdpjipfjdaaaDoorW.PrintWords Go.Proofs.YtnkkdpjipfjdaaaDoorW.PrintLast Go.Proofs.YtnkkdpjipfjdaaaDoorM Go.Proofs.YtnkkdpjipfjdaaaDoor.Ix
set_option linter.unusedVariables false
def withL (l : List Int) (x : Int) (p : Nat) : List Int := if p < l.length ∧ l.getD p 0 = x then l else l.take p ++ x :: l.drop p
theorem withL_mem (l : List Int) (x : Int) (p : Nat) (y : Int) : y ∈ withL l x p ↔ y = x ∨ y ∈ l := by
  unfold withL
  by_cases h : p < l.length ∧ l.getD p 0 = x
  · rw [if_pos h]
    have hx : x ∈ l := by
      rw [← h.2, List.getD_eq_getElem?_getD, List.getElem?_eq_getElem h.1]
      exact List.getElem_mem h.1
    exact ⟨.inr, fun k => k.elim (fun e => e ▸ hx) id⟩
  · rw [if_neg h, List.mem_append, List.mem_cons]
    have e : y ∈ l ↔ y ∈ l.take p ∨ y ∈ l.drop p := by
      rw [← List.mem_append, List.take_append_drop]
    rw [e]
    exact ⟨fun k => k.elim (fun a => .inr (.inl a)) (fun k => k.elim .inl (fun a => .inr (.inr a))), fun k => k.elim (fun a => .inr (.inl a)) (fun k => k.elim .inl (fun a => .inr (.inr a)))⟩
/-- Ascending lists of signals, told by order. -/
theorem ok_pair {l : List Int} : okFrom l 0 ↔ (∀ x ∈ l, named x) ∧ l.Pairwise (· < ·) := by
  constructor
  · intro h
    refine ⟨fun x hx => ok_named h hx, ?_⟩
    rw [List.pairwise_iff_getElem]
    intro i j hi hj hij
    have h1 := asc_get h (j - 1 - i) i (by omega)
    have h2 := (h j (Nat.zero_le _) hj).2 (by omega)
    rw [show i + (j - 1 - i) = j - 1 by omega] at h1
    have e1 : l.getD i 0 = l[i] := by rw [List.getD_eq_getElem?_getD, List.getElem?_eq_getElem hi]; rfl
    have e2 : l.getD j 0 = l[j] := by rw [List.getD_eq_getElem?_getD, List.getElem?_eq_getElem hj]; rfl
    omega
  · intro ⟨h1, h2⟩ j _ hj
    rw [List.pairwise_iff_getElem] at h2
    have e2 : l.getD j 0 = l[j] := by rw [List.getD_eq_getElem?_getD, List.getElem?_eq_getElem hj]; rfl
    refine ⟨by rw [e2]; exact h1 _ (List.getElem_mem hj), fun h0 => ?_⟩
    have hj1 : j - 1 < l.length := by omega
    have e1 : l.getD (j - 1) 0 = l[j - 1] := by rw [List.getD_eq_getElem?_getD, List.getElem?_eq_getElem hj1]; rfl
    rw [e1, e2]
    exact h2 (j - 1) j hj1 hj (by omega)
theorem ok_filter {l : List Int} (h : okFrom l 0) (f : Int → Bool) : okFrom (l.filter f) 0 := by
  rw [ok_pair] at h ⊢
  exact ⟨fun x hx => h.1 x (List.mem_filter.1 hx).1, h.2.filter f⟩
theorem withL_ok {l : List Int} {x : Int} {p : Nat} (h : okFrom l 0) (hn : named x) (hp : cutAt l x p) : okFrom (withL l x p) 0 := by
  have h' := ok_pair.1 h
  refine ok_pair.2 ⟨fun y hy => (withL_mem l x p y).1 hy |>.elim (fun e => e ▸ hn) (h'.1 y), ?_⟩
  unfold withL
  by_cases hf : p < l.length ∧ l.getD p 0 = x
  · rw [if_pos hf]; exact h'.2
  · rw [if_neg hf]
    have hlow : ∀ y ∈ l.take p, y < x := by
      intro y hy
      obtain ⟨q, hq, rfl⟩ := List.getElem_of_mem hy
      rw [List.length_take] at hq
      have := hp.2.1 q (by omega)
      rw [List.getD_eq_getElem?_getD, List.getElem?_eq_getElem (by omega)] at this
      rw [List.getElem_take]
      exact this
    have hhigh : ∀ y ∈ l.drop p, x < y := by
      intro y hy
      obtain ⟨q, hq, rfl⟩ := List.getElem_of_mem hy
      rw [List.length_drop] at hq
      have h0 := hp.2.2 (p + q) (by omega) (by omega)
      have hpl : p < l.length := by omega
      have h1 := hp.2.2 p (Nat.le_refl _) hpl
      have h2 := asc_get h q p (by omega)
      have hne : l.getD p 0 ≠ x := fun e => hf ⟨hpl, e⟩
      rw [List.getElem_drop]
      have e2 : l.getD (p + q) 0 = l[p + q] := by rw [List.getD_eq_getElem?_getD, List.getElem?_eq_getElem (by omega)]; rfl
      omega
    rw [List.pairwise_append]
    refine ⟨h'.2.sublist (List.take_sublist _ _), List.pairwise_cons.2 ⟨hhigh, h'.2.sublist (List.drop_sublist _ _)⟩, fun a ha b hb => ?_⟩
    rcases List.mem_cons.1 hb with rfl | hb
    · exact hlow a ha
    · have := hlow a ha
      have := hhigh b hb
      omega
/-- Two ascending lists of the same numbers are one. -/
theorem asc_unique : ∀ {l m : List Int}, l.Pairwise (· < ·) → m.Pairwise (· < ·) → (∀ x, x ∈ l ↔ x ∈ m) → l = m
  | [], [], _, _, _ => rfl
  | [], y :: m, _, _, h => absurd ((h y).2 (List.mem_cons_self)) (by simp)
  | x :: l, [], _, _, h => absurd ((h x).1 (List.mem_cons_self)) (by simp)
  | x :: l, y :: m, hl, hm, h => by
    rw [List.pairwise_cons] at hl hm
    have e : x = y := by
      have h1 := List.mem_cons.1 ((h x).1 List.mem_cons_self)
      have h2 := List.mem_cons.1 ((h y).2 List.mem_cons_self)
      rcases h1 with h1 | h1
      · exact h1
      · rcases h2 with h2 | h2
        · exact h2.symm
        · have := hm.1 x h1
          have := hl.1 y h2
          omega
    subst e
    congr 1
    refine asc_unique hl.2 hm.2 (fun z => ?_)
    have hz := h z
    rw [List.mem_cons, List.mem_cons] at hz
    constructor
    · intro k
      have := hl.1 z k
      exact (hz.1 (.inr k)).resolve_left (by omega)
    · intro k
      have := hm.1 z k
      exact (hz.2 (.inr k)).resolve_left (by omega)
end Go.Proofs.YtnkkdpjipfjdaaaDoor.Sg

end
section
namespace Go.Proofs.YtnkkdpjipfjdaaaDoor.Sg
open Go.RowKit Go.Proofs.YtnkkdpjipfjdaaaDoor.Q Go.Proofs.YtnkkdpjipfjdaaaDoorW.PrintWords Go.Proofs.YtnkkdpjipfjdaaaDoorW.PrintLast Go.Proofs.YtnkkdpjipfjdaaaDoorM Go.Proofs.YtnkkdpjipfjdaaaDoor.Ix
set_option linter.unusedVariables false
theorem stops_sig (n : Int) : signal_stops.f n = some (stopsB n) := stops_ref n
theorem clone_f (l : List Int) (h : l.length ≤ 1000) : slices_Clone_int_int.f l = some l := by
  unfold slices_Clone_int_int.f
  rw [if_pos (by omega)]
theorem copied_f (p g c : List Int) (hp : p.length ≤ 1000) (hg : g.length ≤ 1000) (hc : c.length ≤ 1000) : signal_copied.f p g c = some (p, g, c) := by
  unfold signal_copied.f
  rw [clone_f p hp, clone_f g hg, clone_f c hc]
  rfl
/-- What a sent signal leaves of the pending ones. -/
def cleared (p : List Int) (n : Int) : List Int := if n = 18 then p.filter (fun x => !stopsB x) else if stopsB n = true then p.filter (fun x => !(x == 18)) else p
theorem cleared_len (p : List Int) (n : Int) : (cleared p n).length ≤ p.length := by
  unfold cleared
  split
  · exact List.length_filter_le _ _
  · split
    · exact List.length_filter_le _ _
    · exact Nat.le_refl _
theorem cleared_ok {p : List Int} (h : okFrom p 0) (n : Int) : okFrom (cleared p n) 0 := by
  unfold cleared
  split
  · exact ok_filter h _
  · split
    · exact ok_filter h _
    · exact h
theorem send_ev (p g c : List Int) (n : Int) (hp : p.length ≤ 900) (hg : g.length ≤ 1000) (hc : c.length ≤ 1000) (ho : okFrom p 0) (hn : named n) :
    ∃ q, cutAt (cleared p n) n q ∧ Ev (fun k => signal_Send.f k p g c n) (if n ≠ 18 ∧ n ∈ g then cleared p n else withL (cleared p n) n q, g, c) := by
  have hcl := cleared_len p n
  obtain ⟨q, hq, hev⟩ := with_ev (cleared p n) n (by omega) (cleared_ok ho n)
  refine ⟨q, hq, ?_⟩
  have hj : Ev (fun k => signal_Send.j0 k n (cleared p n) g c) (if n ≠ 18 ∧ n ∈ g then cleared p n else withL (cleared p n) n q, g, c) := by
    refine Ev.step (fun k => by apply signal_Send.j0.eq_2) ?_
    by_cases h18 : n = 18
    · rw [if_neg (fun h => h.1 h18)]
      exact ev_pos h18 (Ev.bind hev (ev_some rfl))
    · refine ev_neg h18 (Ev.bind (contains_ev g n hg) ?_)
      by_cases hin : n ∈ g
      · rw [if_pos ⟨h18, hin⟩]
        exact ev_pos (decide_eq_true hin) (ev_some rfl)
      · rw [if_neg (fun h => hin h.2)]
        exact ev_neg (fun h => hin (of_decide_eq_true h)) (Ev.bind hev (ev_some rfl))
  refine ev_bindc (name_f n) (ev_neg hn (ev_bindc (copied_f p g c (by omega) hg hc) ?_))
  by_cases h18 : n = 18
  · have e : cleared p n = p.filter (fun x => !stopsB x) := by unfold cleared; rw [if_pos h18]
    rw [e] at hj ⊢
    refine ev_pos h18 (ev_bindc (by unfold signal_without_stops.f; rw [if_pos (by show p.length < _; omega)]) ?_)
    exact hj
  · refine ev_neg h18 (ev_bindc (stops_sig n) ?_)
    by_cases hs : stopsB n = true
    · have e : cleared p n = p.filter (fun x => !(x == 18)) := by unfold cleared; rw [if_neg h18, if_pos hs]
      rw [e] at hj ⊢
      refine ev_pos hs (ev_bindc (by unfold signal_without_1_44.f; rw [if_pos (by show p.length < _; omega)]) ?_)
      exact hj
    · have e : cleared p n = p := by unfold cleared; rw [if_neg h18, if_neg hs]
      rw [e] at hj ⊢
      exact ev_neg hs hj
end Go.Proofs.YtnkkdpjipfjdaaaDoor.Sg

end
section
namespace Go.Proofs.YtnkkdpjipfjdaaaDoor.Sg
open Go.RowKit Go.Proofs.YtnkkdpjipfjdaaaDoor.Q Go.Proofs.YtnkkdpjipfjdaaaDoorW.PrintWords Go.Proofs.YtnkkdpjipfjdaaaDoorW.PrintLast Go.Proofs.YtnkkdpjipfjdaaaDoorM Go.Proofs.YtnkkdpjipfjdaaaDoor.Ix
set_option linter.unusedVariables false
/-- A list without a number. -/
def lessL (l : List Int) (n : Int) : List Int := l.filter fun x => !(x == n)
theorem lessL_mem (l : List Int) (n y : Int) : y ∈ lessL l n ↔ y ∈ l ∧ y ≠ n := by
  unfold lessL
  rw [List.mem_filter]
  simp
end Go.Proofs.YtnkkdpjipfjdaaaDoor.Sg

end
section
namespace Go.Proofs.YtnkkdpjipfjdaaaDoor.Sg
open Go.RowKit Go.Proofs.YtnkkdpjipfjdaaaDoor.Q Go.Proofs.YtnkkdpjipfjdaaaDoorW.PrintWords Go.Proofs.YtnkkdpjipfjdaaaDoorW.PrintLast Go.Proofs.YtnkkdpjipfjdaaaDoorM Go.Proofs.YtnkkdpjipfjdaaaDoor.Ix
set_option linter.unusedVariables false
/-- The numbers from i on. -/
def up (i : Int) : Nat → List Int
  | 0 => []
  | m + 1 => i :: up (i + 1) m
theorem up_mem : ∀ (m : Nat) (i x : Int), x ∈ up i m ↔ i ≤ x ∧ x < i + m
  | 0, i, x => by unfold up; exact ⟨fun h => (by cases h), fun h => (by omega)⟩
  | m + 1, i, x => by
    unfold up
    rw [List.mem_cons, up_mem m (i + 1) x]
    omega
theorem up_asc : ∀ (m : Nat) (i : Int), (up i m).Pairwise (· < ·)
  | 0, i => .nil
  | m + 1, i => .cons (fun x hx => by have := (up_mem m (i + 1) x).1 hx; omega) (up_asc m (i + 1))
theorem up_len : ∀ (m : Nat) (i : Int), (up i m).length = m
  | 0, i => rfl
  | m + 1, i => by unfold up; rw [List.length_cons, up_len m (i + 1)]
/-- The signals of a list and one more, ascending. -/
def addL (l : List Int) (n : Int) : List Int := (up 1 20).filter fun x => x == n || decide (x ∈ l)
theorem addL_eq {l : List Int} {n : Int} {q : Nat} (ho : okFrom l 0) (hn : named n) (hq : cutAt l n q) : addL l n = withL l n q := by
  refine asc_unique ((up_asc 20 1).filter _) (ok_pair.1 (withL_ok ho hn hq)).2 (fun x => ?_)
  rw [withL_mem]
  unfold addL
  rw [List.mem_filter, up_mem]
  have hx : x ∈ l → 1 ≤ x ∧ x ≤ 20 := fun h => named_in (ok_named ho h)
  have hn' := named_in hn
  constructor
  · intro h
    simpa using h.2
  · intro h
    refine ⟨?_, by simpa using h⟩
    rcases h with h | h
    · omega
    · have := hx h; omega
theorem ok_len {l : List Int} (ho : okFrom l 0) : l.length ≤ 20 := by
  have e : (up 1 20).filter (fun x => decide (x ∈ l)) = l := by
    refine asc_unique ((up_asc 20 1).filter _) (ok_pair.1 ho).2 (fun x => ?_)
    rw [List.mem_filter, up_mem]
    constructor
    · intro h
      simpa using h.2
    · intro h
      have := named_in (ok_named ho h)
      exact ⟨by omega, by simpa using h⟩
  have h := List.length_filter_le (fun x => decide (x ∈ l)) (up 1 20)
  rw [e, up_len] at h
  exact h
theorem numbers_from (l : List Int) (hl : l.length ≤ 1000) : ∀ (m i : Nat), i + m = l.length → Ev (fun k => jobshellref25_numbers.l0 k l l (i : Int)) true
  | 0, i, h => Ev.step (fun k => by apply jobshellref25_numbers.l0.eq_2) (ev_neg (by omega) (ev_some rfl))
  | m + 1, i, h => by
    refine Ev.step (fun k => by apply jobshellref25_numbers.l0.eq_2) (ev_pos (by omega) (ev_pos (by omega) (ev_pos (by omega) (ev_pos rfl ?_))))
    rw [wrap_in (by omega) (by omega), show (i : Int) + 1 = ((i + 1 : Nat) : Int) by omega]
    exact numbers_from l hl m (i + 1) (by omega)
theorem numbers_ev (l : List Int) (hl : l.length ≤ 1000) : Ev (fun k => jobshellref25_numbers.f k l l) true := ev_pos rfl (numbers_from l hl l.length 0 (by omega))
theorem same_ev (p g c : List Int) (hp : p.length ≤ 1000) (hg : g.length ≤ 1000) (hc : c.length ≤ 1000) : Ev (fun k => jobshellref25_Same.f k p g c p g c) true :=
  Ev.bind (numbers_ev p hp) (ev_pos rfl (Ev.bind (numbers_ev g hg) (ev_pos rfl (Ev.bind (numbers_ev c hc) (ev_some rfl)))))
end Go.Proofs.YtnkkdpjipfjdaaaDoor.Sg

end
section
namespace Go.Proofs.YtnkkdpjipfjdaaaDoor.Sg
open Go.RowKit Go.Proofs.YtnkkdpjipfjdaaaDoor.Q Go.Proofs.YtnkkdpjipfjdaaaDoorW.PrintWords Go.Proofs.YtnkkdpjipfjdaaaDoorW.PrintLast Go.Proofs.YtnkkdpjipfjdaaaDoorM Go.Proofs.YtnkkdpjipfjdaaaDoor.Ix
set_option linter.unusedVariables false
theorem named_lit {n : Int} (h : ((sigName n).toList == ([] : List UInt8)) = false) : named n := fun k => by rw [k] at h; exact absurd h (by decide)
theorem def_some (n : Int) : ∃ d, signal_Default.f n = some d ∧ (d = 0 ∨ named n) := by
  unfold signal_Default.f
  rw [stops_sig, Option.bind_some]
  by_cases h1 : stopsB n = true
  · rw [if_pos h1]
    refine ⟨_, rfl, .inr ?_⟩
    have h2 : n = 19 ∨ n = 20 ∨ n = 4 ∨ n = 5 := by simpa [stopsB] using h1
    rcases h2 with rfl | rfl | rfl | rfl <;> exact named_lit (by kernel_rfl)
  · rw [if_neg h1]
    by_cases h2 : n = 18
    · rw [if_pos h2]
      exact ⟨_, rfl, .inr (by rw [h2]; exact named_lit (by kernel_rfl))⟩
    · rw [if_neg h2]
      by_cases h3 : n = 17
      · rw [if_pos h3]; exact ⟨_, rfl, .inl rfl⟩
      · rw [if_neg h3, name_f, Option.bind_some]
        by_cases h4 : (sigName n).toList = ([] : List UInt8)
        · rw [if_pos h4]; exact ⟨_, rfl, .inl rfl⟩
        · rw [if_neg h4]; exact ⟨_, rfl, .inr h4⟩
theorem min_fold : ∀ (l : List Int) (x : Int), (∀ y ∈ l, x < y) → l.foldl min x = x
  | [], x, _ => rfl
  | y :: l, x, h => by
    have hy := h y (List.mem_cons_self ..)
    rw [List.foldl_cons, show min x y = x by omega]
    exact min_fold l x (fun z hz => h z (List.mem_cons_of_mem _ hz))
theorem less41 (l : List Int) (n : Int) (h : l.length ≤ 1000) : signal_without_1_41.f l n = some (lessL l n) := by
  unfold signal_without_1_41.f lessL
  rw [if_pos (by omega)]
/-- The next signal of an ascending list that is not empty. -/
def nextN (p : List Int) : Int := if (9 : Int) ∈ p then 9 else p.headD 0
theorem nextN_mem {p : List Int} (h : p ≠ []) : nextN p ∈ p := by
  unfold nextN
  split
  · assumption
  · cases p with
    | nil => exact absurd rfl h
    | cons x t => exact List.mem_cons_self ..
theorem next_nil (g c : List Int) : Ev (fun k => signal_Next.f k [] g c) ([], g, c, 0, 0) := ev_pos rfl (ev_some rfl)
theorem next_ev (p g c : List Int) (d : Int) (hp : p.length ≤ 1000) (hg : g.length ≤ 1000) (hc : c.length ≤ 1000) (ho : okFrom p 0) (hne : p ≠ []) (hd : signal_Default.f (nextN p) = some d) :
    Ev (fun k => signal_Next.f k p g c) (lessL p (nextN p), g, c, nextN p, if nextN p ∈ c then 4 else d) := by
  have hlen : p.length ≠ 0 := fun h => hne (List.length_eq_zero_iff.1 h)
  have hj : Ev (fun k => signal_Next.j0 k p g c (nextN p)) (lessL p (nextN p), g, c, nextN p, if nextN p ∈ c then 4 else d) := by
    refine Ev.step (fun k => by apply signal_Next.j0.eq_2) (ev_bindc hd (Ev.bind (contains_ev c (nextN p) hc) ?_))
    by_cases hin : nextN p ∈ c
    · rw [if_pos hin]
      exact ev_pos (decide_eq_true hin) (ev_bindc (copied_f p g c hp hg hc) (ev_bindc (less41 p _ hp) (ev_some rfl)))
    · rw [if_neg hin]
      exact ev_neg (fun h => hin (of_decide_eq_true h)) (ev_bindc (copied_f p g c hp hg hc) (ev_bindc (less41 p _ hp) (ev_some rfl)))
  have hm : slices_Min_int_int.f p = some (p.headD 0) := by
    cases p with
    | nil => exact absurd rfl hne
    | cons x t =>
      have h2 := (ok_pair.1 ho).2
      rw [List.pairwise_cons] at h2
      show some (t.foldl min x) = some x
      rw [min_fold t x h2.1]
  refine ev_neg (by omega) (ev_bindc hm (Ev.bind (contains_ev p 9 hp) ?_))
  by_cases h9 : (9 : Int) ∈ p
  · have e : nextN p = 9 := by unfold nextN; rw [if_pos h9]
    rw [e] at hj ⊢
    exact ev_pos (decide_eq_true h9) hj
  · have e : nextN p = p.headD 0 := by unfold nextN; rw [if_neg h9]
    rw [e] at hj ⊢
    exact ev_neg (fun h => h9 (of_decide_eq_true h)) hj
/-- What Send leaves pending. -/
def sentL (p g : List Int) (n : Int) : List Int := if named n then (if n ≠ 18 ∧ n ∈ g then cleared p n else addL (cleared p n) n) else p
instance (n : Int) : Decidable (named n) := by unfold named; infer_instance
theorem sent_ok {p : List Int} (g : List Int) {n : Int} (ho : okFrom p 0) : okFrom (sentL p g n) 0 := by
  unfold sentL
  split
  · rename_i hn
    split
    · exact cleared_ok ho n
    · refine ok_pair.2 ⟨fun x hx => ?_, (up_asc 20 1).filter _⟩
      have hx := (List.mem_filter.1 hx).2
      simp only [Bool.or_eq_true, beq_iff_eq, decide_eq_true_eq] at hx
      rcases hx with hx | hx
      · rw [hx]; exact hn
      · exact ok_named (cleared_ok ho n) hx
  · exact ho
theorem send_any (p g c : List Int) (n : Int) (ho : okFrom p 0) (hg : g.length ≤ 1000) (hc : c.length ≤ 1000) : Ev (fun k => signal_Send.f k p g c n) (sentL p g n, g, c) := by
  have lp := ok_len ho
  unfold sentL
  by_cases hn : named n
  · rw [if_pos hn]
    obtain ⟨q, hq, e⟩ := send_ev p g c n (by omega) hg hc ho hn
    rw [← addL_eq (cleared_ok ho n) hn hq] at e
    exact e
  · rw [if_neg hn]
    exact ev_bindc (name_f n) (ev_pos (Decidable.not_not.1 hn) (ev_some rfl))
end Go.Proofs.YtnkkdpjipfjdaaaDoor.Sg

end
section
namespace Go.Proofs.YtnkkdpjipfjdaaaDoor.Sg
open Go.RowKit Go.Proofs.YtnkkdpjipfjdaaaDoor.Q Go.Proofs.YtnkkdpjipfjdaaaDoorW.PrintWords Go.Proofs.YtnkkdpjipfjdaaaDoorW.PrintLast Go.Proofs.YtnkkdpjipfjdaaaDoorM Go.Proofs.YtnkkdpjipfjdaaaDoor.Ix
set_option linter.unusedVariables false
set_option linter.unusedSectionVars false
section
variable (p g c : List Int) (hp : p.length ≤ 1000) (hg : g.length ≤ 1000) (hc : c.length ≤ 1000)
include hp hg hc
end
theorem cleared_mem (p : List Int) (n y : Int) : y ∈ cleared p n ↔ y ∈ p ∧ ¬ (n = 18 ∧ stopsB y = true) ∧ ¬ (n ≠ 18 ∧ stopsB n = true ∧ y = 18) := by
  unfold cleared
  by_cases h18 : n = 18
  · rw [if_pos h18, List.mem_filter]
    constructor
    · intro h
      exact ⟨h.1, fun k => by rw [k.2] at h; exact absurd h.2 (by decide), fun k => k.1 h18⟩
    · intro h
      refine ⟨h.1, ?_⟩
      cases hs : stopsB y with
      | true => exact absurd ⟨h18, hs⟩ h.2.1
      | false => rfl
  · rw [if_neg h18]
    by_cases hs : stopsB n = true
    · rw [if_pos hs, List.mem_filter]
      constructor
      · intro h
        exact ⟨h.1, fun k => h18 k.1, fun k => by rw [k.2.2] at h; exact absurd h.2 (by decide)⟩
      · intro h
        refine ⟨h.1, ?_⟩
        rw [beq_eq_false_iff_ne.2 (fun e => h.2.2 ⟨h18, hs, e⟩)]; rfl
    · rw [if_neg hs]
      exact ⟨fun h => ⟨h, fun k => h18 k.1, fun k => hs k.2.1⟩, fun h => h.1⟩
theorem sent_mem {p : List Int} (g : List Int) {n : Int} (ho : okFrom p 0) (hn : named n) (y : Int) : y ∈ sentL p g n ↔ (y = n ∧ ¬ (n ≠ 18 ∧ n ∈ g)) ∨ y ∈ cleared p n := by
  unfold sentL
  rw [if_pos hn]
  by_cases h : n ≠ 18 ∧ n ∈ g
  · rw [if_pos h]
    exact ⟨.inr, fun k => k.elim (fun k => absurd h k.2) id⟩
  · rw [if_neg h]
    unfold addL
    rw [List.mem_filter, up_mem]
    have h1 : y ∈ cleared p n → 1 ≤ y ∧ y ≤ 20 := fun k => named_in (ok_named (cleared_ok ho n) k)
    have h2 := named_in hn
    constructor
    · intro k
      have k2 := k.2
      simp only [Bool.or_eq_true, beq_iff_eq, decide_eq_true_eq] at k2
      exact k2.elim (fun e => .inl ⟨e, h⟩) .inr
    · intro k
      refine ⟨?_, ?_⟩
      · rcases k with k | k
        · have := k.1; omega
        · have := h1 k; omega
      · simp only [Bool.or_eq_true, beq_iff_eq, decide_eq_true_eq]
        exact k.elim (fun k => .inl k.1) .inr
theorem sent_twice {p : List Int} (g : List Int) (n : Int) (ho : okFrom p 0) : sentL (sentL p g n) g n = sentL p g n := by
  by_cases hn : named n
  · have o1 := sent_ok g ho (n := n)
    refine asc_unique (ok_pair.1 (sent_ok g o1)).2 (ok_pair.1 o1).2 (fun x => ?_)
    rw [sent_mem g o1 hn, cleared_mem, sent_mem g ho hn, cleared_mem]
    constructor
    · exact fun k => k.elim .inl (fun k => k.1)
    · exact fun k => k.elim .inl (fun k => .inr ⟨.inr k, k.2⟩)
  · have e : ∀ q, sentL q g n = q := fun q => by unfold sentL; rw [if_neg hn]
    rw [e, e]
theorem less_len {l : List Int} (n : Int) (ha : l.Pairwise (· < ·)) (hn : n ∈ l) : (lessL l n).length + 1 = l.length := by
  induction l with
  | nil => cases hn
  | cons x t ih =>
    rw [List.pairwise_cons] at ha
    unfold lessL
    by_cases hx : x = n
    · rw [List.filter_cons_of_neg (by simpa using hx), List.filter_eq_self.2 (fun y hy => by
        have := ha.1 y hy
        rw [beq_eq_false_iff_ne.2 (by omega)]; rfl)]
      rfl
    · rw [List.filter_cons_of_pos (by simpa using hx), List.length_cons, List.length_cons]
      have h2 := ih ha.2 ((List.mem_cons.1 hn).resolve_left (fun e => hx e.symm))
      unfold lessL at h2
      omega
end Go.Proofs.YtnkkdpjipfjdaaaDoor.Sg

end
section
namespace Go.Proofs.YtnkkdpjipfjdaaaDoor.Pure
open Go.RowKit Go.Proofs.YtnkkdpjipfjdaaaDoor.Q Go.Proofs.YtnkkdpjipfjdaaaDoorW.PrintWords Go.Proofs.YtnkkdpjipfjdaaaDoorW.PrintLast Go.Proofs.YtnkkdpjipfjdaaaDoorM Go.Proofs.YtnkkdpjipfjdaaaDoor.Ix Go.Proofs.YtnkkdpjipfjdaaaDoor.Sg
set_option linter.unusedVariables false
theorem short_f (p g c : List Int) : jobshelllaw25_short.f p g c = some (decide (p.length ≤ 30 ∧ g.length ≤ 30 ∧ c.length ≤ 30)) := by
  unfold jobshelllaw25_short.f
  by_cases h1 : p.length ≤ 30
  · rw [if_pos (by omega)]
    by_cases h2 : g.length ≤ 30
    · rw [if_pos (by omega)]
      exact congrArg some (decide_eq_decide.2 (by omega))
    · rw [if_neg (by omega)]
      exact congrArg some (by simp [h2])
  · rw [if_neg (by omega)]
    exact congrArg some (by simp [h1])
theorem taken_l1 (g c : List Int) (hg : g.length ≤ 1000) (hc : c.length ≤ 1000) (want : Nat) (hw : want ≤ 20) : ∀ (m i : Nat) (p : List Int) (last : Int), p.length = m → i + m = want → okFrom p 0 → (∀ y ∈ p, last < y) → (i ≠ 0 → (9 : Int) ∉ p) →
    Ev (fun k => jobshelllaw25_SignalTaken.l1 k (want : Int) last (i : Int) p g c) true
  | 0, i, p, last, hm, hi, ho, hl, h9 => by
    obtain rfl : p = [] := List.length_eq_zero_iff.1 hm
    exact Ev.step (fun k => by apply jobshelllaw25_SignalTaken.l1.eq_2) (ev_neg (by omega) (Ev.bind (next_nil g c) (ev_pos rfl (ev_pos rfl (Ev.bind (same_ev [] g c (by simp) hg hc) (ev_pos rfl (Ev.bind awake_ev (ev_some rfl))))))))
  | m + 1, i, p, last, hm, hi, ho, hl, h9 => by
    have hne : p ≠ [] := fun e => by rw [e] at hm; cases hm
    obtain ⟨d, hd, _⟩ := def_some (nextN p)
    have hmem := nextN_mem hne
    have asc := (ok_pair.1 ho).2
    have ll := less_len (nextN p) asc hmem
    have hno : nextN p ∉ lessL p (nextN p) := fun h => ((lessL_mem p _ _).1 h).2 rfl
    have ow : okFrom (lessL p (nextN p)) 0 := ok_filter ho _
    have sub : ∀ y, y ∈ lessL p (nextN p) → y ∈ p := fun y hy => ((lessL_mem p _ _).1 hy).1
    have w1 : wrap64 ((i : Int) + 1) = ((i + 1 : Nat) : Int) := by rw [wrap_in (by omega) (by omega)]; omega
    have w2 : wrap64 ((p.length : Int) - 1) = ((lessL p (nextN p)).length : Int) := by rw [wrap_in (by omega) (by omega)]; omega
    -- behind the first test: KILL first, or the least
    have j3t : nextN p = 9 → Ev (fun k => jobshelllaw25_SignalTaken.j3 k (want : Int) last (i : Int) (nextN p) true p g c (lessL p (nextN p)) g c) true := by
      intro e
      have ih := taken_l1 g c hg hc want hw m (i + 1) (lessL p (nextN p)) last (by omega) (by omega) ow (fun y hy => hl y (sub y hy)) (fun _ h => hno (by rw [e] at h ⊢; exact h))
      rw [← w1] at ih
      refine Ev.step (fun k => by apply jobshelllaw25_SignalTaken.j3.eq_2) (Ev.bind (has_ev p _ (by omega)) (ev_pos (decide_eq_true hmem) ?_))
      refine Ev.bind (has_ev (lessL p (nextN p)) (nextN p) (by omega)) (ev_neg (fun h => hno (of_decide_eq_true h)) (ev_pos w2.symm (ev_pos rfl ?_)))
      exact Ev.step (fun k => by apply jobshelllaw25_SignalTaken.j4.eq_2) (ev_neg Bool.false_ne_true (ev_pos rfl ih))
    have j3f : (9 : Int) ∉ p → Ev (fun k => jobshelllaw25_SignalTaken.j3 k (want : Int) last (i : Int) (nextN p) false p g c (lessL p (nextN p)) g c) true := by
      intro h
      have e : nextN p = p.headD 0 := by unfold nextN; rw [if_neg h]
      have gt : ∀ y, y ∈ lessL p (nextN p) → nextN p < y := by
        intro y hy
        have hy' := (lessL_mem p _ _).1 hy
        rw [e] at hy' ⊢
        cases p with
        | nil => cases hy'.1
        | cons x t =>
          rw [List.pairwise_cons] at asc
          rcases List.mem_cons.1 hy'.1 with k | k
          · exact absurd k hy'.2
          · exact asc.1 y k
      have ih := taken_l1 g c hg hc want hw m (i + 1) (lessL p (nextN p)) (nextN p) (by omega) (by omega) ow gt (fun _ k => h (sub 9 k))
      rw [← w1] at ih
      have lt := hl _ hmem
      refine Ev.step (fun k => by apply jobshelllaw25_SignalTaken.j3.eq_2) (Ev.bind (has_ev p _ (by omega)) (ev_pos (decide_eq_true hmem) ?_))
      refine Ev.bind (has_ev (lessL p (nextN p)) (nextN p) (by omega)) (ev_neg (fun h => hno (of_decide_eq_true h)) (ev_pos w2.symm (ev_neg Bool.false_ne_true (ev_neg (by omega) ?_))))
      refine Ev.bind (has_ev p 9 (by omega)) ?_
      rw [decide_eq_false h]
      exact Ev.step (fun k => by apply jobshelllaw25_SignalTaken.j4.eq_2) (ev_neg Bool.false_ne_true (ev_neg Bool.false_ne_true ih))
    refine Ev.step (fun k => by apply jobshelllaw25_SignalTaken.l1.eq_2) (ev_pos (by omega) (Ev.bind (next_ev p g c d (by omega) hg hc ho hne hd) ?_))
    by_cases hi0 : i = 0
    · refine ev_pos (by omega) ?_
      by_cases h : nextN p = 9
      · rw [beq_iff_eq.2 h]
        exact j3t h
      · rw [beq_eq_false_iff_ne.2 h]
        exact j3f (fun k => h (by unfold nextN; rw [if_pos k]))
    · exact ev_neg (by omega) (j3f (h9 hi0))
theorem taken_l0 (xs g c : List Int) (hx : xs.length ≤ 60) (hg : g.length ≤ 1000) (hc : c.length ≤ 1000) : ∀ (m i : Nat) (p : List Int), i + m = xs.length → okFrom p 0 → Ev (fun k => jobshelllaw25_SignalTaken.l0 k xs (i : Int) p g c) true
  | 0, i, p, h, ho => by
    have lp := ok_len ho
    have hl : ∀ y ∈ p, (0 : Int) < y := fun y hy => by have := named_in (ok_named ho hy); omega
    exact Ev.step (fun k => by apply jobshelllaw25_SignalTaken.l0.eq_2) (ev_neg (by omega) (ev_neg (by omega) (taken_l1 g c hg hc p.length lp p.length 0 p 0 rfl (by omega) ho hl (fun h => absurd rfl h))))
  | m + 1, i, p, h, ho => by
    have o1 := sent_ok g ho (n := rd xs (i : Int))
    have l1 := ok_len o1
    have ih := taken_l0 xs g c hx hg hc m (i + 1) (sentL p g (rd xs (i : Int))) (by omega) o1
    have w1 : wrap64 ((i : Int) + 1) = ((i + 1 : Nat) : Int) := by rw [wrap_in (by omega) (by omega)]; omega
    rw [← w1] at ih
    have e2 := send_any _ g c (rd xs (i : Int)) o1 hg hc
    rw [sent_twice g _ ho] at e2
    exact Ev.step (fun k => by apply jobshelllaw25_SignalTaken.l0.eq_2) (ev_pos (by omega) (ev_pos (by omega) (Ev.bind (send_any p g c _ ho hg hc) (Ev.bind e2 (Ev.bind (same_ev (sentL p g (rd xs (i : Int))) g c (by omega) hg hc) (ev_pos rfl ih))))))
theorem SignalTaken : StSignalTaken.Pure := by
  intro p g c xs _ _ _ _ _ _ _ _ _ _ _ _
  have h : Ev (fun k => jobshelllaw25_SignalTaken.f k p g c xs) true := by
    have out : Ev (fun k => jobshelllaw25_SignalTaken.j0 k xs true p g c) true := Ev.step (fun k => by apply jobshelllaw25_SignalTaken.j0.eq_2) (ev_pos rfl (Ev.bind awake_ev (ev_some rfl)))
    by_cases hs : p.length ≤ 30 ∧ g.length ≤ 30 ∧ c.length ≤ 30
    · obtain ⟨r, h1, h2⟩ := valid_ref p g c (by omega) (by omega) (by omega)
      refine ev_bindc (short_f p g c) (ev_pos (decide_eq_true hs) (Ev.bind h1 ?_))
      by_cases hr : r = 0
      · have ok : okFrom p 0 ∧ okFrom g 0 ∧ okFrom c 0 := by
          rcases h2 with ⟨a, _⟩ | ⟨o, _⟩
          · omega
          · exact o
        refine ev_pos hr ?_
        by_cases hx : xs.length ≤ 60
        · rw [decide_eq_false (p := (xs.length : Int) > 60) (by omega)]
          exact Ev.step (fun k => by apply jobshelllaw25_SignalTaken.j0.eq_2) (ev_neg Bool.false_ne_true (taken_l0 xs g c hx (by omega) (by omega) xs.length 0 p (by omega) ok.1))
        · rw [decide_eq_true (p := (xs.length : Int) > 60) (by omega)]
          exact out
      · exact ev_neg hr out
    · exact ev_bindc (short_f p g c) (ev_neg (by simpa using hs) out)
  obtain ⟨K, hK⟩ := h
  exact ⟨K, hK K (Nat.le_refl _)⟩
end Go.Proofs.YtnkkdpjipfjdaaaDoor.Pure

end
section
namespace Go.Proofs.YtnkkdpjipfjdaaaDoorM
open Go Go.RowKit Go.Proofs.YtnkkdpjipfjdaaaDoorW.PrintWords Go.WideShapes Go.ChangeShapes
/-- A value of type t whose cells can be read as data reads as a thing of kind d, of which G holds. -/
def Opens {α : Type} (P : Program) (d : Kd α) (t : TypeId) (G : α → Prop) : Prop :=
  ∀ (H : Type) (enc : TypeId × Value → H) (w : World) (spare : Nat → Bool) (held : Bool) (fuel : Nat) (cs : List Value) (dd : DataW H) (ps : List MemPlace),
    DataW.trod enc P w 0 spare held fuel t cs = some (dd, ps) → (dd.weights P t).all (· ≤ reachBytes) = true → ∃ x : α, d.K w x cs ∧ G x
theorem opens_int {P : Program} {t : TypeId} {k : IntKind} (ht : P.underlying t = some (.int k)) : Opens P (Kd.int k) t (fun x => (Lit.int k x).wf = true) := by
  intro H enc w s hd fuel cs dd ps h _
  obtain ⟨n, rfl, _, hw⟩ := DataW.trod_int ht h
  exact ⟨n, rfl, hw⟩
theorem weightsAll_mem {H : Type} {P : Program} {e : TypeId} {d : DataW H} : ∀ {l : List (DataW H)}, d ∈ l → (DataW.weightsAll P e l).all (· ≤ reachBytes) = true → (d.weights P e).all (· ≤ reachBytes) = true
  | a :: l, hd, h => by
    rw [DataW.weightsAll, List.all_append, Bool.and_eq_true] at h
    rcases List.mem_cons.1 hd with rfl | hd
    · exact h.1
    · exact weightsAll_mem hd h.2
theorem collect {α : Type} {Q : Nat → α → Prop} : ∀ {n : Nat}, (∀ i, i < n → ∃ x, Q i x) → ∃ l : List α, l.length = n ∧ ∀ j x, l[j]? = some x → Q j x
  | 0, _ => ⟨[], rfl, fun j x hx => by simp at hx⟩
  | n + 1, h => by
    obtain ⟨l, hl, hq⟩ := collect (n := n) (fun i hi => h i (by omega))
    obtain ⟨x, hx⟩ := h n (by omega)
    refine ⟨l ++ [x], by simp [hl], fun j y hy => ?_⟩
    rcases Nat.lt_or_ge j l.length with hj | hj
    · rw [List.getElem?_append_left hj] at hy
      exact hq j y hy
    · rw [List.getElem?_append_right hj] at hy
      have h0 : j - l.length = 0 := by
        rcases Nat.eq_zero_or_pos (j - l.length) with h0 | h0
        · exact h0
        · rw [List.getElem?_eq_none (by simp; omega)] at hy
          cases hy
      rw [h0] at hy
      obtain rfl : x = y := by simpa using hy
      obtain rfl : j = n := by omega
      exact hx
theorem add_add_ (a : Addr) (i j : Nat) : (a.add i).add j = a.add (i + j) := by
  by_cases hi : i = 0
  · subst hi
    simp [Addr.add]
  · by_cases hj : j = 0
    · subst hj
      simp [Addr.add, hi]
    · simp [Addr.add, hi, hj, Nat.add_assoc]
theorem opens_slice {α : Type} {P : Program} {d : Kd α} {t e : TypeId} {G : α → Prop} (ht : P.underlying t = some (.slice e)) (he : Opens P d e G) (hsz : P.cellsOf e = d.sz) :
    Opens P (Kd.slice e d) t (fun l => l.length * P.bytesOf e ≤ 140737488351232 ∧ l.length ≤ maxLen ∧ ∀ x ∈ l, G x) := by
  intro H enc w s hd fuel cs dd ps h hw
  rcases Go.Deep.open_slice ht h with ⟨rfl, _⟩ | ⟨a, len, cap, m, n, D, Pl, rfl, hb, hl, hm, hmm, hx, hget⟩
  · exact ⟨[], ⟨none, 0, rfl, Nat.le_refl _, rfl, by simp, fun h0 => absurd h0 (by simp)⟩, by simp, by simp, by simp⟩
  · injection hx with h1 h2
    subst h1
    have hlm : len ≤ m := by rw [hmm]; split <;> omega
    have hw1 : (len * P.bytesOf e ≤ reachBytes) ∧ ∀ i, i < len → ((D i).weights P e).all (· ≤ reachBytes) = true := by
      simp only [DataW.weights, ht, List.all_cons, List.all_append, Bool.and_eq_true, decide_eq_true_eq, List.length_map, List.length_range] at hw
      obtain ⟨hw1, hw2, _⟩ := hw
      refine ⟨Nat.le_trans (Nat.mul_le_mul_right _ (Nat.le_add_right _ _)) hw1, fun i hi => weightsAll_mem (List.mem_map.2 ⟨i, List.mem_range.2 hi, rfl⟩) hw2⟩
    have hex : ∀ i : Nat, i < len → ∃ x : α, G x ∧ ∃ c, c.length = d.sz ∧ d.K w x c ∧ ∀ q u, c[q]? = some u → w.cell? ((a.add (i * P.cellsOf e)).add q) = some u := by
      intro i hi
      obtain ⟨cs', h1, h2⟩ := hget i (by omega)
      obtain ⟨x, hk, hg⟩ := he H enc w s hd n cs' (D i) (Pl i) h2 (hw1.2 i hi)
      obtain ⟨_, hlen, hc⟩ := World.cells?_some h1
      refine ⟨x, hg, cs', hlen.trans hsz, hk, fun q u hq => ?_⟩
      have hq' : q < P.cellsOf e := by rw [← hlen]; exact (List.getElem?_eq_some_iff.1 hq).1
      rw [hc q hq']
      exact hq
    obtain ⟨l, hll, hl2⟩ := collect hex
    subst hll
    have hmax : cap ≤ 9223372036854775807 := hm
    refine ⟨l, ⟨some a, cap, rfl, hl, rfl, by omega, fun _ => ⟨a, rfl, fun j x hj => ?_⟩⟩, hw1.1, Nat.le_trans hl hm, fun x hx => ?_⟩
    · obtain ⟨_, c, hc, hk, hcell⟩ := hl2 j x hj
      refine ⟨c, hc, hk, fun q u hq => ?_⟩
      rw [← add_add_ a (j * d.sz) q, ← hsz]
      exact hcell q u hq
    · obtain ⟨j, hj⟩ := List.getElem?_of_mem hx
      exact (hl2 j x hj).1
/-- The fields of a struct, one behind the other from place o on, of n cells in all. -/
def OpensF {γ : Type} (P : Program) (fs : List Field) (o n : Nat) (d : Kd γ) (G : γ → Prop) : Prop :=
  ∀ (H : Type) (enc : TypeId × Value → H) (w : World) (spare : Nat → Bool) (held : Bool) (fuel : Nat) (cs : List Value) (xs : List (DataW H × List MemPlace)), cs.length = n → xs.length = fs.length →
    (∀ (i : Nat) (f : Field), fs[i]? = some f → DataW.trod enc P w 0 spare held fuel f.type ((cs.drop f.offset).take (P.cellsOf f.type)) = xs[i]?) →
    (DataW.weightsEach P (fs.map (·.type)) (xs.map (·.1))).all (· ≤ reachBytes) = true → ∃ x : γ, d.K w x (cs.drop o) ∧ G x
theorem OpensF.last {γ : Type} {P : Program} {f : Field} {o n : Nat} {d : Kd γ} {G : γ → Prop} (h : Opens P d f.type G) (ho : f.offset = o) (hn : n = o + P.cellsOf f.type) : OpensF P [f] o n d G := by
  intro H enc w s hd fuel cs xs hl hx hf hw
  obtain ⟨x0, rfl⟩ : ∃ x0, xs = [x0] := by
    rcases xs with _ | ⟨x0, _ | ⟨x1, r⟩⟩
    · cases hx
    · exact ⟨x0, rfl⟩
    · simp at hx
  have h0 := hf 0 f rfl
  rw [ho, List.take_of_length_le (by rw [List.length_drop]; omega)] at h0
  obtain ⟨x1, x2⟩ := x0
  refine h H enc w s hd fuel _ x1 x2 (by rw [h0]; rfl) ?_
  simpa [DataW.weightsEach] using hw
theorem OpensF.next {α γ : Type} {P : Program} {f : Field} {fs : List Field} {o n : Nat} {a : Kd α} {b : Kd γ} {Ga : α → Prop} {Gb : γ → Prop} (h : Opens P a f.type Ga) (ho : f.offset = o) (m : Nat) (hm : m = o + P.cellsOf f.type) (hr : OpensF P fs m n b Gb) :
    OpensF P (f :: fs) o n (Kd.pair a b) (fun x => Ga x.1 ∧ Gb x.2) := by
  intro H enc w s hd fuel cs xs hl hx hf hw
  rcases xs with _ | ⟨⟨x1, x2⟩, xs⟩
  · cases hx
  have h0 := hf 0 f rfl
  rw [ho] at h0
  simp only [List.map_cons, DataW.weightsEach, List.all_append, Bool.and_eq_true] at hw
  obtain ⟨x, hk, hg⟩ := h H enc w s hd fuel _ x1 x2 (by rw [h0]; rfl) hw.1
  obtain ⟨y, hk2, hg2⟩ := hr H enc w s hd fuel cs xs hl (by simpa using hx) (fun i f' hf' => hf (i + 1) f' (by simpa using hf')) hw.2
  refine ⟨(x, y), ⟨_, _, ?_, hk, hk2⟩, hg, hg2⟩
  rw [hm, ← List.drop_drop, List.take_append_drop]
theorem Opens.struct {γ : Type} {P : Program} {t : TypeId} {fs : Array Field} {n : Nat} {d : Kd γ} {G : γ → Prop} (ht : P.underlying t = some (.struct fs)) (hn : P.cellsOf t = n) (h : OpensF P fs.toList 0 n d G) : Opens P d t G := by
  intro H enc w s hd fuel cs dd ps h1 hw
  obtain ⟨xs, m, _, hx, hl, hlen, hf⟩ := DataW.trod_struct ht h1
  injection hx with h2 h3
  subst h2
  have := h H enc w s hd m cs xs (hl.trans hn) (by simpa using hlen) (fun i f hf' => hf i f (by simpa using hf')) (by simpa [DataW.weights, ht] using hw)
  simpa using this
theorem Opens.iso {α β : Type} {P : Program} {t : TypeId} {d : Kd α} {G : α → Prop} (h : Opens P d t G) (f : β → α) (g : α → β) (hfg : ∀ x, f (g x) = x) : Opens P (Kd.iso d f) t (fun y => G (f y)) := by
  intro H enc w s hd fuel cs dd ps h1 hw
  obtain ⟨x, hk, hg⟩ := h H enc w s hd fuel cs dd ps h1 hw
  exact ⟨g x, by show d.K w (f (g x)) cs; rw [hfg]; exact hk, by show G (f (g x)); rw [hfg]; exact hg⟩
/-- An argument, opened. -/
theorem Opens.arg {α : Type} {P : Program} {d : Kd α} {t : TypeId} {G : α → Prop} (h : Opens P d t G) {H : Type} {enc : TypeId × Value → H} {w : World} {spare : Nat → Bool} {held : Bool} {v : Value} {dd : DataW H} {ps : List MemPlace} {ts : List TypeId} {ds : List (DataW H)}
    (hT : DataW.Trod enc P w 0 spare held t v dd ps) (hs : (DataW.weightsEach P ts ds).all (· ≤ reachBytes) = true) {j : Nat} (h1 : ts[j]? = some t) (h2 : ds[j]? = some dd) : ∃ x : α, d.K w x v.cells.toList ∧ G x := by
  obtain ⟨fuel, hf⟩ := hT
  exact h H enc w spare held fuel _ dd ps hf (List.all_eq_true.2 (fun n hn => List.all_eq_true.1 hs n (DataW.weights_mem_each h1 h2 n hn)))
end Go.Proofs.YtnkkdpjipfjdaaaDoorM

end
section
namespace Go.Proofs.YtnkkdpjipfjdaaaDoorM
open Go Go.Proofs.YtnkkdpjipfjdaaaDoor
def tab10 : List Int := [1, 10, 100, 1000, 10000, 100000, 1000000, 10000000, 100000000, 1000000000, 10000000000, 100000000000, 1000000000000, 10000000000000, 100000000000000, 1000000000000000, 10000000000000000, 100000000000000000, 1000000000000000000, 10000000000000000000]
def tab32 : List Int := [0, 1, 28, 2, 29, 14, 24, 3, 30, 22, 20, 15, 25, 17, 4, 8, 31, 27, 13, 23, 21, 19, 16, 7, 26, 12, 18, 6, 11, 5, 10, 9]
def tab64 : List Int := [0, 1, 56, 2, 57, 49, 28, 3, 61, 58, 42, 50, 38, 29, 17, 4, 62, 47, 59, 36, 45, 43, 51, 22, 53, 39, 33, 30, 24, 18, 12, 5, 63, 55, 48, 27, 60, 41, 37, 16, 46, 35, 44, 21, 52, 32, 23, 11, 54, 26, 40, 15, 34, 20, 31, 10, 25, 14, 19, 9, 13, 8, 7, 6]
/-- An object's cells, written anew. -/
def putCells (cs : Array Value) : Obj → Obj
  | .cells _ t frozen => .cells cs t frozen
  | o => o
/-- The settled world, the three tables holding what their initialisers lay. -/
noncomputable def laidWorld (os : Os) : World :=
  { World.holding Tryd.prog os ⟨#[], #[], []⟩ with heap := (((World.holding Tryd.prog os ⟨#[], #[], []⟩).heap.modify 0 (putCells (tab10.map fun z => Value.int .u64 z).toArray)).modify 1 (putCells (tab32.map fun z => Value.int .u8 z).toArray)).modify 2 (putCells (tab64.map fun z => Value.int .u8 z).toArray) }
theorem laid_met (os : Os) (args : Array Value) : laidMet Tryd.prog Rows.signalNamesRow.laid ((laidWorld os).forCall (fun _ _ => 0) ⟨#[], args, []⟩).memory :=
  laidMet_of_run' 8 (by kernel_rfl) (by kernel_rfl)
end Go.Proofs.YtnkkdpjipfjdaaaDoorM

end
