import Derived.Test.YtnkkdpjipfjdaaaDoorQ5
import Derived.Test.YtnkkdpjipfjdaaaDoorQ7
import Derived.Test.YtnkkdpjipfjdaaaDoorSg
namespace Go.Proofs.YtnkkdpjipfjdaaaDoor.Sg
open Go.RowKit Go.Proofs.YtnkkdpjipfjdaaaDoor.Q Go.Proofs.YtnkkdpjipfjdaaaDoorW.PrintWords Go.Proofs.YtnkkdpjipfjdaaaDoorW.PrintLast Go.Proofs.YtnkkdpjipfjdaaaDoorM Go.Proofs.YtnkkdpjipfjdaaaDoor.Ix
set_option linter.unusedVariables false
set_option linter.unusedSectionVars false
theorem ite_iff {c d : Prop} [Decidable c] [Decidable d] {a b : Int} (h : c ↔ d) : (if c then a else b) = if d then a else b := by
  by_cases k : c
  · rw [if_pos k, if_pos (h.1 k)]
  · rw [if_neg k, if_neg (fun e => k (h.2 e))]
def stopsB (n : Int) : Bool := n == 19 || (n == 20 || (n == 4 || n == 5))
theorem stops_ref (n : Int) : jobshellref25_stops.f n = some (stopsB n) := by
  unfold jobshellref25_stops.f stopsB
  by_cases h1 : n = 19
  · subst h1; rfl
  · by_cases h2 : n = 20
    · subst h2; rfl
    · by_cases h3 : n = 4
      · subst h3; rfl
      · rw [if_neg h1, if_neg h2, if_neg h3, beq_eq_false_iff_ne.2 h1, beq_eq_false_iff_ne.2 h2, beq_eq_false_iff_ne.2 h3]; rfl
def badA (g c : List Int) (m : Int) : Prop := ((m = 9 ∨ m = 19) ∧ (m ∈ g ∨ m ∈ c)) ∨ (m ∈ g ∧ m ∈ c)
def badB (p g : List Int) (m : Int) : Prop := (m ≠ 18 ∧ m ∈ p ∧ m ∈ g) ∨ (stopsB m = true ∧ m ∈ p ∧ (18 : Int) ∈ p)
instance (g c : List Int) (m : Int) : Decidable (badA g c m) := by unfold badA; infer_instance
instance (p g : List Int) (m : Int) : Decidable (badB p g m) := by unfold badB; infer_instance
section
variable (p g c : List Int) (hp : p.length ≤ 1000) (hg : g.length ≤ 1000) (hc : c.length ≤ 1000)
include hp hg hc
theorem j4_ev (n : Int) (h0 : 1 ≤ n) (h1 : n ≤ 20) (x : Bool) (r : Int) (hr : Ev (fun k => jobshellref25_Valid.l1 k (n + 1) p g c) r) :
    Ev (fun k => jobshellref25_Valid.j4 k n x p g c) (if x = true ∨ (stopsB n = true ∧ n ∈ p ∧ (18 : Int) ∈ p) then 25 else r) := by
  refine Ev.step (fun k => by apply jobshellref25_Valid.j4.eq_2) ?_
  cases x with
  | true => rw [if_pos (.inl rfl)]; exact ev_pos rfl (ev_some rfl)
  | false =>
    refine ev_neg (by simp) (ev_bindc (stops_ref n) ?_)
    rw [wrap_in (by omega) (by omega)]
    by_cases hs : stopsB n = true
    · refine ev_pos hs (Ev.bind (has_ev p n hp) ?_)
      by_cases hn : n ∈ p
      · refine ev_pos (decide_eq_true hn) (Ev.bind (has_ev p 18 hp) ?_)
        by_cases h18 : (18 : Int) ∈ p
        · rw [if_pos (.inr ⟨hs, hn, h18⟩)]; exact ev_pos (decide_eq_true h18) (ev_some rfl)
        · rw [if_neg (fun h => h.elim (by simp) (fun h => h18 h.2.2))]; exact ev_neg (by simp [h18]) hr
      · rw [if_neg (fun h => h.elim (by simp) (fun h => hn h.2.1))]; exact ev_neg (by simp [hn]) hr
    · rw [if_neg (fun h => h.elim (by simp) (fun h => hs h.1))]; exact ev_neg hs hr
theorem l1_ev : ∀ (m : Nat) (n : Int), 1 ≤ n → n + m = 21 → ∃ r : Int, Ev (fun k => jobshellref25_Valid.l1 k n p g c) r ∧ ((r = 25 ∧ ∃ x, n ≤ x ∧ x ≤ 20 ∧ badB p g x) ∨ (r = 0 ∧ ∀ x, n ≤ x → x ≤ 20 → ¬ badB p g x))
  | 0, n, h0, h => ⟨0, Ev.step (fun k => by apply jobshellref25_Valid.l1.eq_2) (ev_neg (by omega) (ev_some rfl)), .inr ⟨rfl, fun x h1 h2 => by omega⟩⟩
  | m + 1, n, h0, h => by
    obtain ⟨r, h1, h2⟩ := l1_ev m (n + 1) (by omega) (by omega)
    refine ⟨if badB p g n then 25 else r, ?_, ?_⟩
    · refine Ev.step (fun k => by apply jobshellref25_Valid.l1.eq_2) (ev_pos (by omega) ?_)
      by_cases h18 : n = 18
      · refine ev_pos h18 (ev_eq (j4_ev p g c hp hg hc n h0 (by omega) false r h1) ?_)
        refine ite_iff ?_
        unfold badB
        constructor
        · exact fun h => h.elim (by simp) .inr
        · exact fun h => h.elim (fun h => absurd h18 h.1) .inr
      · refine ev_neg h18 (Ev.bind (has_ev p n hp) ?_)
        by_cases hn : n ∈ p
        · refine ev_pos (decide_eq_true hn) (Ev.bind (has_ev g n hg) (ev_eq (j4_ev p g c hp hg hc n h0 (by omega) _ r h1) ?_))
          refine ite_iff ?_
          unfold badB
          simp only [decide_eq_true_eq]
          constructor
          · exact fun h => h.elim (fun h => .inl ⟨h18, hn, h⟩) .inr
          · exact fun h => h.elim (fun h => .inl h.2.2) .inr
        · refine ev_neg (by simp [hn]) (ev_eq (j4_ev p g c hp hg hc n h0 (by omega) false r h1) ?_)
          refine ite_iff ?_
          unfold badB
          constructor
          · exact fun h => h.elim (by simp) .inr
          · exact fun h => h.elim (fun h => absurd h.2.1 hn) .inr
    · by_cases hb : badB p g n
      · rw [if_pos hb]; exact .inl ⟨rfl, n, Int.le_refl _, by omega, hb⟩
      · rw [if_neg hb]
        rcases h2 with ⟨e, x, x1, x2, x3⟩ | ⟨e, hx⟩
        · exact .inl ⟨e, x, by omega, x2, x3⟩
        · refine .inr ⟨e, fun x x1 x2 => ?_⟩
          by_cases hxn : x = n
          · subst hxn; exact hb
          · exact hx x (by omega) x2
theorem j2_ev (n : Int) (h0 : 1 ≤ n) (h1 : n ≤ 20) (x : Bool) (hx : x = true ↔ n = 9 ∨ n = 19) (r : Int) (hr : Ev (fun k => jobshellref25_Valid.l0 k (n + 1) p g c) r) :
    Ev (fun k => jobshellref25_Valid.j2 k n x p g c) (if badA g c n then 1 else r) := by
  refine Ev.step (fun k => by apply jobshellref25_Valid.j2.eq_2) ?_
  rw [wrap_in (by omega) (by omega)]
  by_cases h9 : n = 9 ∨ n = 19
  · refine ev_pos (hx.2 h9) (Ev.bind (has_ev g n hg) ?_)
    by_cases hn : n ∈ g
    · rw [if_pos (.inl ⟨h9, .inl hn⟩)]; exact ev_pos (decide_eq_true hn) (ev_some rfl)
    · refine ev_neg (by simp [hn]) (Ev.bind (has_ev c n hc) ?_)
      by_cases hm : n ∈ c
      · rw [if_pos (.inl ⟨h9, .inr hm⟩)]; exact ev_pos (decide_eq_true hm) (ev_some rfl)
      · rw [if_neg (fun h => h.elim (fun h => h.2.elim hn hm) (fun h => hn h.1))]; exact ev_neg (by simp [hm]) hr
  · refine ev_neg (fun h => h9 (hx.1 h)) (Ev.bind (has_ev g n hg) ?_)
    by_cases hn : n ∈ g
    · refine ev_pos (decide_eq_true hn) (Ev.bind (has_ev c n hc) ?_)
      by_cases hm : n ∈ c
      · rw [if_pos (.inr ⟨hn, hm⟩)]; exact ev_pos (decide_eq_true hm) (ev_some rfl)
      · rw [if_neg (fun h => h.elim (fun h => h9 h.1) (fun h => hm h.2))]; exact ev_neg (by simp [hm]) hr
    · rw [if_neg (fun h => h.elim (fun h => h9 h.1) (fun h => hn h.1))]; exact ev_neg (by simp [hn]) hr
theorem l0_ev (r1 : Int) (hr1 : Ev (fun k => jobshellref25_Valid.l1 k 1 p g c) r1) : ∀ (m : Nat) (n : Int), 1 ≤ n → n + m = 21 → ∃ r : Int, Ev (fun k => jobshellref25_Valid.l0 k n p g c) r ∧ ((r = 1 ∧ ∃ x, n ≤ x ∧ x ≤ 20 ∧ badA g c x) ∨ (r = r1 ∧ ∀ x, n ≤ x → x ≤ 20 → ¬ badA g c x))
  | 0, n, h0, h => ⟨r1, Ev.step (fun k => by apply jobshellref25_Valid.l0.eq_2) (ev_neg (by omega) hr1), .inr ⟨rfl, fun x h1 h2 => by omega⟩⟩
  | m + 1, n, h0, h => by
    obtain ⟨r, h1, h2⟩ := l0_ev r1 hr1 m (n + 1) (by omega) (by omega)
    refine ⟨if badA g c n then 1 else r, ?_, ?_⟩
    · refine Ev.step (fun k => by apply jobshellref25_Valid.l0.eq_2) (ev_pos (by omega) ?_)
      by_cases h9 : n = 9
      · exact ev_pos h9 (j2_ev p g c hp hg hc n h0 (by omega) true ⟨fun _ => .inl h9, fun _ => rfl⟩ r h1)
      · exact ev_neg h9 (j2_ev p g c hp hg hc n h0 (by omega) (n == 19) ⟨fun h => .inr (beq_iff_eq.1 h), fun h => beq_iff_eq.2 (h.resolve_left h9)⟩ r h1)
    · by_cases hb : badA g c n
      · rw [if_pos hb]; exact .inl ⟨rfl, n, Int.le_refl _, by omega, hb⟩
      · rw [if_neg hb]
        rcases h2 with ⟨e, x, x1, x2, x3⟩ | ⟨e, hx⟩
        · exact .inl ⟨e, x, by omega, x2, x3⟩
        · refine .inr ⟨e, fun x x1 x2 => ?_⟩
          by_cases hxn : x = n
          · subst hxn; exact hb
          · exact hx x (by omega) x2
/-- What the reference's Valid answers. -/
theorem valid_ref : ∃ r : Int, Ev (fun k => jobshellref25_Valid.f k p g c) r ∧
    ((r = 1 ∧ ¬ (okFrom p 0 ∧ okFrom g 0 ∧ okFrom c 0)) ∨
     ((okFrom p 0 ∧ okFrom g 0 ∧ okFrom c 0) ∧ ((r = 1 ∧ ∃ x, badA g c x) ∨ ((∀ x, ¬ badA g c x) ∧ ((r = 25 ∧ ∃ x, badB p g x) ∨ (r = 0 ∧ ∀ x, ¬ badB p g x)))))) := by
  obtain ⟨b1, e1, f1, _⟩ := list_ev p hp
  obtain ⟨b2, e2, f2, _⟩ := list_ev g hg
  obtain ⟨b3, e3, f3, _⟩ := list_ev c hc
  have out : Ev (fun k => jobshellref25_Valid.j0 k true p g c) 1 := Ev.step (fun k => by apply jobshellref25_Valid.j0.eq_2) (ev_pos rfl (ev_some rfl))
  cases b1 with
  | false => exact ⟨1, Ev.bind f1 (ev_neg (by simp) out), .inl ⟨rfl, fun h => by simpa using e1.2 h.1⟩⟩
  | true =>
    cases b2 with
    | false => exact ⟨1, Ev.bind f1 (ev_pos rfl (Ev.bind f2 (ev_neg (by simp) out))), .inl ⟨rfl, fun h => by simpa using e2.2 h.2.1⟩⟩
    | true =>
      cases b3 with
      | false => exact ⟨1, Ev.bind f1 (ev_pos rfl (Ev.bind f2 (ev_pos rfl (Ev.bind f3 out)))), .inl ⟨rfl, fun h => by simpa using e3.2 h.2.2⟩⟩
      | true =>
        have k1 := e1.1 rfl
        have k2 := e2.1 rfl
        have k3 := e3.1 rfl
        obtain ⟨r1, g1, s1⟩ := l1_ev p g c hp hg hc 20 1 (by omega) (by omega)
        obtain ⟨r0, g0, s0⟩ := l0_ev p g c hp hg hc r1 g1 20 1 (by omega) (by omega)
        have hA : ∀ x, badA g c x → 1 ≤ x ∧ x ≤ 20 := fun x h => h.elim (fun h => h.2.elim (fun h => named_in (ok_named k2 h)) (fun h => named_in (ok_named k3 h))) (fun h => named_in (ok_named k2 h.1))
        have hB : ∀ x, badB p g x → 1 ≤ x ∧ x ≤ 20 := fun x h => h.elim (fun h => named_in (ok_named k1 h.2.1)) (fun h => named_in (ok_named k1 h.2.1))
        refine ⟨r0, Ev.bind f1 (ev_pos rfl (Ev.bind f2 (ev_pos rfl (Ev.bind f3 (Ev.step (fun k => by apply jobshellref25_Valid.j0.eq_2) (ev_neg (by simp) g0)))))), .inr ⟨⟨k1, k2, k3⟩, ?_⟩⟩
        rcases s0 with ⟨e, x, _, _, hx⟩ | ⟨e, hx⟩
        · exact .inl ⟨e, x, hx⟩
        · refine .inr ⟨fun x h => hx x (hA x h).1 (hA x h).2 h, ?_⟩
          rcases s1 with ⟨e', y, _, _, hy⟩ | ⟨e', hy⟩
          · exact .inl ⟨e.trans e', y, hy⟩
          · exact .inr ⟨e.trans e', fun x h => hy x (hB x h).1 (hB x h).2 h⟩
end
end Go.Proofs.YtnkkdpjipfjdaaaDoor.Sg
