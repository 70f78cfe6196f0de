import Derived.Test.YtojfchkmemhlfaaDoorQ1
import Derived.Test.YtojfchkmemhlfaaDoorQ11
import Derived.Test.YtojfchkmemhlfaaDoorQ2
import Derived.Test.YtojfchkmemhlfaaDoorQ3
import Derived.Test.YtojfchkmemhlfaaDoorQ5
import Derived.Test.YtojfchkmemhlfaaDoorQ6
import Derived.Test.YtojfchkmemhlfaaDoorQ8
import Derived.Test.YtojfchkmemhlfaaDoorQ9
import Derived.Test.YtojfchkmemhlfaaDoorMEv
import Derived.Lib.ItoaLen
namespace Go.Proofs.YtojfchkmemhlfaaDoor.Sa
open Go.RowKit Go.Proofs.YtojfchkmemhlfaaDoor.Q Go.Proofs.YtojfchkmemhlfaaDoorW.PrintWords Go.Proofs.YtojfchkmemhlfaaDoorW.PrintLast Go.Proofs.YtojfchkmemhlfaaDoorM
set_option linter.unusedVariables false
/-- A status' kind and value. -/
def kind (n : Int) : Int × Int := if n < 0 ∨ n > 768 then (-1, 0) else if (n / 256 = 1 ∨ n / 256 = 2) ∧ (n % 256 < 1 ∨ n % 256 > 20) then (-1, 0) else (n / 256, n % 256)
theorem kind_cases (n : Int) : (kind n = (-1, 0)) ∨ (0 ≤ n ∧ n ≤ 768 ∧ kind n = (n / 256, n % 256) ∧ ((n / 256 = 1 ∨ n / 256 = 2) → 1 ≤ n % 256 ∧ n % 256 ≤ 20)) := by
  unfold kind
  by_cases h : n < 0 ∨ n > 768
  · rw [if_pos h]; exact .inl rfl
  · rw [if_neg h]
    by_cases h2 : (n / 256 = 1 ∨ n / 256 = 2) ∧ (n % 256 < 1 ∨ n % 256 > 20)
    · rw [if_pos h2]; exact .inl rfl
    · rw [if_neg h2]; exact .inr ⟨by omega, by omega, rfl, fun h3 => by omega⟩
def shell (n : Int) : Int := if (kind n).1 = 0 then (kind n).2 else if (kind n).1 = 1 ∨ (kind n).1 = 2 then 128 + (kind n).2 else if (kind n).1 = 3 then 0 else 255
def itoaB (n : Int) : ByteArray := ⟨(Go.Lib.itoa n).toArray⟩
theorem itoa_f (n : Int) (h0 : -9223372036854775808 ≤ n) (h1 : n ≤ 9223372036854775807) : strconv_Itoa_26.f n = some (itoaB n) := by
  unfold strconv_Itoa_26.f
  rw [if_pos ⟨h0, h1⟩]; rfl
theorem itoaB_size (n : Int) (h0 : -9223372036854775808 ≤ n) (h1 : n ≤ 9223372036854775807) : (itoaB n).size ≤ 21 := by
  have h := Go.Lib.itoa_length_le n h0 h1
  have e : (itoaB n).size = (Go.Lib.itoa n).length := by
    show (Go.Lib.itoa n).toArray.size = _
    rw [List.size_toArray]
  omega
theorem ite_all {c : Prop} [Decidable c] {a b : Option ByteArray} {Q : Option ByteArray → Prop} (h1 : Q a) (h2 : Q b) : Q (if c then a else b) := by by_cases h : c <;> simp only [h, if_true, if_false] <;> assumption
theorem toList_data_ (s : ByteArray) : s.toList = s.data.toList := ByteArray.toList_eq s
theorem s_kind (n : Int) : Ev (fun k => status_Kind.f k n) (kind n) := by
  have core : ∀ b, b = decide (n < 0 ∨ n > 768) → Ev (fun k => status_Kind.j0 k n b) (kind n) := by
    intro b hb
    refine Ev.step (fun k => by apply status_Kind.j0.eq_2) ?_
    unfold kind
    by_cases h : n < 0 ∨ n > 768
    · exact ev_eq (ev_pos (by rw [hb]; exact decide_eq_true h) (ev_some rfl)) (by rw [if_pos h])
    · rw [if_neg h]
      refine ev_neg (by rw [hb, decide_eq_false h]; simp) ?_
      have hd : Int.tdiv n 256 = n / 256 := Int.tdiv_eq_ediv_of_nonneg (by omega)
      have hm : Int.tmod n 256 = n % 256 := Int.tmod_eq_emod_of_nonneg (by omega)
      have hw : wrap64 (n / 256) = n / 256 := wrap_in (by omega) (by omega)
      rw [hd, hm, hw]
      by_cases h1 : n / 256 = 1
      · refine ev_pos h1 ?_
        by_cases h2 : n % 256 < 1
        · exact ev_eq (ev_pos h2 (ev_some rfl)) (by rw [if_pos ⟨.inl h1, .inl h2⟩])
        · by_cases h3 : n % 256 > 20
          · exact ev_eq (ev_neg h2 (ev_pos h3 (ev_some rfl))) (by rw [if_pos ⟨.inl h1, .inr h3⟩])
          · exact ev_eq (ev_neg h2 (ev_neg h3 (ev_some rfl))) (by rw [if_neg (by omega)])
      · refine ev_neg h1 ?_
        by_cases h1' : n / 256 = 2
        · refine ev_pos h1' ?_
          by_cases h2 : n % 256 < 1
          · exact ev_eq (ev_pos h2 (ev_some rfl)) (by rw [if_pos ⟨.inr h1', .inl h2⟩])
          · by_cases h3 : n % 256 > 20
            · exact ev_eq (ev_neg h2 (ev_pos h3 (ev_some rfl))) (by rw [if_pos ⟨.inr h1', .inr h3⟩])
            · exact ev_eq (ev_neg h2 (ev_neg h3 (ev_some rfl))) (by rw [if_neg (by omega)])
        · exact ev_eq (ev_neg h1' (ev_some rfl)) (by rw [if_neg (by omega)])
  unfold status_Kind.f
  by_cases h : n < 0
  · exact ev_pos h (core true (by simp [h]))
  · exact ev_neg h (core _ (by simp [h]))
theorem s_shell (n : Int) : Ev (fun k => status_Shell.f k n) (shell n) := by
  unfold status_Shell.f
  refine Ev.bind (s_kind n) ?_
  have core : ∀ b, b = decide ((kind n).1 = 1 ∨ (kind n).1 = 2) → (kind n).1 ≠ 0 → Ev (fun k => status_Shell.j0 k (kind n).2 (kind n).1 b) (shell n) := by
    intro b hb h0
    refine Ev.step (fun k => by apply status_Shell.j0.eq_2) ?_
    unfold shell
    by_cases h : (kind n).1 = 1 ∨ (kind n).1 = 2
    · refine ev_eq (ev_pos (by rw [hb]; exact decide_eq_true h) (ev_some rfl)) ?_
      rw [if_neg h0, if_pos h]
      rcases kind_cases n with e | ⟨_, _, e, _⟩
      · rw [e] at h; simp at h
      · rw [e]; exact wrap_in (by show _ ≤ 128 + n % 256; omega) (by show 128 + n % 256 ≤ _; omega)
    · refine ev_neg (by rw [hb, decide_eq_false h]; simp) ?_
      by_cases h3 : (kind n).1 = 3
      · exact ev_eq (ev_pos h3 (ev_some rfl)) (by rw [if_neg h0, if_neg h, if_pos h3])
      · exact ev_eq (ev_neg h3 (ev_some rfl)) (by rw [if_neg h0, if_neg h, if_neg h3])
  by_cases h0 : (kind n).1 = 0
  · exact ev_eq (ev_pos h0 (ev_some rfl)) (by unfold shell; rw [if_pos h0])
  · refine ev_neg h0 ?_
    by_cases h1 : (kind n).1 = 1
    · exact ev_pos h1 (core _ (by simp [h1]) h0)
    · exact ev_neg h1 (core _ (by rw [Bool.eq_iff_iff]; simp [h1]) h0)
theorem r_kind (n : Int) : Ev (fun k => jobshellref22_Kind.f k n) (kind n) := by
  have core : ∀ b, b = decide (n < 0 ∨ n > 768) → Ev (fun k => jobshellref22_Kind.j0 k n b) (kind n) := by
    intro b hb
    refine Ev.step (fun k => by apply jobshellref22_Kind.j0.eq_2) ?_
    unfold kind
    by_cases h : n < 0 ∨ n > 768
    · exact ev_eq (ev_pos (by rw [hb]; exact decide_eq_true h) (ev_some rfl)) (by rw [if_pos h])
    · rw [if_neg h]
      refine ev_neg (by rw [hb, decide_eq_false h]; simp) ?_
      have hd : Int.tdiv n 256 = n / 256 := Int.tdiv_eq_ediv_of_nonneg (by omega)
      have hm : Int.tmod n 256 = n % 256 := Int.tmod_eq_emod_of_nonneg (by omega)
      have hw : wrap64 (n / 256) = n / 256 := wrap_in (by omega) (by omega)
      rw [hd, hm, hw]
      by_cases h1 : n / 256 = 1
      · refine ev_pos h1 ?_
        by_cases h2 : n % 256 < 1
        · exact ev_eq (ev_pos h2 (ev_some rfl)) (by rw [if_pos ⟨.inl h1, .inl h2⟩])
        · by_cases h3 : n % 256 > 20
          · exact ev_eq (ev_neg h2 (ev_pos h3 (ev_some rfl))) (by rw [if_pos ⟨.inl h1, .inr h3⟩])
          · exact ev_eq (ev_neg h2 (ev_neg h3 (ev_some rfl))) (by rw [if_neg (by omega)])
      · refine ev_neg h1 ?_
        by_cases h1' : n / 256 = 2
        · refine ev_pos h1' ?_
          by_cases h2 : n % 256 < 1
          · exact ev_eq (ev_pos h2 (ev_some rfl)) (by rw [if_pos ⟨.inr h1', .inl h2⟩])
          · by_cases h3 : n % 256 > 20
            · exact ev_eq (ev_neg h2 (ev_pos h3 (ev_some rfl))) (by rw [if_pos ⟨.inr h1', .inr h3⟩])
            · exact ev_eq (ev_neg h2 (ev_neg h3 (ev_some rfl))) (by rw [if_neg (by omega)])
        · exact ev_eq (ev_neg h1' (ev_some rfl)) (by rw [if_neg (by omega)])
  unfold jobshellref22_Kind.f
  by_cases h : n < 0
  · exact ev_pos h (core true (by simp [h]))
  · exact ev_neg h (core _ (by simp [h]))
theorem r_shell (n : Int) : Ev (fun k => jobshellref22_Shell.f k n) (shell n) := by
  unfold jobshellref22_Shell.f
  refine Ev.bind (r_kind n) ?_
  have core : ∀ b, b = decide ((kind n).1 = 1 ∨ (kind n).1 = 2) → (kind n).1 ≠ 0 → Ev (fun k => jobshellref22_Shell.j0 k (kind n).2 (kind n).1 b) (shell n) := by
    intro b hb h0
    refine Ev.step (fun k => by apply jobshellref22_Shell.j0.eq_2) ?_
    unfold shell
    by_cases h : (kind n).1 = 1 ∨ (kind n).1 = 2
    · refine ev_eq (ev_pos (by rw [hb]; exact decide_eq_true h) (ev_some rfl)) ?_
      rw [if_neg h0, if_pos h]
      rcases kind_cases n with e | ⟨_, _, e, _⟩
      · rw [e] at h; simp at h
      · rw [e]; exact wrap_in (by show _ ≤ 128 + n % 256; omega) (by show 128 + n % 256 ≤ _; omega)
    · refine ev_neg (by rw [hb, decide_eq_false h]; simp) ?_
      by_cases h3 : (kind n).1 = 3
      · exact ev_eq (ev_pos h3 (ev_some rfl)) (by rw [if_neg h0, if_neg h, if_pos h3])
      · exact ev_eq (ev_neg h3 (ev_some rfl)) (by rw [if_neg h0, if_neg h, if_neg h3])
  by_cases h0 : (kind n).1 = 0
  · exact ev_eq (ev_pos h0 (ev_some rfl)) (by unfold shell; rw [if_pos h0])
  · refine ev_neg h0 ?_
    by_cases h1 : (kind n).1 = 1
    · exact ev_pos h1 (core _ (by simp [h1]) h0)
    · exact ev_neg h1 (core _ (by rw [Bool.eq_iff_iff]; simp [h1]) h0)
/-- A signal's word. -/
def word (n : Int) : ByteArray := (status_word.f n).getD ⟨#[]⟩
theorem word_same (n : Int) : jobshellref22_Word.f n = status_word.f n := rfl
theorem word_f (n : Int) (h0 : 1 ≤ n) (h1 : n ≤ 20) : status_word.f n = some (word n) := by
  have hs : (status_word.f n).isSome = true := by
    have hz := itoaB_size n (by omega) (by omega)
    unfold status_word.f
    rw [itoa_f n (by omega) (by omega), Option.bind_some, if_pos (show 7 + (itoaB n).size ≤ 9223372036854775807 by omega)]
    iterate 15 refine ite_all (Q := fun o => o.isSome = true) rfl ?_
    rfl
  unfold word
  cases h : status_word.f n with
  | none => rw [h] at hs; cases hs
  | some x => rfl
theorem word_ne (n : Int) (h0 : 1 ≤ n) (h1 : n ≤ 20) : (word n).toList ≠ [] := by
  have hz := itoaB_size n (by omega) (by omega)
  have hall : ∀ x, status_word.f n = some x → x.toList ≠ [] := by
    unfold status_word.f
    rw [itoa_f n (by omega) (by omega), Option.bind_some, if_pos (show 7 + (itoaB n).size ≤ 9223372036854775807 by omega)]
    iterate 15 refine ite_all (Q := fun o => ∀ x, o = some x → x.toList ≠ []) (fun x hx => by obtain rfl := Option.some.inj hx; decide +kernel) ?_
    intro x hx
    obtain rfl := Option.some.inj hx
    intro h
    rw [toList_data_, ByteArray.data_append, Array.toList_append] at h
    exact absurd (List.append_eq_nil_iff.1 h).1 (by decide)
  exact hall _ (word_f n h0 h1)
def desc (n : Int) : ByteArray := if (kind n).1 = 0 then (if (kind n).2 = 0 then ⟨#[68, 111, 110, 101]⟩ else ⟨#[69, 120, 105, 116, 32]⟩ ++ itoaB (kind n).2) else if (kind n).1 = 1 then word (kind n).2 else if (kind n).1 = 2 then ⟨#[83, 116, 111, 112, 112, 101, 100]⟩ else if (kind n).1 = 3 then ⟨#[82, 117, 110, 110, 105, 110, 103]⟩ else ⟨#[]⟩
theorem kind_val (n : Int) : 0 ≤ (kind n).2 ∧ (kind n).2 ≤ 255 ∧ ((kind n).1 = 1 → 1 ≤ (kind n).2 ∧ (kind n).2 ≤ 20) := by
  rcases kind_cases n with e | ⟨_, _, e, h⟩
  · rw [e]; exact ⟨by decide, by decide, fun h => absurd h (by decide)⟩
  · rw [e]; exact ⟨by show 0 ≤ n % 256; omega, by show n % 256 ≤ 255; omega, fun h1 => h (.inl h1)⟩
theorem s_desc (n : Int) : Ev (fun k => status_Describe.f k n) (desc n) := by
  unfold status_Describe.f
  refine Ev.bind (s_kind n) ?_
  obtain ⟨v0, v1, v2⟩ := kind_val n
  have hz := itoaB_size (kind n).2 (by omega) (by omega)
  have core : ∀ b, b = decide ((kind n).1 = 0 ∧ (kind n).2 = 0) → Ev (fun k => status_Describe.j0 k (kind n).1 (kind n).2 b) (desc n) := by
    intro b hb
    refine Ev.step (fun k => by apply status_Describe.j0.eq_2) ?_
    unfold desc
    by_cases h : (kind n).1 = 0 ∧ (kind n).2 = 0
    · exact ev_eq (ev_pos (by rw [hb]; exact decide_eq_true h) (ev_some rfl)) (by rw [if_pos h.1, if_pos h.2])
    · refine ev_neg (by rw [hb, decide_eq_false h]; simp) ?_
      by_cases h0 : (kind n).1 = 0
      · exact ev_eq (ev_pos h0 (ev_bindc (itoa_f _ (by omega) (by omega)) (ev_pos (by omega) (ev_some rfl)))) (by rw [if_pos h0, if_neg (fun h' => h ⟨h0, h'⟩)])
      · refine ev_neg h0 ?_
        by_cases h1 : (kind n).1 = 1
        · exact ev_eq (ev_pos h1 (ev_bindc (word_f _ (v2 h1).1 (v2 h1).2) (ev_some rfl))) (by rw [if_neg h0, if_pos h1])
        · refine ev_neg h1 ?_
          by_cases h2 : (kind n).1 = 2
          · exact ev_eq (ev_pos h2 (ev_some rfl)) (by rw [if_neg h0, if_neg h1, if_pos h2])
          · refine ev_neg h2 ?_
            by_cases h3 : (kind n).1 = 3
            · exact ev_eq (ev_pos h3 (ev_some rfl)) (by rw [if_neg h0, if_neg h1, if_neg h2, if_pos h3])
            · exact ev_eq (ev_neg h3 (ev_some rfl)) (by rw [if_neg h0, if_neg h1, if_neg h2, if_neg h3])
  by_cases h0 : (kind n).1 = 0
  · exact ev_pos h0 (core _ (by rw [Bool.eq_iff_iff]; simp [h0]))
  · exact ev_neg h0 (core _ (by simp [h0]))
theorem r_desc (n : Int) : Ev (fun k => jobshellref22_Describe.f k n) (desc n) := by
  unfold jobshellref22_Describe.f
  refine Ev.bind (r_kind n) ?_
  obtain ⟨v0, v1, v2⟩ := kind_val n
  have hz := itoaB_size (kind n).2 (by omega) (by omega)
  unfold desc
  by_cases h0 : (kind n).1 = 0
  · refine ev_pos h0 ?_
    by_cases h : (kind n).2 = 0
    · exact ev_eq (ev_pos h (ev_some rfl)) (by rw [if_pos h0, if_pos h])
    · exact ev_eq (ev_neg h (ev_bindc (itoa_f _ (by omega) (by omega)) (ev_pos (by omega) (ev_some rfl)))) (by rw [if_pos h0, if_neg h])
  · refine ev_neg h0 ?_
    by_cases h1 : (kind n).1 = 1
    · exact ev_eq (ev_pos h1 (ev_bindc ((word_same _).trans (word_f _ (v2 h1).1 (v2 h1).2)) (ev_some rfl))) (by rw [if_neg h0, if_pos h1])
    · refine ev_neg h1 ?_
      by_cases h2 : (kind n).1 = 2
      · exact ev_eq (ev_pos h2 (ev_some rfl)) (by rw [if_neg h0, if_neg h1, if_pos h2])
      · refine ev_neg h2 ?_
        by_cases h3 : (kind n).1 = 3
        · exact ev_eq (ev_pos h3 (ev_some rfl)) (by rw [if_neg h0, if_neg h1, if_neg h2, if_pos h3])
        · exact ev_eq (ev_neg h3 (ev_some rfl)) (by rw [if_neg h0, if_neg h1, if_neg h2, if_neg h3])
/-- A description is empty just where there is no kind. -/
theorem desc_empty (n : Int) : ((desc n).toList = []) ↔ (kind n).1 = -1 := by
  obtain ⟨v0, v1, v2⟩ := kind_val n
  rcases kind_cases n with e | ⟨g0, g1, e, g2⟩
  · unfold desc
    rw [e]
    exact ⟨fun _ => rfl, fun _ => by decide +kernel⟩
  · have hk : (kind n).1 = n / 256 := by rw [e]
    constructor
    · intro h
      exfalso
      unfold desc at h
      by_cases h0 : (kind n).1 = 0
      · rw [if_pos h0] at h
        by_cases h00 : (kind n).2 = 0
        · rw [if_pos h00] at h
          exact absurd h (by decide +kernel)
        · rw [if_neg h00, toList_data_, ByteArray.data_append, Array.toList_append] at h
          exact absurd (List.append_eq_nil_iff.1 h).1 (by decide)
      · rw [if_neg h0] at h
        by_cases h1 : (kind n).1 = 1
        · rw [if_pos h1] at h
          exact word_ne _ (v2 h1).1 (v2 h1).2 h
        · rw [if_neg h1] at h
          by_cases h2 : (kind n).1 = 2
          · rw [if_pos h2] at h
            exact absurd h (by decide +kernel)
          · rw [if_neg h2, if_pos (by omega)] at h
            exact absurd h (by decide +kernel)
    · intro h
      omega
theorem exited_mod (n : Int) : Int.tmod (wrap64 ((Int.tmod n 256) + 256)) 256 = n % 256 := by
  have h1 : -256 < Int.tmod n 256 := by have := Int.lt_tmod_of_pos n (show (0 : Int) < 256 by decide); omega
  have h2 : Int.tmod n 256 < 256 := Int.tmod_lt_of_pos n (by decide)
  have h3 : (Int.tmod n 256) % 256 = n % 256 := by
    have h := Int.mul_tdiv_add_tmod n 256
    omega
  rw [wrap_in (by omega) (by omega), Int.tmod_eq_emod_of_nonneg (by omega)]
  omega
theorem s_exited (n : Int) : status_Exited.f n = some (n % 256) := by
  unfold status_Exited.f
  rw [exited_mod]
theorem r_exited (n : Int) : jobshellref22_Exited.f n = some (n % 256) := by
  have h1 : -256 < Int.tmod n 256 := by have := Int.lt_tmod_of_pos n (show (0 : Int) < 256 by decide); omega
  have h2 : Int.tmod n 256 < 256 := Int.tmod_lt_of_pos n (by decide)
  have h3 := Int.mul_tdiv_add_tmod n 256
  unfold jobshellref22_Exited.f
  by_cases h : Int.tmod n 256 < 0
  · rw [if_pos h, wrap_in (by omega) (by omega)]
    congr 1
    omega
  · rw [if_neg h]
    congr 1
    omega
/-- A signal's status. -/
def sigst (b n : Int) : Int := if n < 1 ∨ n > 20 then -1 else b * 256 + n
theorem signal_f (b n : Int) (hb : 0 ≤ b ∧ b ≤ 3) : status_signal.f b n = some (sigst b n) := by
  unfold status_signal.f sigst
  by_cases h : n < 1
  · rw [if_pos h, if_pos (.inl h)]
  · rw [if_neg h]
    by_cases h2 : n > 20
    · rw [if_pos h2, if_pos (.inr h2)]
    · rw [if_neg h2, if_neg (by omega)]
      have e : wrap64 (b * 256) = b * 256 := wrap_in (by omega) (by omega)
      rw [e, wrap_in (by omega) (by omega)]
theorem s_killed (n : Int) : status_Killed.f n = some (sigst 1 n) := by unfold status_Killed.f; rw [signal_f 1 n (by omega)]; rfl
theorem s_stopped (n : Int) : status_Stopped.f n = some (sigst 2 n) := by unfold status_Stopped.f; rw [signal_f 2 n (by omega)]; rfl
theorem r_killed (n : Int) : jobshellref22_Killed.f n = some (sigst 1 n) := by
  unfold jobshellref22_Killed.f sigst
  by_cases h : n < 1
  · rw [if_pos h, if_pos (.inl h)]
  · rw [if_neg h]
    by_cases h2 : n > 20
    · rw [if_pos h2, if_pos (.inr h2)]
    · rw [if_neg h2, if_neg (by omega), wrap_in (by omega) (by omega)]; rfl
theorem r_stopped (n : Int) : jobshellref22_Stopped.f n = some (sigst 2 n) := by
  unfold jobshellref22_Stopped.f sigst
  by_cases h : n < 1
  · rw [if_pos h, if_pos (.inl h)]
  · rw [if_neg h]
    by_cases h2 : n > 20
    · rw [if_pos h2, if_pos (.inr h2)]
    · rw [if_neg h2, if_neg (by omega), wrap_in (by omega) (by omega)]; rfl
theorem awake_ev : Ev (fun k => jobshelllaw22_awake.f k) true := by
  have i3 : itoaB 3 = ⟨#[51]⟩ := by unfold itoaB Go.Lib.itoa; rw [if_neg (by decide), Go.Lib.decDigits, dif_pos (by decide)]; rfl
  have i6 : itoaB 6 = ⟨#[54]⟩ := by unfold itoaB Go.Lib.itoa; rw [if_neg (by decide), Go.Lib.decDigits, dif_pos (by decide)]; rfl
  have w6 : word 6 = ⟨#[83, 105, 103, 110, 97, 108, 32, 54]⟩ := by
    unfold word status_word.f
    rw [itoa_f 6 (by decide) (by decide), i6]
    rfl
  have d1 : desc 265 = ⟨#[75, 73, 76, 76]⟩ := rfl
  have d2 : desc 262 = word 6 := rfl
  have d3 : desc 3 = ⟨#[69, 120, 105, 116, 32]⟩ ++ itoaB 3 := rfl
  unfold jobshelllaw22_awake.f
  refine Ev.bind (s_kind 265) (ev_bindc (s_exited 3) (ev_pos rfl (ev_bindc (s_exited (-1)) (ev_pos rfl (ev_bindc (s_exited 256) (ev_pos rfl ?_))))))
  refine ev_bindc (s_killed 9) (ev_pos rfl (ev_bindc (s_stopped 20) (ev_pos rfl (ev_bindc rfl (ev_pos rfl (ev_bindc (s_killed 0) (ev_pos rfl (ev_pos rfl (ev_pos rfl ?_)))))))))
  refine Ev.bind (s_shell 265) (ev_pos rfl (Ev.bind (s_desc 265) (ev_pos (by rw [d1]; decide +kernel) (Ev.bind (s_desc 262) (ev_pos (by rw [d2, w6]; decide +kernel) (Ev.bind (s_desc 3) (ev_some ?_)))))))
  rw [d3, i3]
  decide +kernel
end Go.Proofs.YtojfchkmemhlfaaDoor.Sa
