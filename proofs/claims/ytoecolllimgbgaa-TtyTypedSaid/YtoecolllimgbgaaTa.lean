import Derived.Test.YtoecolllimgbgaaQ1
import Derived.Test.YtoecolllimgbgaaQ13
import Derived.Test.YtoecolllimgbgaaQ2
import Derived.Test.YtoecolllimgbgaaQ25
import Derived.Test.YtoecolllimgbgaaQ26
import Derived.Test.YtoecolllimgbgaaQ27
import Derived.Test.YtoecolllimgbgaaQ3
import Derived.Test.YtoecolllimgbgaaQ4
import Derived.Test.YtoecolllimgbgaaMBytes
namespace Go.Proofs.Ytoecolllimgbgaa.Ta
open Go.RowKit Go.Proofs.Ytoecolllimgbgaa.Q Go.Proofs.YtoecolllimgbgaaW.PrintWords Go.Proofs.YtoecolllimgbgaaW.PrintLast Go.Proofs.YtoecolllimgbgaaM
theorem awake_ev : Ev (fun k => jobshelllaw26_awake.f k) true := Ev.of (fun k => jobshelllaw26_awake.mono k) (k := 60) (by decide +kernel)
def tb (c : Int) : Bool := decide (c = 9) || (decide (32 ≤ c) && (c != 127))
theorem ref_tb (c : Int) : jobshellref26_textByte.f c = some (tb c) := by
  unfold jobshellref26_textByte.f tb
  by_cases h : c = 9
  · simp [h]
  · by_cases h2 : c ≥ 32
    · rw [if_neg h, if_pos h2, decide_eq_false h, decide_eq_true h2]; rfl
    · rw [if_neg h, if_neg h2, decide_eq_false h, decide_eq_false (by omega)]; rfl
theorem tty_tb (c : Int) : tty_textByte.f c = some (tb c) := by
  unfold tty_textByte.f tb
  by_cases h : c = 9
  · simp [h]
  · by_cases h2 : c ≥ 32
    · rw [if_neg h, if_pos h2, decide_eq_false h, decide_eq_true h2]; rfl
    · rw [if_neg h, if_neg h2, decide_eq_false h, decide_eq_false (by omega)]; rfl
def okb (b : UInt8) : Bool := tb (b.toNat : Int)
/-- Are all bytes of a string printable? -/
def txt (s : ByteArray) : Bool := s.toList.all okb
theorem all_drop (l : List UInt8) (i : Nat) (h : i < l.length) : (l.drop i).all okb = (okb (l.getD i 0) && (l.drop (i + 1)).all okb) := by
  rw [List.drop_eq_getElem_cons h, List.all_cons, List.getD_eq_getElem?_getD, List.getElem?_eq_getElem h]; rfl
theorem ref_texts_l0 (s : ByteArray) (hs : s.size ≤ 140737488351232) : ∀ (m i : Nat), i + m = s.size → Ev (fun k => jobshellref26_Texts.l0 k s (i : Int)) ((s.toList.drop i).all okb)
  | 0, i, h => by
    refine Ev.step (fun k => by apply jobshellref26_Texts.l0.eq_2) (ev_neg (by omega) (ev_some ?_))
    rw [List.drop_eq_nil_of_le (by rw [toList_length]; omega)]; rfl
  | m + 1, i, h => by
    refine Ev.step (fun k => by apply jobshellref26_Texts.l0.eq_2) ?_
    have hw : wrap64 ((i : Int) + 1) = ((i + 1 : Nat) : Int) := by rw [wrap_in (by omega) (by omega)]; omega
    have hb := bt_get s i (by omega)
    have ha := all_drop s.toList i (by rw [toList_length]; omega)
    refine ev_pos (by omega) (ev_pos (by omega) (ev_bindc (ref_tb _) ?_))
    have ho : tb (bt s (i : Int)) = okb (s.toList.getD i 0) := by rw [hb]; rfl
    rw [ho, ha]
    cases okb (s.toList.getD i 0) with
    | true => exact ev_pos rfl (by rw [hw, Bool.true_and]; exact ref_texts_l0 s hs m (i + 1) (by omega))
    | false => exact ev_neg (by simp) (ev_some rfl)
theorem tty_text_l0 (s : ByteArray) (hs : s.size ≤ 140737488351232) : ∀ (m i : Nat), i + m = s.size → Ev (fun k => tty_text.l0 k s (s.size : Int) (i : Int)) ((s.toList.drop i).all okb)
  | 0, i, h => by
    refine Ev.step (fun k => by apply tty_text.l0.eq_2) (ev_neg (by omega) (ev_some ?_))
    rw [List.drop_eq_nil_of_le (by rw [toList_length]; omega)]; rfl
  | m + 1, i, h => by
    refine Ev.step (fun k => by apply tty_text.l0.eq_2) ?_
    have hw : wrap64 ((i : Int) + 1) = ((i + 1 : Nat) : Int) := by rw [wrap_in (by omega) (by omega)]; omega
    have hb := bt_get s i (by omega)
    have ha := all_drop s.toList i (by rw [toList_length]; omega)
    refine ev_pos (by omega) (ev_pos (by omega) (ev_pos (by omega) (ev_bindc (tty_tb _) ?_)))
    have ho : tb (bt s (i : Int)) = okb (s.toList.getD i 0) := by rw [hb]; rfl
    rw [ho, ha]
    cases okb (s.toList.getD i 0) with
    | true => exact ev_pos rfl (by rw [hw, Bool.true_and]; exact tty_text_l0 s hs m (i + 1) (by omega))
    | false => exact ev_neg (by simp) (ev_some rfl)
theorem ref_texts_f (s : ByteArray) (hs : s.size ≤ 140737488351232) : Ev (fun k => jobshellref26_Texts.f k s) (txt s) := ref_texts_l0 s hs s.size 0 (by omega)
theorem tty_text_f (s : ByteArray) (hs : s.size ≤ 140737488351232) : Ev (fun k => tty_text.f k s) (txt s) := tty_text_l0 s hs s.size 0 (by omega)
/-- The string without a newline at its end. -/
def endsNl (s : ByteArray) : Bool := decide (0 < s.size) && (s.toList.getD (s.size - 1) 0 == 10)
def cutNl (s : ByteArray) : ByteArray := if endsNl s = true then s.extract 0 (s.size - 1) else s
theorem cutNl_size (s : ByteArray) : (cutNl s).size ≤ s.size := by
  unfold cutNl
  split
  · rw [ByteArray.size_extract]; omega
  · exact Nat.le_refl _
theorem suffix_f (s : ByteArray) (hs : s.size ≤ 140737488351232) : stringslite_HasSuffix.f s (⟨#[10]⟩ : ByteArray) = some (endsNl s) := by
  unfold stringslite_HasSuffix.f endsNl
  have h1 : ((⟨#[10]⟩ : ByteArray).size : Int) = 1 := rfl
  rw [h1]
  by_cases h : (s.size : Int) ≥ 1
  · have hw : wrap64 ((s.size : Int) - 1) = ((s.size - 1 : Nat) : Int) := by rw [wrap_in (by omega) (by omega)]; omega
    rw [if_pos h, hw, if_pos (by omega), if_pos (by omega), Int.toNat_natCast, decide_eq_true (by omega), Bool.true_and]
    congr 1
    have e : (s.extract (s.size - 1) s.size).toList = [s.toList.getD (s.size - 1) 0] := by
      rw [toList_extract, List.take_of_length_le (by rw [toList_length]; exact Nat.le_refl _)]
      have hl : s.size - 1 < s.toList.length := by rw [toList_length]; omega
      rw [List.drop_eq_getElem_cons hl, List.drop_eq_nil_of_le (by rw [toList_length]; omega), List.getD_eq_getElem?_getD, List.getElem?_eq_getElem hl]; rfl
    have e2 : (⟨#[10]⟩ : ByteArray).toList = [10] := by rw [toList_data]
    rw [e, e2]
    rw [Bool.eq_iff_iff]
    simp
  · rw [if_neg h, decide_eq_false (by omega)]; rfl
theorem trim_f (s : ByteArray) (hs : s.size ≤ 140737488351232) : strings_TrimSuffix.f s (⟨#[10]⟩ : ByteArray) = some (cutNl s) := by
  unfold strings_TrimSuffix.f stringslite_TrimSuffix.f cutNl
  rw [suffix_f s hs, Option.bind_some]
  cases h : endsNl s with
  | true =>
    have h1 : ((⟨#[10]⟩ : ByteArray).size : Int) = 1 := rfl
    have hp : 0 < s.size := by
      unfold endsNl at h
      rw [Bool.and_eq_true, decide_eq_true_eq] at h
      exact h.1
    have hw : wrap64 ((s.size : Int) - 1) = ((s.size - 1 : Nat) : Int) := by rw [wrap_in (by omega) (by omega)]; omega
    rw [if_pos rfl, h1, hw, if_pos (by omega), if_pos (by omega), if_pos rfl, Int.toNat_natCast]; rfl
  | false => rw [if_neg (by simp), if_neg (by simp)]; rfl
def lineErr (s : ByteArray) : Int := if s.size > 4097 then 3 else if txt (cutNl s) = true then 0 else 1
theorem tty_line_f (s : ByteArray) (hs : s.size ≤ 140737488351232) : Ev (fun k => tty_line.f k s) (lineErr s) := by
  unfold tty_line.f lineErr
  by_cases h : s.size > 4097
  · exact ev_eq (ev_pos (by omega) (ev_some rfl)) (by rw [if_pos h])
  · refine ev_neg (by omega) (ev_bindc (trim_f s hs) (Ev.bind (tty_text_f _ (Nat.le_trans (cutNl_size s) hs)) ?_))
    rw [if_neg h]
    cases txt (cutNl s) with
    | true => exact ev_pos rfl (ev_some rfl)
    | false => exact ev_neg (by simp) (ev_some rfl)
theorem ref_line_f (s : ByteArray) (hs : s.size ≤ 140737488351232) : Ev (fun k => jobshellref26_line.f k s) (lineErr s) := by
  unfold jobshellref26_line.f lineErr
  by_cases h : s.size > 4097
  · exact ev_eq (ev_pos (by omega) (ev_some rfl)) (by rw [if_pos h])
  · refine ev_neg (by omega) ?_
    rw [if_neg h]
    by_cases h0 : s.toList = []
    · have hz : s.size = 0 := by rw [← toList_length, h0]; rfl
      refine ev_pos h0 (Ev.step (fun k => by apply jobshellref26_line.j0.eq_2) (ev_neg (by simp) (Ev.bind (ref_texts_f s hs) ?_)))
      have he : cutNl s = s := by unfold cutNl endsNl; rw [decide_eq_false (by omega)]; rfl
      rw [he]
      cases txt s with
      | true => exact ev_pos rfl (ev_some rfl)
      | false => exact ev_neg (by simp) (ev_some rfl)
    · have hp : 0 < s.size := by
        rcases Nat.eq_zero_or_pos s.size with hz | hz
        · exact absurd (List.eq_nil_of_length_eq_zero ((toList_length s).trans hz)) h0
        · exact hz
      have hw : wrap64 ((s.size : Int) - 1) = ((s.size - 1 : Nat) : Int) := by rw [wrap_in (by omega) (by omega)]; omega
      have hb := bt_get s (s.size - 1) (by omega)
      have he : (bt s ((s.size - 1 : Nat) : Int) == 10) = endsNl s := by
        rw [hb]
        unfold endsNl
        rw [decide_eq_true hp, Bool.true_and, Bool.eq_iff_iff, beq_iff_eq, beq_iff_eq]
        constructor
        · intro h; apply UInt8.toNat_inj.1; exact Int.ofNat.inj h
        · intro h; rw [h]; rfl
      refine ev_neg h0 (ev_pos (by rw [hw]; omega) (ev_pos (by rw [hw]; omega) (Ev.step (fun k => by apply jobshellref26_line.j0.eq_2) ?_)))
      rw [hw, he]
      unfold cutNl
      cases endsNl s with
      | true =>
        refine ev_pos rfl (ev_pos (by omega) (ev_pos (by omega) (Ev.bind (ref_texts_f _ (by rw [ByteArray.size_extract]; omega)) ?_)))
        rw [if_pos rfl, Int.toNat_natCast]
        cases txt (s.extract 0 (s.size - 1)) with
        | true => exact ev_pos rfl (ev_some rfl)
        | false => exact ev_neg (by simp) (ev_some rfl)
      | false =>
        have e1 : (if false = true then s.extract 0 (s.size - 1) else s) = s := if_neg (by simp)
        rw [e1]
        refine ev_neg (by simp) (Ev.bind (ref_texts_f s hs) ?_)
        cases txt s with
        | true => exact ev_pos rfl (ev_some rfl)
        | false => exact ev_neg (by simp) (ev_some rfl)
/-- The first error among the lines, and what follows. -/
def linesErr (o : ByteArray) : List ByteArray → Int
  | [] => if o.size > 65536 then 3 else 0
  | s :: l => if lineErr s = 0 then linesErr o l else lineErr s
def valErr (sid fg : Int) (e : ByteArray) (l : List ByteArray) (o : ByteArray) : Int := if sid < 0 ∨ fg < 0 then 1 else if e.size > 4096 then 3 else if txt e = true then (if l.length > 512 then 4 else linesErr o l) else 1
theorem rdOf_cons (l : List ByteArray) (i : Nat) (h : i < l.length) : l.drop i = rdOf ByteArray.empty l (i : Int) :: l.drop (i + 1) := by
  rw [List.drop_eq_getElem_cons h]
  unfold rdOf
  rw [Int.toNat_natCast, List.getD_eq_getElem?_getD, List.getElem?_eq_getElem h]; rfl
theorem tty_val_l0 (sid fg : Int) (e : ByteArray) (l : List ByteArray) (o : ByteArray) (ts : Bool) (hl : l.length ≤ 1000) (ho : ∀ x ∈ l, x.size ≤ 140737488351232) : ∀ (m i : Nat), i + m = l.length →
    Ev (fun k => tty_Valid.l0 k l (l.length : Int) (i : Int) sid fg e l o ts) (linesErr o (l.drop i))
  | 0, i, h => by
    refine Ev.step (fun k => by apply tty_Valid.l0.eq_2) (ev_neg (by omega) ?_)
    rw [List.drop_eq_nil_of_le (by omega), linesErr]
    by_cases hs : o.size > 65536
    · exact ev_eq (ev_pos (by omega) (ev_some rfl)) (by rw [if_pos hs])
    · exact ev_eq (ev_neg (by omega) (ev_some rfl)) (by rw [if_neg hs])
  | m + 1, i, h => by
    refine Ev.step (fun k => by apply tty_Valid.l0.eq_2) ?_
    have hw : wrap64 ((i : Int) + 1) = ((i + 1 : Nat) : Int) := by rw [wrap_in (by omega) (by omega)]; omega
    have hc := rdOf_cons l i (by omega)
    have hm : rdOf ByteArray.empty l (i : Int) ∈ l := List.mem_of_mem_drop (by rw [hc]; exact List.mem_cons_self)
    refine ev_pos (by omega) (ev_pos (by omega) (ev_pos (by omega) (Ev.bind (tty_line_f _ (ho _ hm)) ?_)))
    rw [hc, linesErr]
    by_cases h0 : lineErr (rdOf ByteArray.empty l (i : Int)) = 0
    · exact ev_eq (ev_pos h0 (by rw [hw]; exact tty_val_l0 sid fg e l o ts hl ho m (i + 1) (by omega))) (by rw [if_pos h0])
    · exact ev_eq (ev_neg h0 (ev_some rfl)) (by rw [if_neg h0])
theorem ref_val_l0 (sid fg : Int) (e : ByteArray) (l : List ByteArray) (o : ByteArray) (ts : Bool) (hl : l.length ≤ 1000) (ho : ∀ x ∈ l, x.size ≤ 140737488351232) : ∀ (m i : Nat), i + m = l.length →
    Ev (fun k => jobshellref26_Valid.l0 k (i : Int) sid fg e l o ts) (linesErr o (l.drop i))
  | 0, i, h => by
    refine Ev.step (fun k => by apply jobshellref26_Valid.l0.eq_2) (ev_neg (by omega) ?_)
    rw [List.drop_eq_nil_of_le (by omega), linesErr]
    by_cases hs : o.size > 65536
    · exact ev_eq (ev_pos (by omega) (ev_some rfl)) (by rw [if_pos hs])
    · exact ev_eq (ev_neg (by omega) (ev_some rfl)) (by rw [if_neg hs])
  | m + 1, i, h => by
    refine Ev.step (fun k => by apply jobshellref26_Valid.l0.eq_2) ?_
    have hw : wrap64 ((i : Int) + 1) = ((i + 1 : Nat) : Int) := by rw [wrap_in (by omega) (by omega)]; omega
    have hc := rdOf_cons l i (by omega)
    have hm : rdOf ByteArray.empty l (i : Int) ∈ l := List.mem_of_mem_drop (by rw [hc]; exact List.mem_cons_self)
    refine ev_pos (by omega) (ev_pos (by omega) (Ev.bind (ref_line_f _ (ho _ hm)) ?_))
    rw [hc, linesErr]
    by_cases h0 : lineErr (rdOf ByteArray.empty l (i : Int)) = 0
    · exact ev_eq (ev_pos h0 (by rw [hw]; exact ref_val_l0 sid fg e l o ts hl ho m (i + 1) (by omega))) (by rw [if_pos h0])
    · exact ev_eq (ev_neg h0 (ev_some rfl)) (by rw [if_neg h0])
theorem tty_val_f (sid fg : Int) (e : ByteArray) (l : List ByteArray) (o : ByteArray) (ts : Bool) (hl : l.length ≤ 1000) (he : e.size ≤ 140737488351232) (ho : ∀ x ∈ l, x.size ≤ 140737488351232) : Ev (fun k => tty_Valid.f k sid fg e l o ts) (valErr sid fg e l o) := by
  have core : ∀ (b : Bool), b = decide (sid < 0 ∨ fg < 0) → Ev (fun k => tty_Valid.j0 k b sid fg e l o ts) (valErr sid fg e l o) := by
    intro b hb
    refine Ev.step (fun k => by apply tty_Valid.j0.eq_2) ?_
    unfold valErr
    by_cases h0 : sid < 0 ∨ fg < 0
    · exact ev_eq (ev_pos (by rw [hb]; exact decide_eq_true h0) (ev_some rfl)) (by rw [if_pos h0])
    · rw [if_neg h0]
      refine ev_neg (by rw [hb]; simpa using h0) ?_
      by_cases h1 : e.size > 4096
      · exact ev_eq (ev_pos (by omega) (ev_some rfl)) (by rw [if_pos h1])
      · rw [if_neg h1]
        refine ev_neg (by omega) (Ev.bind (tty_text_f e he) ?_)
        cases txt e with
        | false => exact ev_neg (by simp) (ev_some rfl)
        | true =>
          refine ev_pos rfl ?_
          rw [if_pos rfl]
          by_cases h2 : l.length > 512
          · exact ev_eq (ev_pos (by omega) (ev_some rfl)) (by rw [if_pos h2])
          · rw [if_neg h2]
            exact ev_neg (by omega) (tty_val_l0 sid fg e l o ts hl ho l.length 0 (by omega))
  unfold tty_Valid.f
  by_cases h0 : sid < 0
  · exact ev_pos h0 (core true (by simp [h0]))
  · exact ev_neg h0 (core (decide (fg < 0)) (by simp [h0]))
theorem ref_val_f (sid fg : Int) (e : ByteArray) (l : List ByteArray) (o : ByteArray) (ts : Bool) (hl : l.length ≤ 1000) (he : e.size ≤ 140737488351232) (ho : ∀ x ∈ l, x.size ≤ 140737488351232) : Ev (fun k => jobshellref26_Valid.f k sid fg e l o ts) (valErr sid fg e l o) := by
  have core : ∀ (b : Bool), b = decide (sid < 0 ∨ fg < 0) → Ev (fun k => jobshellref26_Valid.j0 k b sid fg e l o ts) (valErr sid fg e l o) := by
    intro b hb
    refine Ev.step (fun k => by apply jobshellref26_Valid.j0.eq_2) ?_
    unfold valErr
    by_cases h0 : sid < 0 ∨ fg < 0
    · exact ev_eq (ev_pos (by rw [hb]; exact decide_eq_true h0) (ev_some rfl)) (by rw [if_pos h0])
    · rw [if_neg h0]
      refine ev_neg (by rw [hb]; simpa using h0) ?_
      by_cases h1 : e.size > 4096
      · exact ev_eq (ev_pos (by omega) (ev_some rfl)) (by rw [if_pos h1])
      · rw [if_neg h1]
        refine ev_neg (by omega) (Ev.bind (ref_texts_f e he) ?_)
        cases txt e with
        | false => exact ev_neg (by simp) (ev_some rfl)
        | true =>
          refine ev_pos rfl ?_
          rw [if_pos rfl]
          by_cases h2 : l.length > 512
          · exact ev_eq (ev_pos (by omega) (ev_some rfl)) (by rw [if_pos h2])
          · rw [if_neg h2]
            exact ev_neg (by omega) (ref_val_l0 sid fg e l o ts hl ho l.length 0 (by omega))
  unfold jobshellref26_Valid.f
  by_cases h0 : sid < 0
  · exact ev_pos h0 (core true (by simp [h0]))
  · exact ev_neg h0 (core (decide (fg < 0)) (by simp [h0]))
/-- Small: whatever it answers, a yes means at most 520 lines and fewer than 80000 bytes outside the lines. -/
theorem small_l0 (sid fg : Int) (e : ByteArray) (l : List ByteArray) (o : ByteArray) (ts : Bool) (ho : ∀ x ∈ l, x.size ≤ 140737488351232) : ∀ (m i : Nat) (n : Int), i + m = 520 → 0 ≤ n → n ≤ 281474976702464 →
    ∃ b, Ev (fun k => jobshellref26_Small.l0 k n (i : Int) sid fg e l o ts) b ∧ (b = true → l.length ≤ 520)
  | 0, i, n, h, h0, h1 => by
    refine ⟨if l.length ≤ 520 then decide (n < 80000) else false, ?_, ?_⟩
    · refine Ev.step (fun k => by apply jobshellref26_Small.l0.eq_2) ?_
      by_cases hi : (i : Int) < (l.length : Int)
      · refine ev_pos hi (ev_neg (by omega) ?_)
        by_cases hl : l.length ≤ 520
        · exact ev_eq (ev_pos (by omega) (ev_some rfl)) (by rw [if_pos hl])
        · exact ev_eq (ev_neg (by omega) (ev_some rfl)) (by rw [if_neg hl])
      · refine ev_neg hi ?_
        by_cases hl : l.length ≤ 520
        · exact ev_eq (ev_pos (by omega) (ev_some rfl)) (by rw [if_pos hl])
        · exact ev_eq (ev_neg (by omega) (ev_some rfl)) (by rw [if_neg hl])
    · intro hb
      by_cases hl : l.length ≤ 520
      · exact hl
      · rw [if_neg hl] at hb; cases hb
  | m + 1, i, n, h, h0, h1 => by
    have fin : (b : Bool) → (b = if l.length ≤ 520 then decide (n < 80000) else false) → (b = true → l.length ≤ 520) := by
      intro b hb h
      by_cases hl : l.length ≤ 520
      · exact hl
      · rw [hb, if_neg hl] at h; cases h
    have last : Ev (fun _ : Nat => if (l.length : Int) ≤ 520 then some (decide (n < 80000)) else some false) (if l.length ≤ 520 then decide (n < 80000) else false) := by
      by_cases hl : l.length ≤ 520
      · exact ev_eq (ev_pos (by omega) (ev_some rfl)) (by rw [if_pos hl])
      · exact ev_eq (ev_neg (by omega) (ev_some rfl)) (by rw [if_neg hl])
    by_cases hi : (i : Int) < (l.length : Int)
    · by_cases hn : n < 80000
      · have hm : rdOf ByteArray.empty l (i : Int) ∈ l := List.mem_of_mem_drop (by rw [rdOf_cons l i (by omega)]; exact List.mem_cons_self)
        have hs := ho _ hm
        have hw : wrap64 ((i : Int) + 1) = ((i + 1 : Nat) : Int) := by rw [wrap_in (by omega) (by omega)]; omega
        have hw2 : wrap64 (n + ((rdOf ByteArray.empty l (i : Int)).size : Int)) = n + ((rdOf ByteArray.empty l (i : Int)).size : Int) := wrap_in (by omega) (by omega)
        obtain ⟨b, hb, hb2⟩ := small_l0 sid fg e l o ts ho m (i + 1) (n + ((rdOf ByteArray.empty l (i : Int)).size : Int)) (by omega) (by omega) (by omega)
        refine ⟨b, Ev.step (fun k => by apply jobshellref26_Small.l0.eq_2) (ev_pos hi (ev_pos (by omega) (ev_pos hn (ev_pos (by omega) ?_)))), hb2⟩
        rw [hw, hw2]
        exact hb
      · exact ⟨_, Ev.step (fun k => by apply jobshellref26_Small.l0.eq_2) (ev_pos hi (ev_pos (by omega) (ev_neg hn last))), fin _ rfl⟩
    · exact ⟨_, Ev.step (fun k => by apply jobshellref26_Small.l0.eq_2) (ev_neg hi last), fin _ rfl⟩
theorem small_f (sid fg : Int) (e : ByteArray) (l : List ByteArray) (o : ByteArray) (ts : Bool) (he : e.size ≤ 140737488351232) (ho2 : o.size ≤ 140737488351232) (ho : ∀ x ∈ l, x.size ≤ 140737488351232) : ∃ b, Ev (fun k => jobshellref26_Small.f k sid fg e l o ts) b ∧ (b = true → l.length ≤ 520) := by
  unfold jobshellref26_Small.f
  rw [wrap_in (by omega) (by omega)]
  exact small_l0 sid fg e l o ts ho 520 0 _ (by omega) (by omega) (by omega)
end Go.Proofs.Ytoecolllimgbgaa.Ta
