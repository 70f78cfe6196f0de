import Derived.Test.YtoecolllimgbgaaQ10
import Derived.Test.YtoecolllimgbgaaQ11
import Derived.Test.YtoecolllimgbgaaQ12
import Derived.Test.YtoecolllimgbgaaQ13
import Derived.Test.YtoecolllimgbgaaQ25
import Derived.Test.YtoecolllimgbgaaQ26
import Derived.Test.YtoecolllimgbgaaQ27
import Derived.Test.YtoecolllimgbgaaQ29
import Derived.Test.YtoecolllimgbgaaQ5
import Derived.Test.YtoecolllimgbgaaQ6
import Derived.Test.YtoecolllimgbgaaQ7
import Derived.Test.YtoecolllimgbgaaQ8
import Derived.Test.YtoecolllimgbgaaQ9
import Derived.Test.YtoecolllimgbgaaMBytes
namespace Go.Proofs.Ytoecolllimgbgaa.Ta
open Go.RowKit Go.Proofs.Ytoecolllimgbgaa.Q Go.Proofs.YtoecolllimgbgaaW.PrintWords Go.Proofs.YtoecolllimgbgaaW.PrintLast Go.Proofs.YtoecolllimgbgaaM
theorem awake_ev : Ev (fun k => jobshelllaw26_awake.f k) true := Ev.of (fun k => jobshelllaw26_awake.mono k) (k := 60) (by decide +kernel)
def tb (c : Int) : Bool := decide (c = 9) || (decide (32 ≤ c) && (c != 127))
theorem tty_tb (c : Int) : tty_textByte.f c = some (tb c) := by
  unfold tty_textByte.f tb
  by_cases h : c = 9
  · simp [h]
  · by_cases h2 : c ≥ 32
    · rw [if_neg h, if_pos h2, decide_eq_false h, decide_eq_true h2]; rfl
    · rw [if_neg h, if_neg h2, decide_eq_false h, decide_eq_false (by omega)]; rfl
def okb (b : UInt8) : Bool := tb (b.toNat : Int)
/-- Are all bytes of a string printable? -/
def txt (s : ByteArray) : Bool := s.toList.all okb
theorem all_drop (l : List UInt8) (i : Nat) (h : i < l.length) : (l.drop i).all okb = (okb (l.getD i 0) && (l.drop (i + 1)).all okb) := by
  rw [List.drop_eq_getElem_cons h, List.all_cons, List.getD_eq_getElem?_getD, List.getElem?_eq_getElem h]; rfl
theorem tty_text_l0 (s : ByteArray) (hs : s.size ≤ 140737488351232) : ∀ (m i : Nat), i + m = s.size → Ev (fun k => tty_text.l0 k s (s.size : Int) (i : Int)) ((s.toList.drop i).all okb)
  | 0, i, h => by
    refine Ev.step (fun k => by apply tty_text.l0.eq_2) (ev_neg (by omega) (ev_some ?_))
    rw [List.drop_eq_nil_of_le (by rw [toList_length]; omega)]; rfl
  | m + 1, i, h => by
    refine Ev.step (fun k => by apply tty_text.l0.eq_2) ?_
    have hw : wrap64 ((i : Int) + 1) = ((i + 1 : Nat) : Int) := by rw [wrap_in (by omega) (by omega)]; omega
    have hb := bt_get s i (by omega)
    have ha := all_drop s.toList i (by rw [toList_length]; omega)
    refine ev_pos (by omega) (ev_pos (by omega) (ev_pos (by omega) (ev_bindc (tty_tb _) ?_)))
    have ho : tb (bt s (i : Int)) = okb (s.toList.getD i 0) := by rw [hb]; rfl
    rw [ho, ha]
    cases okb (s.toList.getD i 0) with
    | true => exact ev_pos rfl (by rw [hw, Bool.true_and]; exact tty_text_l0 s hs m (i + 1) (by omega))
    | false => exact ev_neg (by simp) (ev_some rfl)
theorem tty_text_f (s : ByteArray) (hs : s.size ≤ 140737488351232) : Ev (fun k => tty_text.f k s) (txt s) := tty_text_l0 s hs s.size 0 (by omega)
/-- The string without a newline at its end. -/
def endsNl (s : ByteArray) : Bool := decide (0 < s.size) && (s.toList.getD (s.size - 1) 0 == 10)
def cutNl (s : ByteArray) : ByteArray := if endsNl s = true then s.extract 0 (s.size - 1) else s
theorem cutNl_size (s : ByteArray) : (cutNl s).size ≤ s.size := by
  unfold cutNl
  split
  · rw [ByteArray.size_extract]; omega
  · exact Nat.le_refl _
theorem suffix_f (s : ByteArray) (hs : s.size ≤ 140737488351232) : stringslite_HasSuffix.f s (⟨#[10]⟩ : ByteArray) = some (endsNl s) := by
  unfold stringslite_HasSuffix.f endsNl
  have h1 : ((⟨#[10]⟩ : ByteArray).size : Int) = 1 := rfl
  rw [h1]
  by_cases h : (s.size : Int) ≥ 1
  · have hw : wrap64 ((s.size : Int) - 1) = ((s.size - 1 : Nat) : Int) := by rw [wrap_in (by omega) (by omega)]; omega
    rw [if_pos h, hw, if_pos (by omega), if_pos (by omega), Int.toNat_natCast, decide_eq_true (by omega), Bool.true_and]
    congr 1
    have e : (s.extract (s.size - 1) s.size).toList = [s.toList.getD (s.size - 1) 0] := by
      rw [toList_extract, List.take_of_length_le (by rw [toList_length]; exact Nat.le_refl _)]
      have hl : s.size - 1 < s.toList.length := by rw [toList_length]; omega
      rw [List.drop_eq_getElem_cons hl, List.drop_eq_nil_of_le (by rw [toList_length]; omega), List.getD_eq_getElem?_getD, List.getElem?_eq_getElem hl]; rfl
    have e2 : (⟨#[10]⟩ : ByteArray).toList = [10] := by rw [toList_data]
    rw [e, e2]
    rw [Bool.eq_iff_iff]
    simp
  · rw [if_neg h, decide_eq_false (by omega)]; rfl
theorem trim_f (s : ByteArray) (hs : s.size ≤ 140737488351232) : strings_TrimSuffix.f s (⟨#[10]⟩ : ByteArray) = some (cutNl s) := by
  unfold strings_TrimSuffix.f stringslite_TrimSuffix.f cutNl
  rw [suffix_f s hs, Option.bind_some]
  cases h : endsNl s with
  | true =>
    have h1 : ((⟨#[10]⟩ : ByteArray).size : Int) = 1 := rfl
    have hp : 0 < s.size := by
      unfold endsNl at h
      rw [Bool.and_eq_true, decide_eq_true_eq] at h
      exact h.1
    have hw : wrap64 ((s.size : Int) - 1) = ((s.size - 1 : Nat) : Int) := by rw [wrap_in (by omega) (by omega)]; omega
    rw [if_pos rfl, h1, hw, if_pos (by omega), if_pos (by omega), if_pos rfl, Int.toNat_natCast]; rfl
  | false => rw [if_neg (by simp), if_neg (by simp)]; rfl
def lineErr (s : ByteArray) : Int := if s.size > 4097 then 3 else if txt (cutNl s) = true then 0 else 1
theorem tty_line_f (s : ByteArray) (hs : s.size ≤ 140737488351232) : Ev (fun k => tty_line.f k s) (lineErr s) := by
  unfold tty_line.f lineErr
  by_cases h : s.size > 4097
  · exact ev_eq (ev_pos (by omega) (ev_some rfl)) (by rw [if_pos h])
  · refine ev_neg (by omega) (ev_bindc (trim_f s hs) (Ev.bind (tty_text_f _ (Nat.le_trans (cutNl_size s) hs)) ?_))
    rw [if_neg h]
    cases txt (cutNl s) with
    | true => exact ev_pos rfl (ev_some rfl)
    | false => exact ev_neg (by simp) (ev_some rfl)
/-- The first error among the lines, and what follows. -/
def linesErr (o : ByteArray) : List ByteArray → Int
  | [] => if o.size > 65536 then 3 else 0
  | s :: l => if lineErr s = 0 then linesErr o l else lineErr s
def valErr (sid fg : Int) (e : ByteArray) (l : List ByteArray) (o : ByteArray) : Int := if sid < 0 ∨ fg < 0 then 1 else if e.size > 4096 then 3 else if txt e = true then (if l.length > 512 then 4 else linesErr o l) else 1
theorem rdOf_cons (l : List ByteArray) (i : Nat) (h : i < l.length) : l.drop i = rdOf ByteArray.empty l (i : Int) :: l.drop (i + 1) := by
  rw [List.drop_eq_getElem_cons h]
  unfold rdOf
  rw [Int.toNat_natCast, List.getD_eq_getElem?_getD, List.getElem?_eq_getElem h]; rfl
theorem tty_val_l0 (sid fg : Int) (e : ByteArray) (l : List ByteArray) (o : ByteArray) (ts : Bool) (hl : l.length ≤ 1000) (ho : ∀ x ∈ l, x.size ≤ 140737488351232) : ∀ (m i : Nat), i + m = l.length →
    Ev (fun k => tty_Valid.l0 k l (l.length : Int) (i : Int) sid fg e l o ts) (linesErr o (l.drop i))
  | 0, i, h => by
    refine Ev.step (fun k => by apply tty_Valid.l0.eq_2) (ev_neg (by omega) ?_)
    rw [List.drop_eq_nil_of_le (by omega), linesErr]
    by_cases hs : o.size > 65536
    · exact ev_eq (ev_pos (by omega) (ev_some rfl)) (by rw [if_pos hs])
    · exact ev_eq (ev_neg (by omega) (ev_some rfl)) (by rw [if_neg hs])
  | m + 1, i, h => by
    refine Ev.step (fun k => by apply tty_Valid.l0.eq_2) ?_
    have hw : wrap64 ((i : Int) + 1) = ((i + 1 : Nat) : Int) := by rw [wrap_in (by omega) (by omega)]; omega
    have hc := rdOf_cons l i (by omega)
    have hm : rdOf ByteArray.empty l (i : Int) ∈ l := List.mem_of_mem_drop (by rw [hc]; exact List.mem_cons_self)
    refine ev_pos (by omega) (ev_pos (by omega) (ev_pos (by omega) (Ev.bind (tty_line_f _ (ho _ hm)) ?_)))
    rw [hc, linesErr]
    by_cases h0 : lineErr (rdOf ByteArray.empty l (i : Int)) = 0
    · exact ev_eq (ev_pos h0 (by rw [hw]; exact tty_val_l0 sid fg e l o ts hl ho m (i + 1) (by omega))) (by rw [if_pos h0])
    · exact ev_eq (ev_neg h0 (ev_some rfl)) (by rw [if_neg h0])
theorem tty_val_f (sid fg : Int) (e : ByteArray) (l : List ByteArray) (o : ByteArray) (ts : Bool) (hl : l.length ≤ 1000) (he : e.size ≤ 140737488351232) (ho : ∀ x ∈ l, x.size ≤ 140737488351232) : Ev (fun k => tty_Valid.f k sid fg e l o ts) (valErr sid fg e l o) := by
  have core : ∀ (b : Bool), b = decide (sid < 0 ∨ fg < 0) → Ev (fun k => tty_Valid.j0 k b sid fg e l o ts) (valErr sid fg e l o) := by
    intro b hb
    refine Ev.step (fun k => by apply tty_Valid.j0.eq_2) ?_
    unfold valErr
    by_cases h0 : sid < 0 ∨ fg < 0
    · exact ev_eq (ev_pos (by rw [hb]; exact decide_eq_true h0) (ev_some rfl)) (by rw [if_pos h0])
    · rw [if_neg h0]
      refine ev_neg (by rw [hb]; simpa using h0) ?_
      by_cases h1 : e.size > 4096
      · exact ev_eq (ev_pos (by omega) (ev_some rfl)) (by rw [if_pos h1])
      · rw [if_neg h1]
        refine ev_neg (by omega) (Ev.bind (tty_text_f e he) ?_)
        cases txt e with
        | false => exact ev_neg (by simp) (ev_some rfl)
        | true =>
          refine ev_pos rfl ?_
          rw [if_pos rfl]
          by_cases h2 : l.length > 512
          · exact ev_eq (ev_pos (by omega) (ev_some rfl)) (by rw [if_pos h2])
          · rw [if_neg h2]
            exact ev_neg (by omega) (tty_val_l0 sid fg e l o ts hl ho l.length 0 (by omega))
  unfold tty_Valid.f
  by_cases h0 : sid < 0
  · exact ev_pos h0 (core true (by simp [h0]))
  · exact ev_neg h0 (core (decide (fg < 0)) (by simp [h0]))
end Go.Proofs.Ytoecolllimgbgaa.Ta
/- Terminals: a key, keys in succession, and when two terminals are one. -/
namespace Go.Proofs.Ytoecolllimgbgaa.Tb
open Go.RowKit Go.Proofs.Ytoecolllimgbgaa.Q Go.Proofs.YtoecolllimgbgaaW.PrintWords Go.Proofs.YtoecolllimgbgaaW.PrintLast Go.Proofs.YtoecolllimgbgaaM Go.Proofs.Ytoecolllimgbgaa.Ta
/-- What a key makes of the line under edit and of the lines, and its signal. -/
def key (e : ByteArray) (l : List ByteArray) (c : Int) : ByteArray × List ByteArray × Int :=
  if c = 3 then (⟨#[]⟩, l, 2) else if c = 26 then (⟨#[]⟩, l, 20) else if c = 28 then (⟨#[]⟩, l, 3) else
  if c = 127 then (if e.toList = [] then (e, l, 0) else (e.extract 0 (e.size - 1), l, 0)) else
  if c = 21 then (⟨#[]⟩, l, 0) else
  if c = 4 then (if l.length < 512 then (⟨#[]⟩, l ++ [e], 0) else (e, l, 0)) else
  if c = 10 then (if l.length < 512 then (⟨#[]⟩, l ++ [e ++ (⟨#[10]⟩ : ByteArray)], 0) else (e, l, 0)) else
  if tb c = true then (if e.size < 4096 then (e ++ strOfNums [c], l, 0) else (e, l, 0)) else (e, l, 0)
theorem one_size (c : Int) : (strOfNums [c]).size = 1 := rfl
theorem app_size (a b : ByteArray) : (a ++ b).size = a.size + b.size := ByteArray.size_append
theorem app_nil (a : ByteArray) : a ++ (⟨#[]⟩ : ByteArray) = a := ByteArray.append_empty
theorem nil_size : (⟨#[]⟩ : ByteArray).size = 0 := rfl
theorem key_keeps (e : ByteArray) (l : List ByteArray) (c : Int) (hl : l.length ≤ 512) (he : e.size ≤ 4096) : (key e l c).2.1.length ≤ 512 ∧ (key e l c).1.size ≤ 4096 := by
  unfold key
  repeat' split
  all_goals first | exact ⟨hl, he⟩ | exact ⟨hl, by show (⟨#[]⟩ : ByteArray).size ≤ 4096; rw [nil_size]; omega⟩ | exact ⟨by show (l ++ [_]).length ≤ 512; rw [List.length_append, List.length_singleton]; omega, by show (⟨#[]⟩ : ByteArray).size ≤ 4096; rw [nil_size]; omega⟩ | exact ⟨hl, by show (e.extract 0 _).size ≤ 4096; rw [ByteArray.size_extract]; omega⟩ | exact ⟨hl, by show (e ++ strOfNums [c]).size ≤ 4096; rw [app_size, one_size]; omega⟩
def sg (c : Int) : Int := if c = 3 then 2 else if c = 26 then 20 else if c = 28 then 3 else 0
theorem signal_f (c : Int) : tty_signal.f c = some (sg c) := by
  unfold tty_signal.f sg
  repeat' split
  all_goals rfl
section
variable (sid fg : Int) (e : ByteArray) (l : List ByteArray) (o : ByteArray) (ts : Bool)
theorem end_f (s : ByteArray) (hl : l.length ≤ 512) (he : e.size ≤ 4096) (hs : s.size ≤ 1) : tty_end.f sid fg e l o ts s = some (if l.length < 512 then (sid, fg, (⟨#[]⟩ : ByteArray), l ++ [e ++ s], o, ts) else (sid, fg, e, l, o, ts)) := by
  unfold tty_end.f
  by_cases h : l.length < 512
  · rw [if_neg (by omega), if_pos h]
    unfold slices_Clone_string_string.f
    rw [if_pos (by omega), Option.bind_some, if_pos (by omega), Option.bind_some, if_pos (by rw [List.length_singleton]; omega)]
  · rw [if_pos (by omega), if_neg h]
theorem lastw (h : 0 < e.size) (he : e.size ≤ 4096) : wrap64 ((e.size : Int) - 1) = ((e.size - 1 : Nat) : Int) := by rw [wrap_in (by omega) (by omega)]; omega
theorem pos_of (h : e.toList ≠ []) : 0 < e.size := by
  rcases Nat.eq_zero_or_pos e.size with hz | hz
  · exact absurd (List.eq_nil_of_length_eq_zero ((toList_length e).trans hz)) h
  · exact hz
def keyT (c : Int) : Int × Int × ByteArray × List ByteArray × ByteArray × Bool × Int := (sid, fg, (key e l c).1, (key e l c).2.1, o, ts, (key e l c).2.2)
theorem tty_key_f (c : Int) (hl : l.length ≤ 512) (he : e.size ≤ 4096) : Ev (fun k => tty_Key.f k sid fg e l o ts c) (keyT sid fg e l o ts c) := by
  have core : ∀ b, b = decide (c = 3 ∨ c = 26 ∨ c = 28) → c ≠ 4 → c ≠ 10 → c ≠ 127 → Ev (fun k => tty_Key.j0 k c (sg c) c b sid fg e l o ts) (keyT sid fg e l o ts c) := by
    intro b hb h4 h10 h127
    refine Ev.step (fun k => by apply tty_Key.j0.eq_2) ?_
    unfold keyT key sg
    by_cases h3 : c = 3
    · exact ev_eq (ev_pos (by rw [hb]; simp [h3]) (ev_some rfl)) (by simp [h3])
    by_cases h26 : c = 26
    · exact ev_eq (ev_pos (by rw [hb]; simp [h26]) (ev_some rfl)) (by simp [h26])
    by_cases h28 : c = 28
    · exact ev_eq (ev_pos (by rw [hb]; simp [h28]) (ev_some rfl)) (by simp [h28])
    refine ev_neg (by rw [hb]; simp [h3, h26, h28]) ?_
    by_cases h21 : c = 21
    · exact ev_eq (ev_pos h21 (ev_some rfl)) (by simp [h21])
    refine ev_neg h21 (ev_bindc (tty_tb c) ?_)
    cases ht : tb c with
    | true =>
      refine ev_pos rfl ?_
      by_cases hs : e.size < 4096
      · exact ev_eq (ev_pos (by omega) (ev_bindc rfl (ev_pos (by rw [one_size]; omega) (ev_some rfl)))) (by simp [h3, h26, h28, h127, h21, h4, h10, ht, hs])
      · exact ev_eq (ev_neg (by omega) (ev_some rfl)) (by simp [h3, h26, h28, h127, h21, h4, h10, ht, hs])
    | false => exact ev_eq (ev_neg (by simp) (ev_some rfl)) (by simp [h3, h26, h28, h127, h21, h4, h10, ht])
  unfold tty_Key.f
  refine ev_bindc (signal_f c) ?_
  by_cases h4 : c = 4
  · refine ev_eq (ev_pos h4 (ev_bindc (end_f sid fg e l o ts _ hl he (Nat.zero_le _)) (ev_some rfl))) ?_
    unfold keyT key
    by_cases h : l.length < 512 <;> simp [h4, h, app_nil]
  refine ev_neg h4 ?_
  by_cases h10 : c = 10
  · refine ev_eq (ev_pos h10 (ev_bindc (end_f sid fg e l o ts _ hl he (Nat.le_refl 1)) (ev_some rfl))) ?_
    unfold keyT key
    by_cases h : l.length < 512 <;> simp [h10, h]
  refine ev_neg h10 ?_
  by_cases h127 : c = 127
  · refine ev_pos h127 ?_
    by_cases h0 : e.toList = []
    · refine ev_eq (ev_pos h0 (ev_some rfl)) ?_
      unfold keyT key sg
      simp [h127, h0]
    · have hp := pos_of e h0
      have hw := lastw e hp he
      refine ev_eq (ev_neg h0 (ev_pos (by rw [hw]; omega) (ev_pos (by rw [hw]; omega) (ev_some rfl)))) ?_
      unfold keyT key sg
      simp [h127, h0, hw]
  refine ev_neg h127 ?_
  by_cases h3 : c = 3
  · exact ev_pos h3 (core _ (by simp [h3]) h4 h10 h127)
  refine ev_neg h3 ?_
  by_cases h26 : c = 26
  · exact ev_pos h26 (core _ (by simp [h26]) h4 h10 h127)
  exact ev_neg h26 (core _ (by by_cases h28 : c = 28 <;> simp [h3, h26, h28]) h4 h10 h127)
end
/-- Keys in succession. -/
def feed (e : ByteArray) (l : List ByteArray) (g : List Int) : List UInt8 → ByteArray × List ByteArray × List Int
  | [] => (e, l, g)
  | b :: s => feed (key e l (b.toNat : Int)).1 (key e l (b.toNat : Int)).2.1 (if (key e l (b.toNat : Int)).2.2 = 0 then g else g ++ [(key e l (b.toNat : Int)).2.2]) s
def feedT (sid fg : Int) (e : ByteArray) (l : List ByteArray) (o : ByteArray) (ts : Bool) (g : List Int) (s : List UInt8) : Int × Int × ByteArray × List ByteArray × ByteArray × Bool × List Int := (sid, fg, (feed e l g s).1, (feed e l g s).2.1, o, ts, (feed e l g s).2.2)
theorem drop_cons (s : ByteArray) (i : Nat) (h : i < s.size) : s.toList.drop i = s.toList.getD i 0 :: s.toList.drop (i + 1) := by
  have h' : i < s.toList.length := by rw [toList_length]; exact h
  rw [List.drop_eq_getElem_cons h', List.getD_eq_getElem?_getD, List.getElem?_eq_getElem h']; rfl
section
variable (sid fg : Int) (o : ByteArray) (ts : Bool) (s : ByteArray) (hs : s.size ≤ 1000)
include hs in
theorem tty_feed_l0 : ∀ (m i : Nat) (e : ByteArray) (l : List ByteArray) (g : List Int), i + m = s.size → l.length ≤ 512 → e.size ≤ 4096 → g.length ≤ i →
    Ev (fun k => tty_Feed.l0 k s g (s.size : Int) (i : Int) sid fg e l o ts) (feedT sid fg e l o ts g (s.toList.drop i))
  | 0, i, e, l, g, h, hl, he, hg => by
    refine Ev.step (fun k => by apply tty_Feed.l0.eq_2) (ev_neg (by omega) (ev_some ?_))
    rw [List.drop_eq_nil_of_le (by rw [toList_length]; omega)]; rfl
  | m + 1, i, e, l, g, h, hl, he, hg => by
    have hw : wrap64 ((i : Int) + 1) = ((i + 1 : Nat) : Int) := by rw [wrap_in (by omega) (by omega)]; omega
    have hb := bt_get s i (by omega)
    have hk := key_keeps e l (bt s (i : Int)) hl he
    refine Ev.step (fun k => by apply tty_Feed.l0.eq_2) (ev_pos (by omega) (ev_pos (by omega) (ev_pos (by omega) (Ev.bind (tty_key_f sid fg e l o ts _ hl he) ?_))))
    rw [drop_cons s i (by omega)]
    unfold feedT feed
    rw [← show bt s (i : Int) = ((s.toList.getD i 0).toNat : Int) from hb]
    unfold keyT
    by_cases h0 : (key e l (bt s (i : Int))).2.2 = 0
    · rw [if_pos h0]
      refine ev_pos h0 ?_
      rw [hw]
      exact tty_feed_l0 m (i + 1) _ _ g (by omega) hk.1 hk.2 (by omega)
    · rw [if_neg h0]
      refine ev_neg h0 (ev_pos (by omega) ?_)
      rw [hw]
      exact tty_feed_l0 m (i + 1) _ _ _ (by omega) hk.1 hk.2 (by rw [List.length_append, List.length_singleton]; omega)
include hs in
include hs in
theorem tty_feed_f (e : ByteArray) (l : List ByteArray) (hl : l.length ≤ 512) (he : e.size ≤ 4096) : Ev (fun k => tty_Feed.f k sid fg e l o ts s) (feedT sid fg e l o ts [] s.toList) := tty_feed_l0 sid fg o ts s hs s.size 0 e l [] (by omega) hl he (Nat.zero_le _)
include hs in
end
end Go.Proofs.Ytoecolllimgbgaa.Tb
/- Terminals: reading and writing; keys in two parts. -/
namespace Go.Proofs.Ytoecolllimgbgaa.Tc
open Go.RowKit Go.Proofs.Ytoecolllimgbgaa.Q Go.Proofs.YtoecolllimgbgaaW.PrintWords Go.Proofs.YtoecolllimgbgaaW.PrintLast Go.Proofs.YtoecolllimgbgaaM Go.Proofs.Ytoecolllimgbgaa.Ta Go.Proofs.Ytoecolllimgbgaa.Tb
set_option linter.unusedVariables false
/-- What a read answers. -/
def readT (sid fg : Int) (e : ByteArray) (l : List ByteArray) (o : ByteArray) (ts : Bool) (n : Int) : Int × Int × ByteArray × List ByteArray × ByteArray × Bool × ByteArray × Int :=
  if n < 1 then (sid, fg, e, l, o, ts, (⟨#[]⟩ : ByteArray), 1) else
  match l with
  | [] => (sid, fg, e, [], o, ts, (⟨#[]⟩ : ByteArray), 2)
  | x :: t => if x.toList = [] then (sid, fg, e, t, o, ts, (⟨#[]⟩ : ByteArray), 3) else if (x.size : Int) ≤ n then (sid, fg, e, t, o, ts, x, 1) else (sid, fg, e, x.extract n.toNat x.size :: t, o, ts, x.extract 0 n.toNat, 1)
section
variable (sid fg : Int) (e : ByteArray) (o : ByteArray) (ts : Bool)
theorem clone_f (l : List ByteArray) (hl : l.length ≤ 512) : slices_Clone_string_string.f l = some l := by
  unfold slices_Clone_string_string.f
  exact if_pos (by omega)
theorem delete_f (x : ByteArray) (t : List ByteArray) : slices_Delete_string_string.f (x :: t) 0 1 = some t := by
  unfold slices_Delete_string_string.f
  rw [if_pos (Int.le_refl 0), if_pos (by rw [List.length_cons]; omega), if_pos (show (1 : Int) = 0 + 1 from rfl)]
  rfl
theorem head_of (x : ByteArray) (t : List ByteArray) : rdOf ByteArray.empty (x :: t) 0 = x := rfl
theorem tty_read_f (l : List ByteArray) (n : Int) (hl : l.length ≤ 512) : tty_Read.f sid fg e l o ts n = some (readT sid fg e l o ts n) := by
  unfold tty_Read.f readT
  by_cases h1 : n < 1
  · rw [if_pos h1, if_pos h1]
  rw [if_neg h1, if_neg h1]
  cases l with
  | nil => rfl
  | cons x t =>
    have hp : (0 : Int) < ((x :: t).length : Int) := by rw [List.length_cons]; omega
    rw [if_neg (by omega), if_pos hp, clone_f _ hl, Option.bind_some, head_of]
    show _ = some (if x.toList = [] then _ else if (x.size : Int) ≤ n then _ else _)
    by_cases h2 : x.toList = []
    · rw [if_pos h2, if_pos h2, delete_f, Option.bind_some]
    rw [if_neg h2, if_neg h2]
    by_cases h3 : (x.size : Int) ≤ n
    · rw [if_pos h3, if_pos h3, delete_f, Option.bind_some]
    rw [if_neg h3, if_neg h3, if_pos (by omega), if_pos (by omega), if_pos hp]
    rfl
theorem readT_same (l : List ByteArray) (n : Int) : ∃ l', (readT sid fg e l o ts n) = (sid, fg, e, l', o, ts, (readT sid fg e l o ts n).2.2.2.2.2.2.1, (readT sid fg e l o ts n).2.2.2.2.2.2.2) := by
  unfold readT
  repeat' split
  all_goals exact ⟨_, rfl⟩
/-- What a write makes of what was written. -/
def wr (o s : ByteArray) : ByteArray := o ++ s.extract 0 (if 65536 - o.size > s.size then s.size else 65536 - o.size)
theorem wr_room {o : ByteArray} (ho : o.size ≤ 65536) : wrap64 (65536 - (o.size : Int)) = ((65536 - o.size : Nat) : Int) := by rw [wrap_in (by omega) (by omega)]; omega
theorem ext_le (s : ByteArray) (n : Nat) : (s.extract 0 n).size ≤ s.size := by rw [ByteArray.size_extract]; omega
theorem tty_write_f (l : List ByteArray) (s : ByteArray) (ho : o.size ≤ 65536) (hs : s.size ≤ 70000) : tty_Write.f sid fg e l o ts s = some (sid, fg, e, l, wr o s, ts) := by
  have hr : mn (mx 0 (wrap64 (65536 - (o.size : Int)))) (s.size : Int) = ((if 65536 - o.size > s.size then s.size else 65536 - o.size : Nat) : Int) := by
    rw [wr_room ho]
    unfold mn mx
    repeat' split
    all_goals omega
  have hx := ext_le s (if 65536 - o.size > s.size then s.size else 65536 - o.size)
  unfold tty_Write.f wr
  rw [hr, if_pos (by omega), if_pos (by split <;> omega), Int.toNat_natCast, if_pos (by omega)]
end
theorem app_list (a b : ByteArray) : (a ++ b).toList = a.toList ++ b.toList := by
  rw [toList_data, toList_data, toList_data, ByteArray.data_append, Array.toList_append]
end Go.Proofs.Ytoecolllimgbgaa.Tc
/- Terminals: a line of printable bytes, typed and read back in pieces. -/
namespace Go.Proofs.Ytoecolllimgbgaa.Te
open Go.RowKit Go.Proofs.Ytoecolllimgbgaa.Q Go.Proofs.YtoecolllimgbgaaW.PrintWords Go.Proofs.YtoecolllimgbgaaW.PrintLast Go.Proofs.YtoecolllimgbgaaM Go.Proofs.Ytoecolllimgbgaa.Ta Go.Proofs.Ytoecolllimgbgaa.Tb Go.Proofs.Ytoecolllimgbgaa.Tc
set_option linter.unusedVariables false
section
variable (sid fg : Int) (o : ByteArray) (ts : Bool) (s : ByteArray) (hs : s.size ≤ 100000)
include hs in
include hs in
end
theorem one_list (b : UInt8) : (strOfNums [(b.toNat : Int)]).toList = [b] := by
  rw [toList_data]
  show [UInt8.ofNat ((b.toNat : Int).toNat)] = [b]
  simp
theorem nl_list : (⟨#[10]⟩ : ByteArray).toList = [10] := by rw [toList_data]
theorem nil_list : (⟨#[]⟩ : ByteArray).toList = [] := by rw [toList_data]
theorem ext_all (y : ByteArray) : y.extract 0 y.size = y := by apply toList_inj; rw [toList_extract, List.drop_zero, List.take_of_length_le (by rw [toList_length]; exact Nat.le_refl _)]
end Go.Proofs.Ytoecolllimgbgaa.Te
/- Terminals: what every operation keeps. -/
namespace Go.Proofs.Ytoecolllimgbgaa.Tf
open Go.RowKit Go.Proofs.Ytoecolllimgbgaa.Q Go.Proofs.YtoecolllimgbgaaW.PrintWords Go.Proofs.YtoecolllimgbgaaW.PrintLast Go.Proofs.YtoecolllimgbgaaM Go.Proofs.Ytoecolllimgbgaa.Ta Go.Proofs.Ytoecolllimgbgaa.Tb Go.Proofs.Ytoecolllimgbgaa.Tc Go.Proofs.Ytoecolllimgbgaa.Te
set_option linter.unusedVariables false
/-- A readable line's bytes: printable, but for a newline at the end. -/
def Lin (L : List UInt8) : Prop := ∃ t : List UInt8, t.all okb = true ∧ (L = t ∨ L = t ++ [10])
theorem Lin.drop {L : List UInt8} (h : Lin L) (n : Nat) : Lin (L.drop n) := by
  obtain ⟨t, ht, e | e⟩ := h
  · rw [e]
    exact ⟨t.drop n, List.all_eq_true.2 (fun b hb => List.all_eq_true.1 ht b (List.mem_of_mem_drop hb)), .inl rfl⟩
  · rw [e]
    by_cases hn : n ≤ t.length
    · exact ⟨t.drop n, List.all_eq_true.2 (fun b hb => List.all_eq_true.1 ht b (List.mem_of_mem_drop hb)), .inr (List.drop_append_of_le_length hn)⟩
    · exact ⟨[], rfl, .inl (List.drop_eq_nil_of_le (by rw [List.length_append, List.length_singleton]; omega))⟩
theorem okb_ne {b : UInt8} (h : okb b = true) : b ≠ 10 := fun e => by rw [e] at h; exact absurd h (by decide)
theorem lineErr_of (x : ByteArray) (hx : x.size ≤ 4097) (h : Lin x.toList) : lineErr x = 0 := by
  have key : txt (cutNl x) = true := by
    obtain ⟨t, ht, e | e⟩ := h
    · have hn : endsNl x = false := by
        unfold endsNl
        by_cases h0 : 0 < x.size
        · rw [decide_eq_true h0, Bool.true_and]
          have hl : x.size - 1 < x.toList.length := by rw [toList_length]; omega
          have hm : x.toList.getD (x.size - 1) 0 ∈ x.toList := by
            rw [List.getD_eq_getElem?_getD, List.getElem?_eq_getElem hl]
            exact List.getElem_mem _
          have hm' : x.toList.getD (x.size - 1) 0 ∈ t := by rw [← e]; exact hm
          have := okb_ne (List.all_eq_true.1 ht _ hm')
          simpa using this
        · rw [decide_eq_false h0]; rfl
      unfold cutNl
      rw [hn, if_neg (by simp)]
      unfold txt
      rw [e]
      exact ht
    · have hs : x.size = t.length + 1 := by rw [← toList_length, e, List.length_append, List.length_singleton]
      have hn : endsNl x = true := by
        unfold endsNl
        rw [decide_eq_true (by omega), Bool.true_and, hs, e, Nat.add_sub_cancel, List.getD_eq_getElem?_getD, List.getElem?_append_right (Nat.le_refl _), Nat.sub_self]
        rfl
      unfold cutNl
      rw [hn, if_pos rfl]
      unfold txt
      rw [toList_extract, List.drop_zero, e, hs, Nat.add_sub_cancel, List.take_left]
      exact ht
  unfold lineErr
  rw [if_neg (by omega), if_pos key]
/-- What every operation keeps. -/
structure Fit (e : ByteArray) (l : List ByteArray) : Prop where
  he : e.size ≤ 4096
  ht : txt e = true
  hl : l.length ≤ 512
  hx : ∀ x ∈ l, x.size ≤ 4097 ∧ Lin x.toList
theorem linesErr_of (o : ByteArray) (ho : o.size ≤ 65536) : ∀ (l : List ByteArray), (∀ x ∈ l, x.size ≤ 4097 ∧ Lin x.toList) → linesErr o l = 0
  | [], _ => by rw [linesErr, if_neg (by omega)]
  | x :: l, h => by
    have h1 := h x List.mem_cons_self
    rw [linesErr, if_pos (lineErr_of x h1.1 h1.2)]
    exact linesErr_of o ho l (fun y hy => h y (List.mem_cons_of_mem _ hy))
theorem Fit.val {e : ByteArray} {l : List ByteArray} (h : Fit e l) (o : ByteArray) (ho : o.size ≤ 65536) : valErr 0 0 e l o = 0 := by
  unfold valErr
  rw [if_neg (by decide), if_neg (by have := h.he; omega), if_pos h.ht, if_neg (by have := h.hl; omega)]
  exact linesErr_of o ho l h.hx
theorem txt_nil : txt ⟨#[]⟩ = true := by unfold txt; rw [nil_list]; rfl
theorem Fit.nil {l : List ByteArray} (hl : l.length ≤ 512) (hx : ∀ x ∈ l, x.size ≤ 4097 ∧ Lin x.toList) : Fit ⟨#[]⟩ l := ⟨by show 0 ≤ 4096; omega, txt_nil, hl, hx⟩
theorem Fit.line {e : ByteArray} {l : List ByteArray} (h : Fit e l) (hl : l.length < 512) (x : ByteArray) (h1 : x.size ≤ 4097) (h2 : Lin x.toList) : Fit ⟨#[]⟩ (l ++ [x]) :=
  Fit.nil (by rw [List.length_append, List.length_singleton]; omega) (fun y hy => by
    rcases List.mem_append.1 hy with hy | hy
    · exact h.hx y hy
    · obtain rfl := List.mem_singleton.1 hy
      exact ⟨h1, h2⟩)
theorem Fit.key {e : ByteArray} {l : List ByteArray} (h : Fit e l) (b : UInt8) : Fit (key e l (b.toNat : Int)).1 (key e l (b.toNat : Int)).2.1 := by
  have hn := Fit.nil h.hl h.hx
  have he := h.he
  unfold Tb.key
  by_cases h3 : (b.toNat : Int) = 3
  · rw [if_pos h3]; exact hn
  rw [if_neg h3]
  by_cases h26 : (b.toNat : Int) = 26
  · rw [if_pos h26]; exact hn
  rw [if_neg h26]
  by_cases h28 : (b.toNat : Int) = 28
  · rw [if_pos h28]; exact hn
  rw [if_neg h28]
  by_cases h127 : (b.toNat : Int) = 127
  · rw [if_pos h127]
    by_cases h0 : e.toList = []
    · rw [if_pos h0]; exact h
    · rw [if_neg h0]
      refine ⟨by show (e.extract 0 (e.size - 1)).size ≤ 4096; rw [ByteArray.size_extract]; omega, ?_, h.hl, h.hx⟩
      show txt (e.extract 0 (e.size - 1)) = true
      unfold txt
      rw [toList_extract, List.drop_zero]
      exact List.all_eq_true.2 (fun x hx => List.all_eq_true.1 h.ht x (List.mem_of_mem_take hx))
  rw [if_neg h127]
  by_cases h21 : (b.toNat : Int) = 21
  · rw [if_pos h21]; exact hn
  rw [if_neg h21]
  by_cases h4 : (b.toNat : Int) = 4
  · rw [if_pos h4]
    by_cases h0 : l.length < 512
    · rw [if_pos h0]; exact h.line h0 e (by omega) ⟨e.toList, h.ht, .inl rfl⟩
    · rw [if_neg h0]; exact h
  rw [if_neg h4]
  by_cases h10 : (b.toNat : Int) = 10
  · rw [if_pos h10]
    by_cases h0 : l.length < 512
    · rw [if_pos h0]; exact h.line h0 _ (by rw [app_size]; show e.size + 1 ≤ 4097; omega) ⟨e.toList, h.ht, .inr (by rw [app_list, nl_list])⟩
    · rw [if_neg h0]; exact h
  rw [if_neg h10]
  by_cases ht : tb (b.toNat : Int) = true
  · rw [if_pos ht]
    by_cases h0 : e.size < 4096
    · rw [if_pos h0]
      refine ⟨by show (e ++ strOfNums [(b.toNat : Int)]).size ≤ 4096; rw [app_size, one_size]; omega, ?_, h.hl, h.hx⟩
      show txt (e ++ strOfNums [(b.toNat : Int)]) = true
      unfold txt
      rw [app_list, one_list, List.all_append, Bool.and_eq_true]
      exact ⟨h.ht, by rw [List.all_cons, List.all_nil, Bool.and_true]; exact ht⟩
    · rw [if_neg h0]; exact h
  · rw [if_neg ht]; exact h
theorem Fit.feed : ∀ (s : List UInt8) {e : ByteArray} {l : List ByteArray} (g : List Int), Fit e l → Fit (feed e l g s).1 (feed e l g s).2.1
  | [], e, l, g, h => h
  | b :: s, e, l, g, h => by
    unfold Tb.feed
    exact Fit.feed s _ (h.key b)
theorem Fit.read {e : ByteArray} {l : List ByteArray} (h : Fit e l) (sid fg : Int) (o : ByteArray) (ts : Bool) (n : Int) : Fit e (readT sid fg e l o ts n).2.2.2.1 := by
  unfold readT
  by_cases h1 : n < 1
  · rw [if_pos h1]; exact h
  rw [if_neg h1]
  cases l with
  | nil => exact h
  | cons x t =>
    have hl := h.hl
    rw [List.length_cons] at hl
    have ht : Fit e t := ⟨h.he, h.ht, by omega, fun y hy => h.hx y (List.mem_cons_of_mem _ hy)⟩
    show Fit e ((if x.toList = [] then _ else if (x.size : Int) ≤ n then _ else _) : Int × Int × ByteArray × List ByteArray × ByteArray × Bool × ByteArray × Int).2.2.2.1
    by_cases h2 : x.toList = []
    · rw [if_pos h2]; exact ht
    rw [if_neg h2]
    by_cases h3 : (x.size : Int) ≤ n
    · rw [if_pos h3]; exact ht
    rw [if_neg h3]
    have hx := h.hx x List.mem_cons_self
    refine ⟨h.he, h.ht, by show (_ :: t).length ≤ 512; rw [List.length_cons]; omega, fun y hy => ?_⟩
    rcases List.mem_cons.1 hy with rfl | hy
    · refine ⟨by rw [ByteArray.size_extract]; omega, ?_⟩
      rw [toList_extract, List.take_of_length_le (by rw [toList_length]; exact Nat.le_refl _)]
      exact hx.2.drop _
    · exact ht.hx y hy
theorem wr_all (o s : ByteArray) (h : o.size + s.size ≤ 65536) : wr o s = o ++ s := by
  unfold wr
  by_cases h1 : 65536 - o.size > s.size
  · rw [if_pos h1, ext_all]
  · have e : 65536 - o.size = s.size := by omega
    rw [if_neg h1, e, ext_all]
theorem stays_l0 (ops : List S47) (hl : ops.length ≤ 40) : ∀ (m i : Nat) (e : ByteArray) (l : List ByteArray) (o : ByteArray), i + m = ops.length → Fit e l → o.size ≤ 100 * i →
    Ev (fun k => jobshelllaw26_TtyStays.l0 k ops (i : Int) 0 0 e l o false) true
  | 0, i, e, l, o, h, _, _ => Ev.step (fun k => by apply jobshelllaw26_TtyStays.l0.eq_2) (ev_neg (by omega) (Ev.bind awake_ev (ev_some rfl)))
  | m + 1, i, e, l, o, h, hf, ho => by
    have hw : wrap64 ((i : Int) + 1) = ((i + 1 : Nat) : Int) := by rw [wrap_in (by omega) (by omega)]; omega
    have hval : ∀ {e' : ByteArray} {l' : List ByteArray} {o' : ByteArray}, Fit e' l' → o'.size ≤ 65536 → Ev (fun k => tty_Valid.f k 0 0 e' l' o' false) 0 := by
      intro e' l' o' h1 h2
      have hv := tty_val_f 0 0 e' l' o' false (by have := h1.hl; omega) (by have := h1.he; omega) (fun x hx => by have := (h1.hx x hx).1; omega)
      rw [h1.val o' h2] at hv
      exact hv
    have he := hf.he
    have hll := hf.hl
    refine Ev.step (fun k => by apply jobshelllaw26_TtyStays.l0.eq_2) (ev_pos (by omega) (ev_pos (by omega) ?_))
    generalize hx : rd_T47 ops (i : Int) = x
    by_cases h100 : (x.f2.size : Int) > 100
    · exact ev_pos h100 (Ev.bind awake_ev (ev_some rfl))
    refine ev_neg h100 ?_
    by_cases h0 : x.f0 = 0
    · have ih := stays_l0 ops hl m (i + 1) _ _ o (by omega) (hf.feed x.f2.toList []) (by omega)
      refine ev_pos h0 (Ev.bind (tty_feed_f 0 0 o false x.f2 (by omega) e l hll he) (Ev.bind (hval (hf.feed x.f2.toList []) (show o.size ≤ 65536 by omega)) (ev_pos rfl (ev_pos rfl ?_))))
      rw [hw]
      exact ih
    refine ev_neg h0 ?_
    by_cases h1 : x.f0 = 1
    · have ih := stays_l0 ops hl m (i + 1) _ _ o (by omega) (hf.read 0 0 o false x.f1) (by omega)
      have hv := hval (o' := o) (hf.read 0 0 o false x.f1) (by omega)
      obtain ⟨l', hr⟩ := readT_same 0 0 e o false l x.f1
      have hr4 : (readT 0 0 e l o false x.f1).2.2.2.1 = l' := by rw [hr]
      rw [hr4] at ih hv
      refine ev_pos h1 (ev_bindc (tty_read_f 0 0 e o false l x.f1 hll) ?_)
      rw [hr]
      refine Ev.bind hv (ev_pos rfl (ev_pos rfl ?_))
      rw [hw]
      exact ih
    · have hs := wr_all o x.f2 (by omega)
      have hsz : (o ++ x.f2).size = o.size + x.f2.size := app_size _ _
      have ih := stays_l0 ops hl m (i + 1) e l (o ++ x.f2) (by omega) hf (by omega)
      refine ev_neg h1 (ev_bindc (tty_write_f 0 0 e o false l x.f2 (by omega) (by omega)) ?_)
      rw [hs]
      refine ev_pos (by omega) (Ev.bind (hval hf (show (o ++ x.f2).size ≤ 65536 by rw [hsz]; omega)) (ev_pos rfl (ev_pos rfl ?_)))
      rw [hw]
      exact ih
end Go.Proofs.Ytoecolllimgbgaa.Tf
