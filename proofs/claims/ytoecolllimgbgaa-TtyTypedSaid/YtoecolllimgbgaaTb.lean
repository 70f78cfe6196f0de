/- Terminals: a key, keys in succession, and when two terminals are one. -/
import Derived.Test.YtoecolllimgbgaaQ14
import Derived.Test.YtoecolllimgbgaaQ15
import Derived.Test.YtoecolllimgbgaaQ16
import Derived.Test.YtoecolllimgbgaaQ17
import Derived.Test.YtoecolllimgbgaaQ18
import Derived.Test.YtoecolllimgbgaaQ5
import Derived.Test.YtoecolllimgbgaaQ6
import Derived.Test.YtoecolllimgbgaaQ8
import Derived.Test.YtoecolllimgbgaaQ9
import Derived.Test.YtoecolllimgbgaaTa
namespace Go.Proofs.Ytoecolllimgbgaa.Tb
open Go.RowKit Go.Proofs.Ytoecolllimgbgaa.Q Go.Proofs.YtoecolllimgbgaaW.PrintWords Go.Proofs.YtoecolllimgbgaaW.PrintLast Go.Proofs.YtoecolllimgbgaaM Go.Proofs.Ytoecolllimgbgaa.Ta
/-- What a key makes of the line under edit and of the lines, and its signal. -/
def key (e : ByteArray) (l : List ByteArray) (c : Int) : ByteArray × List ByteArray × Int :=
  if c = 3 then (⟨#[]⟩, l, 2) else if c = 26 then (⟨#[]⟩, l, 20) else if c = 28 then (⟨#[]⟩, l, 3) else
  if c = 127 then (if e.toList = [] then (e, l, 0) else (e.extract 0 (e.size - 1), l, 0)) else
  if c = 21 then (⟨#[]⟩, l, 0) else
  if c = 4 then (if l.length < 512 then (⟨#[]⟩, l ++ [e], 0) else (e, l, 0)) else
  if c = 10 then (if l.length < 512 then (⟨#[]⟩, l ++ [e ++ (⟨#[10]⟩ : ByteArray)], 0) else (e, l, 0)) else
  if tb c = true then (if e.size < 4096 then (e ++ strOfNums [c], l, 0) else (e, l, 0)) else (e, l, 0)
theorem one_size (c : Int) : (strOfNums [c]).size = 1 := rfl
theorem app_size (a b : ByteArray) : (a ++ b).size = a.size + b.size := ByteArray.size_append
theorem app_nil (a : ByteArray) : a ++ (⟨#[]⟩ : ByteArray) = a := ByteArray.append_empty
theorem nil_size : (⟨#[]⟩ : ByteArray).size = 0 := rfl
theorem key_keeps (e : ByteArray) (l : List ByteArray) (c : Int) (hl : l.length ≤ 512) (he : e.size ≤ 4096) : (key e l c).2.1.length ≤ 512 ∧ (key e l c).1.size ≤ 4096 := by
  unfold key
  repeat' split
  all_goals first | exact ⟨hl, he⟩ | exact ⟨hl, by show (⟨#[]⟩ : ByteArray).size ≤ 4096; rw [nil_size]; omega⟩ | exact ⟨by show (l ++ [_]).length ≤ 512; rw [List.length_append, List.length_singleton]; omega, by show (⟨#[]⟩ : ByteArray).size ≤ 4096; rw [nil_size]; omega⟩ | exact ⟨hl, by show (e.extract 0 _).size ≤ 4096; rw [ByteArray.size_extract]; omega⟩ | exact ⟨hl, by show (e ++ strOfNums [c]).size ≤ 4096; rw [app_size, one_size]; omega⟩
def sg (c : Int) : Int := if c = 3 then 2 else if c = 26 then 20 else if c = 28 then 3 else 0
theorem signal_f (c : Int) : tty_signal.f c = some (sg c) := by
  unfold tty_signal.f sg
  repeat' split
  all_goals rfl
section
variable (sid fg : Int) (e : ByteArray) (l : List ByteArray) (o : ByteArray) (ts : Bool)
theorem end_f (s : ByteArray) (hl : l.length ≤ 512) (he : e.size ≤ 4096) (hs : s.size ≤ 1) : tty_end.f sid fg e l o ts s = some (if l.length < 512 then (sid, fg, (⟨#[]⟩ : ByteArray), l ++ [e ++ s], o, ts) else (sid, fg, e, l, o, ts)) := by
  unfold tty_end.f
  by_cases h : l.length < 512
  · rw [if_neg (by omega), if_pos h]
    unfold slices_Clone_string_string.f
    rw [if_pos (by omega), Option.bind_some, if_pos (by omega), Option.bind_some, if_pos (by rw [List.length_singleton]; omega)]
  · rw [if_pos (by omega), if_neg h]
theorem lastw (h : 0 < e.size) (he : e.size ≤ 4096) : wrap64 ((e.size : Int) - 1) = ((e.size - 1 : Nat) : Int) := by rw [wrap_in (by omega) (by omega)]; omega
theorem pos_of (h : e.toList ≠ []) : 0 < e.size := by
  rcases Nat.eq_zero_or_pos e.size with hz | hz
  · exact absurd (List.eq_nil_of_length_eq_zero ((toList_length e).trans hz)) h
  · exact hz
def keyT (c : Int) : Int × Int × ByteArray × List ByteArray × ByteArray × Bool × Int := (sid, fg, (key e l c).1, (key e l c).2.1, o, ts, (key e l c).2.2)
theorem tty_key_f (c : Int) (hl : l.length ≤ 512) (he : e.size ≤ 4096) : Ev (fun k => tty_Key.f k sid fg e l o ts c) (keyT sid fg e l o ts c) := by
  have core : ∀ b, b = decide (c = 3 ∨ c = 26 ∨ c = 28) → c ≠ 4 → c ≠ 10 → c ≠ 127 → Ev (fun k => tty_Key.j0 k c (sg c) c b sid fg e l o ts) (keyT sid fg e l o ts c) := by
    intro b hb h4 h10 h127
    refine Ev.step (fun k => by apply tty_Key.j0.eq_2) ?_
    unfold keyT key sg
    by_cases h3 : c = 3
    · exact ev_eq (ev_pos (by rw [hb]; simp [h3]) (ev_some rfl)) (by simp [h3])
    by_cases h26 : c = 26
    · exact ev_eq (ev_pos (by rw [hb]; simp [h26]) (ev_some rfl)) (by simp [h26])
    by_cases h28 : c = 28
    · exact ev_eq (ev_pos (by rw [hb]; simp [h28]) (ev_some rfl)) (by simp [h28])
    refine ev_neg (by rw [hb]; simp [h3, h26, h28]) ?_
    by_cases h21 : c = 21
    · exact ev_eq (ev_pos h21 (ev_some rfl)) (by simp [h21])
    refine ev_neg h21 (ev_bindc (tty_tb c) ?_)
    cases ht : tb c with
    | true =>
      refine ev_pos rfl ?_
      by_cases hs : e.size < 4096
      · exact ev_eq (ev_pos (by omega) (ev_bindc rfl (ev_pos (by rw [one_size]; omega) (ev_some rfl)))) (by simp [h3, h26, h28, h127, h21, h4, h10, ht, hs])
      · exact ev_eq (ev_neg (by omega) (ev_some rfl)) (by simp [h3, h26, h28, h127, h21, h4, h10, ht, hs])
    | false => exact ev_eq (ev_neg (by simp) (ev_some rfl)) (by simp [h3, h26, h28, h127, h21, h4, h10, ht])
  unfold tty_Key.f
  refine ev_bindc (signal_f c) ?_
  by_cases h4 : c = 4
  · refine ev_eq (ev_pos h4 (ev_bindc (end_f sid fg e l o ts _ hl he (Nat.zero_le _)) (ev_some rfl))) ?_
    unfold keyT key
    by_cases h : l.length < 512 <;> simp [h4, h, app_nil]
  refine ev_neg h4 ?_
  by_cases h10 : c = 10
  · refine ev_eq (ev_pos h10 (ev_bindc (end_f sid fg e l o ts _ hl he (Nat.le_refl 1)) (ev_some rfl))) ?_
    unfold keyT key
    by_cases h : l.length < 512 <;> simp [h10, h]
  refine ev_neg h10 ?_
  by_cases h127 : c = 127
  · refine ev_pos h127 ?_
    by_cases h0 : e.toList = []
    · refine ev_eq (ev_pos h0 (ev_some rfl)) ?_
      unfold keyT key sg
      simp [h127, h0]
    · have hp := pos_of e h0
      have hw := lastw e hp he
      refine ev_eq (ev_neg h0 (ev_pos (by rw [hw]; omega) (ev_pos (by rw [hw]; omega) (ev_some rfl)))) ?_
      unfold keyT key sg
      simp [h127, h0, hw]
  refine ev_neg h127 ?_
  by_cases h3 : c = 3
  · exact ev_pos h3 (core _ (by simp [h3]) h4 h10 h127)
  refine ev_neg h3 ?_
  by_cases h26 : c = 26
  · exact ev_pos h26 (core _ (by simp [h26]) h4 h10 h127)
  exact ev_neg h26 (core _ (by by_cases h28 : c = 28 <;> simp [h3, h26, h28]) h4 h10 h127)
theorem with_l0 (s : ByteArray) (hl : l.length ≤ 512) : ∀ (m i : Nat), i + m = l.length → Ev (fun k => jobshellref26_with.l0 k l s (l.take i) (i : Int)) (l ++ [s])
  | 0, i, h => by
    have hi : i = l.length := h
    refine Ev.step (fun k => by apply jobshellref26_with.l0.eq_2) (ev_neg (by omega) (ev_pos (by rw [List.length_take]; omega) (ev_some ?_)))
    rw [hi, List.take_length]
  | m + 1, i, h => by
    have hw : wrap64 ((i : Int) + 1) = ((i + 1 : Nat) : Int) := by rw [wrap_in (by omega) (by omega)]; omega
    refine Ev.step (fun k => by apply jobshellref26_with.l0.eq_2) (ev_pos (by omega) (ev_pos (by omega) (ev_pos (by rw [List.length_take]; omega) ?_)))
    have e2 : l.take i ++ [rdOf ByteArray.empty l (i : Int)] = l.take (i + 1) := by
      have hi : i < l.length := by omega
      rw [List.take_succ_eq_append_getElem hi]
      unfold rdOf
      rw [Int.toNat_natCast, List.getD_eq_getElem?_getD, List.getElem?_eq_getElem hi]; rfl
    rw [hw, e2]
    exact with_l0 s hl m (i + 1) (by omega)
theorem with_f (s : ByteArray) (hl : l.length ≤ 512) : Ev (fun k => jobshellref26_with.f k l s) (l ++ [s]) := with_l0 l s hl l.length 0 (by omega)
theorem ref_key_f (c : Int) (hl : l.length ≤ 512) (he : e.size ≤ 4096) : Ev (fun k => jobshellref26_Key.f k sid fg e l o ts c) (keyT sid fg e l o ts c) := by
  have j2 : ∀ b, b = decide (c = 10 ∧ l.length < 512) → c ≠ 3 → c ≠ 26 → c ≠ 28 → (c = 127 → e.toList = []) → c ≠ 21 → (c = 4 → ¬ l.length < 512) → Ev (fun k => jobshellref26_Key.j2 k c b sid fg e l o ts) (keyT sid fg e l o ts c) := by
    intro b hb h3 h26 h28 h127 h21 h4
    refine Ev.step (fun k => by apply jobshellref26_Key.j2.eq_2) ?_
    unfold keyT key
    by_cases h10 : c = 10
    · by_cases h : l.length < 512
      · exact ev_eq (ev_pos (by rw [hb]; simp [h10, h]) (ev_pos (by omega) (Ev.bind (with_f l _ hl) (ev_some rfl)))) (by simp [h10, h])
      · refine ev_eq (ev_neg (by rw [hb]; simp [h]) (ev_bindc (ref_tb c) (ev_neg (by rw [h10]; decide) (ev_some rfl)))) (by simp [h10, h])
    · refine ev_neg (by rw [hb]; simp [h10]) (ev_bindc (ref_tb c) ?_)
      by_cases h4' : c = 4
      · have h := h4 h4'
        exact ev_eq (ev_neg (by rw [h4']; decide) (ev_some rfl)) (by simp [h4', h])
      by_cases h127' : c = 127
      · have h := h127 h127'
        exact ev_eq (ev_neg (by rw [h127']; decide) (ev_some rfl)) (by simp [h127', h])
      cases ht : tb c with
      | true =>
        refine ev_pos rfl ?_
        by_cases hs : e.size < 4096
        · exact ev_eq (ev_pos (by omega) (ev_bindc rfl (ev_pos (by rw [one_size]; omega) (ev_some rfl)))) (by simp [h3, h26, h28, h127', h21, h4', h10, ht, hs])
        · exact ev_eq (ev_neg (by omega) (ev_some rfl)) (by simp [h3, h26, h28, h127', h21, h4', h10, ht, hs])
      | false => exact ev_eq (ev_neg (by simp) (ev_some rfl)) (by simp [h3, h26, h28, h127', h21, h4', h10, ht])
  have j1 : ∀ b, b = decide (c = 4 ∧ l.length < 512) → c ≠ 3 → c ≠ 26 → c ≠ 28 → (c = 127 → e.toList = []) → c ≠ 21 → Ev (fun k => jobshellref26_Key.j1 k c b sid fg e l o ts) (keyT sid fg e l o ts c) := by
    intro b hb h3 h26 h28 h127 h21
    refine Ev.step (fun k => by apply jobshellref26_Key.j1.eq_2) ?_
    by_cases h4 : c = 4 ∧ l.length < 512
    · refine ev_eq (ev_pos (by rw [hb]; exact decide_eq_true h4) (Ev.bind (with_f l _ hl) (ev_some rfl))) ?_
      unfold keyT key
      simp [h4.1, h4.2]
    · refine ev_neg (by rw [hb, decide_eq_false h4]; simp) ?_
      have h4' : c = 4 → ¬ l.length < 512 := fun h h' => h4 ⟨h, h'⟩
      by_cases h10 : c = 10
      · exact ev_pos h10 (j2 _ (by simp [h10]; omega) h3 h26 h28 h127 h21 h4')
      · exact ev_neg h10 (j2 _ (by simp [h10]) h3 h26 h28 h127 h21 h4')
  have j0 : ∀ b, b = decide (c = 127 ∧ e.toList ≠ []) → c ≠ 3 → c ≠ 26 → c ≠ 28 → Ev (fun k => jobshellref26_Key.j0 k c b sid fg e l o ts) (keyT sid fg e l o ts c) := by
    intro b hb h3 h26 h28
    refine Ev.step (fun k => by apply jobshellref26_Key.j0.eq_2) ?_
    by_cases h127 : c = 127 ∧ e.toList ≠ []
    · have hp := pos_of e h127.2
      have hw := lastw e hp he
      refine ev_eq (ev_pos (by rw [hb]; exact decide_eq_true h127) (ev_pos (by rw [hw]; omega) (ev_pos (by rw [hw]; omega) (ev_some rfl)))) ?_
      unfold keyT key
      simp [h127.1, h127.2, hw]
    · refine ev_neg (by rw [hb, decide_eq_false h127]; simp) ?_
      have h127' : c = 127 → e.toList = [] := fun h => Classical.byContradiction (fun h' => h127 ⟨h, h'⟩)
      by_cases h21 : c = 21
      · refine ev_eq (ev_pos h21 (ev_some rfl)) ?_
        unfold keyT key
        simp [h21]
      · refine ev_neg h21 ?_
        by_cases h4 : c = 4
        · exact ev_pos h4 (j1 _ (by simp [h4]; omega) h3 h26 h28 h127' h21)
        · exact ev_neg h4 (j1 _ (by simp [h4]) h3 h26 h28 h127' h21)
  unfold jobshellref26_Key.f
  by_cases h3 : c = 3
  · refine ev_eq (ev_pos h3 (ev_some rfl)) (by unfold keyT key; simp [h3])
  refine ev_neg h3 ?_
  by_cases h26 : c = 26
  · refine ev_eq (ev_pos h26 (ev_some rfl)) (by unfold keyT key; simp [h26])
  refine ev_neg h26 ?_
  by_cases h28 : c = 28
  · refine ev_eq (ev_pos h28 (ev_some rfl)) (by unfold keyT key; simp [h28])
  refine ev_neg h28 ?_
  by_cases h127 : c = 127
  · exact ev_pos h127 (j0 _ (by rw [Bool.eq_iff_iff]; simp [h127]) h3 h26 h28)
  · exact ev_neg h127 (j0 _ (by simp [h127]) h3 h26 h28)
end
/-- Keys in succession. -/
def feed (e : ByteArray) (l : List ByteArray) (g : List Int) : List UInt8 → ByteArray × List ByteArray × List Int
  | [] => (e, l, g)
  | b :: s => feed (key e l (b.toNat : Int)).1 (key e l (b.toNat : Int)).2.1 (if (key e l (b.toNat : Int)).2.2 = 0 then g else g ++ [(key e l (b.toNat : Int)).2.2]) s
def feedT (sid fg : Int) (e : ByteArray) (l : List ByteArray) (o : ByteArray) (ts : Bool) (g : List Int) (s : List UInt8) : Int × Int × ByteArray × List ByteArray × ByteArray × Bool × List Int := (sid, fg, (feed e l g s).1, (feed e l g s).2.1, o, ts, (feed e l g s).2.2)
theorem drop_cons (s : ByteArray) (i : Nat) (h : i < s.size) : s.toList.drop i = s.toList.getD i 0 :: s.toList.drop (i + 1) := by
  have h' : i < s.toList.length := by rw [toList_length]; exact h
  rw [List.drop_eq_getElem_cons h', List.getD_eq_getElem?_getD, List.getElem?_eq_getElem h']; rfl
section
variable (sid fg : Int) (o : ByteArray) (ts : Bool) (s : ByteArray) (hs : s.size ≤ 1000)
include hs in
theorem tty_feed_l0 : ∀ (m i : Nat) (e : ByteArray) (l : List ByteArray) (g : List Int), i + m = s.size → l.length ≤ 512 → e.size ≤ 4096 → g.length ≤ i →
    Ev (fun k => tty_Feed.l0 k s g (s.size : Int) (i : Int) sid fg e l o ts) (feedT sid fg e l o ts g (s.toList.drop i))
  | 0, i, e, l, g, h, hl, he, hg => by
    refine Ev.step (fun k => by apply tty_Feed.l0.eq_2) (ev_neg (by omega) (ev_some ?_))
    rw [List.drop_eq_nil_of_le (by rw [toList_length]; omega)]; rfl
  | m + 1, i, e, l, g, h, hl, he, hg => by
    have hw : wrap64 ((i : Int) + 1) = ((i + 1 : Nat) : Int) := by rw [wrap_in (by omega) (by omega)]; omega
    have hb := bt_get s i (by omega)
    have hk := key_keeps e l (bt s (i : Int)) hl he
    refine Ev.step (fun k => by apply tty_Feed.l0.eq_2) (ev_pos (by omega) (ev_pos (by omega) (ev_pos (by omega) (Ev.bind (tty_key_f sid fg e l o ts _ hl he) ?_))))
    rw [drop_cons s i (by omega)]
    unfold feedT feed
    rw [← show bt s (i : Int) = ((s.toList.getD i 0).toNat : Int) from hb]
    unfold keyT
    by_cases h0 : (key e l (bt s (i : Int))).2.2 = 0
    · rw [if_pos h0]
      refine ev_pos h0 ?_
      rw [hw]
      exact tty_feed_l0 m (i + 1) _ _ g (by omega) hk.1 hk.2 (by omega)
    · rw [if_neg h0]
      refine ev_neg h0 (ev_pos (by omega) ?_)
      rw [hw]
      exact tty_feed_l0 m (i + 1) _ _ _ (by omega) hk.1 hk.2 (by rw [List.length_append, List.length_singleton]; omega)
include hs in
theorem ref_feed_l0 : ∀ (m i : Nat) (e : ByteArray) (l : List ByteArray) (g : List Int), i + m = s.size → l.length ≤ 512 → e.size ≤ 4096 → g.length ≤ i →
    Ev (fun k => jobshellref26_Feed.l0 k s g (i : Int) sid fg e l o ts) (feedT sid fg e l o ts g (s.toList.drop i))
  | 0, i, e, l, g, h, hl, he, hg => by
    refine Ev.step (fun k => by apply jobshellref26_Feed.l0.eq_2) (ev_neg (by omega) (ev_some ?_))
    rw [List.drop_eq_nil_of_le (by rw [toList_length]; omega)]; rfl
  | m + 1, i, e, l, g, h, hl, he, hg => by
    have hw : wrap64 ((i : Int) + 1) = ((i + 1 : Nat) : Int) := by rw [wrap_in (by omega) (by omega)]; omega
    have hb := bt_get s i (by omega)
    have hk := key_keeps e l (bt s (i : Int)) hl he
    refine Ev.step (fun k => by apply jobshellref26_Feed.l0.eq_2) (ev_pos (by omega) (ev_pos (by omega) (Ev.bind (ref_key_f sid fg e l o ts _ hl he) ?_)))
    rw [drop_cons s i (by omega)]
    unfold feedT feed
    rw [← show bt s (i : Int) = ((s.toList.getD i 0).toNat : Int) from hb]
    unfold keyT
    by_cases h0 : (key e l (bt s (i : Int))).2.2 = 0
    · rw [if_pos h0]
      refine ev_pos h0 ?_
      rw [hw]
      exact ref_feed_l0 m (i + 1) _ _ g (by omega) hk.1 hk.2 (by omega)
    · rw [if_neg h0]
      refine ev_neg h0 (ev_pos (by omega) ?_)
      rw [hw]
      exact ref_feed_l0 m (i + 1) _ _ _ (by omega) hk.1 hk.2 (by rw [List.length_append, List.length_singleton]; omega)
include hs in
theorem tty_feed_f (e : ByteArray) (l : List ByteArray) (hl : l.length ≤ 512) (he : e.size ≤ 4096) : Ev (fun k => tty_Feed.f k sid fg e l o ts s) (feedT sid fg e l o ts [] s.toList) := tty_feed_l0 sid fg o ts s hs s.size 0 e l [] (by omega) hl he (Nat.zero_le _)
include hs in
theorem ref_feed_f (e : ByteArray) (l : List ByteArray) (hl : l.length ≤ 512) (he : e.size ≤ 4096) : Ev (fun k => jobshellref26_Feed.f k sid fg e l o ts s) (feedT sid fg e l o ts [] s.toList) := ref_feed_l0 sid fg o ts s hs s.size 0 e l [] (by omega) hl he (Nat.zero_le _)
end
theorem feed_keeps : ∀ (s : List UInt8) (e : ByteArray) (l : List ByteArray) (g : List Int), l.length ≤ 512 → e.size ≤ 4096 → (feed e l g s).2.1.length ≤ 512 ∧ (feed e l g s).1.size ≤ 4096 ∧ (feed e l g s).2.2.length ≤ g.length + s.length
  | [], e, l, g, hl, he => ⟨hl, he, Nat.le_refl _⟩
  | b :: s, e, l, g, hl, he => by
    have hk := key_keeps e l (b.toNat : Int) hl he
    unfold feed
    have h := feed_keeps s (key e l (b.toNat : Int)).1 (key e l (b.toNat : Int)).2.1 (if (key e l (b.toNat : Int)).2.2 = 0 then g else g ++ [(key e l (b.toNat : Int)).2.2]) hk.1 hk.2
    refine ⟨h.1, h.2.1, Nat.le_trans h.2.2 ?_⟩
    split
    · rw [List.length_cons]; omega
    · rw [List.length_append, List.length_singleton, List.length_cons]; omega
theorem same_l0 (sid fg : Int) (e : ByteArray) (l : List ByteArray) (o : ByteArray) (ts : Bool) (hl : l.length ≤ 1000) : ∀ (m i : Nat), i + m = l.length → Ev (fun k => jobshellref26_Same.l0 k (i : Int) sid fg e l o ts sid fg e l o ts) true
  | 0, i, h => by refine Ev.step (fun k => by apply jobshellref26_Same.l0.eq_2) (ev_neg (by omega) (ev_some rfl))
  | m + 1, i, h => by
    have hw : wrap64 ((i : Int) + 1) = ((i + 1 : Nat) : Int) := by rw [wrap_in (by omega) (by omega)]; omega
    refine Ev.step (fun k => by apply jobshellref26_Same.l0.eq_2) (ev_pos (by omega) (ev_pos (by omega) (ev_pos (by omega) (ev_pos rfl ?_))))
    rw [hw]
    exact same_l0 sid fg e l o ts hl m (i + 1) (by omega)
theorem same_f (sid fg : Int) (e : ByteArray) (l : List ByteArray) (o : ByteArray) (ts : Bool) (hl : l.length ≤ 1000) : Ev (fun k => jobshellref26_Same.f k sid fg e l o ts sid fg e l o ts) true := by
  unfold jobshellref26_Same.f
  refine ev_pos rfl (ev_pos rfl (ev_pos rfl (ev_pos rfl (ev_neg (by cases ts <;> decide) (Ev.step (fun k => by apply jobshellref26_Same.j0.eq_2) (ev_neg (by simp) ?_))))))
  exact same_l0 sid fg e l o ts hl l.length 0 (by omega)
theorem numbers_l0 (g : List Int) (hl : g.length ≤ 1000) : ∀ (m i : Nat), i + m = g.length → Ev (fun k => jobshelllaw26_numbers.l0 k g g (i : Int)) true
  | 0, i, h => by refine Ev.step (fun k => by apply jobshelllaw26_numbers.l0.eq_2) (ev_neg (by omega) (ev_some rfl))
  | m + 1, i, h => by
    have hw : wrap64 ((i : Int) + 1) = ((i + 1 : Nat) : Int) := by rw [wrap_in (by omega) (by omega)]; omega
    refine Ev.step (fun k => by apply jobshelllaw26_numbers.l0.eq_2) (ev_pos (by omega) (ev_pos (by omega) (ev_pos (by omega) (ev_pos rfl ?_))))
    rw [hw]
    exact numbers_l0 g hl m (i + 1) (by omega)
theorem numbers_f (g : List Int) (hl : g.length ≤ 1000) : Ev (fun k => jobshelllaw26_numbers.f k g g) true := by
  unfold jobshelllaw26_numbers.f
  exact ev_pos rfl (numbers_l0 g hl g.length 0 (by omega))
/-- What a valid terminal keeps. -/
theorem valid_keeps {sid fg : Int} {e : ByteArray} {l : List ByteArray} {o : ByteArray} (h : valErr sid fg e l o = 0) : l.length ≤ 512 ∧ e.size ≤ 4096 ∧ linesErr o l = 0 := by
  unfold valErr at h
  split at h
  · cases h
  · split at h
    · cases h
    · split at h
      · split at h
        · cases h
        · exact ⟨by omega, by omega, h⟩
      · cases h
theorem lineErr_ne {s : ByteArray} {o : ByteArray} : ∀ {l : List ByteArray}, linesErr o l = 0 → o.size ≤ 65536
  | [], h => by
    unfold linesErr at h
    split at h
    · cases h
    · omega
  | x :: l, h => by
    unfold linesErr at h
    split at h
    · exact lineErr_ne (s := s) h
    · exact absurd h (by assumption)
end Go.Proofs.Ytoecolllimgbgaa.Tb
