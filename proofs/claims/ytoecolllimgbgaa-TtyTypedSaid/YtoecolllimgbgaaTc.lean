/- Terminals: reading and writing; keys in two parts. -/
import Derived.Test.YtoecolllimgbgaaQ10
import Derived.Test.YtoecolllimgbgaaQ11
import Derived.Test.YtoecolllimgbgaaQ12
import Derived.Test.YtoecolllimgbgaaQ20
import Derived.Test.YtoecolllimgbgaaQ21
import Derived.Test.YtoecolllimgbgaaQ5
import Derived.Test.YtoecolllimgbgaaTb
namespace Go.Proofs.Ytoecolllimgbgaa.Tc
open Go.RowKit Go.Proofs.Ytoecolllimgbgaa.Q Go.Proofs.YtoecolllimgbgaaW.PrintWords Go.Proofs.YtoecolllimgbgaaW.PrintLast Go.Proofs.YtoecolllimgbgaaM Go.Proofs.Ytoecolllimgbgaa.Ta Go.Proofs.Ytoecolllimgbgaa.Tb
set_option linter.unusedVariables false
/-- What a read answers. -/
def readT (sid fg : Int) (e : ByteArray) (l : List ByteArray) (o : ByteArray) (ts : Bool) (n : Int) : Int × Int × ByteArray × List ByteArray × ByteArray × Bool × ByteArray × Int :=
  if n < 1 then (sid, fg, e, l, o, ts, (⟨#[]⟩ : ByteArray), 1) else
  match l with
  | [] => (sid, fg, e, [], o, ts, (⟨#[]⟩ : ByteArray), 2)
  | x :: t => if x.toList = [] then (sid, fg, e, t, o, ts, (⟨#[]⟩ : ByteArray), 3) else if (x.size : Int) ≤ n then (sid, fg, e, t, o, ts, x, 1) else (sid, fg, e, x.extract n.toNat x.size :: t, o, ts, x.extract 0 n.toNat, 1)
section
variable (sid fg : Int) (e : ByteArray) (o : ByteArray) (ts : Bool)
theorem clone_f (l : List ByteArray) (hl : l.length ≤ 512) : slices_Clone_string_string.f l = some l := by
  unfold slices_Clone_string_string.f
  exact if_pos (by omega)
theorem delete_f (x : ByteArray) (t : List ByteArray) : slices_Delete_string_string.f (x :: t) 0 1 = some t := by
  unfold slices_Delete_string_string.f
  rw [if_pos (Int.le_refl 0), if_pos (by rw [List.length_cons]; omega), if_pos (show (1 : Int) = 0 + 1 from rfl)]
  rfl
theorem head_of (x : ByteArray) (t : List ByteArray) : rdOf ByteArray.empty (x :: t) 0 = x := rfl
theorem tty_read_f (l : List ByteArray) (n : Int) (hl : l.length ≤ 512) : tty_Read.f sid fg e l o ts n = some (readT sid fg e l o ts n) := by
  unfold tty_Read.f readT
  by_cases h1 : n < 1
  · rw [if_pos h1, if_pos h1]
  rw [if_neg h1, if_neg h1]
  cases l with
  | nil => rfl
  | cons x t =>
    have hp : (0 : Int) < ((x :: t).length : Int) := by rw [List.length_cons]; omega
    rw [if_neg (by omega), if_pos hp, clone_f _ hl, Option.bind_some, head_of]
    show _ = some (if x.toList = [] then _ else if (x.size : Int) ≤ n then _ else _)
    by_cases h2 : x.toList = []
    · rw [if_pos h2, if_pos h2, delete_f, Option.bind_some]
    rw [if_neg h2, if_neg h2]
    by_cases h3 : (x.size : Int) ≤ n
    · rw [if_pos h3, if_pos h3, delete_f, Option.bind_some]
    rw [if_neg h3, if_neg h3, if_pos (by omega), if_pos (by omega), if_pos hp]
    rfl
def fin (n : Int) (x : ByteArray) (y : List ByteArray) : Int × Int × ByteArray × List ByteArray × ByteArray × Bool × ByteArray × Int := if x.toList = [] then (sid, fg, e, y, o, ts, (⟨#[]⟩ : ByteArray), 3) else if (x.size : Int) > n then (sid, fg, e, y, o, ts, x.extract 0 n.toNat, 1) else (sid, fg, e, y, o, ts, x, 1)
theorem ref_read_l0 (l : List ByteArray) (n : Int) (x : ByteArray) (h1 : ¬ n < 1) (hl : l.length ≤ 512) : ∀ (m i : Nat) (g : List ByteArray), i + m = l.length → g.length ≤ i →
    Ev (fun k => jobshellref26_Read.l0 k n x g (i : Int) sid fg e l o ts) (fin sid fg e o ts n x (g ++ l.drop i))
  | 0, i, g, h, hg => by
    refine Ev.step (fun k => by apply jobshellref26_Read.l0.eq_2) (ev_neg (by omega) ?_)
    rw [List.drop_eq_nil_of_le (by omega), List.append_nil]
    unfold fin
    by_cases h2 : x.toList = []
    · exact ev_eq (ev_pos h2 (ev_some rfl)) (by rw [if_pos h2])
    by_cases h3 : (x.size : Int) > n
    · exact ev_eq (ev_neg h2 (ev_pos h3 (ev_pos (by omega) (ev_pos (by omega) (ev_some rfl))))) (by rw [if_neg h2, if_pos h3])
    · exact ev_eq (ev_neg h2 (ev_neg h3 (ev_some rfl))) (by rw [if_neg h2, if_neg h3])
  | m + 1, i, g, h, hg => by
    have hw : wrap64 ((i : Int) + 1) = ((i + 1 : Nat) : Int) := by rw [wrap_in (by omega) (by omega)]; omega
    refine Ev.step (fun k => by apply jobshellref26_Read.l0.eq_2) (ev_pos (by omega) (ev_pos (by omega) (ev_pos (by omega) ?_)))
    rw [hw, rdOf_cons l i (by omega)]
    have h9 := ref_read_l0 l n x h1 hl m (i + 1) (g ++ [rdOf ByteArray.empty l (i : Int)]) (by omega) (by rw [List.length_append, List.length_singleton]; omega)
    rw [List.append_assoc] at h9
    exact h9
theorem ref_read_f (l : List ByteArray) (n : Int) (hl : l.length ≤ 512) : Ev (fun k => jobshellref26_Read.f k sid fg e l o ts n) (readT sid fg e l o ts n) := by
  unfold jobshellref26_Read.f readT
  by_cases h1 : n < 1
  · rw [if_pos h1]
    exact ev_pos h1 (ev_some rfl)
  rw [if_neg h1]
  refine ev_neg h1 ?_
  cases l with
  | nil => exact ev_pos rfl (ev_some rfl)
  | cons x t =>
    have hp : (0 : Int) < ((x :: t).length : Int) := by rw [List.length_cons]; omega
    refine ev_neg (by omega) (ev_pos hp ?_)
    rw [head_of]
    show Ev _ (if x.toList = [] then _ else if (x.size : Int) ≤ n then _ else _)
    by_cases h3 : (x.size : Int) > n
    · refine ev_eq (ev_pos h3 (ev_pos (by omega) (ev_pos (by omega) (ev_pos (by simp) (Ev.step (fun k => by apply jobshellref26_Read.j0.eq_2) (ref_read_l0 sid fg e o ts (x :: t) n x h1 hl t.length 1 ([] ++ [x.extract n.toNat x.size]) (by rw [List.length_cons]; omega) (by simp))))))) ?_
      have h2 : x.toList ≠ [] := by
        intro h0
        have hz : x.size = 0 := by rw [← toList_length, h0]; rfl
        omega
      unfold fin
      rw [if_neg h2, if_neg h2, if_pos h3, if_neg (by omega)]
      rfl
    · refine ev_eq (ev_neg h3 (Ev.step (fun k => by apply jobshellref26_Read.j0.eq_2) (ref_read_l0 sid fg e o ts (x :: t) n x h1 hl t.length 1 [] (by rw [List.length_cons]; omega) (Nat.zero_le 1)))) ?_
      unfold fin
      by_cases h2 : x.toList = []
      · rw [if_pos h2, if_pos h2]; rfl
      · rw [if_neg h2, if_neg h2, if_neg h3, if_pos (by omega)]; rfl
theorem readT_keeps (l : List ByteArray) (n : Int) (hl : l.length ≤ 512) : (readT sid fg e l o ts n).2.2.2.1.length ≤ 512 := by
  unfold readT
  by_cases h1 : n < 1
  · rw [if_pos h1]; exact hl
  rw [if_neg h1]
  cases l with
  | nil => exact Nat.zero_le _
  | cons x t =>
    show ((if x.toList = [] then _ else if (x.size : Int) ≤ n then _ else _) : Int × Int × ByteArray × List ByteArray × ByteArray × Bool × ByteArray × Int).2.2.2.1.length ≤ 512
    rw [List.length_cons] at hl
    by_cases h2 : x.toList = []
    · rw [if_pos h2]; show t.length ≤ 512; omega
    rw [if_neg h2]
    by_cases h3 : (x.size : Int) ≤ n
    · rw [if_pos h3]; show t.length ≤ 512; omega
    rw [if_neg h3]; show (_ :: t).length ≤ 512; rw [List.length_cons]; omega
theorem readT_same (l : List ByteArray) (n : Int) : ∃ l', (readT sid fg e l o ts n) = (sid, fg, e, l', o, ts, (readT sid fg e l o ts n).2.2.2.2.2.2.1, (readT sid fg e l o ts n).2.2.2.2.2.2.2) := by
  unfold readT
  repeat' split
  all_goals exact ⟨_, rfl⟩
/-- What a write makes of what was written. -/
def wr (o s : ByteArray) : ByteArray := o ++ s.extract 0 (if 65536 - o.size > s.size then s.size else 65536 - o.size)
theorem wr_room {o : ByteArray} (ho : o.size ≤ 65536) : wrap64 (65536 - (o.size : Int)) = ((65536 - o.size : Nat) : Int) := by rw [wrap_in (by omega) (by omega)]; omega
theorem ext_le (s : ByteArray) (n : Nat) : (s.extract 0 n).size ≤ s.size := by rw [ByteArray.size_extract]; omega
theorem tty_write_f (l : List ByteArray) (s : ByteArray) (ho : o.size ≤ 65536) (hs : s.size ≤ 70000) : tty_Write.f sid fg e l o ts s = some (sid, fg, e, l, wr o s, ts) := by
  have hr : mn (mx 0 (wrap64 (65536 - (o.size : Int)))) (s.size : Int) = ((if 65536 - o.size > s.size then s.size else 65536 - o.size : Nat) : Int) := by
    rw [wr_room ho]
    unfold mn mx
    repeat' split
    all_goals omega
  have hx := ext_le s (if 65536 - o.size > s.size then s.size else 65536 - o.size)
  unfold tty_Write.f wr
  rw [hr, if_pos (by omega), if_pos (by split <;> omega), Int.toNat_natCast, if_pos (by omega)]
theorem ref_write_f (l : List ByteArray) (s : ByteArray) (ho : o.size ≤ 65536) (hs : s.size ≤ 70000) : jobshellref26_Write.f sid fg e l o ts s = some (sid, fg, e, l, wr o s, ts) := by
  unfold jobshellref26_Write.f wr
  rw [wr_room ho]
  by_cases h : 65536 - o.size > s.size
  · have hx := ext_le s s.size
    rw [if_pos (by omega), if_pos (by omega), if_pos (by omega), Int.toNat_natCast, if_pos (by omega), if_pos h]
  · have hx := ext_le s (65536 - o.size)
    rw [if_neg (by omega), if_pos (by omega), if_pos (by omega), Int.toNat_natCast, if_pos (by omega), if_neg h]
end
theorem feed_acc : ∀ (s : List UInt8) (e : ByteArray) (l : List ByteArray) (g h : List Int), feed e l (g ++ h) s = ((feed e l h s).1, (feed e l h s).2.1, g ++ (feed e l h s).2.2)
  | [], e, l, g, h => rfl
  | b :: s, e, l, g, h => by
    unfold feed
    by_cases h0 : (key e l (b.toNat : Int)).2.2 = 0
    · rw [if_pos h0, if_pos h0]
      exact feed_acc s _ _ g h
    · rw [if_neg h0, if_neg h0, List.append_assoc]
      exact feed_acc s _ _ g _
theorem feed_app : ∀ (s t : List UInt8) (e : ByteArray) (l : List ByteArray) (g : List Int), feed e l g (s ++ t) = feed (feed e l g s).1 (feed e l g s).2.1 (feed e l g s).2.2 t
  | [], t, e, l, g => rfl
  | b :: s, t, e, l, g => feed_app s t _ _ _
theorem feed_two (s t : List UInt8) (e : ByteArray) (l : List ByteArray) : feed e l [] (s ++ t) = ((feed (feed e l [] s).1 (feed e l [] s).2.1 [] t).1, (feed (feed e l [] s).1 (feed e l [] s).2.1 [] t).2.1, (feed e l [] s).2.2 ++ (feed (feed e l [] s).1 (feed e l [] s).2.1 [] t).2.2) := by
  rw [feed_app]
  have h := feed_acc t (feed e l [] s).1 (feed e l [] s).2.1 (feed e l [] s).2.2 []
  rw [List.append_nil] at h
  exact h
theorem app_list (a b : ByteArray) : (a ++ b).toList = a.toList ++ b.toList := by
  rw [toList_data, toList_data, toList_data, ByteArray.data_append, Array.toList_append]
end Go.Proofs.Ytoecolllimgbgaa.Tc
