/- Terminals: a line of printable bytes, typed and read back in pieces. -/
import Derived.Test.YtoecolllimgbgaaQ23
import Derived.Test.YtoecolllimgbgaaTc
namespace Go.Proofs.Ytoecolllimgbgaa.Te
open Go.RowKit Go.Proofs.Ytoecolllimgbgaa.Q Go.Proofs.YtoecolllimgbgaaW.PrintWords Go.Proofs.YtoecolllimgbgaaW.PrintLast Go.Proofs.YtoecolllimgbgaaM Go.Proofs.Ytoecolllimgbgaa.Ta Go.Proofs.Ytoecolllimgbgaa.Tb Go.Proofs.Ytoecolllimgbgaa.Tc
set_option linter.unusedVariables false
section
variable (sid fg : Int) (o : ByteArray) (ts : Bool) (s : ByteArray) (hs : s.size ≤ 100000)
include hs in
theorem feed_l0 : ∀ (m i : Nat) (e : ByteArray) (l : List ByteArray) (g : List Int), i + m = s.size → l.length ≤ 512 → e.size ≤ 4096 → g.length ≤ i →
    Ev (fun k => tty_Feed.l0 k s g (s.size : Int) (i : Int) sid fg e l o ts) (feedT sid fg e l o ts g (s.toList.drop i))
  | 0, i, e, l, g, h, hl, he, hg => by
    refine Ev.step (fun k => by apply tty_Feed.l0.eq_2) (ev_neg (by omega) (ev_some ?_))
    rw [List.drop_eq_nil_of_le (by rw [toList_length]; omega)]; rfl
  | m + 1, i, e, l, g, h, hl, he, hg => by
    have hw : wrap64 ((i : Int) + 1) = ((i + 1 : Nat) : Int) := by rw [wrap_in (by omega) (by omega)]; omega
    have hb := bt_get s i (by omega)
    have hk := key_keeps e l (bt s (i : Int)) hl he
    refine Ev.step (fun k => by apply tty_Feed.l0.eq_2) (ev_pos (by omega) (ev_pos (by omega) (ev_pos (by omega) (Ev.bind (tty_key_f sid fg e l o ts _ hl he) ?_))))
    rw [drop_cons s i (by omega)]
    unfold feedT feed
    rw [← show bt s (i : Int) = ((s.toList.getD i 0).toNat : Int) from hb]
    unfold keyT
    by_cases h0 : (key e l (bt s (i : Int))).2.2 = 0
    · rw [if_pos h0]
      refine ev_pos h0 ?_
      rw [hw]
      exact feed_l0 m (i + 1) _ _ g (by omega) hk.1 hk.2 (by omega)
    · rw [if_neg h0]
      refine ev_neg h0 (ev_pos (by omega) ?_)
      rw [hw]
      exact feed_l0 m (i + 1) _ _ _ (by omega) hk.1 hk.2 (by rw [List.length_append, List.length_singleton]; omega)
include hs in
theorem feed_f (e : ByteArray) (l : List ByteArray) (hl : l.length ≤ 512) (he : e.size ≤ 4096) : Ev (fun k => tty_Feed.f k sid fg e l o ts s) (feedT sid fg e l o ts [] s.toList) := feed_l0 sid fg o ts s hs s.size 0 e l [] (by omega) hl he (Nat.zero_le _)
end
theorem one_list (b : UInt8) : (strOfNums [(b.toNat : Int)]).toList = [b] := by
  rw [toList_data]
  show [UInt8.ofNat ((b.toNat : Int).toNat)] = [b]
  simp
/-- Printable bytes lie in the line that is edited. -/
theorem feed_text : ∀ (t : List UInt8) (e : ByteArray), t.all okb = true → e.size + t.length ≤ 4096 → ∃ e' : ByteArray, feed e [] [] t = (e', [], []) ∧ e'.toList = e.toList ++ t
  | [], e, _, _ => ⟨e, rfl, by rw [List.append_nil]⟩
  | b :: t, e, h, hl => by
    rw [List.all_cons, Bool.and_eq_true] at h
    rw [List.length_cons] at hl
    have hb : tb (b.toNat : Int) = true := h.1
    have hk : key e [] (b.toNat : Int) = (e ++ strOfNums [(b.toNat : Int)], [], 0) := by
      have h3 : (b.toNat : Int) ≠ 3 := fun q => by rw [q] at hb; exact absurd hb (by decide)
      have h26 : (b.toNat : Int) ≠ 26 := fun q => by rw [q] at hb; exact absurd hb (by decide)
      have h28 : (b.toNat : Int) ≠ 28 := fun q => by rw [q] at hb; exact absurd hb (by decide)
      have h127 : (b.toNat : Int) ≠ 127 := fun q => by rw [q] at hb; exact absurd hb (by decide)
      have h21 : (b.toNat : Int) ≠ 21 := fun q => by rw [q] at hb; exact absurd hb (by decide)
      have h4 : (b.toNat : Int) ≠ 4 := fun q => by rw [q] at hb; exact absurd hb (by decide)
      have h10 : (b.toNat : Int) ≠ 10 := fun q => by rw [q] at hb; exact absurd hb (by decide)
      unfold key
      rw [if_neg h3, if_neg h26, if_neg h28, if_neg h127, if_neg h21, if_neg h4, if_neg h10, if_pos hb, if_pos (by omega)]
    obtain ⟨e', h1, h2⟩ := feed_text t (e ++ strOfNums [(b.toNat : Int)]) h.2 (by rw [app_size, one_size]; omega)
    refine ⟨e', ?_, ?_⟩
    · unfold feed
      rw [hk]
      exact h1
    · rw [h2, app_list, one_list, List.append_assoc]; rfl
theorem nl_list : (⟨#[10]⟩ : ByteArray).toList = [10] := by rw [toList_data]
theorem nil_list : (⟨#[]⟩ : ByteArray).toList = [] := by rw [toList_data]
theorem feed_line (s : ByteArray) (h : txt s = true) (hs : s.size ≤ 4096) : feed ⟨#[]⟩ [] [] (s ++ (⟨#[10]⟩ : ByteArray)).toList = (⟨#[]⟩, [s ++ (⟨#[10]⟩ : ByteArray)], []) := by
  obtain ⟨e', h1, h2⟩ := feed_text s.toList ⟨#[]⟩ h (by rw [toList_length]; show 0 + s.size ≤ 4096; omega)
  rw [nil_list, List.nil_append] at h2
  obtain rfl := toList_inj h2
  rw [app_list, feed_app, h1, nl_list]
  rfl
theorem ext_all (y : ByteArray) : y.extract 0 y.size = y := by apply toList_inj; rw [toList_extract, List.drop_zero, List.take_of_length_le (by rw [toList_length]; exact Nat.le_refl _)]
theorem typed_l0 (s : ByteArray) (n : Int) (hs : s.size ≤ 4096) (hn : ¬ n < 1) : ∀ (m : Nat) (got y : ByteArray) (i : Nat), y.size ≤ m → 0 < y.size → got.toList ++ y.toList = (s ++ (⟨#[10]⟩ : ByteArray)).toList → i ≤ got.size →
    Ev (fun k => jobshelllaw26_TtyTyped.l0 k s n got (i : Int) 0 0 ⟨#[]⟩ [y] ⟨#[]⟩ false) true
  | 0, got, y, i, hm, hy, _, _ => absurd hy (by omega)
  | m + 1, got, y, i, hm, hy, he, hi => by
    have hsz : got.size + y.size = s.size + 1 := by
      have h := congrArg List.length he
      rw [List.length_append, toList_length, toList_length, toList_length, app_size] at h
      exact h
    have hyn : y.toList ≠ [] := fun h => by
      have h2 : y.size = 0 := by rw [← toList_length, h]; rfl
      omega
    have hw : wrap64 ((i : Int) + 1) = ((i + 1 : Nat) : Int) := by rw [wrap_in (by omega) (by omega)]; omega
    refine Ev.step (fun k => by apply jobshelllaw26_TtyTyped.l0.eq_2) (ev_pos (by omega) (ev_bindc (tty_read_f 0 0 ⟨#[]⟩ ⟨#[]⟩ false [y] n (by simp)) ?_))
    by_cases h1 : (y.size : Int) ≤ n
    · have hr : readT 0 0 ⟨#[]⟩ [y] ⟨#[]⟩ false n = (0, 0, ⟨#[]⟩, [], ⟨#[]⟩, false, y, 1) := by
        unfold readT
        rw [if_neg hn]
        show (if y.toList = [] then _ else if (y.size : Int) ≤ n then _ else _) = _
        rw [if_neg hyn, if_pos h1]
      rw [hr]
      refine ev_pos rfl (ev_neg hyn ?_)
      show Ev (fun k => jobshelllaw26_TtyTyped.j3 k s n got (i : Int) y (decide ((y.size : Int) > n)) 0 0 ⟨#[]⟩ [] ⟨#[]⟩ false) true
      rw [decide_eq_false (by omega)]
      refine Ev.step (fun k => by apply jobshelllaw26_TtyTyped.j3.eq_2) (ev_neg (by simp) (ev_pos (by omega) (ev_pos (by rw [app_size]; omega) (ev_bindc (tty_read_f 0 0 ⟨#[]⟩ ⟨#[]⟩ false [] n (by simp)) ?_))))
      have hr2 : readT 0 0 ⟨#[]⟩ [] ⟨#[]⟩ false n = (0, 0, ⟨#[]⟩, [], ⟨#[]⟩, false, ⟨#[]⟩, 2) := by
        unfold readT
        rw [if_neg hn]
      rw [hr2]
      refine ev_pos (by omega) (ev_pos ?_ (ev_pos rfl (Ev.bind awake_ev (ev_some rfl))))
      rw [app_list]
      exact he
    · have hr : readT 0 0 ⟨#[]⟩ [y] ⟨#[]⟩ false n = (0, 0, ⟨#[]⟩, [y.extract n.toNat y.size], ⟨#[]⟩, false, y.extract 0 n.toNat, 1) := by
        unfold readT
        rw [if_neg hn]
        show (if y.toList = [] then _ else if (y.size : Int) ≤ n then _ else _) = _
        rw [if_neg hyn, if_neg h1]
      have h0 : (y.extract 0 n.toNat).size = n.toNat := by rw [ByteArray.size_extract]; omega
      have h2 : (y.extract n.toNat y.size).size = y.size - n.toNat := by rw [ByteArray.size_extract]; omega
      have h3 : (y.extract 0 n.toNat).toList ++ (y.extract n.toNat y.size).toList = y.toList := by
        rw [toList_extract, toList_extract, List.drop_zero, List.take_of_length_le (l := y.toList) (i := y.size) (by rw [toList_length]; exact Nat.le_refl _), List.take_append_drop]
      have hne : (y.extract 0 n.toNat).toList ≠ [] := fun h => by
        have h4 : (y.extract 0 n.toNat).size = 0 := by rw [← toList_length, h]; rfl
        omega
      rw [hr]
      refine ev_pos rfl (ev_neg hne ?_)
      show Ev (fun k => jobshelllaw26_TtyTyped.j3 k s n got (i : Int) (y.extract 0 n.toNat) (decide (((y.extract 0 n.toNat).size : Int) > n)) 0 0 ⟨#[]⟩ [y.extract n.toNat y.size] ⟨#[]⟩ false) true
      rw [decide_eq_false (by rw [h0]; omega)]
      refine Ev.step (fun k => by apply jobshelllaw26_TtyTyped.j3.eq_2) (ev_neg (by simp) (ev_pos (by rw [h0]; omega) (ev_neg (by rw [app_size, h0]; omega) ?_)))
      rw [hw]
      exact typed_l0 s n hs hn m (got ++ y.extract 0 n.toNat) (y.extract n.toNat y.size) (i + 1) (by rw [h2]; omega) (by rw [h2]; omega) (by rw [app_list, List.append_assoc, h3]; exact he) (by rw [app_size, h0]; omega)
end Go.Proofs.Ytoecolllimgbgaa.Te
