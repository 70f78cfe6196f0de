import Derived.Test.YtnkkdpjipfjdaaaDoorIz
import Derived.Test.YtnkkdpjipfjdaaaDoorShelf
namespace Go.Proofs.YtnkkdpjipfjdaaaDoor.Ix
open Go.RowKit Go.Proofs.YtnkkdpjipfjdaaaDoorW.PrintWords Go.Proofs.YtnkkdpjipfjdaaaDoorW.PrintLast Go.Proofs.YtnkkdpjipfjdaaaDoorW.PrintMore Go.Proofs.YtnkkdpjipfjdaaaDoorM
set_option linter.unusedVariables false
set_option linter.unusedSimpArgs false
theorem own_setCells {w : World} {g : Nat} {cur : Array Value} (base n cap o : Nat) (vs xs : List Value) (hh : w.heap[g]? = some (.cells cur 3 (0, 0))) (hb : base ≤ g) (hn : n ≤ cap) (hm : cap ≤ maxLen) (hcs : cur.size = cap) (ho : o + vs.length ≤ cap)
    (hx : (cur.toList.take o ++ vs ++ cur.toList.drop (o + vs.length)).take n = xs) (hl : xs.length = n) : (w.setCells g o vs).ownsRow base 3 1 (.slice (some ⟨g, 0, none⟩) n cap) n xs := by
  obtain ⟨cur', h3, h4, h5⟩ := setCells_row vs o w cur hh (by omega)
  exact ⟨by omega, .inr ⟨g, cap, cur', rfl, hb, h3, hn, hm, by omega, by rw [h5, Nat.mul_one]; exact hx⟩⟩
theorem below_setCells {w0 w : World} (hB : Below w0.heap.size w0 w) (g o : Nat) (vs : List Value) (hg : w0.heap.size ≤ g) : Below w0.heap.size w0 (w.setCells g o vs) := by
  have hsame := setCells_same g vs o w
  exact pw_below_grown hB (some g) hB.size ⟨hsame.1, hsame.2.1, hsame.2.2.1, by rw [hsame.2.2.2]; exact Nat.le_refl _, fun i _ hne => setCells_far vs o i (fun he => hne (by rw [he]))⟩ (fun k hk => by injection hk with hk; subst hk; exact hg)
theorem ins_list (l : List Int) (x : Int) (i : Nat) (hi : i ≤ l.length) : encs (Value.int .i64) (l.take i ++ x :: l.drop i) = (encs (Value.int .i64) l).take i ++ Value.int .i64 x :: (encs (Value.int .i64) l).drop i := by
  simp [encs, List.map_take, List.map_drop]
theorem ins_any (w0 w : World) (u : Value) (vb vc : Nat) (curv : Array Value) (x : Int) (i n : Nat) (l : List Int) (hB : Below w0.heap.size w0 w) (ho : w.ownsRow w0.heap.size 3 1 u n (encs (Value.int .i64) l)) (hl : l.length = n) (hi : i ≤ n) (hlim : n < 17592186044416)
    (hvh : w.heap[vb]? = some (.cells curv 3 (0, 0))) (hv0 : curv[0]? = some (.int .i64 x)) (hvu : u.ownBlock ≠ some vb) :
    Calls Tryd.prog 56 #[u, .int .i64 i, .slice (some ⟨vb, 0, none⟩) 1 vc] w fun e w' => ∃ v0_ : Value, e = .returned v0_ ∧ w'.ownsRow w0.heap.size 3 1 v0_ (n + 1) (encs (Value.int .i64) (l.take i ++ x :: l.drop i)) ∧ Below w0.heap.size w0 w' := by
  have hel : (encs (Value.int .i64) l).length = n := (encs_length l).trans hl
  rw [ins_list l x i (by omega)]
  have h1c : ∀ v ∈ encs (Value.int .i64) l, v.oneCell' = true := by
    intro v hv
    obtain ⟨y, _, rfl⟩ := List.mem_map.1 hv
    rfl
  have h1v : ∀ v ∈ [Value.int .i64 x], v.oneCell' = true := by
    intro v hv
    rw [List.mem_singleton.1 hv]; rfl
  have hvs : ∀ j v, [Value.int .i64 x][j]? = some v → w.cell? ⟨vb, 0 + j, none⟩ = some v := by
    intro j v hj
    cases j with
    | zero => rw [blk_cell hvh, ← hj]; exact hv0
    | succ j => simp at hj
  generalize encs (Value.int .i64) l = cs at ho hel h1c ⊢
  have hlen : (cs.take i ++ Value.int .i64 x :: cs.drop i).length = n + 1 := by simp; omega
  rcases ho.2 with ⟨rfl, rfl⟩ | ⟨g, cap, cur, rfl, hb, hh, hn, hm, hcz, ht⟩
  · obtain rfl : cs = [] := List.eq_nil_of_length_eq_zero hel
    obtain rfl : i = 0 := by omega
    refine (Tryd.slices_Insert_int_end_grow none 0 0 vb 0 1 vc [] [Value.int .i64 x] w (by omega) (by omega) (by omega) (by omega) rfl rfl (fun _ => rfl) (fun a ha => by cases ha) hvs h1v).mono ?_
    rintro e w' ⟨rfl, rfl⟩
    refine ⟨_, rfl, ⟨rfl, .inr ⟨w.heap.size, _, _, rfl, hB.size, heap_alloc_new w.drew _, grownCap_ge w _ _ _, grownCap_le_maxLen w _ _ _ (by unfold maxLen; omega), ?_, ?_⟩⟩, below_alloc (below_drew hB) _⟩
    · have := grownCap_ge w 1 0 3
      simp [Builtin.zeroCells, Value.cells]
      omega
    · simp
  · rw [Nat.mul_one] at hcz ht
    have hroomc : ∀ j, j < cap → (w.cell? ⟨g, j, none⟩).isSome = true := fun j hj => by rw [blk_cell hh, Array.getElem?_eq_getElem (by omega)]; rfl
    have hfz : ∀ j, w.frozen? ⟨g, j, none⟩ = false := fun j => blk_frozen hh j
    have hm63 : cap ≤ 9223372036854775807 := hm
    have hcl : ∀ j v, cs[j]? = some v → w.cell? ⟨g, 0 + j, none⟩ = some v := by
      intro j v hj
      rw [Nat.zero_add, blk_cell hh, ← hj, ← ht, List.getElem?_take, if_pos (by have := (List.getElem?_eq_some_iff.1 hj).1; omega)]
      simp
    have hvg : vb ≠ g := fun h => hvu (by rw [h]; rfl)
    have hcl2 : cur.toList.length = cap := Array.length_toList.trans hcz
    by_cases hin : i = n
    · subst hin
      have hd : cs.drop i = [] := List.drop_eq_nil_of_le (by omega)
      have htk : cs.take i = cs := List.take_of_length_le (by omega)
      rw [hd, htk] at hlen ⊢
      by_cases hroom : i + 1 ≤ cap
      · refine (Tryd.slices_Insert_int_end_room g 0 i cap vb 0 1 vc [Value.int .i64 x] w (by omega) hroom hm63 rfl (fun j hj => hroomc _ (by omega)) (fun j hj => hfz _) hvs h1v).mono ?_
        rintro e w' ⟨rfl, rfl⟩
        refine ⟨_, rfl, own_setCells _ _ _ _ _ _ hh hb hroom hm hcz (by simp; omega) ?_ hlen, below_setCells hB _ _ _ hb⟩
        rw [Nat.zero_add, ht, List.take_append_of_le_length (by simp; omega), List.take_of_length_le (by simp; omega)]
      · refine (Tryd.slices_Insert_int_end_grow (some ⟨g, 0, none⟩) i cap vb 0 1 vc cs [Value.int .i64 x] w (by omega) (by omega) (by omega) (by omega) hel rfl (fun h => by cases h) (fun a ha j v hj => by injection ha with ha; subst ha; rw [Addr.add_lit]; exact hcl j v hj) hvs h1v).mono ?_
        rintro e w' ⟨rfl, rfl⟩
        refine ⟨_, rfl, ⟨by rw [hlen, Nat.mul_one], .inr ⟨w.heap.size, _, _, rfl, hB.size, heap_alloc_new w.drew _, grownCap_ge w _ _ _, grownCap_le_maxLen w _ _ _ (by unfold maxLen; omega), ?_, ?_⟩⟩, below_alloc (below_drew hB) _⟩
        · have := grownCap_ge w (i + 1) cap 3
          simp [Builtin.zeroCells, Value.cells]
          omega
        · simp only [Array.toList_append, List.toList_toArray, Nat.mul_one]
          rw [List.take_append_of_le_length (by simp; omega), List.take_of_length_le (by simp; omega)]
    · have hlt : i < n := by omega
      by_cases hroom : n + 1 ≤ cap
      · obtain ⟨tA, kA, hsa, _⟩ := World.shape?_of_cell? (hvs 0 _ rfl)
        obtain ⟨tB, kB, hsb, hkb, _⟩ := World.shape?_of_cell? (hcl 0 _ (List.getElem?_eq_getElem (by omega)))
        refine (Tryd.slices_Insert_int_shift g 0 n cap i vb 0 1 vc cs [Value.int .i64 x] w hlt (by omega) hroom hm63 hvg hel rfl hcl (fun j hj => hroomc _ (by omega)) (fun j hj => hfz _) hvs h1c h1v tA tB kA kB hsa hsb (by omega) (blk_frozen hvh _) (blk_frozen hvh _)).mono ?_
        rintro e w' ⟨rfl, rfl⟩
        obtain ⟨cur1, h3, h4, h5⟩ := setCells_row (cs.drop i) (0 + (i + 1)) w.drew cur hh (by simp; omega)
        have hs : (cs.drop i).length = n - i := by simp; omega
        have e1 : cur.toList.take i = cs.take i := by rw [← ht, List.take_take, Nat.min_eq_left (by omega)]
        have e2 : cur1.toList.take i = cs.take i := by
          rw [h5, List.append_assoc, List.take_append_of_le_length (by simp; omega), List.take_take, Nat.min_eq_left (by omega), e1]
        have e3 : cur1.toList.drop (i + 1) = cs.drop i ++ cur.toList.drop (n + 1) := by
          rw [h5, List.append_assoc, List.drop_append_of_le_length (by simp; omega), List.drop_eq_nil_of_le (by simp; omega), List.nil_append, hs]
          congr 2
          omega
        refine ⟨_, rfl, own_setCells _ _ _ _ _ _ h3 hb hroom hm (by omega) (by simp; omega) ?_ hlen, below_setCells (below_setCells (below_drew hB) _ _ _ hb) _ _ _ hb⟩
        rw [Nat.zero_add, e2, show i + [Value.int IntKind.i64 x].length = i + 1 from rfl, e3, List.append_assoc, ← List.append_assoc [_], ← List.append_assoc, List.take_append_of_le_length (by simp; omega), List.take_of_length_le (by simp; omega)]
        rfl
      · refine (Tryd.slices_Insert_int_grow g 0 n cap i vb 0 1 vc cs [Value.int .i64 x] w hlt (by omega) (by omega) (by omega) (by omega) hel rfl hcl hvs h1c h1v).mono ?_
        rintro e w' ⟨rfl, rfl⟩
        have hG := grownCap_ge w (n + 1) cap 3
        have hGm := grownCap_le_maxLen w (n + 1) cap 3 (by unfold maxLen; omega)
        generalize grownCap w (n + 1) cap 3 = G at hG hGm ⊢
        obtain ⟨R0, hR0⟩ : ∃ R0 : Array Value, R0 = (cs.take i).toArray ++ Builtin.zeroCells (Value.int .i64 0).cells (n + 1 - i) ++ Builtin.zeroCells (Value.int .i64 0).cells (G - (n + 1)) := ⟨_, rfl⟩
        rw [← hR0]
        have hRs : R0.size = G := by
          rw [hR0]
          simp [Builtin.zeroCells, Value.cells]
          omega
        have hRl : R0.toList.length = G := Array.length_toList.trans hRs
        have hRt : R0.toList.take i = cs.take i := by
          rw [hR0]
          simp only [Array.toList_append, List.toList_toArray, List.append_assoc]
          rw [List.take_append_of_le_length (by simp; omega), List.take_of_length_le (by simp; omega)]
        obtain ⟨cur1, h3, h4, h5⟩ := setCells_row [Value.int .i64 x] i (w.alloc (.cells R0 3)).drew R0 (heap_alloc_new w _) (by simp; omega)
        have hs : (cs.drop i).length = n - i := by simp; omega
        have e2 : cur1.toList.take (i + 1) = cs.take i ++ [Value.int .i64 x] := by
          rw [h5, hRt, List.take_append_of_le_length (by simp; omega), List.take_of_length_le (by simp; omega)]
        refine ⟨_, rfl, own_setCells _ _ _ _ _ _ h3 hB.size hG hGm (by omega) (by rw [hs]; omega) ?_ hlen, below_setCells (below_drew (below_setCells (below_drew (below_alloc hB _)) _ _ _ hB.size)) _ _ _ hB.size⟩
        rw [e2, List.take_append_of_le_length (by simp; omega), List.take_of_length_le (by simp; omega), List.append_assoc]
        rfl
theorem min_any (A0 : Option Addr) (c0 : Nat) (x : Int) (l : List Int) (w : World) (hr0 : Kd.C (Kd.int .i64) w A0 (x :: l).length (x :: l)) (hc0 : (x :: l).length ≤ c0) :
    Calls Tryd.prog 37 #[.slice A0 (x :: l).length c0] w fun e w' => e = .returned (.int .i64 (l.foldl min x)) ∧ Drawn0 w w' := by
  obtain ⟨ad, rfl, h0⟩ := Kd.at_int hr0 0 (by omega) (by simp)
  obtain ⟨_, _, _, _, hsp⟩ := World.shape?_of_cell? h0
  obtain ⟨b, off, sp⟩ := ad
  obtain rfl : sp = none := hsp
  have hmax : (x :: l).length ≤ 9223372036854775807 := by have := hr0.2.1; omega
  refine (Tryd.slices_Min_int b off (x :: l).length c0 (x :: l) w (by simp) (Nat.le_refl _) hmax (fun j hj => ?_)).mono ?_
  · obtain ⟨ad', e', h1⟩ := Kd.at_int hr0 (j : Int) (by omega) (by omega)
    injection e' with e'
    subst e'
    rw [Int.toNat_natCast, Addr.add_lit] at h1
    exact h1
  · rintro e w' ⟨rfl, rfl⟩
    refine ⟨?_, Drawn0.refl _⟩
    rw [List.take_length]
    simp [Go.Lib.minOf, Int.min_self]
end Go.Proofs.YtnkkdpjipfjdaaaDoor.Ix
