-- Written by wip/tool/myprint.py, a program of this repo that drives the kit's print over hand-written contracts; Lean checks it.
import Derived.Test.YtojfchkmemhlfaaDoorQ0
import Derived.Test.YtojfchkmemhlfaaDoorQ3
import Derived.Test.YtojfchkmemhlfaaDoorQ8
import Derived.Test.YtojfchkmemhlfaaDoorQ10
namespace Go.Proofs.YtojfchkmemhlfaaDoor.Q
open Go.RowKit Go.Proofs.YtojfchkmemhlfaaDoorW.PrintWords Go.Proofs.YtojfchkmemhlfaaDoorW.PrintLast Go.Proofs.YtojfchkmemhlfaaDoorW.PrintMore Go.Proofs.YtojfchkmemhlfaaDoorM
attribute [local go_sem] max2_int min2_int max_two min_two max_three min_three max_four min_four   -- for this text's walks alone
set_option linter.unusedVariables false
set_option linter.unusedSimpArgs false

/-! ### jobshellref22_Describe: function 22 -/
def jobshellref22_Describe.f (k : Nat) (a0 : Int) : Option (ByteArray) := (jobshellref22_Kind.f k a0).bind fun bt135 => (if bt135.1 = 0 then (if bt135.2 = 0 then (some (⟨#[68, 111, 110, 101]⟩ : ByteArray)) else ((strconv_Itoa_26.f bt135.2).bind fun t137 => (if 5 + t137.size ≤ 9223372036854775807 then (some ((⟨#[69, 120, 105, 116, 32]⟩ : ByteArray) ++ t137)) else (none)))) else (if bt135.1 = 1 then ((jobshellref22_Word.f bt135.2).bind fun t138 => (some t138)) else (if bt135.1 = 2 then (some (⟨#[83, 116, 111, 112, 112, 101, 100]⟩ : ByteArray)) else (if bt135.1 = 3 then (some (⟨#[82, 117, 110, 110, 105, 110, 103]⟩ : ByteArray)) else (some (⟨#[]⟩ : ByteArray))))))
theorem jobshellref22_Describe.mono : ∀ a0 k, LeO (jobshellref22_Describe.f k a0) (jobshellref22_Describe.f (k + 1) a0) := by
  intro a0 k
  unfold jobshellref22_Describe.f
  repeat' first
      | (with_reducible exact jobshellref22_Kind.mono _ _)
      | (with_reducible exact LeO.refl _)
      | (with_reducible exact LeO.none _)
      | (with_reducible refine LeO.ite ?_ ?_)
      | (with_reducible refine LeO.bind ?_ (fun _ => ?_))
      | exact jobshellref22_Kind.mono _ _
      | exact LeO.none _
      | refine LeO.ite ?_ ?_
      | refine LeO.bind ?_ (fun _ => ?_)
set_option maxHeartbeats 8000000 in
set_option maxRecDepth 10000000 in
theorem jobshellref22_Describe.calls (k : Nat) (a0 : Int) (r : ByteArray) (w : World) (ht_ : Aside0 (TabAt w)) (h : jobshellref22_Describe.f k a0 = some r) :
    Calls Tryd.prog 22 #[.int .i64 a0] w fun e w' => e = .returned (.string r) ∧ Below w.heap.size w w' := by
  have HB := Aside0.mk (Below.refl w.heap.size w)
  have H : ((jobshellref22_Kind.f k a0).bind fun bt135 => (if bt135.1 = 0 then (if bt135.2 = 0 then (some (⟨#[68, 111, 110, 101]⟩ : ByteArray)) else ((strconv_Itoa_26.f bt135.2).bind fun t137 => (if 5 + t137.size ≤ 9223372036854775807 then (some ((⟨#[69, 120, 105, 116, 32]⟩ : ByteArray) ++ t137)) else (none)))) else (if bt135.1 = 1 then ((jobshellref22_Word.f bt135.2).bind fun t138 => (some t138)) else (if bt135.1 = 2 then (some (⟨#[83, 116, 111, 112, 112, 101, 100]⟩ : ByteArray)) else (if bt135.1 = 3 then (some (⟨#[82, 117, 110, 110, 105, 110, 103]⟩ : ByteArray)) else (some (⟨#[]⟩ : ByteArray))))))) = some r := h
  clear h
  replace H := Option.bind_eq_some_iff.mp H
  obtain ⟨⟨t135, t136⟩, A20, H⟩ := H
  replace H : (if t135 = 0 then (if t136 = 0 then (some (⟨#[68, 111, 110, 101]⟩ : ByteArray)) else ((strconv_Itoa_26.f t136).bind fun t137 => (if 5 + t137.size ≤ 9223372036854775807 then (some ((⟨#[69, 120, 105, 116, 32]⟩ : ByteArray) ++ t137)) else (none)))) else (if t135 = 1 then ((jobshellref22_Word.f t136).bind fun t138 => (some t138)) else (if t135 = 2 then (some (⟨#[83, 116, 111, 112, 112, 101, 100]⟩ : ByteArray)) else (if t135 = 3 then (some (⟨#[82, 117, 110, 110, 105, 110, 103]⟩ : ByteArray)) else (some (⟨#[]⟩ : ByteArray)))))) = some r := H
  have A2 := Aside0.mk A20
  clear A20
  by_cases c3 : t135 = 0
  · rw [if_pos c3] at H
    have c3b0 : (t135 == 0) = true := beq_iff_eq.mpr c3
    have c3b1 : (t135 != 0) = false := bne_eq_false_iff_eq.mpr c3
    clear c3
    by_cases c4 : t136 = 0
    · rw [if_pos c4] at H
      have c4b0 : (t136 == 0) = true := beq_iff_eq.mpr c4
      have c4b1 : (t136 != 0) = false := bne_eq_false_iff_eq.mpr c4
      clear c4
      obtain rfl := Option.some.inj H
      go_enter Tryd.func22, Tryd.ntmps22
      go_wp2_with (first | ((with_reducible refine gate_callee (f := 18) rfl ?_); refine goesL_ (some 7) rfl rfl Tryd.func18 (by kernel_rfl) rfl #[.int .i64 a0] rfl (by (try simp only [List.map_toArray, List.map_cons, List.map_nil]); first | done | rfl | (simp only [List.length_drop, List.length_take]; rfl)) ?_; (with_reducible refine (jobshellref22_Kind.calls k a0 t135 t136 _ A2.out).mono ?_); rintro e w' ⟨rfl, ⟨nd, rfl⟩⟩; refine ⟨_, rfl, ?_⟩))
      go_ret
      exact ⟨by first | rfl | (simp [errW_none, errW_some] <;> rfl) | (simp [*, errW_none, errW_some] <;> rfl), by repeat (first | (with_reducible first | exact HB.out | apply below_alloc | apply pw_below_drewN | apply below_drew1) | exact HB.out)⟩
    · rw [if_neg c4] at H
      have c4b0 : (t136 == 0) = false := beq_eq_false_iff_ne.mpr c4
      have c4b1 : (t136 != 0) = true := bne_iff_ne.mpr c4
      replace H := Option.bind_eq_some_iff.mp H
      obtain ⟨t137, A50, H⟩ := H
      replace H : (if 5 + t137.size ≤ 9223372036854775807 then (some ((⟨#[69, 120, 105, 116, 32]⟩ : ByteArray) ++ t137)) else (none)) = some r := H
      have A5 := Aside0.mk A50
      clear A50
      by_cases c6 : 5 + t137.size ≤ 9223372036854775807
      · rw [if_pos c6] at H
        have c6b0 := eq_true c6
        have c6b1 : decide (5 + t137.size ≤ 9223372036854775807) = true := decide_eq_true c6
        try have c6b2 : (9223372036854775807 < 5 + t137.size) = False := eq_false (Nat.not_lt.2 c6)
        (try (have c6b3 := c6b2; simp only [Int.toNat_natCast, ByteArray.extract_zero_size] at c6b3))
        clear c6
        obtain rfl := Option.some.inj H
        go_enter Tryd.func22, Tryd.ntmps22
        go_wp2_with (first | ((with_reducible refine gate_callee (f := 18) rfl ?_); refine goesL_ (some 7) rfl rfl Tryd.func18 (by kernel_rfl) rfl #[.int .i64 a0] rfl (by (try simp only [List.map_toArray, List.map_cons, List.map_nil]); first | done | rfl | (simp only [List.length_drop, List.length_take]; rfl)) ?_; (with_reducible refine (jobshellref22_Kind.calls k a0 t135 t136 _ A2.out).mono ?_); rintro e w' ⟨rfl, ⟨nd, rfl⟩⟩; refine ⟨_, rfl, ?_⟩) | ((with_reducible refine gate_callee (f := 26) rfl ?_); refine goesL_ (some 16) rfl rfl Tryd.func26 (by kernel_rfl) rfl #[.int .i64 t136] rfl (by (try simp only [List.map_toArray, List.map_cons, List.map_nil]); first | done | rfl | (simp only [List.length_drop, List.length_take]; rfl)) ?_; (with_reducible refine (strconv_Itoa_26.calls t136 t137 _ ⟨ht_.out.below (by repeat (first | (with_reducible first | exact HB.out | apply below_alloc | apply pw_below_drewN | apply below_drew1) | exact HB.out))⟩ A5.out).mono ?_); rintro e w7 ⟨rfl, hb⟩; refine ⟨_, rfl, ?_⟩; have n0_ := Aside0.mk (below_step (by repeat (first | (with_reducible first | exact HB.out | apply below_alloc | apply pw_below_drewN | apply below_drew1) | exact HB.out)) hb); clear HB; have HB := n0_; clear n0_; (try clear hb); (try clear hb2); (try clear hk); (try clear hi)))
        go_ret
        exact ⟨by first | rfl | (simp [errW_none, errW_some] <;> rfl) | (simp [*, errW_none, errW_some] <;> rfl), by repeat (first | (with_reducible first | exact HB.out | apply below_alloc | apply pw_below_drewN | apply below_drew1) | exact HB.out)⟩
      · rw [if_neg c6] at H
        exact absurd H (by simp)
  · rw [if_neg c3] at H
    have c3b0 : (t135 == 0) = false := beq_eq_false_iff_ne.mpr c3
    have c3b1 : (t135 != 0) = true := bne_iff_ne.mpr c3
    by_cases c8 : t135 = 1
    · rw [if_pos c8] at H
      have c8b0 : (t135 == 1) = true := beq_iff_eq.mpr c8
      have c8b1 : (t135 != 1) = false := bne_eq_false_iff_eq.mpr c8
      clear c8
      replace H := Option.bind_eq_some_iff.mp H
      obtain ⟨t138, A90, H⟩ := H
      replace H : (some t138) = some r := H
      have A9 := Aside0.mk A90
      clear A90
      obtain rfl := Option.some.inj H
      go_enter Tryd.func22, Tryd.ntmps22
      go_wp2_with (first | ((with_reducible refine gate_callee (f := 18) rfl ?_); refine goesL_ (some 7) rfl rfl Tryd.func18 (by kernel_rfl) rfl #[.int .i64 a0] rfl (by (try simp only [List.map_toArray, List.map_cons, List.map_nil]); first | done | rfl | (simp only [List.length_drop, List.length_take]; rfl)) ?_; (with_reducible refine (jobshellref22_Kind.calls k a0 t135 t136 _ A2.out).mono ?_); rintro e w' ⟨rfl, ⟨nd, rfl⟩⟩; refine ⟨_, rfl, ?_⟩) | ((with_reducible refine gate_callee (f := 28) rfl ?_); refine goesL_ (some 21) rfl rfl Tryd.func28 (by kernel_rfl) rfl #[.int .i64 t136] rfl (by (try simp only [List.map_toArray, List.map_cons, List.map_nil]); first | done | rfl | (simp only [List.length_drop, List.length_take]; rfl)) ?_; (with_reducible refine (jobshellref22_Word.calls t136 t138 _ ⟨ht_.out.below (by repeat (first | (with_reducible first | exact HB.out | apply below_alloc | apply pw_below_drewN | apply below_drew1) | exact HB.out))⟩ A9.out).mono ?_); rintro e w10 ⟨rfl, hb⟩; refine ⟨_, rfl, ?_⟩; have n0_ := Aside0.mk (below_step (by repeat (first | (with_reducible first | exact HB.out | apply below_alloc | apply pw_below_drewN | apply below_drew1) | exact HB.out)) hb); clear HB; have HB := n0_; clear n0_; (try clear hb); (try clear hb2); (try clear hk); (try clear hi)))
      go_ret
      exact ⟨by first | rfl | (simp [errW_none, errW_some] <;> rfl) | (simp [*, errW_none, errW_some] <;> rfl), by repeat (first | (with_reducible first | exact HB.out | apply below_alloc | apply pw_below_drewN | apply below_drew1) | exact HB.out)⟩
    · rw [if_neg c8] at H
      have c8b0 : (t135 == 1) = false := beq_eq_false_iff_ne.mpr c8
      have c8b1 : (t135 != 1) = true := bne_iff_ne.mpr c8
      by_cases c11 : t135 = 2
      · rw [if_pos c11] at H
        have c11b0 : (t135 == 2) = true := beq_iff_eq.mpr c11
        have c11b1 : (t135 != 2) = false := bne_eq_false_iff_eq.mpr c11
        clear c11
        obtain rfl := Option.some.inj H
        go_enter Tryd.func22, Tryd.ntmps22
        go_wp2_with (first | ((with_reducible refine gate_callee (f := 18) rfl ?_); refine goesL_ (some 7) rfl rfl Tryd.func18 (by kernel_rfl) rfl #[.int .i64 a0] rfl (by (try simp only [List.map_toArray, List.map_cons, List.map_nil]); first | done | rfl | (simp only [List.length_drop, List.length_take]; rfl)) ?_; (with_reducible refine (jobshellref22_Kind.calls k a0 t135 t136 _ A2.out).mono ?_); rintro e w' ⟨rfl, ⟨nd, rfl⟩⟩; refine ⟨_, rfl, ?_⟩))
        go_ret
        exact ⟨by first | rfl | (simp [errW_none, errW_some] <;> rfl) | (simp [*, errW_none, errW_some] <;> rfl), by repeat (first | (with_reducible first | exact HB.out | apply below_alloc | apply pw_below_drewN | apply below_drew1) | exact HB.out)⟩
      · rw [if_neg c11] at H
        have c11b0 : (t135 == 2) = false := beq_eq_false_iff_ne.mpr c11
        have c11b1 : (t135 != 2) = true := bne_iff_ne.mpr c11
        by_cases c12 : t135 = 3
        · rw [if_pos c12] at H
          have c12b0 : (t135 == 3) = true := beq_iff_eq.mpr c12
          have c12b1 : (t135 != 3) = false := bne_eq_false_iff_eq.mpr c12
          clear c12
          obtain rfl := Option.some.inj H
          go_enter Tryd.func22, Tryd.ntmps22
          go_wp2_with (first | ((with_reducible refine gate_callee (f := 18) rfl ?_); refine goesL_ (some 7) rfl rfl Tryd.func18 (by kernel_rfl) rfl #[.int .i64 a0] rfl (by (try simp only [List.map_toArray, List.map_cons, List.map_nil]); first | done | rfl | (simp only [List.length_drop, List.length_take]; rfl)) ?_; (with_reducible refine (jobshellref22_Kind.calls k a0 t135 t136 _ A2.out).mono ?_); rintro e w' ⟨rfl, ⟨nd, rfl⟩⟩; refine ⟨_, rfl, ?_⟩))
          go_ret
          exact ⟨by first | rfl | (simp [errW_none, errW_some] <;> rfl) | (simp [*, errW_none, errW_some] <;> rfl), by repeat (first | (with_reducible first | exact HB.out | apply below_alloc | apply pw_below_drewN | apply below_drew1) | exact HB.out)⟩
        · rw [if_neg c12] at H
          have c12b0 : (t135 == 3) = false := beq_eq_false_iff_ne.mpr c12
          have c12b1 : (t135 != 3) = true := bne_iff_ne.mpr c12
          obtain rfl := Option.some.inj H
          go_enter Tryd.func22, Tryd.ntmps22
          go_wp2_with (first | ((with_reducible refine gate_callee (f := 18) rfl ?_); refine goesL_ (some 7) rfl rfl Tryd.func18 (by kernel_rfl) rfl #[.int .i64 a0] rfl (by (try simp only [List.map_toArray, List.map_cons, List.map_nil]); first | done | rfl | (simp only [List.length_drop, List.length_take]; rfl)) ?_; (with_reducible refine (jobshellref22_Kind.calls k a0 t135 t136 _ A2.out).mono ?_); rintro e w' ⟨rfl, ⟨nd, rfl⟩⟩; refine ⟨_, rfl, ?_⟩))
          go_ret
          exact ⟨by first | rfl | (simp [errW_none, errW_some] <;> rfl) | (simp [*, errW_none, errW_some] <;> rfl), by repeat (first | (with_reducible first | exact HB.out | apply below_alloc | apply pw_below_drewN | apply below_drew1) | exact HB.out)⟩

end Go.Proofs.YtojfchkmemhlfaaDoor.Q
