-- Written by wip/tool/myprint.py, a program of this repo that drives the kit's print over hand-written contracts; Lean checks it. (halved)
import Derived.Test.YtoecolllimgbgaaQ0
namespace Go.Proofs.Ytoecolllimgbgaa.Q
open Go.RowKit Go.Proofs.YtoecolllimgbgaaW.PrintWords Go.Proofs.YtoecolllimgbgaaW.PrintLast Go.Proofs.YtoecolllimgbgaaW.PrintMore Go.Proofs.YtoecolllimgbgaaM
attribute [local go_sem] max2_int min2_int max_two min_two max_three min_three max_four min_four   -- for this text's walks alone
set_option linter.unusedVariables false
set_option linter.unusedSimpArgs false

/-! ### slices_Delete_string_string: function 31 -/
theorem slices_Delete_string_string.zero : ∀ w : World, (zeroValue 9).run Try.prog w = .ok (.string ⟨#[]⟩) w := fun w => by rfl
def slices_Delete_string_string.f (l0 : List ByteArray) (a1 : Int) (a2 : Int) : Option (List ByteArray) := if 0 ≤ a1 then (if a1 < (l0.length : Int) then (if a2 = a1 + 1 then some (l0.eraseIdx a1.toNat) else none) else none) else none
set_option maxHeartbeats 8000000 in
set_option maxRecDepth 1000000 in
theorem slices_Delete_string_string.calls (P0_ : Nat → Prop) (u9000_ : Value) (l0 : List ByteArray) (a1 : Int) (a2 : Int) (r : List ByteArray) (w0 w : World) (hB : Below w0.heap.size w0 w) (ho0 : Kd.R Kd.string 9 w w0.heap.size P0_ u9000_ l0) (h : slices_Delete_string_string.f l0 a1 a2 = some r) :
  Calls Try.prog 31 #[u9000_, .int .i64 a1, .int .i64 a2] w fun e w' => ∃ v0_ : Value, e = .returned (v0_) ∧ Kd.R Kd.string 9 w' w0.heap.size (fun k_ => (P0_ k_ ∨ w.heap.size ≤ k_)) v0_ r ∧ Below w0.heap.size w0 w' ∧ Kept w w' (fun k_ => P0_ k_) := by
 unfold slices_Delete_string_string.f at h
 by_cases h1 : 0 ≤ a1
 ·rw [if_pos h1] at h
  by_cases h2 : a1 < (l0.length : Int)
  ·rw [if_pos h2] at h
   by_cases h3 : a2 = a1 + 1
   ·rw [if_pos h3] at h
    obtain rfl := Option.some.inj h
    clear h
    obtain ⟨i, rfl⟩ := Int.eq_ofNat_of_zero_le h1
    obtain ⟨j, hj⟩ : ∃ j : Nat, j = i + 1 := ⟨_, rfl⟩
    obtain rfl : a2 = (j : Int) := by omega
    clear h1 h3
    have hi : i < l0.length := by omega
    clear h2
    obtain ⟨A, cap, rfl⟩ := Kd.R_slice ho0
    have hA : ∃ g, A = some ⟨g, 0, none⟩ := by
     obtain ⟨_, inner, ⟨_, h2⟩, _⟩ := ho0
     rcases h2 with ⟨h2, _⟩ | ⟨g, cap', cur, hv, _⟩
     ·injection h2 with h2 h3
      omega
     ·injection hv with hv
      exact ⟨g, hv⟩
    obtain ⟨g, rfl⟩ := hA
    have hroom := Go.Proofs.YtoecolllimgbgaaM.R_room _ ho0
    have hcap : l0.length ≤ cap := hroom.2.2.2.2.2.1
    have hmax : cap ≤ 9223372036854775807 := hroom.2.2.2.2.2.2
    have hw0 := hB.size
    have hP : P0_ g := ho0.1 g rfl
    obtain ⟨n, hn⟩ : ∃ n, n = l0.length := ⟨_, rfl⟩
    rw [← hn] at ho0 hi hcap ⊢
    have HN := Aside0.mk hn
    have HO := Aside0.mk ho0
    have HB := Aside0.mk hB
    have HW := Aside0.mk hw0
    have HP := Aside0.mk hP
    have HJ := Aside0.mk hj
    have hij : i < j := by omega
    have hjn : j ≤ n := by omega
    have hjc : j ≤ cap := by omega
    have hic : i ≤ cap := by omega
    have hne : ((i : Int) == (j : Int)) = false := beq_eq_false_iff_ne.2 (by omega)
    obtain ⟨A, hA, hA2⟩ : ∃ A : Addr, (if cap = j then some (⟨g, 0, none⟩ : Addr) else some ⟨g, j, none⟩) = some A ∧ Aside0 (some A = if cap = i + 1 then some (⟨g, 0, none⟩ : Addr) else (some (⟨g, 0, none⟩ : Addr)).map (·.add ((i + 1) * Kd.sz Kd.string))) := by
     by_cases hc : cap = j
     ·exact ⟨⟨g, 0, none⟩, by rw [if_pos hc], ⟨by rw [if_pos (by omega)]⟩⟩
     ·exact ⟨⟨g, j, none⟩, by rw [if_neg hc], ⟨by rw [if_neg (by omega), ← hj, Option.map_some, show Kd.sz Kd.string = 1 from rfl, add_plain]; rw [Nat.mul_one]⟩⟩
    have hM : Aside0 (n - j = n - (i + 1)) := ⟨by omega⟩
    have hI : Aside0 (i < n) := ⟨hi⟩
    have hW2 : Aside0 (Below w0.heap.size w0 w.drew) := ⟨below_drew hB⟩
    have hR2 : Aside0 (Kd.R Kd.string 9 w.drew w0.heap.size P0_ (.slice (some ⟨g, 0, none⟩) n cap) l0) := ⟨Kd.R_drew ho0⟩
    have hS : Aside0 ((Try.prog.info? 9).map (·.size) = some (Kd.sz Kd.string)) := ⟨by obtain ⟨i0, e1, e2⟩ := Option.map_eq_some_iff.1 info9; rw [e1]; simp only [Prod.mk.injEq] at e2; simp [e2.2.1]; rfl⟩
    clear hn ho0 hB hw0 hP hj hroom
    go_enter Try.func31, Try.ntmps31
    go_wp2_with fail
    go_region_law (refine Kd.R_delete_step Kd.string (w0 := w0) w0.heap.size rfl (.tmp 22) (.tmp 25) 22 9 rfl Try.underlying22 hS.out (g := g) (n := n) (c := cap) (k := i) (m := n - j) (c2 := cap - j) (A := some A) (xs := l0) (ok := P0_) (by simp [Act.eval, Act.put]) (by simp [Act.eval, Act.put]) hA2.out hM.out hR2.out hI.out hW2.out (by exact HW.out) ?_; intro w1 ho1 hb1 hg1)
    have hroom1 := Go.Proofs.YtoecolllimgbgaaM.R_room _ ho1
    have hsz : Kd.sz Kd.string = 1 := rfl
    have hcz : (Value.cells (.string ⟨#[]⟩)).size = 1 := rfl
    obtain ⟨zs, hz, hcl⟩ := Go.Proofs.YtoecolllimgbgaaM.run_clear_k (P := Try.prog) w1 22 9 (.string ⟨#[]⟩) Try.underlying22 slices_Delete_string_string.zero (by simp [Value.cells, Value.oneCell']) g (n - 1) (n - (n - 1)) (cap - (n - 1)) (by omega) (fun q hq => hroom1.1 _ (by rw [hcz] at hq; rw [hsz]; have h1_ : n - (n - 1) = 1 := (by omega); rw [h1_] at hq; have h2_ : n * 1 ≤ cap * 1 := Nat.mul_le_mul_right _ hcap; omega)) (fun q hq => hroom1.2.1 _)
    have ht := Aside0.mk (Go.Proofs.YtoecolllimgbgaaM.R_tail _ ho1 zs (n - 1) (by rw [hsz]; omega) (by rw [hz, hcz, hsz]; have h1_ : n - (n - 1) = 1 := (by omega); rw [h1_]; have h2_ : n * 1 ≤ cap * 1 := Nat.mul_le_mul_right _ hcap; omega))
    have HB1 := Aside0.mk hb1
    have HG1 := Aside0.mk hg1
    have HZ := Aside0.mk hz
    have HRR := Aside0.mk hroom1
    clear hb1 hg1 hz hroom1 ho1 hsz hcz
    go_wp2
    go_ret
    have hW1 : w0.heap.size ≤ w1.heap.size := HB1.out.size
    refine ⟨_, rfl, Kd.R_mono (by rw [Int.toNat_natCast]; exact ht.out.1) (fun _ hk => .inl hk), pw_below_grown HB1.out (some g) hW1 ht.out.2 (fun k hk => by injection hk with hk; subst hk; exact HRR.out.2.2.2.1), ?_⟩
    have k1 : Kept w w1 (fun k_ => P0_ k_) := Kept.of_grown HG1.out (Kept.refl w _) (fun k hk => by injection hk with hk; subst hk; exact .inl HP.out)
    exact Kept.of_grown ht.out.2 k1 (fun k hk => by injection hk with hk; subst hk; exact .inl HP.out)
   ·rw [if_neg h3] at h; cases h
  ·rw [if_neg h2] at h; cases h
 ·rw [if_neg h1] at h; cases h

end Go.Proofs.Ytoecolllimgbgaa.Q
