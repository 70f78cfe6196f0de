import Derived.Test.YtnkkdpjipfjdaaaDoorIy
namespace Go.Proofs.YtnkkdpjipfjdaaaDoor.Ix
open Go.RowKit Go.Proofs.YtnkkdpjipfjdaaaDoorW.PrintWords Go.Proofs.YtnkkdpjipfjdaaaDoorW.PrintLast Go.Proofs.YtnkkdpjipfjdaaaDoorW.PrintMore Go.Proofs.YtnkkdpjipfjdaaaDoorM
set_option linter.unusedVariables false
set_option linter.unusedSimpArgs false
set_option maxHeartbeats 8000000
set_option maxRecDepth 1000000
theorem pred34 (x : Int) (W : World) : Calls Tryd.prog 34 (#[.int .i64 x] ++ #[]) W fun e w' => e = .returned (.bool (x == 19 || (x == 20 || (x == 4 || x == 5)))) ∧ Drawn0 W w' := by
  by_cases c0 : x = 19
  · have c0b0 : (x == 19) = true := beq_iff_eq.mpr c0
    have c0b1 : (x != 19) = false := bne_eq_false_iff_eq.mpr c0
    clear c0
    go_enter Tryd.func34, Tryd.ntmps34
    go_wp2
    go_ret
    exact ⟨by first | rfl | (simp; done) | (simp [*]; done), by repeat (first | exact Drawn0.refl _ | apply Drawn0.step)⟩
  · have c0b0 : (x == 19) = false := beq_eq_false_iff_ne.mpr c0
    have c0b1 : (x != 19) = true := bne_iff_ne.mpr c0
    by_cases c1 : x = 20
    · have c1b0 : (x == 20) = true := beq_iff_eq.mpr c1
      have c1b1 : (x != 20) = false := bne_eq_false_iff_eq.mpr c1
      clear c1
      go_enter Tryd.func34, Tryd.ntmps34
      go_wp2
      go_ret
      exact ⟨by first | rfl | (simp; done) | (simp [*]; done), by repeat (first | exact Drawn0.refl _ | apply Drawn0.step)⟩
    · have c1b0 : (x == 20) = false := beq_eq_false_iff_ne.mpr c1
      have c1b1 : (x != 20) = true := bne_iff_ne.mpr c1
      by_cases c2 : x = 4
      · have c2b0 : (x == 4) = true := beq_iff_eq.mpr c2
        have c2b1 : (x != 4) = false := bne_eq_false_iff_eq.mpr c2
        clear c2
        go_enter Tryd.func34, Tryd.ntmps34
        go_wp2
        go_ret
        exact ⟨by first | rfl | (simp; done) | (simp [*]; done), by repeat (first | exact Drawn0.refl _ | apply Drawn0.step)⟩
      · have c2b0 : (x == 4) = false := beq_eq_false_iff_ne.mpr c2
        have c2b1 : (x != 4) = true := bne_iff_ne.mpr c2
        go_enter Tryd.func34, Tryd.ntmps34
        go_wp2
        go_ret
        exact ⟨by first | rfl | (simp; done) | (simp [*]; done), by repeat (first | exact Drawn0.refl _ | apply Drawn0.step)⟩
theorem pred44 (x : Int) (W : World) : Calls Tryd.prog 44 (#[.int .i64 x] ++ #[]) W fun e w' => e = .returned (.bool (x == 18)) ∧ Drawn0 W w' := by
  go_enter Tryd.func44, Tryd.ntmps44
  go_wp2
  go_ret
  exact ⟨by first | rfl | (simp; done) | (simp [*]; done), by repeat (first | exact Drawn0.refl _ | apply Drawn0.step)⟩
theorem pred47 (x : Int) (W : World) : Calls Tryd.prog 47 (#[.int .i64 x] ++ #[]) W fun e w' => e = .returned (.bool (x == 9 || x == 19)) ∧ Drawn0 W w' := by
  by_cases c0 : x = 9
  · have c0b0 : (x == 9) = true := beq_iff_eq.mpr c0
    have c0b1 : (x != 9) = false := bne_eq_false_iff_eq.mpr c0
    clear c0
    go_enter Tryd.func47, Tryd.ntmps47
    go_wp2
    go_ret
    exact ⟨by first | rfl | (simp; done) | (simp [*]; done), by repeat (first | exact Drawn0.refl _ | apply Drawn0.step)⟩
  · have c0b0 : (x == 9) = false := beq_eq_false_iff_ne.mpr c0
    have c0b1 : (x != 9) = true := bne_iff_ne.mpr c0
    go_enter Tryd.func47, Tryd.ntmps47
    go_wp2
    go_ret
    exact ⟨by first | rfl | (simp; done) | (simp [*]; done), by repeat (first | exact Drawn0.refl _ | apply Drawn0.step)⟩
theorem pred41 (x a1 : Int) (gb : Nat) (W : World) (hb : W.heap[gb]? = some (.cells #[.int .i64 a1] 3 (0, 0))) : Calls Tryd.prog 41 (#[.int .i64 x] ++ #[.pointer (some ⟨gb, 0, none⟩)]) W fun e w' => e = .returned (.bool (x == a1)) ∧ Drawn0 W w' := by
  have hc : W.cell? ⟨gb, 0, none⟩ = some (.int .i64 a1) := by simp [World.cell?, hb]
  clear hb
  go_enter Tryd.func41, Tryd.ntmps41
  go_wp2
  go_ret
  exact ⟨by first | rfl | (simp; done) | (simp [*]; done), by repeat (first | exact Drawn0.refl _ | apply Drawn0.step)⟩
theorem pred48 (x a1 : Int) (gb : Nat) (W : World) (hb : W.heap[gb]? = some (.cells #[.int .i64 a1] 3 (0, 0))) : Calls Tryd.prog 48 (#[.int .i64 x] ++ #[.pointer (some ⟨gb, 0, none⟩)]) W fun e w' => e = .returned (.bool (x == a1)) ∧ Drawn0 W w' := by
  have hc : W.cell? ⟨gb, 0, none⟩ = some (.int .i64 a1) := by simp [World.cell?, hb]
  clear hb
  go_enter Tryd.func48, Tryd.ntmps48
  go_wp2
  go_ret
  exact ⟨by first | rfl | (simp; done) | (simp [*]; done), by repeat (first | exact Drawn0.refl _ | apply Drawn0.step)⟩
theorem idxP_any (p : Int → Bool) (l : List Int) : decide (idxP p l 0 ≥ 0) = l.any p := by
  rcases idxP_spec p l 0 with ⟨h1, h2⟩ | ⟨k, h1, h2, h3, h4⟩
  · rw [h1]
    have : l.any p = false := by rw [List.any_eq_false]; intro x hx; simp [h2 x hx]
    rw [this]; rfl
  · rw [h2]
    have : l.any p = true := by
      rw [List.any_eq_true]
      refine ⟨l.getD k 0, ?_, h3⟩
      rw [List.getD_eq_getElem?_getD, List.getElem?_eq_getElem h1]
      exact List.getElem_mem h1
    rw [this]
    exact decide_eq_true (Int.natCast_nonneg _)
theorem has_any (g : Nat) (lb : Array Value) (eg : ∀ args (w : World), (callFunc g args).run Tryd.prog w = .ok (.enter g args) w) (p : Int → Bool) (A0 : Option Addr) (c0 : Nat) (l0 : List Int) (w : World) (hr0 : Kd.C (Kd.int .i64) w A0 l0.length l0) (hc0 : l0.length ≤ c0)
    (hp : ∀ (W : World) (x : Int), Calls Tryd.prog g (#[.int .i64 x] ++ lb) W fun e w' => e = .returned (.bool (p x)) ∧ Drawn0 W w') :
    Calls Tryd.prog 50 #[.slice A0 l0.length c0, .func (.func g) #[] lb] w fun e w' => e = .returned (.bool (l0.any p)) ∧ Drawn0 w w' := by
  have hidx := idx_any g lb eg p A0 c0 l0 w hr0 hc0 (fun m x => hp _ x)
  have ha := idxP_any p l0
  generalize hq : idxP p l0 0 = i at hidx ha
  generalize hv : l0.any p = v at ha
  have HX := Aside0.mk hidx
  have HA := Aside0.mk ha
  clear hidx ha hr0 hc0 hp hq hv
  go_enter Tryd.func50, Tryd.ntmps50
  go_wp2_with ((with_reducible refine HX.out.mono ?_); rintro e w' ⟨rfl, ⟨nd, rfl⟩⟩)
  go_ret
  exact ⟨by rw [← HA.out]; rfl, ⟨_, rfl⟩⟩
theorem wo_any (g : Nat) (lb : Array Value) (eg : ∀ args (w : World), (callFunc g args).run Tryd.prog w = .ok (.enter g args) w) (p : Int → Bool) (A0 : Option Addr) (c0 : Nat) (l0 : List Int) (w : World)
    (hcl : Calls Tryd.prog 53 #[.slice A0 l0.length c0] w fun e w' => ∃ v0_ : Value, e = .returned v0_ ∧ Kd.R (Kd.int .i64) 3 w' w.heap.size (fun _ => True) v0_ l0 ∧ Below w.heap.size w w')
    (hp : ∀ (W : World) (x : Int), Below w.heap.size w W → Calls Tryd.prog g (#[.int .i64 x] ++ lb) W fun e w' => e = .returned (.bool (p x)) ∧ Drawn0 W w') :
    Calls Tryd.prog 40 #[.slice A0 l0.length c0, .func (.func g) #[] lb] w fun e w' => ∃ v0_ : Value, e = .returned v0_ ∧ Kd.R (Kd.int .i64) 3 w' w.heap.size (fun _ => True) v0_ (l0.filter fun x => !p x) ∧ Below w.heap.size w w' := by
  have HD := Aside0.mk (fun (u : Value) (w' : World) (hu : Kd.R (Kd.int .i64) 3 w' w.heap.size (fun _ => True) u l0) (hB : Below w.heap.size w w') =>
    del_any g lb eg p (fun W => Below w.heap.size w W) (fun _ => True) u l0 w w' hB hu hB (fun W m h => pw_below_drewN h _) (fun b hb W i v h => h.setCell (p := ⟨b, i, none⟩) (by
      obtain ⟨A, cap, rfl⟩ := Kd.R_slice hu
      obtain ⟨_, inner, ⟨_, h2⟩, _⟩ := hu
      rcases h2 with ⟨h2, _⟩ | ⟨g', cap', cur, hv, hge, _⟩
      · injection h2 with h2 h3
        subst h2
        cases hb
      · injection hv with hv
        subst hv
        cases hb
        exact hge) _) hp)
  have HX := Aside0.mk hcl
  clear hcl hp
  go_enter Tryd.func40, Tryd.ntmps40
  go_wp2_with (first | ((with_reducible refine HX.out.mono ?_); rintro e w1 ⟨v, rfl, hR, hB⟩; have HDD := Aside0.mk (HD.out v w1 hR hB); clear hR hB) | ((with_reducible refine HDD.out.mono ?_); rintro e w2 ⟨v2, rfl, hR, hB⟩; have HR2 := Aside0.mk hR; have HB2 := Aside0.mk hB; clear hR hB))
  go_ret
  exact ⟨_, rfl, HR2.out, HB2.out⟩
end Go.Proofs.YtnkkdpjipfjdaaaDoor.Ix
