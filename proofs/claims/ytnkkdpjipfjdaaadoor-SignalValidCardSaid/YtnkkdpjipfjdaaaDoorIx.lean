import Derived.Test.YtnkkdpjipfjdaaaDoorProg
import Derived.Test.YtnkkdpjipfjdaaaDoorMOwn
import Derived.WalkKit
import Derived.WalkSpells
import Derived.Deep.RegionLaw
import Derived.Shelf.Abstract
namespace Go.Proofs.YtnkkdpjipfjdaaaDoor.Ix
open Go.RowKit Go.Proofs.YtnkkdpjipfjdaaaDoorW.PrintWords Go.Proofs.YtnkkdpjipfjdaaaDoorW.PrintLast Go.Proofs.YtnkkdpjipfjdaaaDoorW.PrintMore Go.Proofs.YtnkkdpjipfjdaaaDoorM
set_option linter.unusedVariables false
set_option linter.unusedSimpArgs false
set_option maxHeartbeats 1000000 in
set_option maxRecDepth 100000 in
theorem idx_any (g : Nat) (lb : Array Value) (eg : ∀ args (w : World), (callFunc g args).run Tryd.prog w = .ok (.enter g args) w) (p : Int → Bool) (A0 : Option Addr) (c0 : Nat) (l0 : List Int) (w : World) (hr0 : Kd.C (Kd.int .i64) w A0 l0.length l0) (hc0 : l0.length ≤ c0)
    (hp : ∀ (m : Nat) (x : Int), Calls Tryd.prog g (#[.int .i64 x] ++ lb) (w.drewN m) fun e w' => e = .returned (.bool (p x)) ∧ Drawn0 (w.drewN m) w') :
    Calls Tryd.prog 57 #[.slice A0 l0.length c0, .func (.func g) #[] lb] w fun e w' => e = .returned (.int .i64 (idxP p l0 0)) ∧ Drawn0 w w' := by
  obtain ⟨n, hn⟩ : ∃ n, n = l0.length := ⟨_, rfl⟩
  have hmax : n ≤ 9223372036854775807 := by have := hr0.2.1; omega
  have hA : 0 < n → ∃ ad, A0 = some ad := fun h => by obtain ⟨ad, h1, _⟩ := hr0.2.2 (by omega); exact ⟨ad, h1⟩
  rw [← hn] at hr0 ⊢
  have HN := Aside0.mk hn
  have HP := Aside0.mk hp
  have HR := Aside0.mk hr0
  clear hp hr0 hn hc0
  by_cases h0 : 0 < n
  · obtain ⟨ad, rfl⟩ := hA h0
    clear hA h0
    go_enter Tryd.func57, Tryd.ntmps57
    go_wp2
    go_loopg [5, 8] n (fun gg _ s8 wr => ∃ kk m : Nat, kk ≤ n ∧ n - kk ≤ gg ∧ s8 = .int .i64 kk ∧ Aside0 (wr = w.drewN m) ∧ Aside0 (∀ j, j < kk → p (l0.getD j 0) = false))
    case atStart => exact ⟨0, 0, Nat.zero_le _, by omega, rfl, ⟨rfl⟩, ⟨fun j hj => absurd hj (Nat.not_lt_zero _)⟩⟩
    case round =>
      obtain ⟨kk, m, hkk, hg, rfl, BW, A⟩ := hrel
      by_cases hlt : kk < n
      · have hltz : (kk : Int) < (n : Int) := by omega
        obtain ⟨ad', e', x0⟩ := Kd.at_int (Kd.C_drewN HR.out m) (kk : Int) (by omega) hltz
        injection e' with e'
        subst e'
        rw [Int.toNat_natCast] at x0
        rw [← BW.out] at x0
        have hcall := HP.out m (rd l0 (kk : Int))
        rw [← BW.out] at hcall
        have hy : rd l0 (kk : Int) = l0.getD kk 0 := rfl
        rw [hy] at hcall x0
        generalize hy2 : l0.getD kk 0 = y at hcall x0
        have B := Aside0.mk hy2
        clear hy2 hy
        cases hq : p y with
        | true =>
          have HQ := Aside0.mk hq
          rw [hq] at hcall
          clear hq
          go_wp2_with ((with_reducible refine hcall.mono ?_); rintro e w' ⟨rfl, ⟨nd, rfl⟩⟩)
          go_ret
          refine ⟨?_, ?_⟩
          · rw [idxP_hit p 0 l0 0 kk (by have := HN.out; omega) A.out (by rw [B.out]; exact HQ.out), Nat.zero_add]
            rfl
          · rw [BW.out]
            exact ⟨_, by rw [World.drewN_drewN]⟩
        | false =>
          have HQ := Aside0.mk hq
          rw [hq] at hcall
          clear hq
          go_wp2_with ((with_reducible refine hcall.mono ?_); rintro e w' ⟨rfl, ⟨nd, rfl⟩⟩)
          go_roundg (n - (kk + 1))
          case measure => omega
          case rel =>
            refine ⟨kk + 1, m + nd, by omega, by omega, by go_num, ⟨by rw [BW.out, World.drewN_drewN]⟩, ⟨fun j hj => ?_⟩⟩
            by_cases e : j = kk
            · subst e
              rw [B.out]; exact HQ.out
            · exact A.out j (by omega)
      · have hltz : ¬ (kk : Int) < (n : Int) := by omega
        have : kk = n := by omega
        subst this
        go_wp2
        go_ret
        refine ⟨?_, ⟨m, BW.out⟩⟩
        rw [idxP_miss p 0 l0 0 (by rw [← HN.out]; exact A.out)]
        rfl
  · have hz : n = 0 := by omega
    subst hz
    have hl : l0 = [] := List.eq_nil_of_length_eq_zero HN.out.symm
    subst hl
    clear hA h0
    go_enter Tryd.func57, Tryd.ntmps57
    go_wp2
    go_loopg [5, 8] 0 (fun gg _ s8 wr => s8 = .int .i64 0 ∧ Aside0 (w = wr))
    case atStart => exact ⟨rfl, ⟨rfl⟩⟩
    case round =>
      obtain ⟨rfl, hw⟩ := hrel
      obtain rfl := hw.out
      go_wp2
      go_ret
      exact ⟨rfl, Drawn0.refl _⟩
end Go.Proofs.YtnkkdpjipfjdaaaDoor.Ix
