import Derived.Test.YtnkkdpjipfjdaaaDoorQ15
import Derived.Test.YtnkkdpjipfjdaaaDoorMEv
namespace Go.Proofs.YtnkkdpjipfjdaaaDoor.Pure
open Go.RowKit Go.Proofs.YtnkkdpjipfjdaaaDoor.Q Go.Proofs.YtnkkdpjipfjdaaaDoorW.PrintWords Go.Proofs.YtnkkdpjipfjdaaaDoorW.PrintLast Go.Proofs.YtnkkdpjipfjdaaaDoorM Go.Proofs.YtnkkdpjipfjdaaaDoor.Ix
theorem awake_30 : jobshelllaw25_awake.f 30 = some true := by kernel_rfl
theorem in21 {n : Int} (h0 : 0 ≤ n) (h1 : n ≤ 20) : n = 0 ∨ n = 1 ∨ n = 2 ∨ n = 3 ∨ n = 4 ∨ n = 5 ∨ n = 6 ∨ n = 7 ∨ n = 8 ∨ n = 9 ∨ n = 10 ∨ n = 11 ∨ n = 12 ∨ n = 13 ∨ n = 14 ∨ n = 15 ∨ n = 16 ∨ n = 17 ∨ n = 18 ∨ n = 19 ∨ n = 20 := by omega
theorem name_out {n : Int} (h : ¬ (0 ≤ n ∧ n ≤ 20)) : sigName n = ⟨#[]⟩ := by
  unfold sigName
  by_cases h0 : 0 ≤ n
  · rw [if_pos h0]
    have : sigNames.length ≤ n.toNat := by show 21 ≤ _; omega
    rw [List.getD_eq_getElem?_getD, List.getElem?_eq_none this]
    rfl
  · rw [if_neg h0]
theorem name_eq (n : Int) : jobshellref25_Name.f n = some (sigName n) := by
  by_cases h : 0 ≤ n ∧ n ≤ 20
  · rcases in21 h.1 h.2 with h | h | h | h | h | h | h | h | h | h | h | h | h | h | h | h | h | h | h | h | h <;> subst h <;> rfl
  · rw [name_out h]
    unfold jobshellref25_Name.f
    repeat rw [if_neg (by omega)]
theorem def_eq (n : Int) : ∃ d, signal_Default.f n = some d ∧ jobshellref25_Default.f 30 n = some d := by
  by_cases h : 0 ≤ n ∧ n ≤ 20
  · refine ⟨(signal_Default.f n).getD 0, ?_⟩
    rcases in21 h.1 h.2 with h | h | h | h | h | h | h | h | h | h | h | h | h | h | h | h | h | h | h | h | h <;> subst h <;> exact ⟨by kernel_rfl, by kernel_rfl⟩
  · refine ⟨0, ?_, ?_⟩
    · have h5 : (n == 5) = false := beq_eq_false_iff_ne.2 (by omega)
      have hs : signal_stops.f n = some false := by
        unfold signal_stops.f
        repeat rw [if_neg (by omega)]
        rw [h5]
      have hn : signal_Name.f n = some ⟨#[]⟩ := by unfold signal_Name.f; rw [name_out h]
      unfold signal_Default.f
      rw [hs, Option.bind_some, if_neg (by decide), if_neg (by omega), if_neg (by omega), hn, Option.bind_some, if_pos (by kernel_rfl)]
    · unfold jobshellref25_Default.f
      rw [name_eq, name_out h, Option.bind_some, if_pos (by kernel_rfl)]
      rfl
theorem num_eq (s : ByteArray) : ∀ (k : Nat) (n : Int), jobshellref25_Number.l0 k s n = signal_Number.l0 k s n
  | 0, _ => rfl
  | k + 1, n => by
    have hn : signal_Name.f n = some (sigName n) := rfl
    unfold jobshellref25_Number.l0 signal_Number.l0
    simp only [name_eq, hn, Option.bind_some, num_eq s k]
theorem num_total (s : ByteArray) : ∀ (m k : Nat) (n : Int), m < k → 1 ≤ n → n + m = 21 → ∃ r, signal_Number.l0 k s n = some r
  | 0, k + 1, n, _, _, h => ⟨(0, false), by unfold signal_Number.l0; rw [if_neg (by omega)]⟩
  | m + 1, k + 1, n, hk, h1, h => by
    obtain ⟨r, hr⟩ := num_total s m k (n + 1) (by omega) (by omega) (by omega)
    have hn : signal_Name.f n = some (sigName n) := rfl
    have hi : ∃ t, strconv_Itoa_33.f n = some t := ⟨_, by unfold strconv_Itoa_33.f; rw [if_pos (by omega)]⟩
    obtain ⟨t, hi⟩ := hi
    unfold signal_Number.l0
    rw [if_pos (by omega), hn, Option.bind_some, wrap_in (by omega) (by omega), hr, hi, Option.bind_some]
    split
    · exact ⟨_, rfl⟩
    · split
      · exact ⟨_, rfl⟩
      · split
        · exact ⟨_, rfl⟩
        · exact ⟨_, rfl⟩
theorem SignalNames : jobshelllaw25_SignalNames.Pure := by
  intro a0 a1 _ _
  refine ⟨30, ?_⟩
  unfold jobshelllaw25_SignalNames.f
  by_cases hs : (a1.size : Int) > 100
  · rw [if_pos hs, awake_30]; rfl
  · obtain ⟨⟨x, y⟩, hr⟩ := num_total a1 20 30 1 (by omega) (by omega) (by omega)
    have h1 : signal_Number.f 30 a1 = some (x, y) := hr
    have h2 : jobshellref25_Number.f 30 a1 = some (x, y) := (num_eq a1 30 1).trans hr
    have h3 : signal_Name.f a0 = some (sigName a0) := rfl
    obtain ⟨d, h4, h5⟩ := def_eq a0
    rw [if_neg hs, h1, h2, h3, name_eq, h4, h5, awake_30]
    simp
end Go.Proofs.YtnkkdpjipfjdaaaDoor.Pure
