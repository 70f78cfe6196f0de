import Derived.Test.YtnkkdpjipfjdaaaDoorIv
namespace Go.Proofs.YtnkkdpjipfjdaaaDoor.Ix
open Go.RowKit Go.Proofs.YtnkkdpjipfjdaaaDoorW.PrintWords Go.Proofs.YtnkkdpjipfjdaaaDoorW.PrintLast Go.Proofs.YtnkkdpjipfjdaaaDoorW.PrintMore Go.Proofs.YtnkkdpjipfjdaaaDoorM
set_option linter.unusedVariables false
set_option linter.unusedSimpArgs false
def sigNames : List ByteArray := [(⟨#[]⟩ : ByteArray), (⟨#[72, 85, 80]⟩ : ByteArray), (⟨#[73, 78, 84]⟩ : ByteArray), (⟨#[81, 85, 73, 84]⟩ : ByteArray), (⟨#[84, 84, 73, 78]⟩ : ByteArray), (⟨#[84, 84, 79, 85]⟩ : ByteArray), (⟨#[]⟩ : ByteArray), (⟨#[]⟩ : ByteArray), (⟨#[]⟩ : ByteArray), (⟨#[75, 73, 76, 76]⟩ : ByteArray), (⟨#[85, 83, 82, 49]⟩ : ByteArray), (⟨#[]⟩ : ByteArray), (⟨#[85, 83, 82, 50]⟩ : ByteArray), (⟨#[80, 73, 80, 69]⟩ : ByteArray), (⟨#[65, 76, 82, 77]⟩ : ByteArray), (⟨#[84, 69, 82, 77]⟩ : ByteArray), (⟨#[]⟩ : ByteArray), (⟨#[67, 72, 76, 68]⟩ : ByteArray), (⟨#[67, 79, 78, 84]⟩ : ByteArray), (⟨#[83, 84, 79, 80]⟩ : ByteArray), (⟨#[84, 83, 84, 80]⟩ : ByteArray)]
def sigName (n : Int) : ByteArray := if 0 ≤ n then sigNames.getD n.toNat ⟨#[]⟩ else ⟨#[]⟩
set_option maxHeartbeats 8000000 in
set_option maxRecDepth 1000000 in
theorem name_any (a0 : Int) (w : World) : Calls Tryd.prog 13 #[.int .i64 a0] w fun e w' => e = .returned (.string (sigName a0)) ∧ Below w.heap.size w w' := by
  by_cases c1 : a0 < 0
  · have hr : sigName a0 = ⟨#[]⟩ := by unfold sigName; rw [if_neg (by omega)]
    rw [hr]
    clear hr
    go_enter Tryd.func13, Tryd.ntmps13
    go_wp2_with (first | ((with_reducible refine gate_dst (N := 3) rfl ?_); refine box2_event 53 ?hg ?hg2 (N := 3) ?hd ?hd2 (.tmp 4) ?ho2 (cs0 := #[.string ⟨#[]⟩, .string ⟨#[]⟩, .string ⟨#[]⟩, .string ⟨#[]⟩, .string ⟨#[]⟩, .string ⟨#[]⟩, .string ⟨#[]⟩, .string ⟨#[]⟩, .string ⟨#[]⟩, .string ⟨#[]⟩, .string ⟨#[]⟩, .string ⟨#[]⟩, .string ⟨#[]⟩, .string ⟨#[]⟩, .string ⟨#[]⟩, .string ⟨#[]⟩, .string ⟨#[]⟩, .string ⟨#[]⟩, .string ⟨#[]⟩, .string ⟨#[]⟩, .string ⟨#[]⟩]) (cs := #[.string ⟨#[]⟩, .string ⟨#[72, 85, 80]⟩, .string ⟨#[73, 78, 84]⟩, .string ⟨#[81, 85, 73, 84]⟩, .string ⟨#[84, 84, 73, 78]⟩, .string ⟨#[84, 84, 79, 85]⟩, .string ⟨#[]⟩, .string ⟨#[]⟩, .string ⟨#[]⟩, .string ⟨#[75, 73, 76, 76]⟩, .string ⟨#[85, 83, 82, 49]⟩, .string ⟨#[]⟩, .string ⟨#[85, 83, 82, 50]⟩, .string ⟨#[80, 73, 80, 69]⟩, .string ⟨#[65, 76, 82, 77]⟩, .string ⟨#[84, 69, 82, 77]⟩, .string ⟨#[]⟩, .string ⟨#[67, 72, 76, 68]⟩, .string ⟨#[67, 79, 78, 84]⟩, .string ⟨#[83, 84, 79, 80]⟩, .string ⟨#[84, 83, 84, 80]⟩]) ?hr ?hi ?hs ?h1 ?hp ?hv ?_; (case hd => rfl); (case hd2 => rfl); (case hg => rfl); (case hg2 => rfl); (case ho2 => rfl); (case hr => first | (go_simp; done) | (go_simp; rfl)); (case hi => kernel_rfl); (case hs => rfl); (case h1 => rfl); (case hp => intro v_; rfl); (case hv => intro v_; rfl); intro g hgs w3 hh hb3; have HH := Aside0.mk hh; have HB3 := Aside0.mk hb3; clear hh hb3))
    go_ret
    exact ⟨rfl, HB3.out⟩
  · by_cases c2 : a0 > 20
    · have hr : sigName a0 = ⟨#[]⟩ := by
        unfold sigName
        rw [if_pos (by omega)]
        have : sigNames.length ≤ a0.toNat := by show 21 ≤ _; omega
        rw [List.getD_eq_getElem?_getD, List.getElem?_eq_none this]
        rfl
      rw [hr]
      clear hr
      go_enter Tryd.func13, Tryd.ntmps13
      go_wp2_with (first | ((with_reducible refine gate_dst (N := 3) rfl ?_); refine box2_event 53 ?hg ?hg2 (N := 3) ?hd ?hd2 (.tmp 4) ?ho2 (cs0 := #[.string ⟨#[]⟩, .string ⟨#[]⟩, .string ⟨#[]⟩, .string ⟨#[]⟩, .string ⟨#[]⟩, .string ⟨#[]⟩, .string ⟨#[]⟩, .string ⟨#[]⟩, .string ⟨#[]⟩, .string ⟨#[]⟩, .string ⟨#[]⟩, .string ⟨#[]⟩, .string ⟨#[]⟩, .string ⟨#[]⟩, .string ⟨#[]⟩, .string ⟨#[]⟩, .string ⟨#[]⟩, .string ⟨#[]⟩, .string ⟨#[]⟩, .string ⟨#[]⟩, .string ⟨#[]⟩]) (cs := #[.string ⟨#[]⟩, .string ⟨#[72, 85, 80]⟩, .string ⟨#[73, 78, 84]⟩, .string ⟨#[81, 85, 73, 84]⟩, .string ⟨#[84, 84, 73, 78]⟩, .string ⟨#[84, 84, 79, 85]⟩, .string ⟨#[]⟩, .string ⟨#[]⟩, .string ⟨#[]⟩, .string ⟨#[75, 73, 76, 76]⟩, .string ⟨#[85, 83, 82, 49]⟩, .string ⟨#[]⟩, .string ⟨#[85, 83, 82, 50]⟩, .string ⟨#[80, 73, 80, 69]⟩, .string ⟨#[65, 76, 82, 77]⟩, .string ⟨#[84, 69, 82, 77]⟩, .string ⟨#[]⟩, .string ⟨#[67, 72, 76, 68]⟩, .string ⟨#[67, 79, 78, 84]⟩, .string ⟨#[83, 84, 79, 80]⟩, .string ⟨#[84, 83, 84, 80]⟩]) ?hr ?hi ?hs ?h1 ?hp ?hv ?_; (case hd => rfl); (case hd2 => rfl); (case hg => rfl); (case hg2 => rfl); (case ho2 => rfl); (case hr => first | (go_simp; done) | (go_simp; rfl)); (case hi => kernel_rfl); (case hs => rfl); (case h1 => rfl); (case hp => intro v_; rfl); (case hv => intro v_; rfl); intro g hgs w3 hh hb3; have HH := Aside0.mk hh; have HB3 := Aside0.mk hb3; clear hh hb3))
      go_ret
      exact ⟨rfl, HB3.out⟩
    · obtain ⟨k, rfl⟩ := Int.eq_ofNat_of_zero_le (a := a0) (by omega)
      have hk : k < 21 := by omega
      have c3 : (k : Int) < 21 := by omega
      have hr : sigName (k : Int) = sigNames.getD k ⟨#[]⟩ := by unfold sigName; rw [if_pos (by omega), Int.toNat_natCast]
      rw [hr]
      obtain ⟨s, hs⟩ : ∃ s, s = sigNames.getD k ⟨#[]⟩ := ⟨_, rfl⟩
      rw [← hs]
      have HS := Aside0.mk hs
      have HK := Aside0.mk hk
      clear hr hs
      go_enter Tryd.func13, Tryd.ntmps13
      go_wp2_with (first | (((with_reducible refine gate_dst (N := 3) rfl ?_); refine box2_event 53 ?hg ?hg2 (N := 3) ?hd ?hd2 (.tmp 4) ?ho2 (cs0 := #[.string ⟨#[]⟩, .string ⟨#[]⟩, .string ⟨#[]⟩, .string ⟨#[]⟩, .string ⟨#[]⟩, .string ⟨#[]⟩, .string ⟨#[]⟩, .string ⟨#[]⟩, .string ⟨#[]⟩, .string ⟨#[]⟩, .string ⟨#[]⟩, .string ⟨#[]⟩, .string ⟨#[]⟩, .string ⟨#[]⟩, .string ⟨#[]⟩, .string ⟨#[]⟩, .string ⟨#[]⟩, .string ⟨#[]⟩, .string ⟨#[]⟩, .string ⟨#[]⟩, .string ⟨#[]⟩]) (cs := #[.string ⟨#[]⟩, .string ⟨#[72, 85, 80]⟩, .string ⟨#[73, 78, 84]⟩, .string ⟨#[81, 85, 73, 84]⟩, .string ⟨#[84, 84, 73, 78]⟩, .string ⟨#[84, 84, 79, 85]⟩, .string ⟨#[]⟩, .string ⟨#[]⟩, .string ⟨#[]⟩, .string ⟨#[75, 73, 76, 76]⟩, .string ⟨#[85, 83, 82, 49]⟩, .string ⟨#[]⟩, .string ⟨#[85, 83, 82, 50]⟩, .string ⟨#[80, 73, 80, 69]⟩, .string ⟨#[65, 76, 82, 77]⟩, .string ⟨#[84, 69, 82, 77]⟩, .string ⟨#[]⟩, .string ⟨#[67, 72, 76, 68]⟩, .string ⟨#[67, 79, 78, 84]⟩, .string ⟨#[83, 84, 79, 80]⟩, .string ⟨#[84, 83, 84, 80]⟩]) ?hr ?hi ?hs ?h1 ?hp ?hv ?_; (case hd => rfl); (case hd2 => rfl); (case hg => rfl); (case hg2 => rfl); (case ho2 => rfl); (case hr => first | (go_simp; done) | (go_simp; rfl)); (case hi => kernel_rfl); (case hs => rfl); (case h1 => rfl); (case hp => intro v_; rfl); (case hv => intro v_; rfl); intro g hgs w3 hh hb3; have HH := Aside0.mk hh; have HB3 := Aside0.mk hb3; have hc : w3.cell? ⟨g, k, none⟩ = some (.string s) := (by
        have hk2 := HK.out
        rw [blk_cell HH.out, HS.out]
        clear HS HB3 HH hgs
        rcases (by omega : k = 0 ∨ k = 1 ∨ k = 2 ∨ k = 3 ∨ k = 4 ∨ k = 5 ∨ k = 6 ∨ k = 7 ∨ k = 8 ∨ k = 9 ∨ k = 10 ∨ k = 11 ∨ k = 12 ∨ k = 13 ∨ k = 14 ∨ k = 15 ∨ k = 16 ∨ k = 17 ∨ k = 18 ∨ k = 19 ∨ k = 20) with h | h | h | h | h | h | h | h | h | h | h | h | h | h | h | h | h | h | h | h | h <;> subst h <;> rfl); clear hh hb3 hgs)))
      go_ret
      exact ⟨rfl, HB3.out⟩
end Go.Proofs.YtnkkdpjipfjdaaaDoor.Ix
