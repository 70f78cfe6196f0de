import Derived.Test.YtnkkdpjipfjdaaaDoorIw
namespace Go.Proofs.YtnkkdpjipfjdaaaDoor.Ix
open Go.RowKit Go.Proofs.YtnkkdpjipfjdaaaDoorW.PrintWords Go.Proofs.YtnkkdpjipfjdaaaDoorW.PrintLast Go.Proofs.YtnkkdpjipfjdaaaDoorW.PrintMore Go.Proofs.YtnkkdpjipfjdaaaDoorM
set_option linter.unusedVariables false
set_option linter.unusedSimpArgs false
theorem below_drew0 {w w1 : World} (m : Nat) (h : Below (w.drewN m).heap.size (w.drewN m) w1) : Below w.heap.size w w1 := ⟨h.os, h.tape, h.output, h.size, h.block⟩
set_option maxHeartbeats 8000000 in
set_option maxRecDepth 1000000 in
theorem with_hit (A0 : Option Addr) (c0 : Nat) (l0 : List Int) (a1 r1 : Int) (w : World)
    (hbs : Calls Tryd.prog 55 #[.slice A0 l0.length c0, .int .i64 a1] w fun e w' => e = .returned (.tuple #[.int .i64 r1, .bool true]) ∧ Drawn0 w w')
    (hcl : ∀ m, Calls Tryd.prog 53 #[.slice A0 l0.length c0] (w.drewN m) fun e w' => ∃ v0_ : Value, e = .returned v0_ ∧ Kd.R (Kd.int .i64) 3 w' (w.drewN m).heap.size (fun _ => True) v0_ l0 ∧ Below (w.drewN m).heap.size (w.drewN m) w') :
    Calls Tryd.prog 45 #[.slice A0 l0.length c0, .int .i64 a1] w fun e w' => ∃ v0_ : Value, e = .returned v0_ ∧ Kd.R (Kd.int .i64) 3 w' w.heap.size (fun _ => True) v0_ l0 ∧ Below w.heap.size w w' := by
  have HX := Aside0.mk hbs
  have HC := Aside0.mk hcl
  clear hbs hcl
  go_enter Tryd.func45, Tryd.ntmps45
  go_wp2_with (first | ((with_reducible refine HX.out.mono ?_); rintro e w1 ⟨rfl, ⟨nd, rfl⟩⟩) | ((with_reducible refine (HC.out _).mono ?_); rintro e w2 ⟨v2, rfl, hR, hB⟩; have HR2 := Aside0.mk hR; have HB2 := Aside0.mk hB; clear hR hB))
  go_ret
  exact ⟨_, rfl, HR2.out, below_drew0 _ HB2.out⟩
set_option maxHeartbeats 8000000 in
set_option maxRecDepth 1000000 in
theorem with_miss (A0 : Option Addr) (c0 : Nat) (l0 : List Int) (a1 : Int) (i : Nat) (hi : i ≤ l0.length) (hlim : l0.length < 17592186044416) (w : World)
    (hbs : Calls Tryd.prog 55 #[.slice A0 l0.length c0, .int .i64 a1] w fun e w' => e = .returned (.tuple #[.int .i64 (i : Int), .bool false]) ∧ Drawn0 w w')
    (hcl : ∀ m, Calls Tryd.prog 53 #[.slice A0 l0.length c0] (w.drewN m) fun e w' => ∃ v0_ : Value, e = .returned v0_ ∧ Kd.R (Kd.int .i64) 3 w' (w.drewN m).heap.size (fun _ => True) v0_ l0 ∧ Below (w.drewN m).heap.size (w.drewN m) w') :
    Calls Tryd.prog 45 #[.slice A0 l0.length c0, .int .i64 a1] w fun e w' => ∃ v0_ : Value, e = .returned v0_ ∧ Kd.R (Kd.int .i64) 3 w' w.heap.size (fun _ => True) v0_ (l0.take i ++ a1 :: l0.drop i) ∧ Below w.heap.size w w' := by
  have HX := Aside0.mk hbs
  have HC := Aside0.mk hcl
  have HI := Aside0.mk hi
  have HL := Aside0.mk hlim
  clear hbs hcl hi hlim
  go_enter Tryd.func45, Tryd.ntmps45
  go_wp2_with (first
    | ((with_reducible refine HX.out.mono ?_); rintro e w1 ⟨rfl, ⟨nd, rfl⟩⟩)
    | ((with_reducible refine (HC.out _).mono ?_); rintro e w2 ⟨v2, rfl, hR, hB⟩; have HR2 := Aside0.mk hR; have HB2 := Aside0.mk (below_drew0 _ hB); have HI3 := Aside0.mk (ins_any w (w2.alloc (.cells #[.int .i64 a1] 3)) v2 w2.heap.size 1 #[.int .i64 a1] a1 i l0.length l0 (below_alloc HB2.out _) (Kd.own_of_R (Kd.R_alloc HR2.out _)) rfl HI.out HL.out (blk_new w2 _) rfl (fun h => absurd (own_lt (Kd.own_of_R HR2.out) _ h) (Nat.lt_irrefl _))); clear hR hB)
    | ((with_reducible refine HI3.out.mono ?_); rintro e w4 ⟨v4, rfl, hR, hB⟩; have HR4 := Aside0.mk hR; have HB4 := Aside0.mk hB; clear hR hB))
  go_ret
  refine ⟨_, rfl, Kd.R_of_own (h1 := fun _ => rfl) ?_ (fun _ _ => trivial), HB4.out⟩
  have h := HR4.out
  have hlen : (l0.take i ++ a1 :: l0.drop i).length = l0.length + 1 := by have := HI.out; simp; omega
  rw [hlen]
  exact h
end Go.Proofs.YtnkkdpjipfjdaaaDoor.Ix
