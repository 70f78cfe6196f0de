import Derived.Test.YtnkkdpjipfjdaaaDoorIx
namespace Go.Proofs.YtnkkdpjipfjdaaaDoor.Ix
open Go.RowKit Go.Proofs.YtnkkdpjipfjdaaaDoorW.PrintWords Go.Proofs.YtnkkdpjipfjdaaaDoorW.PrintLast Go.Proofs.YtnkkdpjipfjdaaaDoorW.PrintMore Go.Proofs.YtnkkdpjipfjdaaaDoorM
set_option linter.unusedVariables false
set_option linter.unusedSimpArgs false
theorem idxP_spec (p : Int → Bool) : ∀ (l : List Int) (i : Nat), (idxP p l i = -1 ∧ ∀ x ∈ l, p x = false) ∨ ∃ k : Nat, k < l.length ∧ idxP p l i = ((i + k : Nat) : Int) ∧ p (l.getD k 0) = true ∧ ∀ j, j < k → p (l.getD j 0) = false
  | [], i => .inl ⟨rfl, fun x hx => absurd hx (by simp)⟩
  | x :: l, i => by
    cases hx : p x with
    | true => exact .inr ⟨0, by simp, by rw [idxP, if_pos hx]; rfl, hx, fun j hj => absurd hj (Nat.not_lt_zero _)⟩
    | false =>
      have e : idxP p (x :: l) i = idxP p l (i + 1) := by rw [idxP, if_neg (by simp [hx])]
      rcases idxP_spec p l (i + 1) with ⟨h1, h2⟩ | ⟨k, h1, h2, h3, h4⟩
      · refine .inl ⟨e.trans h1, fun y hy => ?_⟩
        rcases List.mem_cons.1 hy with rfl | hy
        · exact hx
        · exact h2 y hy
      · refine .inr ⟨k + 1, by simpa using h1, by rw [e, h2]; congr 1; omega, h3, fun j hj => ?_⟩
        cases j with
        | zero => exact hx
        | succ j => exact h4 j (by omega)
theorem filter_take (p : Int → Bool) (l : List Int) (j : Nat) (hj : j < l.length) : (l.take (j + 1)).filter (fun x => !p x) = (l.take j).filter (fun x => !p x) ++ (if p (l.getD j 0) = true then [] else [l.getD j 0]) := by
  rw [List.take_succ_eq_append_getElem hj, List.filter_append, List.getD_eq_getElem?_getD, List.getElem?_eq_getElem hj]
  congr 1
  simp only [Option.getD_some, List.filter_cons, List.filter_nil]
  cases p l[j] <;> simp
theorem filter_none (p : Int → Bool) (l : List Int) (k : Nat) (h : ∀ j, j < k → p (l.getD j 0) = false) (hk : k ≤ l.length) : (l.take k).filter (fun x => !p x) = l.take k := by
  rw [List.filter_eq_self]
  intro x hx
  obtain ⟨j, hj, e⟩ := List.getElem_of_mem hx
  have hj2 : j < k := by rw [List.length_take] at hj; omega
  have := h j hj2
  rw [List.getD_eq_getElem?_getD, List.getElem?_eq_getElem (by omega)] at this
  rw [List.getElem_take] at e
  rw [← e]
  simpa using this
theorem filter_le (p : Int → Bool) (l : List Int) : (l.filter p).length ≤ l.length := List.length_filter_le _ _
set_option maxHeartbeats 4000000 in
set_option maxRecDepth 1000000 in
theorem del_any (g : Nat) (lb : Array Value) (eg : ∀ args (w : World), (callFunc g args).run Tryd.prog w = .ok (.enter g args) w) (p : Int → Bool) (Q : World → Prop) (P0_ : Nat → Prop) (u : Value) (l0 : List Int) (w0 w : World) (hB : Below w0.heap.size w0 w) (ho0 : Kd.R (Kd.int .i64) 3 w w0.heap.size P0_ u l0)
    (hQ : Q w) (hQd : ∀ W m, Q W → Q (W.drewN m)) (hQs : ∀ b, u.ownBlock = some b → ∀ W i v, Q W → Q (W.setCell ⟨b, i, none⟩ v))
    (hp : ∀ (W : World) (x : Int), Q W → Calls Tryd.prog g (#[.int .i64 x] ++ lb) W fun e w' => e = .returned (.bool (p x)) ∧ Drawn0 W w') :
    Calls Tryd.prog 54 #[u, .func (.func g) #[] lb] w fun e w' => ∃ v0_ : Value, e = .returned v0_ ∧ Kd.R (Kd.int .i64) 3 w' w0.heap.size P0_ v0_ (l0.filter fun x => !p x) ∧ Below w0.heap.size w0 w' := by
  obtain ⟨A, cap, rfl⟩ := Kd.R_slice ho0
  have hrd := Kd.R_reads' ho0
  have hidx := idx_any g lb eg p A cap l0 w hrd.2.2 hrd.2.1 (fun m x => hp _ x (hQd w m hQ))
  rcases idxP_spec p l0 0 with ⟨e1, hall⟩ | ⟨k0, hk0, e1, hk1, hk2⟩
  · rw [e1] at hidx
    have hf : (l0.filter fun x => !p x) = l0 := List.filter_eq_self.2 (fun x hx => by simp [hall x hx])
    rw [hf]
    have HX := Aside0.mk hidx
    have HO := Aside0.mk ho0
    have HB := Aside0.mk hB
    clear hidx ho0 hB hrd hall hf e1 hQ hQd hQs hp
    go_enter Tryd.func54, Tryd.ntmps54
    go_wp2_with ((with_reducible refine HX.out.mono ?_); rintro e w' ⟨rfl, ⟨nd, rfl⟩⟩)
    go_ret
    exact ⟨_, rfl, Kd.R_drewN HO.out _, pw_below_drewN HB.out _⟩
  · obtain ⟨b, rfl⟩ : ∃ b, A = some ⟨b, 0, none⟩ := by
      obtain ⟨_, inner, ⟨_, h2⟩, _⟩ := ho0
      rcases h2 with ⟨h2, _⟩ | ⟨g', cap', cur, hv, _⟩
      · injection h2 with h2 h3
        omega
      · injection hv with hv
        exact ⟨g', hv⟩
    have hQs' := hQs b rfl
    have hroom := R_room _ ho0
    obtain ⟨n, hn⟩ : ∃ n, n = l0.length := ⟨_, rfl⟩
    have hcap : n ≤ cap := by rw [hn]; exact hroom.2.2.2.2.2.1
    have hmax : cap ≤ 9223372036854775807 := hroom.2.2.2.2.2.2
    have hge : w0.heap.size ≤ b := hroom.2.2.2.1
    have hw0 := hB.size
    rw [e1, Nat.zero_add] at hidx
    rw [← hn] at hidx ho0 hk0 ⊢
    have HX := Aside0.mk hidx
    have HO := Aside0.mk ho0
    have HB := Aside0.mk hB
    have HN := Aside0.mk hn
    have HQ := Aside0.mk hQ
    have HQd := Aside0.mk hQd
    have HQs := Aside0.mk hQs'
    have HP := Aside0.mk hp
    have HK1 := Aside0.mk hk1
    have HK2 := Aside0.mk hk2
    have HG := Aside0.mk hge
    clear hidx ho0 hB hrd e1 hQ hQd hQs hQs' hp hroom hn hge hw0 hk1 hk2
    go_enter Tryd.func54, Tryd.ntmps54
    go_wp2_with ((with_reducible refine HX.out.mono ?_); rintro e w' ⟨rfl, ⟨nd, rfl⟩⟩)
    go_loopg [5, 6, 7] n (fun gg s5 s6 _ wr => ∃ (ii jj : Nat) (xs : List Int), jj ≤ n ∧ ii < jj ∧ n - jj ≤ gg ∧ s5 = .int .i64 ii ∧ s6 = .int .i64 jj ∧ Aside0 (Kd.R (Kd.int .i64) 3 wr w0.heap.size P0_ (.slice (some ⟨b, 0, none⟩) n cap) xs) ∧ Aside0 (xs.length = n) ∧ Aside0 (xs.take ii = (l0.take jj).filter fun x => !p x) ∧ Aside0 (xs.drop jj = l0.drop jj) ∧ Aside0 (Q wr) ∧ Aside0 (Below w0.heap.size w0 wr))
    case atStart =>
      refine ⟨k0, k0 + 1, l0, by omega, by omega, by omega, rfl, by go_num, ⟨Kd.R_drewN HO.out _⟩, ⟨HN.out.symm⟩, ⟨?_⟩, ⟨rfl⟩, ⟨HQd.out _ _ HQ.out⟩, ⟨pw_below_drewN HB.out _⟩⟩
      rw [filter_take p l0 k0 (by have := HN.out; omega), if_pos HK1.out, List.append_nil, filter_none p l0 k0 HK2.out (by have := HN.out; omega)]
    case round =>
      obtain ⟨ii, jj, xs, hjj, hii, hg, rfl, rfl, HR, HL, HF, HD, HQ1, HB1⟩ := hrel
      by_cases hlt : jj < n
      · have hltz : (jj : Int) < (n : Int) := by omega
        have hitz : (ii : Int) < (n : Int) := by omega
        have hx := (Kd.R_celln (enc := Value.int .i64) (h1 := fun _ => rfl) (0 : Int) HR.out (jj : Int) (by omega) hltz)
        have hxi := (Kd.R_celln (enc := Value.int .i64) (h1 := fun _ => rfl) (0 : Int) HR.out (ii : Int) (by omega) hitz)
        rw [Int.toNat_natCast] at hx hxi
        have hgd : rdOf (0 : Int) xs (jj : Int) = l0.getD jj 0 := by
          unfold rdOf
          rw [Int.toNat_natCast]
          have h1 := congrArg (fun z => z.getD 0 0) HD.out
          simpa [List.getD_eq_getElem?_getD] using h1
        rw [hgd] at hx
        generalize hy : l0.getD jj 0 = y at hx
        have HY := Aside0.mk hy
        have hxc := hx.1
        have hic := hxi.1
        have hif := hxi.2
        clear hy hgd hx hxi
        have hdd : xs.drop (jj + 1) = l0.drop (jj + 1) := by
          have h1 := congrArg (List.drop 1) HD.out
          rwa [List.drop_drop, List.drop_drop] at h1
        have HDD := Aside0.mk hdd
        clear hdd
        have hcall := HP.out wr y HQ1.out
        cases hq : p y with
        | true =>
          have HPY := Aside0.mk hq
          rw [hq] at hcall
          clear hq
          go_wp2_with ((with_reducible refine hcall.mono ?_); rintro e w' ⟨rfl, ⟨nd, rfl⟩⟩)
          go_roundg (n - (jj + 1))
          case measure => omega
          case rel =>
            refine ⟨ii, jj + 1, xs, by omega, by omega, by omega, rfl, by go_num, ⟨Kd.R_drewN HR.out _⟩, HL, ⟨?_⟩, ⟨HDD.out⟩, ⟨HQd.out _ _ HQ1.out⟩, ⟨pw_below_drewN HB1.out _⟩⟩
            rw [filter_take p l0 jj (by have := HN.out; omega), HY.out, if_pos HPY.out, List.append_nil]
            exact HF.out
        | false =>
          have HPY := Aside0.mk hq
          rw [hq] at hcall
          clear hq
          go_wp2_with ((with_reducible refine hcall.mono ?_); rintro e w' ⟨rfl, ⟨nd, rfl⟩⟩)
          go_roundg (n - (jj + 1))
          case measure => omega
          case rel =>
            have hput := Kd.R_putn (enc := Value.int .i64) (h1 := fun _ => rfl) (Kd.R_drewN HR.out nd) (ii : Int) y
            rw [Int.toNat_natCast] at hput
            refine ⟨ii + 1, jj + 1, xs.set ii y, by omega, by omega, by omega, by go_num, by go_num, ⟨hput⟩, ⟨by rw [List.length_set]; exact HL.out⟩, ⟨?_⟩, ⟨?_⟩, ⟨HQs.out _ _ _ (HQd.out _ _ HQ1.out)⟩, ⟨(pw_below_drewN HB1.out _).setCell (p := ⟨b, ii, none⟩) HG.out _⟩⟩
            · have hil : ii < (xs.set ii y).length := by rw [List.length_set, HL.out]; omega
              rw [filter_take p l0 jj (by have := HN.out; omega), HY.out, if_neg (by simp [HPY.out]), ← HF.out, List.take_succ_eq_append_getElem hil, List.getElem_set_self, List.take_set_of_le (Nat.le_refl _)]
            · rw [List.drop_set_of_lt (by omega)]
              exact HDD.out
      · have hje : jj = n := by omega
        subst hje
        have hrm := R_room _ HR.out
        have ht := Kd.R_take HR.out (m := ii) (by rw [HL.out]; omega)
        have hne : ¬ cap = ii := by omega
        have hltz : ¬ (jj : Int) < (jj : Int) := by omega
        have hsz : Kd.sz (Kd.int .i64) = 1 := rfl
        have hcz : (Value.cells (Value.int .i64 0)).size = 1 := rfl
        obtain ⟨zs, hz, hcl⟩ := run_clear_k (P := Tryd.prog) wr 28 3 (.int .i64 0) Tryd.underlying28 (fun w => by rfl) (by simp [Value.cells, Value.oneCell']) b ii (jj - ii) (cap - ii) (by omega) (fun q hq => hrm.1 _ (by rw [hcz] at hq; rw [hsz]; omega)) (fun q hq => hrm.2.1 _)
        have ht2 := Aside0.mk (R_tail _ ht zs ii (by rw [hsz]; omega) (by rw [hz, hcz, hsz]; omega))
        have hfin : xs.take ii = l0.filter fun x => !p x := by
          rw [HF.out, List.take_of_length_le (by have := HN.out; omega)]
        have HFF := Aside0.mk hfin
        have HZ := Aside0.mk hz
        have HRR := Aside0.mk hrm
        clear hz hrm hsz hcz ht hfin
        go_wp2
        go_ret
        have hW1 : w0.heap.size ≤ wr.heap.size := HB1.out.size
        refine ⟨_, rfl, ?_, pw_below_grown HB1.out (some b) hW1 ht2.out.2 (fun k hk => by injection hk with hk; subst hk; exact HG.out)⟩
        rw [← HFF.out]
        exact ht2.out.1
end Go.Proofs.YtnkkdpjipfjdaaaDoor.Ix
