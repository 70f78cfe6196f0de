/- TtyTyped: a line of printable bytes is read back unchanged, in pieces of any size; else the chapter's examples hold. -/
import Derived.Test.YtoecolllimgbgaaTe
namespace Go.Proofs.Ytoecolllimgbgaa.Pure
open Go.RowKit Go.Proofs.Ytoecolllimgbgaa.Q Go.Proofs.YtoecolllimgbgaaW.PrintWords Go.Proofs.YtoecolllimgbgaaW.PrintLast Go.Proofs.YtoecolllimgbgaaM Go.Proofs.Ytoecolllimgbgaa.Ta Go.Proofs.Ytoecolllimgbgaa.Tb Go.Proofs.Ytoecolllimgbgaa.Tc Go.Proofs.Ytoecolllimgbgaa.Te
theorem TtyTyped : jobshelllaw26_TtyTyped.Pure := by
  intro s n h1 _
  apply Ev.rounds
  unfold jobshelllaw26_TtyTyped.f
  have out : Ev (fun k => jobshelllaw26_TtyTyped.j0 k s n true) true := Ev.step (fun k => by apply jobshelllaw26_TtyTyped.j0.eq_2) (ev_pos rfl (Ev.bind awake_ev (ev_some rfl)))
  by_cases hs : (s.size : Int) > 4096
  · exact ev_pos hs out
  refine ev_neg hs (Ev.bind (ref_texts_f s h1) ?_)
  cases ht : txt s with
  | false => exact ev_neg (by simp) out
  | true =>
    refine ev_pos rfl ?_
    by_cases hn : n < 1
    · rw [decide_eq_true hn]; exact out
    rw [decide_eq_false hn]
    have hsz : (s ++ (⟨#[10]⟩ : ByteArray)).size = s.size + 1 := app_size _ _
    have hf := feed_f 0 0 ⟨#[]⟩ false (s ++ (⟨#[10]⟩ : ByteArray)) (by rw [hsz]; omega) ⟨#[]⟩ [] (by simp) (by show 0 ≤ 4096; omega)
    unfold feedT at hf
    rw [feed_line s ht (by omega)] at hf
    refine Ev.step (fun k => by apply jobshelllaw26_TtyTyped.j0.eq_2) (ev_neg (by simp) (ev_pos (by omega) (Ev.bind hf ?_)))
    refine ev_neg (by simp) ?_
    have hb : ((⟨#[]⟩ : ByteArray).toList != ([] : List UInt8)) = false := by decide +kernel
    show Ev (fun k => jobshelllaw26_TtyTyped.j1 k s n ((⟨#[]⟩ : ByteArray).toList != ([] : List UInt8)) 0 0 ⟨#[]⟩ [s ++ (⟨#[10]⟩ : ByteArray)] ⟨#[]⟩ false) true
    rw [hb]
    refine Ev.step (fun k => by apply jobshelllaw26_TtyTyped.j1.eq_2) (ev_neg (by simp) ?_)
    exact typed_l0 s n (by omega) hn _ ⟨#[]⟩ (s ++ (⟨#[10]⟩ : ByteArray)) 0 (Nat.le_refl _) (by rw [hsz]; omega) (by rw [nil_list]; rfl) (Nat.zero_le _)
end Go.Proofs.Ytoecolllimgbgaa.Pure
