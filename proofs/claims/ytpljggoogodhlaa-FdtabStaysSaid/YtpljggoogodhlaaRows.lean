/-
  No cell of these rows narrows 'for every input' (looked for: loops, veiled, ifaces, maps, wideKeys, modest, calm, conditions, laid).
  DERIVED. THE GIVEN ROWS OF THIS SEAT. 6 by the template 'for every input the law returns true; each argument reads behind the call as it read before'; 0 by the template 'total and deterministic' (their statements: YtpljggoogodhlaaTotals.lean).
  GIVEN WITH THE SEED: the statements are not yours to turn. If you find one false, say at which input.
  Laid BY PROGRAM, IN A SANDBOX (cutbox-rows.mjs): the forced cells as the released guide's own fill.sh prints them over the translation a6e81494ef9027df… (all of the seat's roots in one cut). By AI agents, Wed Nov 11 2026. No macro, syntax, notation, axiom, sorry.
-/
import Derived.Test.YtpljggoogodhlaaChecked
import GoSem.Claim
import GoSem.ClaimJoined
import GoSem.ClaimMapViews
import Derived.JoinedTies
import Derived.KernelRfl
namespace Go.Proofs.Ytpljggoogodhlaa
/- THE CELL 'sum', in the pinned program and in every row, IS THE sha256 OF THE DUMP (.gsa) THAT YtpljggoogodhlaaProg.lean LOADS. Nothing in Lean hashes anything: it is a label: what it is worth is what the hold of that sum in a sandbox is worth. -/
noncomputable def Try.pinned : Pinned := { name := "ytpljggoogodhlaa", sum := "a6e81494ef9027df1881fd736e325f905b17774dfc3260b8396d367199bc42fd", checked := Try.checked }
namespace Rows
def none {H : Type} : Left H := { results := [], args := [] }

/-- 'jobshelllaw23.FdtabAdds': WHATEVER THE INPUT: true; the input reads as it did. -/
def fdtabAddsSpec : ChangeSpec := { name := "fdtabAdds", fn := fun _ => fun
  | [d1, d2] => { results := [.lit (.bool true)], args := [d1, d2] }
  | _ => none }
def fdtabAddsRow : OpenClaim := { program := "ytpljggoogodhlaa", sum := "a6e81494ef9027df1881fd736e325f905b17774dfc3260b8396d367199bc42fd", func := "jobshell/jobshelllaw23.FdtabAdds", spec := "fdtabAdds", unfollowed := true, recurses := true, apart := false }
def FdtabAddsSaid : Prop := fdtabAddsRow.holds Try.pinned (OpenSpec.ofChange fdtabAddsSpec)

/-- ITS FALSE NEIGHBOUR: 'it returns false'. Refute it at one input. -/
def fdtabAddsWrong : ChangeSpec := { name := "fdtabAdds", fn := fun _ => fun
  | [d1, d2] => { results := [.lit (.bool false)], args := [d1, d2] }
  | _ => none }
def FdtabAddsWrongFalsely : Prop := fdtabAddsRow.holds Try.pinned (OpenSpec.ofChange fdtabAddsWrong)

/-- 'jobshelllaw23.FdtabLooks': WHATEVER THE INPUT: true; the input reads as it did. -/
def fdtabLooksSpec : ChangeSpec := { name := "fdtabLooks", fn := fun _ => fun
  | [d1, d2] => { results := [.lit (.bool true)], args := [d1, d2] }
  | _ => none }
def fdtabLooksRow : OpenClaim := { program := "ytpljggoogodhlaa", sum := "a6e81494ef9027df1881fd736e325f905b17774dfc3260b8396d367199bc42fd", func := "jobshell/jobshelllaw23.FdtabLooks", spec := "fdtabLooks", unfollowed := true, recurses := true, apart := false }
def FdtabLooksSaid : Prop := fdtabLooksRow.holds Try.pinned (OpenSpec.ofChange fdtabLooksSpec)

/-- ITS FALSE NEIGHBOUR: 'it returns false'. Refute it at one input. -/
def fdtabLooksWrong : ChangeSpec := { name := "fdtabLooks", fn := fun _ => fun
  | [d1, d2] => { results := [.lit (.bool false)], args := [d1, d2] }
  | _ => none }
def FdtabLooksWrongFalsely : Prop := fdtabLooksRow.holds Try.pinned (OpenSpec.ofChange fdtabLooksWrong)

/-- 'jobshelllaw23.FdtabCounts': WHATEVER THE INPUT: true; the input reads as it did. -/
def fdtabCountsSpec : ChangeSpec := { name := "fdtabCounts", fn := fun _ => fun
  | [d1, d2] => { results := [.lit (.bool true)], args := [d1, d2] }
  | _ => none }
def fdtabCountsRow : OpenClaim := { program := "ytpljggoogodhlaa", sum := "a6e81494ef9027df1881fd736e325f905b17774dfc3260b8396d367199bc42fd", func := "jobshell/jobshelllaw23.FdtabCounts", spec := "fdtabCounts", unfollowed := true, recurses := true, apart := false }
def FdtabCountsSaid : Prop := fdtabCountsRow.holds Try.pinned (OpenSpec.ofChange fdtabCountsSpec)

/-- ITS FALSE NEIGHBOUR: 'it returns false'. Refute it at one input. -/
def fdtabCountsWrong : ChangeSpec := { name := "fdtabCounts", fn := fun _ => fun
  | [d1, d2] => { results := [.lit (.bool false)], args := [d1, d2] }
  | _ => none }
def FdtabCountsWrongFalsely : Prop := fdtabCountsRow.holds Try.pinned (OpenSpec.ofChange fdtabCountsWrong)

/-- 'jobshelllaw23.FdtabBack': WHATEVER THE INPUT: true; the input reads as it did. -/
def fdtabBackSpec : ChangeSpec := { name := "fdtabBack", fn := fun _ => fun
  | [d1, d2, d3] => { results := [.lit (.bool true)], args := [d1, d2, d3] }
  | _ => none }
def fdtabBackRow : OpenClaim := { program := "ytpljggoogodhlaa", sum := "a6e81494ef9027df1881fd736e325f905b17774dfc3260b8396d367199bc42fd", func := "jobshell/jobshelllaw23.FdtabBack", spec := "fdtabBack", unfollowed := true, recurses := true, apart := false }
def FdtabBackSaid : Prop := fdtabBackRow.holds Try.pinned (OpenSpec.ofChange fdtabBackSpec)

/-- ITS FALSE NEIGHBOUR: 'it returns false'. Refute it at one input. -/
def fdtabBackWrong : ChangeSpec := { name := "fdtabBack", fn := fun _ => fun
  | [d1, d2, d3] => { results := [.lit (.bool false)], args := [d1, d2, d3] }
  | _ => none }
def FdtabBackWrongFalsely : Prop := fdtabBackRow.holds Try.pinned (OpenSpec.ofChange fdtabBackWrong)

/-- 'jobshelllaw23.FdtabChanges': WHATEVER THE INPUT: true; the input reads as it did. -/
def fdtabChangesSpec : ChangeSpec := { name := "fdtabChanges", fn := fun _ => fun
  | [d1, d2] => { results := [.lit (.bool true)], args := [d1, d2] }
  | _ => none }
def fdtabChangesRow : OpenClaim := { program := "ytpljggoogodhlaa", sum := "a6e81494ef9027df1881fd736e325f905b17774dfc3260b8396d367199bc42fd", func := "jobshell/jobshelllaw23.FdtabChanges", spec := "fdtabChanges", inPlace := ["slices.overlaps[jobshell/api.Fd]"], unfollowed := true, recurses := true, apart := false }
def FdtabChangesSaid : Prop := fdtabChangesRow.holds Try.pinned (OpenSpec.ofChange fdtabChangesSpec)

/-- ITS FALSE NEIGHBOUR: 'it returns false'. Refute it at one input. -/
def fdtabChangesWrong : ChangeSpec := { name := "fdtabChanges", fn := fun _ => fun
  | [d1, d2] => { results := [.lit (.bool false)], args := [d1, d2] }
  | _ => none }
def FdtabChangesWrongFalsely : Prop := fdtabChangesRow.holds Try.pinned (OpenSpec.ofChange fdtabChangesWrong)

/-- 'jobshelllaw23.FdtabStays': WHATEVER THE INPUT: true; the input reads as it did. -/
def fdtabStaysSpec : ChangeSpec := { name := "fdtabStays", fn := fun _ => fun
  | [d1, d2] => { results := [.lit (.bool true)], args := [d1, d2] }
  | _ => none }
def fdtabStaysRow : OpenClaim := { program := "ytpljggoogodhlaa", sum := "a6e81494ef9027df1881fd736e325f905b17774dfc3260b8396d367199bc42fd", func := "jobshell/jobshelllaw23.FdtabStays", spec := "fdtabStays", inPlace := ["slices.overlaps[jobshell/api.Fd]"], unfollowed := true, recurses := true, apart := false }
def FdtabStaysSaid : Prop := fdtabStaysRow.holds Try.pinned (OpenSpec.ofChange fdtabStaysSpec)

/-- ITS FALSE NEIGHBOUR: 'it returns false'. Refute it at one input. -/
def fdtabStaysWrong : ChangeSpec := { name := "fdtabStays", fn := fun _ => fun
  | [d1, d2] => { results := [.lit (.bool false)], args := [d1, d2] }
  | _ => none }
def FdtabStaysWrongFalsely : Prop := fdtabStaysRow.holds Try.pinned (OpenSpec.ofChange fdtabStaysWrong)

/- THE SECOND FORM. 'bulk': how many values and letters a reading holds, each counted each time it is reached (what is shared counts as often as it is met; a slice's spare places count too). A statement '..UptoSaid' is the law's where the arguments, and the package variables that the reading takes, are together of bulk at most 1048576: NARROWER than '..Said'. Prove '..Said' where nothing that the law and all that it calls make is longer than what came in: it says more and counts as full. Else prove '..UptoSaid'. A law counts once. -/
mutual
def uptoBulk {H : Type} : DataW H → Nat
  | .lit (.string bytes) => bytes.length + 1
  | .lit _ => 1
  | .nil => 1
  | .ptr d => uptoBulk d + 1
  | .slice elems spare => uptoBulkAll elems + uptoBulkAll spare + 1
  | .agg parts => uptoBulkAll parts + 1
  | .iface _ d => uptoBulk d + 1
  | .map entries => uptoBulkEntries entries + 1
  | .held _ => 1
def uptoBulkAll {H : Type} : List (DataW H) → Nat
  | [] => 0
  | d :: r => uptoBulk d + uptoBulkAll r
def uptoBulkEntries {H : Type} : List (Lit × DataW H) → Nat
  | [] => 0
  | x :: r => uptoBulkEntry x + uptoBulkEntries r
def uptoBulkEntry {H : Type} : Lit × DataW H → Nat
  | (.string bytes, d) => bytes.length + uptoBulk d + 1
  | (_, d) => uptoBulk d + 1
 end
def uptoSmall : (H : Type) → List (DataW H) → Bool := fun _ ds => decide (uptoBulkAll ds ≤ 1048576)
def OpenSpec.upto (s : _root_.Go.ChangeSpec) : _root_.Go.OpenSpec := { _root_.Go.OpenSpec.ofChange s with cond := some uptoSmall }

/-- 'jobshelllaw23.FdtabAdds', WHERE WHAT IT READS IS OF BULK AT MOST 1048576: true; the input reads as it did. -/
def fdtabAddsUptoRow : OpenClaim := { program := "ytpljggoogodhlaa", sum := "a6e81494ef9027df1881fd736e325f905b17774dfc3260b8396d367199bc42fd", func := "jobshell/jobshelllaw23.FdtabAdds", spec := "fdtabAdds", unfollowed := true, recurses := true, apart := false, narrowed := true }
def FdtabAddsUptoSaid : Prop := fdtabAddsUptoRow.holds Try.pinned (OpenSpec.upto fdtabAddsSpec)

/-- 'jobshelllaw23.FdtabLooks', WHERE WHAT IT READS IS OF BULK AT MOST 1048576: true; the input reads as it did. -/
def fdtabLooksUptoRow : OpenClaim := { program := "ytpljggoogodhlaa", sum := "a6e81494ef9027df1881fd736e325f905b17774dfc3260b8396d367199bc42fd", func := "jobshell/jobshelllaw23.FdtabLooks", spec := "fdtabLooks", unfollowed := true, recurses := true, apart := false, narrowed := true }
def FdtabLooksUptoSaid : Prop := fdtabLooksUptoRow.holds Try.pinned (OpenSpec.upto fdtabLooksSpec)

/-- 'jobshelllaw23.FdtabCounts', WHERE WHAT IT READS IS OF BULK AT MOST 1048576: true; the input reads as it did. -/
def fdtabCountsUptoRow : OpenClaim := { program := "ytpljggoogodhlaa", sum := "a6e81494ef9027df1881fd736e325f905b17774dfc3260b8396d367199bc42fd", func := "jobshell/jobshelllaw23.FdtabCounts", spec := "fdtabCounts", unfollowed := true, recurses := true, apart := false, narrowed := true }
def FdtabCountsUptoSaid : Prop := fdtabCountsUptoRow.holds Try.pinned (OpenSpec.upto fdtabCountsSpec)

/-- 'jobshelllaw23.FdtabBack', WHERE WHAT IT READS IS OF BULK AT MOST 1048576: true; the input reads as it did. -/
def fdtabBackUptoRow : OpenClaim := { program := "ytpljggoogodhlaa", sum := "a6e81494ef9027df1881fd736e325f905b17774dfc3260b8396d367199bc42fd", func := "jobshell/jobshelllaw23.FdtabBack", spec := "fdtabBack", unfollowed := true, recurses := true, apart := false, narrowed := true }
def FdtabBackUptoSaid : Prop := fdtabBackUptoRow.holds Try.pinned (OpenSpec.upto fdtabBackSpec)

/-- 'jobshelllaw23.FdtabChanges', WHERE WHAT IT READS IS OF BULK AT MOST 1048576: true; the input reads as it did. -/
def fdtabChangesUptoRow : OpenClaim := { program := "ytpljggoogodhlaa", sum := "a6e81494ef9027df1881fd736e325f905b17774dfc3260b8396d367199bc42fd", func := "jobshell/jobshelllaw23.FdtabChanges", spec := "fdtabChanges", inPlace := ["slices.overlaps[jobshell/api.Fd]"], unfollowed := true, recurses := true, apart := false, narrowed := true }
def FdtabChangesUptoSaid : Prop := fdtabChangesUptoRow.holds Try.pinned (OpenSpec.upto fdtabChangesSpec)

/-- 'jobshelllaw23.FdtabStays', WHERE WHAT IT READS IS OF BULK AT MOST 1048576: true; the input reads as it did. -/
def fdtabStaysUptoRow : OpenClaim := { program := "ytpljggoogodhlaa", sum := "a6e81494ef9027df1881fd736e325f905b17774dfc3260b8396d367199bc42fd", func := "jobshell/jobshelllaw23.FdtabStays", spec := "fdtabStays", inPlace := ["slices.overlaps[jobshell/api.Fd]"], unfollowed := true, recurses := true, apart := false, narrowed := true }
def FdtabStaysUptoSaid : Prop := fdtabStaysUptoRow.holds Try.pinned (OpenSpec.upto fdtabStaysSpec)

end Rows
end Go.Proofs.Ytpljggoogodhlaa
