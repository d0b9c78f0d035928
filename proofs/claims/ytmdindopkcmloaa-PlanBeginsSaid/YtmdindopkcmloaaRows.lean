/-
  No cell of these rows narrows 'for every input' (looked for: loops, veiled, ifaces, maps, wideKeys, modest, calm, conditions, laid).
  DERIVED. THE GIVEN ROWS OF THIS SEAT. 8 by the template 'for every input the law returns true; each argument reads behind the call as it read before'; 0 by the template 'total and deterministic' (their statements: YtmdindopkcmloaaTotals.lean).
  GIVEN WITH THE SEED: the statements are not yours to turn. If you find one false, say at which input.
  Laid BY PROGRAM, IN A SANDBOX (cutbox-rows.mjs): the forced cells as the released guide's own fill.sh prints them over the translation 5b090db061df2e25… (all of the seat's roots in one cut). By AI agents, Wed Nov 11 2026. No macro, syntax, notation, axiom, sorry.
-/
import Derived.Test.YtmdindopkcmloaaChecked
import GoSem.Claim
import GoSem.ClaimJoined
import GoSem.ClaimMapViews
import Derived.JoinedTies
import Derived.KernelRfl
namespace Go.Proofs.Ytmdindopkcmloaa
/- THE CELL 'sum', in the pinned program and in every row, IS THE sha256 OF THE DUMP (.gsa) THAT YtmdindopkcmloaaProg.lean LOADS. Nothing in Lean hashes anything: it is a label: what it is worth is what the hold of that sum in a sandbox is worth. -/
noncomputable def Try.pinned : Pinned := { name := "ytmdindopkcmloaa", sum := "5b090db061df2e25456943627cef0aba12acc92df171cf715a7d2201bc1c4645", checked := Try.checked }
namespace Rows
def none {H : Type} : Left H := { results := [], args := [] }

/-- 'imprimaturlaw23.PlanOpens': WHATEVER THE INPUT: true; the input reads as it did. -/
def planOpensSpec : ChangeSpec := { name := "planOpens", fn := fun _ => fun
  | [d1, d2] => { results := [.lit (.bool true)], args := [d1, d2] }
  | _ => none }
def planOpensRow : OpenClaim := { program := "ytmdindopkcmloaa", sum := "5b090db061df2e25456943627cef0aba12acc92df171cf715a7d2201bc1c4645", func := "imprimatur/imprimaturlaw23.PlanOpens", spec := "planOpens", apart := false }
def PlanOpensSaid : Prop := planOpensRow.holds Try.pinned (OpenSpec.ofChange planOpensSpec)

/-- ITS FALSE NEIGHBOUR: 'it returns false'. Refute it at one input. -/
def planOpensWrong : ChangeSpec := { name := "planOpens", fn := fun _ => fun
  | [d1, d2] => { results := [.lit (.bool false)], args := [d1, d2] }
  | _ => none }
def PlanOpensWrongFalsely : Prop := planOpensRow.holds Try.pinned (OpenSpec.ofChange planOpensWrong)

/-- 'imprimaturlaw23.PlanWaits': WHATEVER THE INPUT: true; the input reads as it did. -/
def planWaitsSpec : ChangeSpec := { name := "planWaits", fn := fun _ => fun
  | [d1, d2, d3, d4] => { results := [.lit (.bool true)], args := [d1, d2, d3, d4] }
  | _ => none }
def planWaitsRow : OpenClaim := { program := "ytmdindopkcmloaa", sum := "5b090db061df2e25456943627cef0aba12acc92df171cf715a7d2201bc1c4645", func := "imprimatur/imprimaturlaw23.PlanWaits", spec := "planWaits", apart := false }
def PlanWaitsSaid : Prop := planWaitsRow.holds Try.pinned (OpenSpec.ofChange planWaitsSpec)

/-- ITS FALSE NEIGHBOUR: 'it returns false'. Refute it at one input. -/
def planWaitsWrong : ChangeSpec := { name := "planWaits", fn := fun _ => fun
  | [d1, d2, d3, d4] => { results := [.lit (.bool false)], args := [d1, d2, d3, d4] }
  | _ => none }
def PlanWaitsWrongFalsely : Prop := planWaitsRow.holds Try.pinned (OpenSpec.ofChange planWaitsWrong)

/-- 'imprimaturlaw23.PlanNext': WHATEVER THE INPUT: true; the input reads as it did. -/
def planNextSpec : ChangeSpec := { name := "planNext", fn := fun _ => fun
  | [d1, d2, d3] => { results := [.lit (.bool true)], args := [d1, d2, d3] }
  | _ => none }
def planNextRow : OpenClaim := { program := "ytmdindopkcmloaa", sum := "5b090db061df2e25456943627cef0aba12acc92df171cf715a7d2201bc1c4645", func := "imprimatur/imprimaturlaw23.PlanNext", spec := "planNext", apart := false }
def PlanNextSaid : Prop := planNextRow.holds Try.pinned (OpenSpec.ofChange planNextSpec)

/-- ITS FALSE NEIGHBOUR: 'it returns false'. Refute it at one input. -/
def planNextWrong : ChangeSpec := { name := "planNext", fn := fun _ => fun
  | [d1, d2, d3] => { results := [.lit (.bool false)], args := [d1, d2, d3] }
  | _ => none }
def PlanNextWrongFalsely : Prop := planNextRow.holds Try.pinned (OpenSpec.ofChange planNextWrong)

/-- 'imprimaturlaw23.PlanGrows': WHATEVER THE INPUT: true; the input reads as it did. -/
def planGrowsSpec : ChangeSpec := { name := "planGrows", fn := fun _ => fun
  | [d1, d2, d3, d4, d5] => { results := [.lit (.bool true)], args := [d1, d2, d3, d4, d5] }
  | _ => none }
def planGrowsRow : OpenClaim := { program := "ytmdindopkcmloaa", sum := "5b090db061df2e25456943627cef0aba12acc92df171cf715a7d2201bc1c4645", func := "imprimatur/imprimaturlaw23.PlanGrows", spec := "planGrows", apart := false }
def PlanGrowsSaid : Prop := planGrowsRow.holds Try.pinned (OpenSpec.ofChange planGrowsSpec)

/-- ITS FALSE NEIGHBOUR: 'it returns false'. Refute it at one input. -/
def planGrowsWrong : ChangeSpec := { name := "planGrows", fn := fun _ => fun
  | [d1, d2, d3, d4, d5] => { results := [.lit (.bool false)], args := [d1, d2, d3, d4, d5] }
  | _ => none }
def PlanGrowsWrongFalsely : Prop := planGrowsRow.holds Try.pinned (OpenSpec.ofChange planGrowsWrong)

/-- 'imprimaturlaw23.PlanGoes': WHATEVER THE INPUT: true; the input reads as it did. -/
def planGoesSpec : ChangeSpec := { name := "planGoes", fn := fun _ => fun
  | [d1, d2, d3, d4] => { results := [.lit (.bool true)], args := [d1, d2, d3, d4] }
  | _ => none }
def planGoesRow : OpenClaim := { program := "ytmdindopkcmloaa", sum := "5b090db061df2e25456943627cef0aba12acc92df171cf715a7d2201bc1c4645", func := "imprimatur/imprimaturlaw23.PlanGoes", spec := "planGoes", apart := false }
def PlanGoesSaid : Prop := planGoesRow.holds Try.pinned (OpenSpec.ofChange planGoesSpec)

/-- ITS FALSE NEIGHBOUR: 'it returns false'. Refute it at one input. -/
def planGoesWrong : ChangeSpec := { name := "planGoes", fn := fun _ => fun
  | [d1, d2, d3, d4] => { results := [.lit (.bool false)], args := [d1, d2, d3, d4] }
  | _ => none }
def PlanGoesWrongFalsely : Prop := planGoesRow.holds Try.pinned (OpenSpec.ofChange planGoesWrong)

/-- 'imprimaturlaw23.PlanTries': WHATEVER THE INPUT: true; the input reads as it did. -/
def planTriesSpec : ChangeSpec := { name := "planTries", fn := fun _ => fun
  | [d1, d2, d3] => { results := [.lit (.bool true)], args := [d1, d2, d3] }
  | _ => none }
def planTriesRow : OpenClaim := { program := "ytmdindopkcmloaa", sum := "5b090db061df2e25456943627cef0aba12acc92df171cf715a7d2201bc1c4645", func := "imprimatur/imprimaturlaw23.PlanTries", spec := "planTries", apart := false }
def PlanTriesSaid : Prop := planTriesRow.holds Try.pinned (OpenSpec.ofChange planTriesSpec)

/-- ITS FALSE NEIGHBOUR: 'it returns false'. Refute it at one input. -/
def planTriesWrong : ChangeSpec := { name := "planTries", fn := fun _ => fun
  | [d1, d2, d3] => { results := [.lit (.bool false)], args := [d1, d2, d3] }
  | _ => none }
def PlanTriesWrongFalsely : Prop := planTriesRow.holds Try.pinned (OpenSpec.ofChange planTriesWrong)

/-- 'imprimaturlaw23.PlanRises': WHATEVER THE INPUT: true; the input reads as it did. -/
def planRisesSpec : ChangeSpec := { name := "planRises", fn := fun _ => fun
  | [d1, d2, d3] => { results := [.lit (.bool true)], args := [d1, d2, d3] }
  | _ => none }
def planRisesRow : OpenClaim := { program := "ytmdindopkcmloaa", sum := "5b090db061df2e25456943627cef0aba12acc92df171cf715a7d2201bc1c4645", func := "imprimatur/imprimaturlaw23.PlanRises", spec := "planRises", apart := false }
def PlanRisesSaid : Prop := planRisesRow.holds Try.pinned (OpenSpec.ofChange planRisesSpec)

/-- ITS FALSE NEIGHBOUR: 'it returns false'. Refute it at one input. -/
def planRisesWrong : ChangeSpec := { name := "planRises", fn := fun _ => fun
  | [d1, d2, d3] => { results := [.lit (.bool false)], args := [d1, d2, d3] }
  | _ => none }
def PlanRisesWrongFalsely : Prop := planRisesRow.holds Try.pinned (OpenSpec.ofChange planRisesWrong)

/-- 'imprimaturlaw23.PlanBegins': WHATEVER THE INPUT: true; the input reads as it did. -/
def planBeginsSpec : ChangeSpec := { name := "planBegins", fn := fun _ => fun
  | [d1, d2, d3, d4] => { results := [.lit (.bool true)], args := [d1, d2, d3, d4] }
  | _ => none }
def planBeginsRow : OpenClaim := { program := "ytmdindopkcmloaa", sum := "5b090db061df2e25456943627cef0aba12acc92df171cf715a7d2201bc1c4645", func := "imprimatur/imprimaturlaw23.PlanBegins", spec := "planBegins", apart := false }
def PlanBeginsSaid : Prop := planBeginsRow.holds Try.pinned (OpenSpec.ofChange planBeginsSpec)

/-- ITS FALSE NEIGHBOUR: 'it returns false'. Refute it at one input. -/
def planBeginsWrong : ChangeSpec := { name := "planBegins", fn := fun _ => fun
  | [d1, d2, d3, d4] => { results := [.lit (.bool false)], args := [d1, d2, d3, d4] }
  | _ => none }
def PlanBeginsWrongFalsely : Prop := planBeginsRow.holds Try.pinned (OpenSpec.ofChange planBeginsWrong)

/- THE SECOND FORM. 'bulk': how many values and letters a reading holds, each counted each time it is reached (what is shared counts as often as it is met; a slice's spare places count too). A statement '..UptoSaid' is the law's where the arguments, and the package variables that the reading takes, are together of bulk at most 1048576: NARROWER than '..Said'. Prove '..Said' where nothing that the law and all that it calls make is longer than what came in: it says more and counts as full. Else prove '..UptoSaid'. A law counts once. -/
mutual
def uptoBulk {H : Type} : DataW H → Nat
  | .lit (.string bytes) => bytes.length + 1
  | .lit _ => 1
  | .nil => 1
  | .ptr d => uptoBulk d + 1
  | .slice elems spare => uptoBulkAll elems + uptoBulkAll spare + 1
  | .agg parts => uptoBulkAll parts + 1
  | .iface _ d => uptoBulk d + 1
  | .map entries => uptoBulkEntries entries + 1
  | .held _ => 1
def uptoBulkAll {H : Type} : List (DataW H) → Nat
  | [] => 0
  | d :: r => uptoBulk d + uptoBulkAll r
def uptoBulkEntries {H : Type} : List (Lit × DataW H) → Nat
  | [] => 0
  | x :: r => uptoBulkEntry x + uptoBulkEntries r
def uptoBulkEntry {H : Type} : Lit × DataW H → Nat
  | (.string bytes, d) => bytes.length + uptoBulk d + 1
  | (_, d) => uptoBulk d + 1
 end
def uptoSmall : (H : Type) → List (DataW H) → Bool := fun _ ds => decide (uptoBulkAll ds ≤ 1048576)
def OpenSpec.upto (s : _root_.Go.ChangeSpec) : _root_.Go.OpenSpec := { _root_.Go.OpenSpec.ofChange s with cond := some uptoSmall }

/-- 'imprimaturlaw23.PlanOpens', WHERE WHAT IT READS IS OF BULK AT MOST 1048576: true; the input reads as it did. -/
def planOpensUptoRow : OpenClaim := { program := "ytmdindopkcmloaa", sum := "5b090db061df2e25456943627cef0aba12acc92df171cf715a7d2201bc1c4645", func := "imprimatur/imprimaturlaw23.PlanOpens", spec := "planOpens", apart := false, narrowed := true }
def PlanOpensUptoSaid : Prop := planOpensUptoRow.holds Try.pinned (OpenSpec.upto planOpensSpec)

/-- 'imprimaturlaw23.PlanWaits', WHERE WHAT IT READS IS OF BULK AT MOST 1048576: true; the input reads as it did. -/
def planWaitsUptoRow : OpenClaim := { program := "ytmdindopkcmloaa", sum := "5b090db061df2e25456943627cef0aba12acc92df171cf715a7d2201bc1c4645", func := "imprimatur/imprimaturlaw23.PlanWaits", spec := "planWaits", apart := false, narrowed := true }
def PlanWaitsUptoSaid : Prop := planWaitsUptoRow.holds Try.pinned (OpenSpec.upto planWaitsSpec)

/-- 'imprimaturlaw23.PlanNext', WHERE WHAT IT READS IS OF BULK AT MOST 1048576: true; the input reads as it did. -/
def planNextUptoRow : OpenClaim := { program := "ytmdindopkcmloaa", sum := "5b090db061df2e25456943627cef0aba12acc92df171cf715a7d2201bc1c4645", func := "imprimatur/imprimaturlaw23.PlanNext", spec := "planNext", apart := false, narrowed := true }
def PlanNextUptoSaid : Prop := planNextUptoRow.holds Try.pinned (OpenSpec.upto planNextSpec)

/-- 'imprimaturlaw23.PlanGrows', WHERE WHAT IT READS IS OF BULK AT MOST 1048576: true; the input reads as it did. -/
def planGrowsUptoRow : OpenClaim := { program := "ytmdindopkcmloaa", sum := "5b090db061df2e25456943627cef0aba12acc92df171cf715a7d2201bc1c4645", func := "imprimatur/imprimaturlaw23.PlanGrows", spec := "planGrows", apart := false, narrowed := true }
def PlanGrowsUptoSaid : Prop := planGrowsUptoRow.holds Try.pinned (OpenSpec.upto planGrowsSpec)

/-- 'imprimaturlaw23.PlanGoes', WHERE WHAT IT READS IS OF BULK AT MOST 1048576: true; the input reads as it did. -/
def planGoesUptoRow : OpenClaim := { program := "ytmdindopkcmloaa", sum := "5b090db061df2e25456943627cef0aba12acc92df171cf715a7d2201bc1c4645", func := "imprimatur/imprimaturlaw23.PlanGoes", spec := "planGoes", apart := false, narrowed := true }
def PlanGoesUptoSaid : Prop := planGoesUptoRow.holds Try.pinned (OpenSpec.upto planGoesSpec)

/-- 'imprimaturlaw23.PlanTries', WHERE WHAT IT READS IS OF BULK AT MOST 1048576: true; the input reads as it did. -/
def planTriesUptoRow : OpenClaim := { program := "ytmdindopkcmloaa", sum := "5b090db061df2e25456943627cef0aba12acc92df171cf715a7d2201bc1c4645", func := "imprimatur/imprimaturlaw23.PlanTries", spec := "planTries", apart := false, narrowed := true }
def PlanTriesUptoSaid : Prop := planTriesUptoRow.holds Try.pinned (OpenSpec.upto planTriesSpec)

/-- 'imprimaturlaw23.PlanRises', WHERE WHAT IT READS IS OF BULK AT MOST 1048576: true; the input reads as it did. -/
def planRisesUptoRow : OpenClaim := { program := "ytmdindopkcmloaa", sum := "5b090db061df2e25456943627cef0aba12acc92df171cf715a7d2201bc1c4645", func := "imprimatur/imprimaturlaw23.PlanRises", spec := "planRises", apart := false, narrowed := true }
def PlanRisesUptoSaid : Prop := planRisesUptoRow.holds Try.pinned (OpenSpec.upto planRisesSpec)

/-- 'imprimaturlaw23.PlanBegins', WHERE WHAT IT READS IS OF BULK AT MOST 1048576: true; the input reads as it did. -/
def planBeginsUptoRow : OpenClaim := { program := "ytmdindopkcmloaa", sum := "5b090db061df2e25456943627cef0aba12acc92df171cf715a7d2201bc1c4645", func := "imprimatur/imprimaturlaw23.PlanBegins", spec := "planBegins", apart := false, narrowed := true }
def PlanBeginsUptoSaid : Prop := planBeginsUptoRow.holds Try.pinned (OpenSpec.upto planBeginsSpec)

end Rows
end Go.Proofs.Ytmdindopkcmloaa
