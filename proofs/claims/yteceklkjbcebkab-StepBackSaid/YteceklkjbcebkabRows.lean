/-
  No cell of these rows narrows 'for every input' (looked for: loops, veiled, ifaces, maps, wideKeys, modest, calm, conditions, laid).
  DERIVED. THE GIVEN ROWS OF THIS SEAT. 5 by the template 'for every input the law returns true; each argument reads behind the call as it read before'; 0 by the template 'total and deterministic' (their statements: YteceklkjbcebkabTotals.lean).
  GIVEN WITH THE SEED: the statements are not yours to turn. If you find one false, say at which input.
  Laid BY PROGRAM, IN A SANDBOX (cutbox-rows.mjs): the forced cells as the released guide's own fill.sh prints them over the translation 57da48615eeba649… (all of the seat's roots in one cut). By AI agents, Wed Nov 11 2026. No macro, syntax, notation, axiom, sorry.
-/
import Derived.Test.YteceklkjbcebkabChecked
import GoSem.Claim
import GoSem.ClaimJoined
import GoSem.ClaimMapViews
import Derived.JoinedTies
import Derived.KernelRfl
namespace Go.Proofs.Yteceklkjbcebkab
/- THE CELL 'sum', in the pinned program and in every row, IS THE sha256 OF THE DUMP (.gsa) THAT YteceklkjbcebkabProg.lean LOADS. Nothing in Lean hashes anything: it is a label: what it is worth is what the hold of that sum in a sandbox is worth. -/
noncomputable def Try.pinned : Pinned := { name := "yteceklkjbcebkab", sum := "57da48615eeba6497f59516a9da0a429324fc0fd16bda8384c2910f3bc34997d", checked := Try.checked }
namespace Rows
def none {H : Type} : Left H := { results := [], args := [] }

/-- 'pollardinglaw.StepTells': WHATEVER THE INPUT: true; the input reads as it did. -/
def stepTellsSpec : ChangeSpec := { name := "stepTells", fn := fun _ => fun
  | [d1, d2] => { results := [.lit (.bool true)], args := [d1, d2] }
  | _ => none }
def stepTellsRow : OpenClaim := { program := "yteceklkjbcebkab", sum := "57da48615eeba6497f59516a9da0a429324fc0fd16bda8384c2910f3bc34997d", func := "pollarding/pollardinglaw.StepTells", spec := "stepTells", inPlace := ["slices.overlaps[pollarding/api.Sym]", "slices.overlaps[pollarding/api.Rule]"], unfollowed := true, recurses := true, apart := false }
def StepTellsSaid : Prop := stepTellsRow.holds Try.pinned (OpenSpec.ofChange stepTellsSpec)

/-- ITS FALSE NEIGHBOUR: 'it returns false'. Refute it at one input. -/
def stepTellsWrong : ChangeSpec := { name := "stepTells", fn := fun _ => fun
  | [d1, d2] => { results := [.lit (.bool false)], args := [d1, d2] }
  | _ => none }
def StepTellsWrongFalsely : Prop := stepTellsRow.holds Try.pinned (OpenSpec.ofChange stepTellsWrong)

/-- 'pollardinglaw.StepKeeps': WHATEVER THE INPUT: true; the input reads as it did. -/
def stepKeepsSpec : ChangeSpec := { name := "stepKeeps", fn := fun _ => fun
  | [d1, d2, d3] => { results := [.lit (.bool true)], args := [d1, d2, d3] }
  | _ => none }
def stepKeepsRow : OpenClaim := { program := "yteceklkjbcebkab", sum := "57da48615eeba6497f59516a9da0a429324fc0fd16bda8384c2910f3bc34997d", func := "pollarding/pollardinglaw.StepKeeps", spec := "stepKeeps", inPlace := ["slices.overlaps[pollarding/api.Sym]", "slices.overlaps[pollarding/api.Rule]"], unfollowed := true, recurses := true, apart := false }
def StepKeepsSaid : Prop := stepKeepsRow.holds Try.pinned (OpenSpec.ofChange stepKeepsSpec)

/-- ITS FALSE NEIGHBOUR: 'it returns false'. Refute it at one input. -/
def stepKeepsWrong : ChangeSpec := { name := "stepKeeps", fn := fun _ => fun
  | [d1, d2, d3] => { results := [.lit (.bool false)], args := [d1, d2, d3] }
  | _ => none }
def StepKeepsWrongFalsely : Prop := stepKeepsRow.holds Try.pinned (OpenSpec.ofChange stepKeepsWrong)

/-- 'pollardingkeep.StepTwice': WHATEVER THE INPUT: true; the input reads as it did. -/
def stepTwiceSpec : ChangeSpec := { name := "stepTwice", fn := fun _ => fun
  | [d1, d2, d3] => { results := [.lit (.bool true)], args := [d1, d2, d3] }
  | _ => none }
def stepTwiceRow : OpenClaim := { program := "yteceklkjbcebkab", sum := "57da48615eeba6497f59516a9da0a429324fc0fd16bda8384c2910f3bc34997d", func := "pollarding/pollardingkeep.StepTwice", spec := "stepTwice", inPlace := ["slices.overlaps[pollarding/api.Sym]", "slices.overlaps[pollarding/api.Rule]"], unfollowed := true, recurses := true, apart := false }
def StepTwiceSaid : Prop := stepTwiceRow.holds Try.pinned (OpenSpec.ofChange stepTwiceSpec)

/-- ITS FALSE NEIGHBOUR: 'it returns false'. Refute it at one input. -/
def stepTwiceWrong : ChangeSpec := { name := "stepTwice", fn := fun _ => fun
  | [d1, d2, d3] => { results := [.lit (.bool false)], args := [d1, d2, d3] }
  | _ => none }
def StepTwiceWrongFalsely : Prop := stepTwiceRow.holds Try.pinned (OpenSpec.ofChange stepTwiceWrong)

/-- 'pollardinglaw.StepForward': WHATEVER THE INPUT: true; the input reads as it did. -/
def stepForwardSpec : ChangeSpec := { name := "stepForward", fn := fun _ => fun
  | [d1, d2, d3] => { results := [.lit (.bool true)], args := [d1, d2, d3] }
  | _ => none }
def stepForwardRow : OpenClaim := { program := "yteceklkjbcebkab", sum := "57da48615eeba6497f59516a9da0a429324fc0fd16bda8384c2910f3bc34997d", func := "pollarding/pollardinglaw.StepForward", spec := "stepForward", inPlace := ["slices.overlaps[pollarding/api.Sym]", "slices.overlaps[pollarding/api.Rule]", "slices.overlaps[*pollarding/gram.Node]"], unfollowed := true, recurses := true, apart := false }
def StepForwardSaid : Prop := stepForwardRow.holds Try.pinned (OpenSpec.ofChange stepForwardSpec)

/-- ITS FALSE NEIGHBOUR: 'it returns false'. Refute it at one input. -/
def stepForwardWrong : ChangeSpec := { name := "stepForward", fn := fun _ => fun
  | [d1, d2, d3] => { results := [.lit (.bool false)], args := [d1, d2, d3] }
  | _ => none }
def StepForwardWrongFalsely : Prop := stepForwardRow.holds Try.pinned (OpenSpec.ofChange stepForwardWrong)

/-- 'pollardinglaw.StepBack': WHATEVER THE INPUT: true; the input reads as it did. -/
def stepBackSpec : ChangeSpec := { name := "stepBack", fn := fun _ => fun
  | [d1, d2, d3] => { results := [.lit (.bool true)], args := [d1, d2, d3] }
  | _ => none }
def stepBackRow : OpenClaim := { program := "yteceklkjbcebkab", sum := "57da48615eeba6497f59516a9da0a429324fc0fd16bda8384c2910f3bc34997d", func := "pollarding/pollardinglaw.StepBack", spec := "stepBack", inPlace := ["slices.overlaps[pollarding/api.Sym]", "slices.overlaps[pollarding/api.Rule]", "slices.overlaps[*pollarding/gram.Node]"], unfollowed := true, recurses := true, apart := false }
def StepBackSaid : Prop := stepBackRow.holds Try.pinned (OpenSpec.ofChange stepBackSpec)

/-- ITS FALSE NEIGHBOUR: 'it returns false'. Refute it at one input. -/
def stepBackWrong : ChangeSpec := { name := "stepBack", fn := fun _ => fun
  | [d1, d2, d3] => { results := [.lit (.bool false)], args := [d1, d2, d3] }
  | _ => none }
def StepBackWrongFalsely : Prop := stepBackRow.holds Try.pinned (OpenSpec.ofChange stepBackWrong)

/- THE SECOND FORM. 'bulk': how many values and letters a reading holds, each counted each time it is reached (what is shared counts as often as it is met; a slice's spare places count too). A statement '..UptoSaid' is the law's where the arguments, and the package variables that the reading takes, are together of bulk at most 1048576: NARROWER than '..Said'. Prove '..Said' where nothing that the law and all that it calls make is longer than what came in: it says more and counts as full. Else prove '..UptoSaid'. A law counts once. -/
mutual
def uptoBulk {H : Type} : DataW H → Nat
  | .lit (.string bytes) => bytes.length + 1
  | .lit _ => 1
  | .nil => 1
  | .ptr d => uptoBulk d + 1
  | .slice elems spare => uptoBulkAll elems + uptoBulkAll spare + 1
  | .agg parts => uptoBulkAll parts + 1
  | .iface _ d => uptoBulk d + 1
  | .map entries => uptoBulkEntries entries + 1
  | .held _ => 1
def uptoBulkAll {H : Type} : List (DataW H) → Nat
  | [] => 0
  | d :: r => uptoBulk d + uptoBulkAll r
def uptoBulkEntries {H : Type} : List (Lit × DataW H) → Nat
  | [] => 0
  | x :: r => uptoBulkEntry x + uptoBulkEntries r
def uptoBulkEntry {H : Type} : Lit × DataW H → Nat
  | (.string bytes, d) => bytes.length + uptoBulk d + 1
  | (_, d) => uptoBulk d + 1
 end
def uptoSmall : (H : Type) → List (DataW H) → Bool := fun _ ds => decide (uptoBulkAll ds ≤ 1048576)
def OpenSpec.upto (s : _root_.Go.ChangeSpec) : _root_.Go.OpenSpec := { _root_.Go.OpenSpec.ofChange s with cond := some uptoSmall }

/-- 'pollardinglaw.StepTells', WHERE WHAT IT READS IS OF BULK AT MOST 1048576: true; the input reads as it did. -/
def stepTellsUptoRow : OpenClaim := { program := "yteceklkjbcebkab", sum := "57da48615eeba6497f59516a9da0a429324fc0fd16bda8384c2910f3bc34997d", func := "pollarding/pollardinglaw.StepTells", spec := "stepTells", inPlace := ["slices.overlaps[pollarding/api.Sym]", "slices.overlaps[pollarding/api.Rule]"], unfollowed := true, recurses := true, apart := false, narrowed := true }
def StepTellsUptoSaid : Prop := stepTellsUptoRow.holds Try.pinned (OpenSpec.upto stepTellsSpec)

/-- 'pollardinglaw.StepKeeps', WHERE WHAT IT READS IS OF BULK AT MOST 1048576: true; the input reads as it did. -/
def stepKeepsUptoRow : OpenClaim := { program := "yteceklkjbcebkab", sum := "57da48615eeba6497f59516a9da0a429324fc0fd16bda8384c2910f3bc34997d", func := "pollarding/pollardinglaw.StepKeeps", spec := "stepKeeps", inPlace := ["slices.overlaps[pollarding/api.Sym]", "slices.overlaps[pollarding/api.Rule]"], unfollowed := true, recurses := true, apart := false, narrowed := true }
def StepKeepsUptoSaid : Prop := stepKeepsUptoRow.holds Try.pinned (OpenSpec.upto stepKeepsSpec)

/-- 'pollardingkeep.StepTwice', WHERE WHAT IT READS IS OF BULK AT MOST 1048576: true; the input reads as it did. -/
def stepTwiceUptoRow : OpenClaim := { program := "yteceklkjbcebkab", sum := "57da48615eeba6497f59516a9da0a429324fc0fd16bda8384c2910f3bc34997d", func := "pollarding/pollardingkeep.StepTwice", spec := "stepTwice", inPlace := ["slices.overlaps[pollarding/api.Sym]", "slices.overlaps[pollarding/api.Rule]"], unfollowed := true, recurses := true, apart := false, narrowed := true }
def StepTwiceUptoSaid : Prop := stepTwiceUptoRow.holds Try.pinned (OpenSpec.upto stepTwiceSpec)

/-- 'pollardinglaw.StepForward', WHERE WHAT IT READS IS OF BULK AT MOST 1048576: true; the input reads as it did. -/
def stepForwardUptoRow : OpenClaim := { program := "yteceklkjbcebkab", sum := "57da48615eeba6497f59516a9da0a429324fc0fd16bda8384c2910f3bc34997d", func := "pollarding/pollardinglaw.StepForward", spec := "stepForward", inPlace := ["slices.overlaps[pollarding/api.Sym]", "slices.overlaps[pollarding/api.Rule]", "slices.overlaps[*pollarding/gram.Node]"], unfollowed := true, recurses := true, apart := false, narrowed := true }
def StepForwardUptoSaid : Prop := stepForwardUptoRow.holds Try.pinned (OpenSpec.upto stepForwardSpec)

/-- 'pollardinglaw.StepBack', WHERE WHAT IT READS IS OF BULK AT MOST 1048576: true; the input reads as it did. -/
def stepBackUptoRow : OpenClaim := { program := "yteceklkjbcebkab", sum := "57da48615eeba6497f59516a9da0a429324fc0fd16bda8384c2910f3bc34997d", func := "pollarding/pollardinglaw.StepBack", spec := "stepBack", inPlace := ["slices.overlaps[pollarding/api.Sym]", "slices.overlaps[pollarding/api.Rule]", "slices.overlaps[*pollarding/gram.Node]"], unfollowed := true, recurses := true, apart := false, narrowed := true }
def StepBackUptoSaid : Prop := stepBackUptoRow.holds Try.pinned (OpenSpec.upto stepBackSpec)

end Rows
end Go.Proofs.Yteceklkjbcebkab
