/-
  No cell of these rows narrows 'for every input' (looked for: loops, veiled, ifaces, maps, wideKeys, modest, calm, conditions, laid).
  DERIVED. THE GIVEN ROWS OF THIS SEAT. 10 by the template 'for every input the law returns true; each argument reads behind the call as it read before'; 0 by the template 'total and deterministic' (their statements: YteceklkjbcebkaaTotals.lean).
  GIVEN WITH THE SEED: the statements are not yours to turn. If you find one false, say at which input.
  Laid BY PROGRAM, IN A SANDBOX (cutbox-rows.mjs): the forced cells as the released guide's own fill.sh prints them over the translation 45309b9b358fd529… (all of the seat's roots in one cut). By AI agents, Wed Nov 11 2026. No macro, syntax, notation, axiom, sorry.
-/
import Derived.Test.YteceklkjbcebkaaChecked
import GoSem.Claim
import GoSem.ClaimJoined
import GoSem.ClaimMapViews
import Derived.JoinedTies
import Derived.KernelRfl
namespace Go.Proofs.Yteceklkjbcebkaa
/- THE CELL 'sum', in the pinned program and in every row, IS THE sha256 OF THE DUMP (.gsa) THAT YteceklkjbcebkaaProg.lean LOADS. Nothing in Lean hashes anything: it is a label: what it is worth is what the hold of that sum in a sandbox is worth. -/
noncomputable def Try.pinned : Pinned := { name := "yteceklkjbcebkaa", sum := "45309b9b358fd5294d064b9999b6a2bd122ee152dbeb60c2c489a7d8941ce601", checked := Try.checked }
namespace Rows
def none {H : Type} : Left H := { results := [], args := [] }

/-- 'pollardinglaw.ShortTells': WHATEVER THE INPUT: true; the input reads as it did. -/
def shortTellsSpec : ChangeSpec := { name := "shortTells", fn := fun _ => fun
  | [d] => { results := [.lit (.bool true)], args := [d] }
  | _ => none }
def shortTellsRow : OpenClaim := { program := "yteceklkjbcebkaa", sum := "45309b9b358fd5294d064b9999b6a2bd122ee152dbeb60c2c489a7d8941ce601", func := "pollarding/pollardinglaw.ShortTells", spec := "shortTells", plainKeys := false, apart := false }
def ShortTellsSaid : Prop := shortTellsRow.holds Try.pinned (OpenSpec.ofChange shortTellsSpec)

/-- ITS FALSE NEIGHBOUR: 'it returns false'. Refute it at one input. -/
def shortTellsWrong : ChangeSpec := { name := "shortTells", fn := fun _ => fun
  | [d] => { results := [.lit (.bool false)], args := [d] }
  | _ => none }
def ShortTellsWrongFalsely : Prop := shortTellsRow.holds Try.pinned (OpenSpec.ofChange shortTellsWrong)

/-- 'pollardinglaw.ShortHolds': WHATEVER THE INPUT: true; the input reads as it did. -/
def shortHoldsSpec : ChangeSpec := { name := "shortHolds", fn := fun _ => fun
  | [d1, d2] => { results := [.lit (.bool true)], args := [d1, d2] }
  | _ => none }
def shortHoldsRow : OpenClaim := { program := "yteceklkjbcebkaa", sum := "45309b9b358fd5294d064b9999b6a2bd122ee152dbeb60c2c489a7d8941ce601", func := "pollarding/pollardinglaw.ShortHolds", spec := "shortHolds", plainKeys := false, apart := false }
def ShortHoldsSaid : Prop := shortHoldsRow.holds Try.pinned (OpenSpec.ofChange shortHoldsSpec)

/-- ITS FALSE NEIGHBOUR: 'it returns false'. Refute it at one input. -/
def shortHoldsWrong : ChangeSpec := { name := "shortHolds", fn := fun _ => fun
  | [d1, d2] => { results := [.lit (.bool false)], args := [d1, d2] }
  | _ => none }
def ShortHoldsWrongFalsely : Prop := shortHoldsRow.holds Try.pinned (OpenSpec.ofChange shortHoldsWrong)

/-- 'pollardinglaw.ReachHolds': WHATEVER THE INPUT: true; the input reads as it did. -/
def reachHoldsSpec : ChangeSpec := { name := "reachHolds", fn := fun _ => fun
  | [d1, d2] => { results := [.lit (.bool true)], args := [d1, d2] }
  | _ => none }
def reachHoldsRow : OpenClaim := { program := "yteceklkjbcebkaa", sum := "45309b9b358fd5294d064b9999b6a2bd122ee152dbeb60c2c489a7d8941ce601", func := "pollarding/pollardinglaw.ReachHolds", spec := "reachHolds", unfollowed := true, recurses := true, plainKeys := false, apart := false }
def ReachHoldsSaid : Prop := reachHoldsRow.holds Try.pinned (OpenSpec.ofChange reachHoldsSpec)

/-- ITS FALSE NEIGHBOUR: 'it returns false'. Refute it at one input. -/
def reachHoldsWrong : ChangeSpec := { name := "reachHolds", fn := fun _ => fun
  | [d1, d2] => { results := [.lit (.bool false)], args := [d1, d2] }
  | _ => none }
def ReachHoldsWrongFalsely : Prop := reachHoldsRow.holds Try.pinned (OpenSpec.ofChange reachHoldsWrong)

/-- 'pollardinglaw.GramTells': WHATEVER THE INPUT: true; the input reads as it did. -/
def gramTellsSpec : ChangeSpec := { name := "gramTells", fn := fun _ => fun
  | [d1, d2] => { results := [.lit (.bool true)], args := [d1, d2] }
  | _ => none }
def gramTellsRow : OpenClaim := { program := "yteceklkjbcebkaa", sum := "45309b9b358fd5294d064b9999b6a2bd122ee152dbeb60c2c489a7d8941ce601", func := "pollarding/pollardinglaw.GramTells", spec := "gramTells", unfollowed := true, recurses := true, plainKeys := false, apart := false }
def GramTellsSaid : Prop := gramTellsRow.holds Try.pinned (OpenSpec.ofChange gramTellsSpec)

/-- ITS FALSE NEIGHBOUR: 'it returns false'. Refute it at one input. -/
def gramTellsWrong : ChangeSpec := { name := "gramTells", fn := fun _ => fun
  | [d1, d2] => { results := [.lit (.bool false)], args := [d1, d2] }
  | _ => none }
def GramTellsWrongFalsely : Prop := gramTellsRow.holds Try.pinned (OpenSpec.ofChange gramTellsWrong)

/-- 'pollardingkeep.GramSpans': WHATEVER THE INPUT: true; the input reads as it did. -/
def gramSpansSpec : ChangeSpec := { name := "gramSpans", fn := fun _ => fun
  | [d1, d2] => { results := [.lit (.bool true)], args := [d1, d2] }
  | _ => none }
def gramSpansRow : OpenClaim := { program := "yteceklkjbcebkaa", sum := "45309b9b358fd5294d064b9999b6a2bd122ee152dbeb60c2c489a7d8941ce601", func := "pollarding/pollardingkeep.GramSpans", spec := "gramSpans", unfollowed := true, recurses := true, plainKeys := false, apart := false }
def GramSpansSaid : Prop := gramSpansRow.holds Try.pinned (OpenSpec.ofChange gramSpansSpec)

/-- ITS FALSE NEIGHBOUR: 'it returns false'. Refute it at one input. -/
def gramSpansWrong : ChangeSpec := { name := "gramSpans", fn := fun _ => fun
  | [d1, d2] => { results := [.lit (.bool false)], args := [d1, d2] }
  | _ => none }
def GramSpansWrongFalsely : Prop := gramSpansRow.holds Try.pinned (OpenSpec.ofChange gramSpansWrong)

/-- 'pollardinglaw.RecogTells': WHATEVER THE INPUT: true; the input reads as it did. -/
def recogTellsSpec : ChangeSpec := { name := "recogTells", fn := fun _ => fun
  | [d1, d2] => { results := [.lit (.bool true)], args := [d1, d2] }
  | _ => none }
def recogTellsRow : OpenClaim := { program := "yteceklkjbcebkaa", sum := "45309b9b358fd5294d064b9999b6a2bd122ee152dbeb60c2c489a7d8941ce601", func := "pollarding/pollardinglaw.RecogTells", spec := "recogTells", plainKeys := false, apart := false }
def RecogTellsSaid : Prop := recogTellsRow.holds Try.pinned (OpenSpec.ofChange recogTellsSpec)

/-- ITS FALSE NEIGHBOUR: 'it returns false'. Refute it at one input. -/
def recogTellsWrong : ChangeSpec := { name := "recogTells", fn := fun _ => fun
  | [d1, d2] => { results := [.lit (.bool false)], args := [d1, d2] }
  | _ => none }
def RecogTellsWrongFalsely : Prop := recogTellsRow.holds Try.pinned (OpenSpec.ofChange recogTellsWrong)

/-- 'pollardinglaw.RecogFinds': WHATEVER THE INPUT: true; the input reads as it did. -/
def recogFindsSpec : ChangeSpec := { name := "recogFinds", fn := fun _ => fun
  | [d1, d2] => { results := [.lit (.bool true)], args := [d1, d2] }
  | _ => none }
def recogFindsRow : OpenClaim := { program := "yteceklkjbcebkaa", sum := "45309b9b358fd5294d064b9999b6a2bd122ee152dbeb60c2c489a7d8941ce601", func := "pollarding/pollardinglaw.RecogFinds", spec := "recogFinds", plainKeys := false, apart := false }
def RecogFindsSaid : Prop := recogFindsRow.holds Try.pinned (OpenSpec.ofChange recogFindsSpec)

/-- ITS FALSE NEIGHBOUR: 'it returns false'. Refute it at one input. -/
def recogFindsWrong : ChangeSpec := { name := "recogFinds", fn := fun _ => fun
  | [d1, d2] => { results := [.lit (.bool false)], args := [d1, d2] }
  | _ => none }
def RecogFindsWrongFalsely : Prop := recogFindsRow.holds Try.pinned (OpenSpec.ofChange recogFindsWrong)

/-- 'pollardinglaw.SetsTells': WHATEVER THE INPUT: true; the input reads as it did. -/
def setsTellsSpec : ChangeSpec := { name := "setsTells", fn := fun _ => fun
  | [d] => { results := [.lit (.bool true)], args := [d] }
  | _ => none }
def setsTellsRow : OpenClaim := { program := "yteceklkjbcebkaa", sum := "45309b9b358fd5294d064b9999b6a2bd122ee152dbeb60c2c489a7d8941ce601", func := "pollarding/pollardinglaw.SetsTells", spec := "setsTells", unfollowed := true, recurses := true, plainKeys := false, apart := false }
def SetsTellsSaid : Prop := setsTellsRow.holds Try.pinned (OpenSpec.ofChange setsTellsSpec)

/-- ITS FALSE NEIGHBOUR: 'it returns false'. Refute it at one input. -/
def setsTellsWrong : ChangeSpec := { name := "setsTells", fn := fun _ => fun
  | [d] => { results := [.lit (.bool false)], args := [d] }
  | _ => none }
def SetsTellsWrongFalsely : Prop := setsTellsRow.holds Try.pinned (OpenSpec.ofChange setsTellsWrong)

/-- 'pollardinglaw.SetsHold': WHATEVER THE INPUT: true; the input reads as it did. -/
def setsHoldSpec : ChangeSpec := { name := "setsHold", fn := fun _ => fun
  | [d1, d2] => { results := [.lit (.bool true)], args := [d1, d2] }
  | _ => none }
def setsHoldRow : OpenClaim := { program := "yteceklkjbcebkaa", sum := "45309b9b358fd5294d064b9999b6a2bd122ee152dbeb60c2c489a7d8941ce601", func := "pollarding/pollardinglaw.SetsHold", spec := "setsHold", unfollowed := true, recurses := true, plainKeys := false, apart := false }
def SetsHoldSaid : Prop := setsHoldRow.holds Try.pinned (OpenSpec.ofChange setsHoldSpec)

/-- ITS FALSE NEIGHBOUR: 'it returns false'. Refute it at one input. -/
def setsHoldWrong : ChangeSpec := { name := "setsHold", fn := fun _ => fun
  | [d1, d2] => { results := [.lit (.bool false)], args := [d1, d2] }
  | _ => none }
def SetsHoldWrongFalsely : Prop := setsHoldRow.holds Try.pinned (OpenSpec.ofChange setsHoldWrong)

/-- 'pollardinglaw.ReachTells': WHATEVER THE INPUT: true; the input reads as it did. -/
def reachTellsSpec : ChangeSpec := { name := "reachTells", fn := fun _ => fun
  | [d] => { results := [.lit (.bool true)], args := [d] }
  | _ => none }
def reachTellsRow : OpenClaim := { program := "yteceklkjbcebkaa", sum := "45309b9b358fd5294d064b9999b6a2bd122ee152dbeb60c2c489a7d8941ce601", func := "pollarding/pollardinglaw.ReachTells", spec := "reachTells", unfollowed := true, recurses := true, plainKeys := false, apart := false }
def ReachTellsSaid : Prop := reachTellsRow.holds Try.pinned (OpenSpec.ofChange reachTellsSpec)

/-- ITS FALSE NEIGHBOUR: 'it returns false'. Refute it at one input. -/
def reachTellsWrong : ChangeSpec := { name := "reachTells", fn := fun _ => fun
  | [d] => { results := [.lit (.bool false)], args := [d] }
  | _ => none }
def ReachTellsWrongFalsely : Prop := reachTellsRow.holds Try.pinned (OpenSpec.ofChange reachTellsWrong)

/- THE SECOND FORM. 'bulk': how many values and letters a reading holds, each counted each time it is reached (what is shared counts as often as it is met; a slice's spare places count too). A statement '..UptoSaid' is the law's where the arguments, and the package variables that the reading takes, are together of bulk at most 1048576: NARROWER than '..Said'. Prove '..Said' where nothing that the law and all that it calls make is longer than what came in: it says more and counts as full. Else prove '..UptoSaid'. A law counts once. -/
mutual
def uptoBulk {H : Type} : DataW H → Nat
  | .lit (.string bytes) => bytes.length + 1
  | .lit _ => 1
  | .nil => 1
  | .ptr d => uptoBulk d + 1
  | .slice elems spare => uptoBulkAll elems + uptoBulkAll spare + 1
  | .agg parts => uptoBulkAll parts + 1
  | .iface _ d => uptoBulk d + 1
  | .map entries => uptoBulkEntries entries + 1
  | .held _ => 1
def uptoBulkAll {H : Type} : List (DataW H) → Nat
  | [] => 0
  | d :: r => uptoBulk d + uptoBulkAll r
def uptoBulkEntries {H : Type} : List (Lit × DataW H) → Nat
  | [] => 0
  | x :: r => uptoBulkEntry x + uptoBulkEntries r
def uptoBulkEntry {H : Type} : Lit × DataW H → Nat
  | (.string bytes, d) => bytes.length + uptoBulk d + 1
  | (_, d) => uptoBulk d + 1
 end
def uptoSmall : (H : Type) → List (DataW H) → Bool := fun _ ds => decide (uptoBulkAll ds ≤ 1048576)
def OpenSpec.upto (s : _root_.Go.ChangeSpec) : _root_.Go.OpenSpec := { _root_.Go.OpenSpec.ofChange s with cond := some uptoSmall }

/-- 'pollardinglaw.ShortTells', WHERE WHAT IT READS IS OF BULK AT MOST 1048576: true; the input reads as it did. -/
def shortTellsUptoRow : OpenClaim := { program := "yteceklkjbcebkaa", sum := "45309b9b358fd5294d064b9999b6a2bd122ee152dbeb60c2c489a7d8941ce601", func := "pollarding/pollardinglaw.ShortTells", spec := "shortTells", plainKeys := false, apart := false, narrowed := true }
def ShortTellsUptoSaid : Prop := shortTellsUptoRow.holds Try.pinned (OpenSpec.upto shortTellsSpec)

/-- 'pollardinglaw.ShortHolds', WHERE WHAT IT READS IS OF BULK AT MOST 1048576: true; the input reads as it did. -/
def shortHoldsUptoRow : OpenClaim := { program := "yteceklkjbcebkaa", sum := "45309b9b358fd5294d064b9999b6a2bd122ee152dbeb60c2c489a7d8941ce601", func := "pollarding/pollardinglaw.ShortHolds", spec := "shortHolds", plainKeys := false, apart := false, narrowed := true }
def ShortHoldsUptoSaid : Prop := shortHoldsUptoRow.holds Try.pinned (OpenSpec.upto shortHoldsSpec)

/-- 'pollardinglaw.ReachHolds', WHERE WHAT IT READS IS OF BULK AT MOST 1048576: true; the input reads as it did. -/
def reachHoldsUptoRow : OpenClaim := { program := "yteceklkjbcebkaa", sum := "45309b9b358fd5294d064b9999b6a2bd122ee152dbeb60c2c489a7d8941ce601", func := "pollarding/pollardinglaw.ReachHolds", spec := "reachHolds", unfollowed := true, recurses := true, plainKeys := false, apart := false, narrowed := true }
def ReachHoldsUptoSaid : Prop := reachHoldsUptoRow.holds Try.pinned (OpenSpec.upto reachHoldsSpec)

/-- 'pollardinglaw.GramTells', WHERE WHAT IT READS IS OF BULK AT MOST 1048576: true; the input reads as it did. -/
def gramTellsUptoRow : OpenClaim := { program := "yteceklkjbcebkaa", sum := "45309b9b358fd5294d064b9999b6a2bd122ee152dbeb60c2c489a7d8941ce601", func := "pollarding/pollardinglaw.GramTells", spec := "gramTells", unfollowed := true, recurses := true, plainKeys := false, apart := false, narrowed := true }
def GramTellsUptoSaid : Prop := gramTellsUptoRow.holds Try.pinned (OpenSpec.upto gramTellsSpec)

/-- 'pollardingkeep.GramSpans', WHERE WHAT IT READS IS OF BULK AT MOST 1048576: true; the input reads as it did. -/
def gramSpansUptoRow : OpenClaim := { program := "yteceklkjbcebkaa", sum := "45309b9b358fd5294d064b9999b6a2bd122ee152dbeb60c2c489a7d8941ce601", func := "pollarding/pollardingkeep.GramSpans", spec := "gramSpans", unfollowed := true, recurses := true, plainKeys := false, apart := false, narrowed := true }
def GramSpansUptoSaid : Prop := gramSpansUptoRow.holds Try.pinned (OpenSpec.upto gramSpansSpec)

/-- 'pollardinglaw.RecogTells', WHERE WHAT IT READS IS OF BULK AT MOST 1048576: true; the input reads as it did. -/
def recogTellsUptoRow : OpenClaim := { program := "yteceklkjbcebkaa", sum := "45309b9b358fd5294d064b9999b6a2bd122ee152dbeb60c2c489a7d8941ce601", func := "pollarding/pollardinglaw.RecogTells", spec := "recogTells", plainKeys := false, apart := false, narrowed := true }
def RecogTellsUptoSaid : Prop := recogTellsUptoRow.holds Try.pinned (OpenSpec.upto recogTellsSpec)

/-- 'pollardinglaw.RecogFinds', WHERE WHAT IT READS IS OF BULK AT MOST 1048576: true; the input reads as it did. -/
def recogFindsUptoRow : OpenClaim := { program := "yteceklkjbcebkaa", sum := "45309b9b358fd5294d064b9999b6a2bd122ee152dbeb60c2c489a7d8941ce601", func := "pollarding/pollardinglaw.RecogFinds", spec := "recogFinds", plainKeys := false, apart := false, narrowed := true }
def RecogFindsUptoSaid : Prop := recogFindsUptoRow.holds Try.pinned (OpenSpec.upto recogFindsSpec)

/-- 'pollardinglaw.SetsTells', WHERE WHAT IT READS IS OF BULK AT MOST 1048576: true; the input reads as it did. -/
def setsTellsUptoRow : OpenClaim := { program := "yteceklkjbcebkaa", sum := "45309b9b358fd5294d064b9999b6a2bd122ee152dbeb60c2c489a7d8941ce601", func := "pollarding/pollardinglaw.SetsTells", spec := "setsTells", unfollowed := true, recurses := true, plainKeys := false, apart := false, narrowed := true }
def SetsTellsUptoSaid : Prop := setsTellsUptoRow.holds Try.pinned (OpenSpec.upto setsTellsSpec)

/-- 'pollardinglaw.SetsHold', WHERE WHAT IT READS IS OF BULK AT MOST 1048576: true; the input reads as it did. -/
def setsHoldUptoRow : OpenClaim := { program := "yteceklkjbcebkaa", sum := "45309b9b358fd5294d064b9999b6a2bd122ee152dbeb60c2c489a7d8941ce601", func := "pollarding/pollardinglaw.SetsHold", spec := "setsHold", unfollowed := true, recurses := true, plainKeys := false, apart := false, narrowed := true }
def SetsHoldUptoSaid : Prop := setsHoldUptoRow.holds Try.pinned (OpenSpec.upto setsHoldSpec)

/-- 'pollardinglaw.ReachTells', WHERE WHAT IT READS IS OF BULK AT MOST 1048576: true; the input reads as it did. -/
def reachTellsUptoRow : OpenClaim := { program := "yteceklkjbcebkaa", sum := "45309b9b358fd5294d064b9999b6a2bd122ee152dbeb60c2c489a7d8941ce601", func := "pollarding/pollardinglaw.ReachTells", spec := "reachTells", unfollowed := true, recurses := true, plainKeys := false, apart := false, narrowed := true }
def ReachTellsUptoSaid : Prop := reachTellsUptoRow.holds Try.pinned (OpenSpec.upto reachTellsSpec)

end Rows
end Go.Proofs.Yteceklkjbcebkaa
