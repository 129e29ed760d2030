/-
  No cell of these rows narrows 'for every input' (looked for: loops, veiled, ifaces, maps, wideKeys, modest, calm, conditions, laid).
  DERIVED. THE GIVEN ROWS OF THIS SEAT. 14 by the template 'for every input the law returns true; each argument reads behind the call as it read before'; 0 by the template 'total and deterministic' (their statements: YtcohodkpppmaoaaTotals.lean).
  GIVEN WITH THE SEED: the statements are not yours to turn. If you find one false, say at which input.
  Laid BY PROGRAM, IN A SANDBOX (cutbox-rows.mjs): the forced cells as the released guide's own fill.sh prints them over the translation 1ee6cd7d7df8171a… (all of the seat's roots in one cut). By AI agents, Wed Nov 11 2026. No macro, syntax, notation, axiom, sorry.
-/
import Derived.Test.YtcohodkpppmaoaaChecked
import GoSem.Claim
import GoSem.ClaimJoined
import GoSem.ClaimMapViews
import Derived.JoinedTies
import Derived.KernelRfl
namespace Go.Proofs.Ytcohodkpppmaoaa
/- THE CELL 'sum', in the pinned program and in every row, IS THE sha256 OF THE DUMP (.gsa) THAT YtcohodkpppmaoaaProg.lean LOADS. Nothing in Lean hashes anything: it is a label: what it is worth is what the hold of that sum in a sandbox is worth. -/
noncomputable def Try.pinned : Pinned := { name := "ytcohodkpppmaoaa", sum := "1ee6cd7d7df8171acacad95361a1859878b68c126dbc28d0c4295a382f2b53ff", checked := Try.checked }
namespace Rows
def none {H : Type} : Left H := { results := [], args := [] }

/-- 'concordatlaw01.KeysCheck': WHATEVER THE INPUT: true; the input reads as it did. -/
def keysCheckSpec : ChangeSpec := { name := "keysCheck", fn := fun _ => fun
  | [d] => { results := [.lit (.bool true)], args := [d] }
  | _ => none }
def keysCheckRow : OpenClaim := { program := "ytcohodkpppmaoaa", sum := "1ee6cd7d7df8171acacad95361a1859878b68c126dbc28d0c4295a382f2b53ff", func := "concordat/concordatlaw01.KeysCheck", spec := "keysCheck", unfollowed := true, recurses := true, apart := false }
def KeysCheckSaid : Prop := keysCheckRow.holds Try.pinned (OpenSpec.ofChange keysCheckSpec)

/-- ITS FALSE NEIGHBOUR: 'it returns false'. Refute it at one input. -/
def keysCheckWrong : ChangeSpec := { name := "keysCheck", fn := fun _ => fun
  | [d] => { results := [.lit (.bool false)], args := [d] }
  | _ => none }
def KeysCheckWrongFalsely : Prop := keysCheckRow.holds Try.pinned (OpenSpec.ofChange keysCheckWrong)

/-- 'concordatlaw02.RowsMany': WHATEVER THE INPUT: true; the input reads as it did. -/
def rowsManySpec : ChangeSpec := { name := "rowsMany", fn := fun _ => fun
  | [d1, d2] => { results := [.lit (.bool true)], args := [d1, d2] }
  | _ => none }
def rowsManyRow : OpenClaim := { program := "ytcohodkpppmaoaa", sum := "1ee6cd7d7df8171acacad95361a1859878b68c126dbc28d0c4295a382f2b53ff", func := "concordat/concordatlaw02.RowsMany", spec := "rowsMany", unfollowed := true, recurses := true, apart := false }
def RowsManySaid : Prop := rowsManyRow.holds Try.pinned (OpenSpec.ofChange rowsManySpec)

/-- ITS FALSE NEIGHBOUR: 'it returns false'. Refute it at one input. -/
def rowsManyWrong : ChangeSpec := { name := "rowsMany", fn := fun _ => fun
  | [d1, d2] => { results := [.lit (.bool false)], args := [d1, d2] }
  | _ => none }
def RowsManyWrongFalsely : Prop := rowsManyRow.holds Try.pinned (OpenSpec.ofChange rowsManyWrong)

/-- 'concordatlaw08.BagsNone': WHATEVER THE INPUT: true; the input reads as it did. -/
def bagsNoneSpec : ChangeSpec := { name := "bagsNone", fn := fun _ => fun
  | [d1, d2] => { results := [.lit (.bool true)], args := [d1, d2] }
  | _ => none }
def bagsNoneRow : OpenClaim := { program := "ytcohodkpppmaoaa", sum := "1ee6cd7d7df8171acacad95361a1859878b68c126dbc28d0c4295a382f2b53ff", func := "concordat/concordatlaw08.BagsNone", spec := "bagsNone", unfollowed := true, recurses := true, apart := false }
def BagsNoneSaid : Prop := bagsNoneRow.holds Try.pinned (OpenSpec.ofChange bagsNoneSpec)

/-- ITS FALSE NEIGHBOUR: 'it returns false'. Refute it at one input. -/
def bagsNoneWrong : ChangeSpec := { name := "bagsNone", fn := fun _ => fun
  | [d1, d2] => { results := [.lit (.bool false)], args := [d1, d2] }
  | _ => none }
def BagsNoneWrongFalsely : Prop := bagsNoneRow.holds Try.pinned (OpenSpec.ofChange bagsNoneWrong)

/-- 'concordatlaw08.BagsCount': WHATEVER THE INPUT: true; the input reads as it did. -/
def bagsCountSpec : ChangeSpec := { name := "bagsCount", fn := fun _ => fun
  | [d1, d2] => { results := [.lit (.bool true)], args := [d1, d2] }
  | _ => none }
def bagsCountRow : OpenClaim := { program := "ytcohodkpppmaoaa", sum := "1ee6cd7d7df8171acacad95361a1859878b68c126dbc28d0c4295a382f2b53ff", func := "concordat/concordatlaw08.BagsCount", spec := "bagsCount", unfollowed := true, recurses := true, apart := false }
def BagsCountSaid : Prop := bagsCountRow.holds Try.pinned (OpenSpec.ofChange bagsCountSpec)

/-- ITS FALSE NEIGHBOUR: 'it returns false'. Refute it at one input. -/
def bagsCountWrong : ChangeSpec := { name := "bagsCount", fn := fun _ => fun
  | [d1, d2] => { results := [.lit (.bool false)], args := [d1, d2] }
  | _ => none }
def BagsCountWrongFalsely : Prop := bagsCountRow.holds Try.pinned (OpenSpec.ofChange bagsCountWrong)

/-- 'concordatlaw08.BagsWhole': WHATEVER THE INPUT: true; the input reads as it did. -/
def bagsWholeSpec : ChangeSpec := { name := "bagsWhole", fn := fun _ => fun
  | [d1, d2] => { results := [.lit (.bool true)], args := [d1, d2] }
  | _ => none }
def bagsWholeRow : OpenClaim := { program := "ytcohodkpppmaoaa", sum := "1ee6cd7d7df8171acacad95361a1859878b68c126dbc28d0c4295a382f2b53ff", func := "concordat/concordatlaw08.BagsWhole", spec := "bagsWhole", unfollowed := true, recurses := true, apart := false }
def BagsWholeSaid : Prop := bagsWholeRow.holds Try.pinned (OpenSpec.ofChange bagsWholeSpec)

/-- ITS FALSE NEIGHBOUR: 'it returns false'. Refute it at one input. -/
def bagsWholeWrong : ChangeSpec := { name := "bagsWhole", fn := fun _ => fun
  | [d1, d2] => { results := [.lit (.bool false)], args := [d1, d2] }
  | _ => none }
def BagsWholeWrongFalsely : Prop := bagsWholeRow.holds Try.pinned (OpenSpec.ofChange bagsWholeWrong)

/-- 'concordatlaw08.BagsCopies': WHATEVER THE INPUT: true; the input reads as it did. -/
def bagsCopiesSpec : ChangeSpec := { name := "bagsCopies", fn := fun _ => fun
  | [d] => { results := [.lit (.bool true)], args := [d] }
  | _ => none }
def bagsCopiesRow : OpenClaim := { program := "ytcohodkpppmaoaa", sum := "1ee6cd7d7df8171acacad95361a1859878b68c126dbc28d0c4295a382f2b53ff", func := "concordat/concordatlaw08.BagsCopies", spec := "bagsCopies", unfollowed := true, recurses := true, apart := false }
def BagsCopiesSaid : Prop := bagsCopiesRow.holds Try.pinned (OpenSpec.ofChange bagsCopiesSpec)

/-- ITS FALSE NEIGHBOUR: 'it returns false'. Refute it at one input. -/
def bagsCopiesWrong : ChangeSpec := { name := "bagsCopies", fn := fun _ => fun
  | [d] => { results := [.lit (.bool false)], args := [d] }
  | _ => none }
def BagsCopiesWrongFalsely : Prop := bagsCopiesRow.holds Try.pinned (OpenSpec.ofChange bagsCopiesWrong)

/-- 'concordatlaw08.BagsTwo': WHATEVER THE INPUT: true; the input reads as it did. -/
def bagsTwoSpec : ChangeSpec := { name := "bagsTwo", fn := fun _ => fun
  | [d1, d2] => { results := [.lit (.bool true)], args := [d1, d2] }
  | _ => none }
def bagsTwoRow : OpenClaim := { program := "ytcohodkpppmaoaa", sum := "1ee6cd7d7df8171acacad95361a1859878b68c126dbc28d0c4295a382f2b53ff", func := "concordat/concordatlaw08.BagsTwo", spec := "bagsTwo", unfollowed := true, recurses := true, apart := false }
def BagsTwoSaid : Prop := bagsTwoRow.holds Try.pinned (OpenSpec.ofChange bagsTwoSpec)

/-- ITS FALSE NEIGHBOUR: 'it returns false'. Refute it at one input. -/
def bagsTwoWrong : ChangeSpec := { name := "bagsTwo", fn := fun _ => fun
  | [d1, d2] => { results := [.lit (.bool false)], args := [d1, d2] }
  | _ => none }
def BagsTwoWrongFalsely : Prop := bagsTwoRow.holds Try.pinned (OpenSpec.ofChange bagsTwoWrong)

/-- 'concordatlaw08.BagsFull': WHATEVER THE INPUT: true; the input reads as it did. -/
def bagsFullSpec : ChangeSpec := { name := "bagsFull", fn := fun _ => fun
  | [d1, d2, d3] => { results := [.lit (.bool true)], args := [d1, d2, d3] }
  | _ => none }
def bagsFullRow : OpenClaim := { program := "ytcohodkpppmaoaa", sum := "1ee6cd7d7df8171acacad95361a1859878b68c126dbc28d0c4295a382f2b53ff", func := "concordat/concordatlaw08.BagsFull", spec := "bagsFull", unfollowed := true, recurses := true, apart := false }
def BagsFullSaid : Prop := bagsFullRow.holds Try.pinned (OpenSpec.ofChange bagsFullSpec)

/-- ITS FALSE NEIGHBOUR: 'it returns false'. Refute it at one input. -/
def bagsFullWrong : ChangeSpec := { name := "bagsFull", fn := fun _ => fun
  | [d1, d2, d3] => { results := [.lit (.bool false)], args := [d1, d2, d3] }
  | _ => none }
def BagsFullWrongFalsely : Prop := bagsFullRow.holds Try.pinned (OpenSpec.ofChange bagsFullWrong)

/-- 'concordatlaw02.RowsBack': WHATEVER THE INPUT: true; the input reads as it did. -/
def rowsBackSpec : ChangeSpec := { name := "rowsBack", fn := fun _ => fun
  | [d1, d2] => { results := [.lit (.bool true)], args := [d1, d2] }
  | _ => none }
def rowsBackRow : OpenClaim := { program := "ytcohodkpppmaoaa", sum := "1ee6cd7d7df8171acacad95361a1859878b68c126dbc28d0c4295a382f2b53ff", func := "concordat/concordatlaw02.RowsBack", spec := "rowsBack", unfollowed := true, recurses := true, apart := false }
def RowsBackSaid : Prop := rowsBackRow.holds Try.pinned (OpenSpec.ofChange rowsBackSpec)

/-- ITS FALSE NEIGHBOUR: 'it returns false'. Refute it at one input. -/
def rowsBackWrong : ChangeSpec := { name := "rowsBack", fn := fun _ => fun
  | [d1, d2] => { results := [.lit (.bool false)], args := [d1, d2] }
  | _ => none }
def RowsBackWrongFalsely : Prop := rowsBackRow.holds Try.pinned (OpenSpec.ofChange rowsBackWrong)

/-- 'concordatlaw02.RowsTurned': WHATEVER THE INPUT: true; the input reads as it did. -/
def rowsTurnedSpec : ChangeSpec := { name := "rowsTurned", fn := fun _ => fun
  | [d1, d2] => { results := [.lit (.bool true)], args := [d1, d2] }
  | _ => none }
def rowsTurnedRow : OpenClaim := { program := "ytcohodkpppmaoaa", sum := "1ee6cd7d7df8171acacad95361a1859878b68c126dbc28d0c4295a382f2b53ff", func := "concordat/concordatlaw02.RowsTurned", spec := "rowsTurned", unfollowed := true, recurses := true, apart := false }
def RowsTurnedSaid : Prop := rowsTurnedRow.holds Try.pinned (OpenSpec.ofChange rowsTurnedSpec)

/-- ITS FALSE NEIGHBOUR: 'it returns false'. Refute it at one input. -/
def rowsTurnedWrong : ChangeSpec := { name := "rowsTurned", fn := fun _ => fun
  | [d1, d2] => { results := [.lit (.bool false)], args := [d1, d2] }
  | _ => none }
def RowsTurnedWrongFalsely : Prop := rowsTurnedRow.holds Try.pinned (OpenSpec.ofChange rowsTurnedWrong)

/-- 'concordatlaw02.RowsMay': WHATEVER THE INPUT: true; the input reads as it did. -/
def rowsMaySpec : ChangeSpec := { name := "rowsMay", fn := fun _ => fun
  | [d] => { results := [.lit (.bool true)], args := [d] }
  | _ => none }
def rowsMayRow : OpenClaim := { program := "ytcohodkpppmaoaa", sum := "1ee6cd7d7df8171acacad95361a1859878b68c126dbc28d0c4295a382f2b53ff", func := "concordat/concordatlaw02.RowsMay", spec := "rowsMay", unfollowed := true, recurses := true, apart := false }
def RowsMaySaid : Prop := rowsMayRow.holds Try.pinned (OpenSpec.ofChange rowsMaySpec)

/-- ITS FALSE NEIGHBOUR: 'it returns false'. Refute it at one input. -/
def rowsMayWrong : ChangeSpec := { name := "rowsMay", fn := fun _ => fun
  | [d] => { results := [.lit (.bool false)], args := [d] }
  | _ => none }
def RowsMayWrongFalsely : Prop := rowsMayRow.holds Try.pinned (OpenSpec.ofChange rowsMayWrong)

/-- 'concordatlaw02.RowsLong': WHATEVER THE INPUT: true; the input reads as it did. -/
def rowsLongSpec : ChangeSpec := { name := "rowsLong", fn := fun _ => fun
  | [d1, d2] => { results := [.lit (.bool true)], args := [d1, d2] }
  | _ => none }
def rowsLongRow : OpenClaim := { program := "ytcohodkpppmaoaa", sum := "1ee6cd7d7df8171acacad95361a1859878b68c126dbc28d0c4295a382f2b53ff", func := "concordat/concordatlaw02.RowsLong", spec := "rowsLong", unfollowed := true, recurses := true, apart := false }
def RowsLongSaid : Prop := rowsLongRow.holds Try.pinned (OpenSpec.ofChange rowsLongSpec)

/-- ITS FALSE NEIGHBOUR: 'it returns false'. Refute it at one input. -/
def rowsLongWrong : ChangeSpec := { name := "rowsLong", fn := fun _ => fun
  | [d1, d2] => { results := [.lit (.bool false)], args := [d1, d2] }
  | _ => none }
def RowsLongWrongFalsely : Prop := rowsLongRow.holds Try.pinned (OpenSpec.ofChange rowsLongWrong)

/-- 'concordatlaw02.RowsTold': WHATEVER THE INPUT: true; the input reads as it did. -/
def rowsToldSpec : ChangeSpec := { name := "rowsTold", fn := fun _ => fun
  | [d1, d2] => { results := [.lit (.bool true)], args := [d1, d2] }
  | _ => none }
def rowsToldRow : OpenClaim := { program := "ytcohodkpppmaoaa", sum := "1ee6cd7d7df8171acacad95361a1859878b68c126dbc28d0c4295a382f2b53ff", func := "concordat/concordatlaw02.RowsTold", spec := "rowsTold", unfollowed := true, recurses := true, apart := false }
def RowsToldSaid : Prop := rowsToldRow.holds Try.pinned (OpenSpec.ofChange rowsToldSpec)

/-- ITS FALSE NEIGHBOUR: 'it returns false'. Refute it at one input. -/
def rowsToldWrong : ChangeSpec := { name := "rowsTold", fn := fun _ => fun
  | [d1, d2] => { results := [.lit (.bool false)], args := [d1, d2] }
  | _ => none }
def RowsToldWrongFalsely : Prop := rowsToldRow.holds Try.pinned (OpenSpec.ofChange rowsToldWrong)

/-- 'concordatlaw02.RowsLimits': WHATEVER THE INPUT: true; the input reads as it did. -/
def rowsLimitsSpec : ChangeSpec := { name := "rowsLimits", fn := fun _ => fun
  | [d] => { results := [.lit (.bool true)], args := [d] }
  | _ => none }
def rowsLimitsRow : OpenClaim := { program := "ytcohodkpppmaoaa", sum := "1ee6cd7d7df8171acacad95361a1859878b68c126dbc28d0c4295a382f2b53ff", func := "concordat/concordatlaw02.RowsLimits", spec := "rowsLimits", unfollowed := true, recurses := true, apart := false }
def RowsLimitsSaid : Prop := rowsLimitsRow.holds Try.pinned (OpenSpec.ofChange rowsLimitsSpec)

/-- ITS FALSE NEIGHBOUR: 'it returns false'. Refute it at one input. -/
def rowsLimitsWrong : ChangeSpec := { name := "rowsLimits", fn := fun _ => fun
  | [d] => { results := [.lit (.bool false)], args := [d] }
  | _ => none }
def RowsLimitsWrongFalsely : Prop := rowsLimitsRow.holds Try.pinned (OpenSpec.ofChange rowsLimitsWrong)

/- THE SECOND FORM. 'bulk': how many values and letters a reading holds, each counted each time it is reached (what is shared counts as often as it is met; a slice's spare places count too). A statement '..UptoSaid' is the law's where the arguments, and the package variables that the reading takes, are together of bulk at most 1048576: NARROWER than '..Said'. Prove '..Said' where nothing that the law and all that it calls make is longer than what came in: it says more and counts as full. Else prove '..UptoSaid'. A law counts once. -/
mutual
def uptoBulk {H : Type} : DataW H → Nat
  | .lit (.string bytes) => bytes.length + 1
  | .lit _ => 1
  | .nil => 1
  | .ptr d => uptoBulk d + 1
  | .slice elems spare => uptoBulkAll elems + uptoBulkAll spare + 1
  | .agg parts => uptoBulkAll parts + 1
  | .iface _ d => uptoBulk d + 1
  | .map entries => uptoBulkEntries entries + 1
  | .held _ => 1
def uptoBulkAll {H : Type} : List (DataW H) → Nat
  | [] => 0
  | d :: r => uptoBulk d + uptoBulkAll r
def uptoBulkEntries {H : Type} : List (Lit × DataW H) → Nat
  | [] => 0
  | x :: r => uptoBulkEntry x + uptoBulkEntries r
def uptoBulkEntry {H : Type} : Lit × DataW H → Nat
  | (.string bytes, d) => bytes.length + uptoBulk d + 1
  | (_, d) => uptoBulk d + 1
 end
def uptoSmall : (H : Type) → List (DataW H) → Bool := fun _ ds => decide (uptoBulkAll ds ≤ 1048576)
def OpenSpec.upto (s : _root_.Go.ChangeSpec) : _root_.Go.OpenSpec := { _root_.Go.OpenSpec.ofChange s with cond := some uptoSmall }

/-- 'concordatlaw01.KeysCheck', WHERE WHAT IT READS IS OF BULK AT MOST 1048576: true; the input reads as it did. -/
def keysCheckUptoRow : OpenClaim := { program := "ytcohodkpppmaoaa", sum := "1ee6cd7d7df8171acacad95361a1859878b68c126dbc28d0c4295a382f2b53ff", func := "concordat/concordatlaw01.KeysCheck", spec := "keysCheck", unfollowed := true, recurses := true, apart := false, narrowed := true }
def KeysCheckUptoSaid : Prop := keysCheckUptoRow.holds Try.pinned (OpenSpec.upto keysCheckSpec)

/-- 'concordatlaw02.RowsMany', WHERE WHAT IT READS IS OF BULK AT MOST 1048576: true; the input reads as it did. -/
def rowsManyUptoRow : OpenClaim := { program := "ytcohodkpppmaoaa", sum := "1ee6cd7d7df8171acacad95361a1859878b68c126dbc28d0c4295a382f2b53ff", func := "concordat/concordatlaw02.RowsMany", spec := "rowsMany", unfollowed := true, recurses := true, apart := false, narrowed := true }
def RowsManyUptoSaid : Prop := rowsManyUptoRow.holds Try.pinned (OpenSpec.upto rowsManySpec)

/-- 'concordatlaw08.BagsNone', WHERE WHAT IT READS IS OF BULK AT MOST 1048576: true; the input reads as it did. -/
def bagsNoneUptoRow : OpenClaim := { program := "ytcohodkpppmaoaa", sum := "1ee6cd7d7df8171acacad95361a1859878b68c126dbc28d0c4295a382f2b53ff", func := "concordat/concordatlaw08.BagsNone", spec := "bagsNone", unfollowed := true, recurses := true, apart := false, narrowed := true }
def BagsNoneUptoSaid : Prop := bagsNoneUptoRow.holds Try.pinned (OpenSpec.upto bagsNoneSpec)

/-- 'concordatlaw08.BagsCount', WHERE WHAT IT READS IS OF BULK AT MOST 1048576: true; the input reads as it did. -/
def bagsCountUptoRow : OpenClaim := { program := "ytcohodkpppmaoaa", sum := "1ee6cd7d7df8171acacad95361a1859878b68c126dbc28d0c4295a382f2b53ff", func := "concordat/concordatlaw08.BagsCount", spec := "bagsCount", unfollowed := true, recurses := true, apart := false, narrowed := true }
def BagsCountUptoSaid : Prop := bagsCountUptoRow.holds Try.pinned (OpenSpec.upto bagsCountSpec)

/-- 'concordatlaw08.BagsWhole', WHERE WHAT IT READS IS OF BULK AT MOST 1048576: true; the input reads as it did. -/
def bagsWholeUptoRow : OpenClaim := { program := "ytcohodkpppmaoaa", sum := "1ee6cd7d7df8171acacad95361a1859878b68c126dbc28d0c4295a382f2b53ff", func := "concordat/concordatlaw08.BagsWhole", spec := "bagsWhole", unfollowed := true, recurses := true, apart := false, narrowed := true }
def BagsWholeUptoSaid : Prop := bagsWholeUptoRow.holds Try.pinned (OpenSpec.upto bagsWholeSpec)

/-- 'concordatlaw08.BagsCopies', WHERE WHAT IT READS IS OF BULK AT MOST 1048576: true; the input reads as it did. -/
def bagsCopiesUptoRow : OpenClaim := { program := "ytcohodkpppmaoaa", sum := "1ee6cd7d7df8171acacad95361a1859878b68c126dbc28d0c4295a382f2b53ff", func := "concordat/concordatlaw08.BagsCopies", spec := "bagsCopies", unfollowed := true, recurses := true, apart := false, narrowed := true }
def BagsCopiesUptoSaid : Prop := bagsCopiesUptoRow.holds Try.pinned (OpenSpec.upto bagsCopiesSpec)

/-- 'concordatlaw08.BagsTwo', WHERE WHAT IT READS IS OF BULK AT MOST 1048576: true; the input reads as it did. -/
def bagsTwoUptoRow : OpenClaim := { program := "ytcohodkpppmaoaa", sum := "1ee6cd7d7df8171acacad95361a1859878b68c126dbc28d0c4295a382f2b53ff", func := "concordat/concordatlaw08.BagsTwo", spec := "bagsTwo", unfollowed := true, recurses := true, apart := false, narrowed := true }
def BagsTwoUptoSaid : Prop := bagsTwoUptoRow.holds Try.pinned (OpenSpec.upto bagsTwoSpec)

/-- 'concordatlaw08.BagsFull', WHERE WHAT IT READS IS OF BULK AT MOST 1048576: true; the input reads as it did. -/
def bagsFullUptoRow : OpenClaim := { program := "ytcohodkpppmaoaa", sum := "1ee6cd7d7df8171acacad95361a1859878b68c126dbc28d0c4295a382f2b53ff", func := "concordat/concordatlaw08.BagsFull", spec := "bagsFull", unfollowed := true, recurses := true, apart := false, narrowed := true }
def BagsFullUptoSaid : Prop := bagsFullUptoRow.holds Try.pinned (OpenSpec.upto bagsFullSpec)

/-- 'concordatlaw02.RowsBack', WHERE WHAT IT READS IS OF BULK AT MOST 1048576: true; the input reads as it did. -/
def rowsBackUptoRow : OpenClaim := { program := "ytcohodkpppmaoaa", sum := "1ee6cd7d7df8171acacad95361a1859878b68c126dbc28d0c4295a382f2b53ff", func := "concordat/concordatlaw02.RowsBack", spec := "rowsBack", unfollowed := true, recurses := true, apart := false, narrowed := true }
def RowsBackUptoSaid : Prop := rowsBackUptoRow.holds Try.pinned (OpenSpec.upto rowsBackSpec)

/-- 'concordatlaw02.RowsTurned', WHERE WHAT IT READS IS OF BULK AT MOST 1048576: true; the input reads as it did. -/
def rowsTurnedUptoRow : OpenClaim := { program := "ytcohodkpppmaoaa", sum := "1ee6cd7d7df8171acacad95361a1859878b68c126dbc28d0c4295a382f2b53ff", func := "concordat/concordatlaw02.RowsTurned", spec := "rowsTurned", unfollowed := true, recurses := true, apart := false, narrowed := true }
def RowsTurnedUptoSaid : Prop := rowsTurnedUptoRow.holds Try.pinned (OpenSpec.upto rowsTurnedSpec)

/-- 'concordatlaw02.RowsMay', WHERE WHAT IT READS IS OF BULK AT MOST 1048576: true; the input reads as it did. -/
def rowsMayUptoRow : OpenClaim := { program := "ytcohodkpppmaoaa", sum := "1ee6cd7d7df8171acacad95361a1859878b68c126dbc28d0c4295a382f2b53ff", func := "concordat/concordatlaw02.RowsMay", spec := "rowsMay", unfollowed := true, recurses := true, apart := false, narrowed := true }
def RowsMayUptoSaid : Prop := rowsMayUptoRow.holds Try.pinned (OpenSpec.upto rowsMaySpec)

/-- 'concordatlaw02.RowsLong', WHERE WHAT IT READS IS OF BULK AT MOST 1048576: true; the input reads as it did. -/
def rowsLongUptoRow : OpenClaim := { program := "ytcohodkpppmaoaa", sum := "1ee6cd7d7df8171acacad95361a1859878b68c126dbc28d0c4295a382f2b53ff", func := "concordat/concordatlaw02.RowsLong", spec := "rowsLong", unfollowed := true, recurses := true, apart := false, narrowed := true }
def RowsLongUptoSaid : Prop := rowsLongUptoRow.holds Try.pinned (OpenSpec.upto rowsLongSpec)

/-- 'concordatlaw02.RowsTold', WHERE WHAT IT READS IS OF BULK AT MOST 1048576: true; the input reads as it did. -/
def rowsToldUptoRow : OpenClaim := { program := "ytcohodkpppmaoaa", sum := "1ee6cd7d7df8171acacad95361a1859878b68c126dbc28d0c4295a382f2b53ff", func := "concordat/concordatlaw02.RowsTold", spec := "rowsTold", unfollowed := true, recurses := true, apart := false, narrowed := true }
def RowsToldUptoSaid : Prop := rowsToldUptoRow.holds Try.pinned (OpenSpec.upto rowsToldSpec)

/-- 'concordatlaw02.RowsLimits', WHERE WHAT IT READS IS OF BULK AT MOST 1048576: true; the input reads as it did. -/
def rowsLimitsUptoRow : OpenClaim := { program := "ytcohodkpppmaoaa", sum := "1ee6cd7d7df8171acacad95361a1859878b68c126dbc28d0c4295a382f2b53ff", func := "concordat/concordatlaw02.RowsLimits", spec := "rowsLimits", unfollowed := true, recurses := true, apart := false, narrowed := true }
def RowsLimitsUptoSaid : Prop := rowsLimitsUptoRow.holds Try.pinned (OpenSpec.upto rowsLimitsSpec)

end Rows
end Go.Proofs.Ytcohodkpppmaoaa
