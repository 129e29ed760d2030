/-
  NARROWER THAN 'FOR EVERY INPUT', by the rows' own cells (each row's printed sentence says how): PacketsLines: laid · PacketsUnlike: laid · KeysIn: laid · KeysMarkers: laid · KeysOrder: laid · KeysJoined: laid · KeysBetween: laid · KeysPrefix: laid · KeysTwo: laid · PacketsBack: laid · PacketsParts: laid.
  DERIVED. THE GIVEN ROWS OF THIS SEAT. 11 by the template 'for every input the law returns true; each argument reads behind the call as it read before'; 0 by the template 'total and deterministic' (their statements: YtcohodkpppmaoaaDoorTotals.lean).
  GIVEN WITH THE SEED: the statements are not yours to turn. If you find one false, say at which input.
  Laid BY PROGRAM, IN A SANDBOX (cutbox-rows.mjs): the forced cells as the released guide's own fill.sh prints them over the translation 197da24ca69c08a6… (all of the seat's roots in one cut). By AI agents, Wed Nov 11 2026. No macro, syntax, notation, axiom, sorry.
-/
import Derived.Test.YtcohodkpppmaoaaDoorChecked
import GoSem.Claim
import GoSem.ClaimJoined
import GoSem.ClaimMapViews
import Derived.JoinedTies
import Derived.KernelRfl
namespace Go.Proofs.YtcohodkpppmaoaaDoor
/- THE CELL 'sum', in the pinned program and in every row, IS THE sha256 OF THE DUMP (.gsa) THAT YtcohodkpppmaoaaDoorProg.lean LOADS. Nothing in Lean hashes anything: it is a label: what it is worth is what the hold of that sum in a sandbox is worth. -/
noncomputable def Tryd.pinned : Pinned := { name := "ytcohodkpppmaoaadoor", sum := "197da24ca69c08a6b274a78d1a5ffb4479df4aff81dbde1d65d6a5bb0f026118", checked := Tryd.checked }
namespace Rows
def none {H : Type} : Left H := { results := [], args := [] }

/- WHAT THE LISTED PACKAGE-LEVEL VARIABLES READ AS WHEN THE CALL BEGINS. Each datum BY PROGRAM (the guide's laid-datum.mjs) off the statement by which the dump's own 'gosem.cut.vars' lays the variable. In a bare row this is a premise. The card (YtcohodkpppmaoaaDoorCards.lean) ties it to the program's text. -/
def laid_math_bits_deBruijn32tab {H : Type} : DataW H := .agg [.lit (.int .u8 0), .lit (.int .u8 1), .lit (.int .u8 28), .lit (.int .u8 2), .lit (.int .u8 29), .lit (.int .u8 14), .lit (.int .u8 24), .lit (.int .u8 3), .lit (.int .u8 30), .lit (.int .u8 22), .lit (.int .u8 20), .lit (.int .u8 15), .lit (.int .u8 25), .lit (.int .u8 17), .lit (.int .u8 4), .lit (.int .u8 8), .lit (.int .u8 31), .lit (.int .u8 27), .lit (.int .u8 13), .lit (.int .u8 23), .lit (.int .u8 21), .lit (.int .u8 19), .lit (.int .u8 16), .lit (.int .u8 7), .lit (.int .u8 26), .lit (.int .u8 12), .lit (.int .u8 18), .lit (.int .u8 6), .lit (.int .u8 11), .lit (.int .u8 5), .lit (.int .u8 10), .lit (.int .u8 9)]
def laid_math_bits_deBruijn64tab {H : Type} : DataW H := .agg [.lit (.int .u8 0), .lit (.int .u8 1), .lit (.int .u8 56), .lit (.int .u8 2), .lit (.int .u8 57), .lit (.int .u8 49), .lit (.int .u8 28), .lit (.int .u8 3), .lit (.int .u8 61), .lit (.int .u8 58), .lit (.int .u8 42), .lit (.int .u8 50), .lit (.int .u8 38), .lit (.int .u8 29), .lit (.int .u8 17), .lit (.int .u8 4), .lit (.int .u8 62), .lit (.int .u8 47), .lit (.int .u8 59), .lit (.int .u8 36), .lit (.int .u8 45), .lit (.int .u8 43), .lit (.int .u8 51), .lit (.int .u8 22), .lit (.int .u8 53), .lit (.int .u8 39), .lit (.int .u8 33), .lit (.int .u8 30), .lit (.int .u8 24), .lit (.int .u8 18), .lit (.int .u8 12), .lit (.int .u8 5), .lit (.int .u8 63), .lit (.int .u8 55), .lit (.int .u8 48), .lit (.int .u8 27), .lit (.int .u8 60), .lit (.int .u8 41), .lit (.int .u8 37), .lit (.int .u8 16), .lit (.int .u8 46), .lit (.int .u8 35), .lit (.int .u8 44), .lit (.int .u8 21), .lit (.int .u8 52), .lit (.int .u8 32), .lit (.int .u8 23), .lit (.int .u8 11), .lit (.int .u8 54), .lit (.int .u8 26), .lit (.int .u8 40), .lit (.int .u8 15), .lit (.int .u8 34), .lit (.int .u8 20), .lit (.int .u8 31), .lit (.int .u8 10), .lit (.int .u8 25), .lit (.int .u8 14), .lit (.int .u8 19), .lit (.int .u8 9), .lit (.int .u8 13), .lit (.int .u8 8), .lit (.int .u8 7), .lit (.int .u8 6)]
def laid_internal_strconv_uint64pow10 {H : Type} : DataW H := .agg [.lit (.int .u64 1), .lit (.int .u64 10), .lit (.int .u64 100), .lit (.int .u64 1000), .lit (.int .u64 10000), .lit (.int .u64 100000), .lit (.int .u64 1000000), .lit (.int .u64 10000000), .lit (.int .u64 100000000), .lit (.int .u64 1000000000), .lit (.int .u64 10000000000), .lit (.int .u64 100000000000), .lit (.int .u64 1000000000000), .lit (.int .u64 10000000000000), .lit (.int .u64 100000000000000), .lit (.int .u64 1000000000000000), .lit (.int .u64 10000000000000000), .lit (.int .u64 100000000000000000), .lit (.int .u64 1000000000000000000), .lit (.int .u64 10000000000000000000)]

/-- 'concordatlaw07.PacketsLines': WHATEVER THE INPUT: true; the input reads as it did. -/
def packetsLinesSpec : ChangeSpec := { name := "packetsLines", fn := fun _ => fun
  | [d1, d2] => { results := [.lit (.bool true)], args := [d1, d2] }
  | _ => none }
def packetsLinesRow : OpenClaim := { program := "ytcohodkpppmaoaadoor", sum := "197da24ca69c08a6b274a78d1a5ffb4479df4aff81dbde1d65d6a5bb0f026118", func := "concordat/concordatlaw07.PacketsLines", spec := "packetsLines", inPlace := ["internal/abi.NoEscape", "internal/bytealg.MakeNoZero"], unfollowed := true, recurses := true, named := ["internal/strconv.uint64pow10", "math/bits.deBruijn32tab", "math/bits.deBruijn64tab"], apart := false, laid := [("math/bits.deBruijn32tab", laid_math_bits_deBruijn32tab), ("math/bits.deBruijn64tab", laid_math_bits_deBruijn64tab), ("internal/strconv.uint64pow10", laid_internal_strconv_uint64pow10)] }
def PacketsLinesSaid : Prop := packetsLinesRow.holds Tryd.pinned (OpenSpec.ofChange packetsLinesSpec)

/-- ITS FALSE NEIGHBOUR: 'it returns false'. Refute it at one input. -/
def packetsLinesWrong : ChangeSpec := { name := "packetsLines", fn := fun _ => fun
  | [d1, d2] => { results := [.lit (.bool false)], args := [d1, d2] }
  | _ => none }
def PacketsLinesWrongFalsely : Prop := packetsLinesRow.holds Tryd.pinned (OpenSpec.ofChange packetsLinesWrong)

/-- 'concordatlaw07.PacketsUnlike': WHATEVER THE INPUT: true; the input reads as it did. -/
def packetsUnlikeSpec : ChangeSpec := { name := "packetsUnlike", fn := fun _ => fun
  | [d1, d2] => { results := [.lit (.bool true)], args := [d1, d2] }
  | _ => none }
def packetsUnlikeRow : OpenClaim := { program := "ytcohodkpppmaoaadoor", sum := "197da24ca69c08a6b274a78d1a5ffb4479df4aff81dbde1d65d6a5bb0f026118", func := "concordat/concordatlaw07.PacketsUnlike", spec := "packetsUnlike", inPlace := ["internal/abi.NoEscape", "internal/bytealg.MakeNoZero"], unfollowed := true, recurses := true, named := ["internal/strconv.uint64pow10", "math/bits.deBruijn32tab", "math/bits.deBruijn64tab"], apart := false, laid := [("math/bits.deBruijn32tab", laid_math_bits_deBruijn32tab), ("math/bits.deBruijn64tab", laid_math_bits_deBruijn64tab), ("internal/strconv.uint64pow10", laid_internal_strconv_uint64pow10)] }
def PacketsUnlikeSaid : Prop := packetsUnlikeRow.holds Tryd.pinned (OpenSpec.ofChange packetsUnlikeSpec)

/-- ITS FALSE NEIGHBOUR: 'it returns false'. Refute it at one input. -/
def packetsUnlikeWrong : ChangeSpec := { name := "packetsUnlike", fn := fun _ => fun
  | [d1, d2] => { results := [.lit (.bool false)], args := [d1, d2] }
  | _ => none }
def PacketsUnlikeWrongFalsely : Prop := packetsUnlikeRow.holds Tryd.pinned (OpenSpec.ofChange packetsUnlikeWrong)

/-- 'concordatlaw01.KeysIn': WHATEVER THE INPUT: true; the input reads as it did. -/
def keysInSpec : ChangeSpec := { name := "keysIn", fn := fun _ => fun
  | [d1, d2, d3] => { results := [.lit (.bool true)], args := [d1, d2, d3] }
  | _ => none }
def keysInRow : OpenClaim := { program := "ytcohodkpppmaoaadoor", sum := "197da24ca69c08a6b274a78d1a5ffb4479df4aff81dbde1d65d6a5bb0f026118", func := "concordat/concordatlaw01.KeysIn", spec := "keysIn", recurses := true, named := ["internal/strconv.uint64pow10", "math/bits.deBruijn32tab", "math/bits.deBruijn64tab"], apart := false, laid := [("math/bits.deBruijn32tab", laid_math_bits_deBruijn32tab), ("math/bits.deBruijn64tab", laid_math_bits_deBruijn64tab), ("internal/strconv.uint64pow10", laid_internal_strconv_uint64pow10)] }
def KeysInSaid : Prop := keysInRow.holds Tryd.pinned (OpenSpec.ofChange keysInSpec)

/-- ITS FALSE NEIGHBOUR: 'it returns false'. Refute it at one input. -/
def keysInWrong : ChangeSpec := { name := "keysIn", fn := fun _ => fun
  | [d1, d2, d3] => { results := [.lit (.bool false)], args := [d1, d2, d3] }
  | _ => none }
def KeysInWrongFalsely : Prop := keysInRow.holds Tryd.pinned (OpenSpec.ofChange keysInWrong)

/-- 'concordatlaw01.KeysMarkers': WHATEVER THE INPUT: true; the input reads as it did. -/
def keysMarkersSpec : ChangeSpec := { name := "keysMarkers", fn := fun _ => fun
  | [d1, d2] => { results := [.lit (.bool true)], args := [d1, d2] }
  | _ => none }
def keysMarkersRow : OpenClaim := { program := "ytcohodkpppmaoaadoor", sum := "197da24ca69c08a6b274a78d1a5ffb4479df4aff81dbde1d65d6a5bb0f026118", func := "concordat/concordatlaw01.KeysMarkers", spec := "keysMarkers", unfollowed := true, recurses := true, named := ["internal/strconv.uint64pow10", "math/bits.deBruijn32tab", "math/bits.deBruijn64tab"], apart := false, laid := [("math/bits.deBruijn32tab", laid_math_bits_deBruijn32tab), ("math/bits.deBruijn64tab", laid_math_bits_deBruijn64tab), ("internal/strconv.uint64pow10", laid_internal_strconv_uint64pow10)] }
def KeysMarkersSaid : Prop := keysMarkersRow.holds Tryd.pinned (OpenSpec.ofChange keysMarkersSpec)

/-- ITS FALSE NEIGHBOUR: 'it returns false'. Refute it at one input. -/
def keysMarkersWrong : ChangeSpec := { name := "keysMarkers", fn := fun _ => fun
  | [d1, d2] => { results := [.lit (.bool false)], args := [d1, d2] }
  | _ => none }
def KeysMarkersWrongFalsely : Prop := keysMarkersRow.holds Tryd.pinned (OpenSpec.ofChange keysMarkersWrong)

/-- 'concordatlaw01.KeysOrder': WHATEVER THE INPUT: true; the input reads as it did. -/
def keysOrderSpec : ChangeSpec := { name := "keysOrder", fn := fun _ => fun
  | [d1, d2, d3] => { results := [.lit (.bool true)], args := [d1, d2, d3] }
  | _ => none }
def keysOrderRow : OpenClaim := { program := "ytcohodkpppmaoaadoor", sum := "197da24ca69c08a6b274a78d1a5ffb4479df4aff81dbde1d65d6a5bb0f026118", func := "concordat/concordatlaw01.KeysOrder", spec := "keysOrder", unfollowed := true, recurses := true, named := ["internal/strconv.uint64pow10", "math/bits.deBruijn32tab", "math/bits.deBruijn64tab"], apart := false, laid := [("math/bits.deBruijn32tab", laid_math_bits_deBruijn32tab), ("math/bits.deBruijn64tab", laid_math_bits_deBruijn64tab), ("internal/strconv.uint64pow10", laid_internal_strconv_uint64pow10)] }
def KeysOrderSaid : Prop := keysOrderRow.holds Tryd.pinned (OpenSpec.ofChange keysOrderSpec)

/-- ITS FALSE NEIGHBOUR: 'it returns false'. Refute it at one input. -/
def keysOrderWrong : ChangeSpec := { name := "keysOrder", fn := fun _ => fun
  | [d1, d2, d3] => { results := [.lit (.bool false)], args := [d1, d2, d3] }
  | _ => none }
def KeysOrderWrongFalsely : Prop := keysOrderRow.holds Tryd.pinned (OpenSpec.ofChange keysOrderWrong)

/-- 'concordatlaw01.KeysJoined': WHATEVER THE INPUT: true; the input reads as it did. -/
def keysJoinedSpec : ChangeSpec := { name := "keysJoined", fn := fun _ => fun
  | [d1, d2] => { results := [.lit (.bool true)], args := [d1, d2] }
  | _ => none }
def keysJoinedRow : OpenClaim := { program := "ytcohodkpppmaoaadoor", sum := "197da24ca69c08a6b274a78d1a5ffb4479df4aff81dbde1d65d6a5bb0f026118", func := "concordat/concordatlaw01.KeysJoined", spec := "keysJoined", unfollowed := true, recurses := true, named := ["internal/strconv.uint64pow10", "math/bits.deBruijn32tab", "math/bits.deBruijn64tab"], apart := false, laid := [("math/bits.deBruijn32tab", laid_math_bits_deBruijn32tab), ("math/bits.deBruijn64tab", laid_math_bits_deBruijn64tab), ("internal/strconv.uint64pow10", laid_internal_strconv_uint64pow10)] }
def KeysJoinedSaid : Prop := keysJoinedRow.holds Tryd.pinned (OpenSpec.ofChange keysJoinedSpec)

/-- ITS FALSE NEIGHBOUR: 'it returns false'. Refute it at one input. -/
def keysJoinedWrong : ChangeSpec := { name := "keysJoined", fn := fun _ => fun
  | [d1, d2] => { results := [.lit (.bool false)], args := [d1, d2] }
  | _ => none }
def KeysJoinedWrongFalsely : Prop := keysJoinedRow.holds Tryd.pinned (OpenSpec.ofChange keysJoinedWrong)

/-- 'concordatlaw01.KeysBetween': WHATEVER THE INPUT: true; the input reads as it did. -/
def keysBetweenSpec : ChangeSpec := { name := "keysBetween", fn := fun _ => fun
  | [d1, d2, d3] => { results := [.lit (.bool true)], args := [d1, d2, d3] }
  | _ => none }
def keysBetweenRow : OpenClaim := { program := "ytcohodkpppmaoaadoor", sum := "197da24ca69c08a6b274a78d1a5ffb4479df4aff81dbde1d65d6a5bb0f026118", func := "concordat/concordatlaw01.KeysBetween", spec := "keysBetween", unfollowed := true, recurses := true, named := ["internal/strconv.uint64pow10", "math/bits.deBruijn32tab", "math/bits.deBruijn64tab"], apart := false, laid := [("math/bits.deBruijn32tab", laid_math_bits_deBruijn32tab), ("math/bits.deBruijn64tab", laid_math_bits_deBruijn64tab), ("internal/strconv.uint64pow10", laid_internal_strconv_uint64pow10)] }
def KeysBetweenSaid : Prop := keysBetweenRow.holds Tryd.pinned (OpenSpec.ofChange keysBetweenSpec)

/-- ITS FALSE NEIGHBOUR: 'it returns false'. Refute it at one input. -/
def keysBetweenWrong : ChangeSpec := { name := "keysBetween", fn := fun _ => fun
  | [d1, d2, d3] => { results := [.lit (.bool false)], args := [d1, d2, d3] }
  | _ => none }
def KeysBetweenWrongFalsely : Prop := keysBetweenRow.holds Tryd.pinned (OpenSpec.ofChange keysBetweenWrong)

/-- 'concordatlaw01.KeysPrefix': WHATEVER THE INPUT: true; the input reads as it did. -/
def keysPrefixSpec : ChangeSpec := { name := "keysPrefix", fn := fun _ => fun
  | [d1, d2, d3] => { results := [.lit (.bool true)], args := [d1, d2, d3] }
  | _ => none }
def keysPrefixRow : OpenClaim := { program := "ytcohodkpppmaoaadoor", sum := "197da24ca69c08a6b274a78d1a5ffb4479df4aff81dbde1d65d6a5bb0f026118", func := "concordat/concordatlaw01.KeysPrefix", spec := "keysPrefix", unfollowed := true, recurses := true, named := ["internal/strconv.uint64pow10", "math/bits.deBruijn32tab", "math/bits.deBruijn64tab"], apart := false, laid := [("math/bits.deBruijn32tab", laid_math_bits_deBruijn32tab), ("math/bits.deBruijn64tab", laid_math_bits_deBruijn64tab), ("internal/strconv.uint64pow10", laid_internal_strconv_uint64pow10)] }
def KeysPrefixSaid : Prop := keysPrefixRow.holds Tryd.pinned (OpenSpec.ofChange keysPrefixSpec)

/-- ITS FALSE NEIGHBOUR: 'it returns false'. Refute it at one input. -/
def keysPrefixWrong : ChangeSpec := { name := "keysPrefix", fn := fun _ => fun
  | [d1, d2, d3] => { results := [.lit (.bool false)], args := [d1, d2, d3] }
  | _ => none }
def KeysPrefixWrongFalsely : Prop := keysPrefixRow.holds Tryd.pinned (OpenSpec.ofChange keysPrefixWrong)

/-- 'concordatlaw01.KeysTwo': WHATEVER THE INPUT: true; the input reads as it did. -/
def keysTwoSpec : ChangeSpec := { name := "keysTwo", fn := fun _ => fun
  | [d1, d2, d3] => { results := [.lit (.bool true)], args := [d1, d2, d3] }
  | _ => none }
def keysTwoRow : OpenClaim := { program := "ytcohodkpppmaoaadoor", sum := "197da24ca69c08a6b274a78d1a5ffb4479df4aff81dbde1d65d6a5bb0f026118", func := "concordat/concordatlaw01.KeysTwo", spec := "keysTwo", unfollowed := true, recurses := true, named := ["internal/strconv.uint64pow10", "math/bits.deBruijn32tab", "math/bits.deBruijn64tab"], apart := false, laid := [("math/bits.deBruijn32tab", laid_math_bits_deBruijn32tab), ("math/bits.deBruijn64tab", laid_math_bits_deBruijn64tab), ("internal/strconv.uint64pow10", laid_internal_strconv_uint64pow10)] }
def KeysTwoSaid : Prop := keysTwoRow.holds Tryd.pinned (OpenSpec.ofChange keysTwoSpec)

/-- ITS FALSE NEIGHBOUR: 'it returns false'. Refute it at one input. -/
def keysTwoWrong : ChangeSpec := { name := "keysTwo", fn := fun _ => fun
  | [d1, d2, d3] => { results := [.lit (.bool false)], args := [d1, d2, d3] }
  | _ => none }
def KeysTwoWrongFalsely : Prop := keysTwoRow.holds Tryd.pinned (OpenSpec.ofChange keysTwoWrong)

/-- 'concordatlaw07.PacketsBack': WHATEVER THE INPUT: true; the input reads as it did. -/
def packetsBackSpec : ChangeSpec := { name := "packetsBack", fn := fun _ => fun
  | [d1, d2] => { results := [.lit (.bool true)], args := [d1, d2] }
  | _ => none }
def packetsBackRow : OpenClaim := { program := "ytcohodkpppmaoaadoor", sum := "197da24ca69c08a6b274a78d1a5ffb4479df4aff81dbde1d65d6a5bb0f026118", func := "concordat/concordatlaw07.PacketsBack", spec := "packetsBack", inPlace := ["internal/abi.NoEscape", "internal/bytealg.MakeNoZero"], unfollowed := true, recurses := true, named := ["internal/strconv.uint64pow10", "math/bits.deBruijn32tab", "math/bits.deBruijn64tab"], apart := false, laid := [("math/bits.deBruijn32tab", laid_math_bits_deBruijn32tab), ("math/bits.deBruijn64tab", laid_math_bits_deBruijn64tab), ("internal/strconv.uint64pow10", laid_internal_strconv_uint64pow10)] }
def PacketsBackSaid : Prop := packetsBackRow.holds Tryd.pinned (OpenSpec.ofChange packetsBackSpec)

/-- ITS FALSE NEIGHBOUR: 'it returns false'. Refute it at one input. -/
def packetsBackWrong : ChangeSpec := { name := "packetsBack", fn := fun _ => fun
  | [d1, d2] => { results := [.lit (.bool false)], args := [d1, d2] }
  | _ => none }
def PacketsBackWrongFalsely : Prop := packetsBackRow.holds Tryd.pinned (OpenSpec.ofChange packetsBackWrong)

/-- 'concordatlaw07.PacketsParts': WHATEVER THE INPUT: true; the input reads as it did. -/
def packetsPartsSpec : ChangeSpec := { name := "packetsParts", fn := fun _ => fun
  | [d] => { results := [.lit (.bool true)], args := [d] }
  | _ => none }
def packetsPartsRow : OpenClaim := { program := "ytcohodkpppmaoaadoor", sum := "197da24ca69c08a6b274a78d1a5ffb4479df4aff81dbde1d65d6a5bb0f026118", func := "concordat/concordatlaw07.PacketsParts", spec := "packetsParts", inPlace := ["internal/abi.NoEscape", "internal/bytealg.MakeNoZero"], unfollowed := true, recurses := true, named := ["internal/strconv.uint64pow10", "math/bits.deBruijn32tab", "math/bits.deBruijn64tab"], apart := false, laid := [("math/bits.deBruijn32tab", laid_math_bits_deBruijn32tab), ("math/bits.deBruijn64tab", laid_math_bits_deBruijn64tab), ("internal/strconv.uint64pow10", laid_internal_strconv_uint64pow10)] }
def PacketsPartsSaid : Prop := packetsPartsRow.holds Tryd.pinned (OpenSpec.ofChange packetsPartsSpec)

/-- ITS FALSE NEIGHBOUR: 'it returns false'. Refute it at one input. -/
def packetsPartsWrong : ChangeSpec := { name := "packetsParts", fn := fun _ => fun
  | [d] => { results := [.lit (.bool false)], args := [d] }
  | _ => none }
def PacketsPartsWrongFalsely : Prop := packetsPartsRow.holds Tryd.pinned (OpenSpec.ofChange packetsPartsWrong)

/- THE SECOND FORM. 'bulk': how many values and letters a reading holds, each counted each time it is reached (what is shared counts as often as it is met; a slice's spare places count too). A statement '..UptoSaid' is the law's where the arguments, and the package variables that the reading takes, are together of bulk at most 1048576: NARROWER than '..Said'. Prove '..Said' where nothing that the law and all that it calls make is longer than what came in: it says more and counts as full. Else prove '..UptoSaid'. A law counts once. -/
mutual
def uptoBulk {H : Type} : DataW H → Nat
  | .lit (.string bytes) => bytes.length + 1
  | .lit _ => 1
  | .nil => 1
  | .ptr d => uptoBulk d + 1
  | .slice elems spare => uptoBulkAll elems + uptoBulkAll spare + 1
  | .agg parts => uptoBulkAll parts + 1
  | .iface _ d => uptoBulk d + 1
  | .map entries => uptoBulkEntries entries + 1
  | .held _ => 1
def uptoBulkAll {H : Type} : List (DataW H) → Nat
  | [] => 0
  | d :: r => uptoBulk d + uptoBulkAll r
def uptoBulkEntries {H : Type} : List (Lit × DataW H) → Nat
  | [] => 0
  | x :: r => uptoBulkEntry x + uptoBulkEntries r
def uptoBulkEntry {H : Type} : Lit × DataW H → Nat
  | (.string bytes, d) => bytes.length + uptoBulk d + 1
  | (_, d) => uptoBulk d + 1
 end
def uptoSmall : (H : Type) → List (DataW H) → Bool := fun _ ds => decide (uptoBulkAll ds ≤ 1048576)
def OpenSpec.upto (s : _root_.Go.ChangeSpec) : _root_.Go.OpenSpec := { _root_.Go.OpenSpec.ofChange s with cond := some uptoSmall }

/-- 'concordatlaw07.PacketsLines', WHERE WHAT IT READS IS OF BULK AT MOST 1048576: true; the input reads as it did. -/
def packetsLinesUptoRow : OpenClaim := { program := "ytcohodkpppmaoaadoor", sum := "197da24ca69c08a6b274a78d1a5ffb4479df4aff81dbde1d65d6a5bb0f026118", func := "concordat/concordatlaw07.PacketsLines", spec := "packetsLines", inPlace := ["internal/abi.NoEscape", "internal/bytealg.MakeNoZero"], unfollowed := true, recurses := true, named := ["internal/strconv.uint64pow10", "math/bits.deBruijn32tab", "math/bits.deBruijn64tab"], apart := false, laid := [("math/bits.deBruijn32tab", laid_math_bits_deBruijn32tab), ("math/bits.deBruijn64tab", laid_math_bits_deBruijn64tab), ("internal/strconv.uint64pow10", laid_internal_strconv_uint64pow10)], narrowed := true }
def PacketsLinesUptoSaid : Prop := packetsLinesUptoRow.holds Tryd.pinned (OpenSpec.upto packetsLinesSpec)

/-- 'concordatlaw07.PacketsUnlike', WHERE WHAT IT READS IS OF BULK AT MOST 1048576: true; the input reads as it did. -/
def packetsUnlikeUptoRow : OpenClaim := { program := "ytcohodkpppmaoaadoor", sum := "197da24ca69c08a6b274a78d1a5ffb4479df4aff81dbde1d65d6a5bb0f026118", func := "concordat/concordatlaw07.PacketsUnlike", spec := "packetsUnlike", inPlace := ["internal/abi.NoEscape", "internal/bytealg.MakeNoZero"], unfollowed := true, recurses := true, named := ["internal/strconv.uint64pow10", "math/bits.deBruijn32tab", "math/bits.deBruijn64tab"], apart := false, laid := [("math/bits.deBruijn32tab", laid_math_bits_deBruijn32tab), ("math/bits.deBruijn64tab", laid_math_bits_deBruijn64tab), ("internal/strconv.uint64pow10", laid_internal_strconv_uint64pow10)], narrowed := true }
def PacketsUnlikeUptoSaid : Prop := packetsUnlikeUptoRow.holds Tryd.pinned (OpenSpec.upto packetsUnlikeSpec)

/-- 'concordatlaw01.KeysIn', WHERE WHAT IT READS IS OF BULK AT MOST 1048576: true; the input reads as it did. -/
def keysInUptoRow : OpenClaim := { program := "ytcohodkpppmaoaadoor", sum := "197da24ca69c08a6b274a78d1a5ffb4479df4aff81dbde1d65d6a5bb0f026118", func := "concordat/concordatlaw01.KeysIn", spec := "keysIn", recurses := true, named := ["internal/strconv.uint64pow10", "math/bits.deBruijn32tab", "math/bits.deBruijn64tab"], apart := false, laid := [("math/bits.deBruijn32tab", laid_math_bits_deBruijn32tab), ("math/bits.deBruijn64tab", laid_math_bits_deBruijn64tab), ("internal/strconv.uint64pow10", laid_internal_strconv_uint64pow10)], narrowed := true }
def KeysInUptoSaid : Prop := keysInUptoRow.holds Tryd.pinned (OpenSpec.upto keysInSpec)

/-- 'concordatlaw01.KeysMarkers', WHERE WHAT IT READS IS OF BULK AT MOST 1048576: true; the input reads as it did. -/
def keysMarkersUptoRow : OpenClaim := { program := "ytcohodkpppmaoaadoor", sum := "197da24ca69c08a6b274a78d1a5ffb4479df4aff81dbde1d65d6a5bb0f026118", func := "concordat/concordatlaw01.KeysMarkers", spec := "keysMarkers", unfollowed := true, recurses := true, named := ["internal/strconv.uint64pow10", "math/bits.deBruijn32tab", "math/bits.deBruijn64tab"], apart := false, laid := [("math/bits.deBruijn32tab", laid_math_bits_deBruijn32tab), ("math/bits.deBruijn64tab", laid_math_bits_deBruijn64tab), ("internal/strconv.uint64pow10", laid_internal_strconv_uint64pow10)], narrowed := true }
def KeysMarkersUptoSaid : Prop := keysMarkersUptoRow.holds Tryd.pinned (OpenSpec.upto keysMarkersSpec)

/-- 'concordatlaw01.KeysOrder', WHERE WHAT IT READS IS OF BULK AT MOST 1048576: true; the input reads as it did. -/
def keysOrderUptoRow : OpenClaim := { program := "ytcohodkpppmaoaadoor", sum := "197da24ca69c08a6b274a78d1a5ffb4479df4aff81dbde1d65d6a5bb0f026118", func := "concordat/concordatlaw01.KeysOrder", spec := "keysOrder", unfollowed := true, recurses := true, named := ["internal/strconv.uint64pow10", "math/bits.deBruijn32tab", "math/bits.deBruijn64tab"], apart := false, laid := [("math/bits.deBruijn32tab", laid_math_bits_deBruijn32tab), ("math/bits.deBruijn64tab", laid_math_bits_deBruijn64tab), ("internal/strconv.uint64pow10", laid_internal_strconv_uint64pow10)], narrowed := true }
def KeysOrderUptoSaid : Prop := keysOrderUptoRow.holds Tryd.pinned (OpenSpec.upto keysOrderSpec)

/-- 'concordatlaw01.KeysJoined', WHERE WHAT IT READS IS OF BULK AT MOST 1048576: true; the input reads as it did. -/
def keysJoinedUptoRow : OpenClaim := { program := "ytcohodkpppmaoaadoor", sum := "197da24ca69c08a6b274a78d1a5ffb4479df4aff81dbde1d65d6a5bb0f026118", func := "concordat/concordatlaw01.KeysJoined", spec := "keysJoined", unfollowed := true, recurses := true, named := ["internal/strconv.uint64pow10", "math/bits.deBruijn32tab", "math/bits.deBruijn64tab"], apart := false, laid := [("math/bits.deBruijn32tab", laid_math_bits_deBruijn32tab), ("math/bits.deBruijn64tab", laid_math_bits_deBruijn64tab), ("internal/strconv.uint64pow10", laid_internal_strconv_uint64pow10)], narrowed := true }
def KeysJoinedUptoSaid : Prop := keysJoinedUptoRow.holds Tryd.pinned (OpenSpec.upto keysJoinedSpec)

/-- 'concordatlaw01.KeysBetween', WHERE WHAT IT READS IS OF BULK AT MOST 1048576: true; the input reads as it did. -/
def keysBetweenUptoRow : OpenClaim := { program := "ytcohodkpppmaoaadoor", sum := "197da24ca69c08a6b274a78d1a5ffb4479df4aff81dbde1d65d6a5bb0f026118", func := "concordat/concordatlaw01.KeysBetween", spec := "keysBetween", unfollowed := true, recurses := true, named := ["internal/strconv.uint64pow10", "math/bits.deBruijn32tab", "math/bits.deBruijn64tab"], apart := false, laid := [("math/bits.deBruijn32tab", laid_math_bits_deBruijn32tab), ("math/bits.deBruijn64tab", laid_math_bits_deBruijn64tab), ("internal/strconv.uint64pow10", laid_internal_strconv_uint64pow10)], narrowed := true }
def KeysBetweenUptoSaid : Prop := keysBetweenUptoRow.holds Tryd.pinned (OpenSpec.upto keysBetweenSpec)

/-- 'concordatlaw01.KeysPrefix', WHERE WHAT IT READS IS OF BULK AT MOST 1048576: true; the input reads as it did. -/
def keysPrefixUptoRow : OpenClaim := { program := "ytcohodkpppmaoaadoor", sum := "197da24ca69c08a6b274a78d1a5ffb4479df4aff81dbde1d65d6a5bb0f026118", func := "concordat/concordatlaw01.KeysPrefix", spec := "keysPrefix", unfollowed := true, recurses := true, named := ["internal/strconv.uint64pow10", "math/bits.deBruijn32tab", "math/bits.deBruijn64tab"], apart := false, laid := [("math/bits.deBruijn32tab", laid_math_bits_deBruijn32tab), ("math/bits.deBruijn64tab", laid_math_bits_deBruijn64tab), ("internal/strconv.uint64pow10", laid_internal_strconv_uint64pow10)], narrowed := true }
def KeysPrefixUptoSaid : Prop := keysPrefixUptoRow.holds Tryd.pinned (OpenSpec.upto keysPrefixSpec)

/-- 'concordatlaw01.KeysTwo', WHERE WHAT IT READS IS OF BULK AT MOST 1048576: true; the input reads as it did. -/
def keysTwoUptoRow : OpenClaim := { program := "ytcohodkpppmaoaadoor", sum := "197da24ca69c08a6b274a78d1a5ffb4479df4aff81dbde1d65d6a5bb0f026118", func := "concordat/concordatlaw01.KeysTwo", spec := "keysTwo", unfollowed := true, recurses := true, named := ["internal/strconv.uint64pow10", "math/bits.deBruijn32tab", "math/bits.deBruijn64tab"], apart := false, laid := [("math/bits.deBruijn32tab", laid_math_bits_deBruijn32tab), ("math/bits.deBruijn64tab", laid_math_bits_deBruijn64tab), ("internal/strconv.uint64pow10", laid_internal_strconv_uint64pow10)], narrowed := true }
def KeysTwoUptoSaid : Prop := keysTwoUptoRow.holds Tryd.pinned (OpenSpec.upto keysTwoSpec)

/-- 'concordatlaw07.PacketsBack', WHERE WHAT IT READS IS OF BULK AT MOST 1048576: true; the input reads as it did. -/
def packetsBackUptoRow : OpenClaim := { program := "ytcohodkpppmaoaadoor", sum := "197da24ca69c08a6b274a78d1a5ffb4479df4aff81dbde1d65d6a5bb0f026118", func := "concordat/concordatlaw07.PacketsBack", spec := "packetsBack", inPlace := ["internal/abi.NoEscape", "internal/bytealg.MakeNoZero"], unfollowed := true, recurses := true, named := ["internal/strconv.uint64pow10", "math/bits.deBruijn32tab", "math/bits.deBruijn64tab"], apart := false, laid := [("math/bits.deBruijn32tab", laid_math_bits_deBruijn32tab), ("math/bits.deBruijn64tab", laid_math_bits_deBruijn64tab), ("internal/strconv.uint64pow10", laid_internal_strconv_uint64pow10)], narrowed := true }
def PacketsBackUptoSaid : Prop := packetsBackUptoRow.holds Tryd.pinned (OpenSpec.upto packetsBackSpec)

/-- 'concordatlaw07.PacketsParts', WHERE WHAT IT READS IS OF BULK AT MOST 1048576: true; the input reads as it did. -/
def packetsPartsUptoRow : OpenClaim := { program := "ytcohodkpppmaoaadoor", sum := "197da24ca69c08a6b274a78d1a5ffb4479df4aff81dbde1d65d6a5bb0f026118", func := "concordat/concordatlaw07.PacketsParts", spec := "packetsParts", inPlace := ["internal/abi.NoEscape", "internal/bytealg.MakeNoZero"], unfollowed := true, recurses := true, named := ["internal/strconv.uint64pow10", "math/bits.deBruijn32tab", "math/bits.deBruijn64tab"], apart := false, laid := [("math/bits.deBruijn32tab", laid_math_bits_deBruijn32tab), ("math/bits.deBruijn64tab", laid_math_bits_deBruijn64tab), ("internal/strconv.uint64pow10", laid_internal_strconv_uint64pow10)], narrowed := true }
def PacketsPartsUptoSaid : Prop := packetsPartsUptoRow.holds Tryd.pinned (OpenSpec.upto packetsPartsSpec)

end Rows
end Go.Proofs.YtcohodkpppmaoaaDoor
