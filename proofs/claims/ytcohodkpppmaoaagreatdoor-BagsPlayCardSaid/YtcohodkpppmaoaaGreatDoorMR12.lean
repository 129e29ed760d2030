/-
  How messages as arguments of the laws on packets are read.
  Arguments of type []Act, opened.
  The tables that the rows list: a start that has them; from a row's condition to the table that the walk reads.
-/
import Derived.Test.YtcohodkpppmaoaaGreatDoorMR11
import Derived.Test.YtcohodkpppmaoaaGreatDoorRows
import Derived.Test.YtcohodkpppmaoaaGreatDoorMR5
import Derived.ProofKit
import Derived.Lib.LaidTab
import Derived.Lib.LaidIn
import Derived.LaidLaws
import Derived.KernelRfl
set_option linter.unusedSimpArgs false
set_option linter.unusedVariables false
namespace Go.Proofs.YtcohodkpppmaoaaGreatDoor
open Go.RowKit Go.ChangeShapes Go.WideShapes Go.Proofs.YtcohodkpppmaoaaGreatDoorW.PrintWords Q
set_option linter.unusedVariables false
abbrev MsgT := S50
def opsGood (l : List OpT) : Prop := (∀ x ∈ l, opGood x) ∧ l.length * 48 ≤ 140737488351232
def resultsGood (l : List ResultT) : Prop := (∀ x ∈ l, resultGood x) ∧ l.length * 24 ≤ 140737488351232
def msgGood (m : MsgT) : Prop := u8Ok m.f0 ∧ u8Ok m.f1 ∧ u8Ok m.f2 ∧ u32Ok m.f3 ∧ opsGood m.f4 ∧ resultsGood m.f5
theorem opens_say : Opens Tryz.prog 45 (Kd.int .u8) (fun n => (Lit.int .u8 n).wf = true) := opens_int Tryz.underlying45 (by kernel_rfl)
theorem opens_msg : Opens Tryz.prog 50 k50 msgGood := by
  have h := opens_struct (P := Tryz.prog) (t := 50) Tryz.underlying50 (by kernel_rfl) (opensF_cons opens_say rfl (opensF_cons opens_u8 rfl (opensF_cons opens_u8 rfl (opensF_cons opens_u32 rfl (opensF_cons opens_ops rfl (opensF_one opens_results rfl))))))
  exact opens_iso (fun x : MsgT => (x.f0, x.f1, x.f2, x.f3, x.f4, x.f5)) (fun a => ⟨a.1, a.2.1, a.2.2.1, a.2.2.2.1, a.2.2.2.2.1, a.2.2.2.2.2⟩) (fun _ => rfl) (fun _ h => ⟨u8_of_wf h.1, u8_of_wf h.2.1, u8_of_wf h.2.2.1, u32_of_wf h.2.2.2.1, h.2.2.2.2.1, h.2.2.2.2.2⟩) h
theorem lists_of_good {m : MsgT} (h : msgGood m) : listsOk m.f4 m.f5 := by
  unfold listsOk many
  exact ⟨⟨by have := h.2.2.2.2.1.2; omega, fun x hx => ⟨by have := (h.2.2.2.2.1.1 x hx).1; unfold sOk at this; omega, by have := (h.2.2.2.2.1.1 x hx).2.1; unfold sOk at this; omega⟩⟩,
    by have := h.2.2.2.2.2.2; omega, fun x hx => ⟨by have := (h.2.2.2.2.2.1 x hx).2; omega, fun r hr => by have := ((h.2.2.2.2.2.1 x hx).1 r hr).1; unfold sOk at this; omega⟩⟩
end Go.Proofs.YtcohodkpppmaoaaGreatDoor
namespace Go.Proofs.YtcohodkpppmaoaaGreatDoor
open Go.RowKit Go.Proofs.YtcohodkpppmaoaaGreatDoorW.PrintWords Q
set_option linter.unusedVariables false
def actGood (x : ActT) : Prop := u8Ok x.f0 ∧ msgGood x.f1 ∧ (Lit.int .i64 x.f2).wf = true
theorem opens_i64 : Opens Tryz.prog 3 (Kd.int .i64) (fun n => (Lit.int .i64 n).wf = true) := opens_int Tryz.underlying3 (by kernel_rfl)
theorem opens_act : Opens Tryz.prog 52 k52 actGood := by
  have h := opens_struct (P := Tryz.prog) (t := 52) Tryz.underlying52 (by kernel_rfl) (opensF_cons opens_u8 rfl (opensF_cons opens_msg rfl (opensF_one opens_i64 rfl)))
  exact opens_iso (fun x : ActT => (x.f0, x.f1, x.f2)) (fun a => ⟨a.1, a.2.1, a.2.2⟩) (fun _ => rfl) (fun _ h => ⟨u8_of_wf h.1, h.2.1, h.2.2⟩) h
theorem opens_acts : Opens Tryz.prog 22 (Kd.slice 52 k52) (fun l => (∀ x ∈ l, actGood x) ∧ l.length * 72 ≤ 140737488351232) :=
  opens_slice Tryz.underlying22 (by kernel_rfl) (by kernel_rfl) (by decide) opens_act
end Go.Proofs.YtcohodkpppmaoaaGreatDoor
namespace Go.Proofs.YtcohodkpppmaoaaGreatDoor
open Go.ChangeShapes Go.WideShapes Go.ChangeAt Go.RowKit
set_option linter.unusedVariables false
/-- The list. -/
def tabList : List (String × DataW Unit) := [("math/bits.deBruijn32tab", Rows.laid_math_bits_deBruijn32tab), ("math/bits.deBruijn64tab", Rows.laid_math_bits_deBruijn64tab), ("internal/strconv.uint64pow10", Rows.laid_internal_strconv_uint64pow10)]
def cellsOfD : DataW Unit → Array Value
  | .agg l => (l.map fun
      | .lit x => x.value
      | _ => .bool false).toArray
  | _ => #[]
/-- The settled world, the tables laid. -/
noncomputable def laidWorld (os : Os) : World :=
  let w0 := World.holding Tryz.prog os ⟨#[], #[], []⟩
  { w0 with heap := ((w0.heap.modify 0 fun
      | .cells _ t frozen => .cells (cellsOfD Rows.laid_internal_strconv_uint64pow10) t frozen
      | o => o).modify 2 fun
      | .cells _ t frozen => .cells (cellsOfD Rows.laid_math_bits_deBruijn32tab) t frozen
      | o => o).modify 3 fun
      | .cells _ t frozen => .cells (cellsOfD Rows.laid_math_bits_deBruijn64tab) t frozen
      | o => o }
set_option maxRecDepth 100000 in
theorem laid_met (os : Os) (args : Array Value) : laidMet Tryz.prog tabList ((laidWorld os).forCall (fun _ _ => 0) ⟨#[], args, []⟩).memory :=
  (LaidIn.of_run [0, 2, 3] 8 (by kernel_rfl) (by kernel_rfl) (by kernel_rfl) (by kernel_rfl)).met
theorem laid_tail {P : Program} {W : World} {x : String × DataW Unit} {l : List (String × DataW Unit)} (h : laidMet P (x :: l) W) : laidMet P l W := by
  obtain ⟨ps, ⟨g, t, cs, fuel, p, q, _, _, _, _, hq, rfl⟩, hn, hr⟩ := h
  exact ⟨q, hq, (List.nodup_append.1 hn).2.1, fun b off hm => hr b off (List.mem_append_right _ hm)⟩
theorem tabOk_of_laid {W : World} (h : laidMet Tryz.prog tabList W) : TabOk W := by
  have h3 := laid_tail (laid_tail h)
  exact Lib.tabIs_of_head (g := 0) (by kernel_rfl) (by kernel_rfl) Tryz.underlying255 Tryz.underlying159 (by kernel_rfl) (by kernel_rfl) h3
end Go.Proofs.YtcohodkpppmaoaaGreatDoor
