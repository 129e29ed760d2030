/-
  How messages as arguments of the laws on packets are read.
-/
import Derived.Test.YtcohodkpppmaoaaDoorOpensT
import Derived.Test.YtcohodkpppmaoaaDoorPurePS
namespace Go.Proofs.YtcohodkpppmaoaaDoor
open Go.RowKit Go.ChangeShapes Go.WideShapes Go.Proofs.YtcohodkpppmaoaaDoorW.PrintWords Q
set_option linter.unusedVariables false
abbrev MsgT := S27
def opsGood (l : List OpT) : Prop := (∀ x ∈ l, opGood x) ∧ l.length * 48 ≤ 140737488351232
def resultsGood (l : List ResultT) : Prop := (∀ x ∈ l, resultGood x) ∧ l.length * 24 ≤ 140737488351232
def msgGood (m : MsgT) : Prop := u8Ok m.f0 ∧ u8Ok m.f1 ∧ u8Ok m.f2 ∧ u32Ok m.f3 ∧ opsGood m.f4 ∧ resultsGood m.f5
theorem opens_say : Opens Tryd.prog 22 (Kd.int .u8) (fun n => (Lit.int .u8 n).wf = true) := opens_int Tryd.underlying22 (by kernel_rfl)
theorem opens_msg : Opens Tryd.prog 27 k27 msgGood := by
  have h := opens_struct (P := Tryd.prog) (t := 27) Tryd.underlying27 (by kernel_rfl) (opensF_cons opens_say rfl (opensF_cons opens_u8 rfl (opensF_cons opens_u8 rfl (opensF_cons opens_u32 rfl (opensF_cons opens_ops rfl (opensF_one opens_results rfl))))))
  exact opens_iso (fun x : MsgT => (x.f0, x.f1, x.f2, x.f3, x.f4, x.f5)) (fun a => ⟨a.1, a.2.1, a.2.2.1, a.2.2.2.1, a.2.2.2.2.1, a.2.2.2.2.2⟩) (fun _ => rfl) (fun _ h => ⟨u8_of_wf h.1, u8_of_wf h.2.1, u8_of_wf h.2.2.1, u32_of_wf h.2.2.2.1, h.2.2.2.2.1, h.2.2.2.2.2⟩) h
theorem lists_of_good {m : MsgT} (h : msgGood m) : listsOk m.f4 m.f5 := by
  unfold listsOk many
  exact ⟨⟨by have := h.2.2.2.2.1.2; omega, fun x hx => ⟨by have := (h.2.2.2.2.1.1 x hx).1; unfold sOk at this; omega, by have := (h.2.2.2.2.1.1 x hx).2.1; unfold sOk at this; omega⟩⟩,
    by have := h.2.2.2.2.2.2; omega, fun x hx => ⟨by have := (h.2.2.2.2.2.1 x hx).2; omega, fun r hr => by have := ((h.2.2.2.2.2.1 x hx).1 r hr).1; unfold sOk at this; omega⟩⟩
theorem ops_of_good {m : MsgT} (h : msgGood m) : ∀ x ∈ m.f4, opOk x := fun x hx => (h.2.2.2.2.1.1 x hx).2.2
theorem results_of_good {m : MsgT} (h : msgGood m) : ∀ x ∈ m.f5, resultOk x := fun x hx r hr => ((h.2.2.2.2.2.1 x hx).1 r hr).2
theorem text_of_good {m : MsgT} (h : msgGood m) : textOk m.f0 m.f1 m.f2 m.f3 := ⟨h.1, h.2.1, h.2.2.1, h.2.2.2.1⟩
end Go.Proofs.YtcohodkpppmaoaaDoor
