/-
  How messages as arguments are read.
-/
import Derived.Test.YtcohodkpppmaoaaOpensT
import Derived.Test.YtcohodkpppmaoaaMsg
import Derived.Test.YtcohodkpppmaoaaSame
namespace Go.Proofs.Ytcohodkpppmaoaa
open Go.RowKit Go.ChangeShapes Go.WideShapes Go.Proofs.YtcohodkpppmaoaaW.PrintWords Q

def opsGood (l : List OpT) : Prop := (∀ x ∈ l, opGood x) ∧ l.length * 48 ≤ 140737488351232
def resultsGood (l : List ResultT) : Prop := (∀ x ∈ l, resultGood x) ∧ l.length * 24 ≤ 140737488351232
def msgGood (m : MsgT) : Prop := u8Ok m.f0 ∧ u8Ok m.f1 ∧ u8Ok m.f2 ∧ u32Ok m.f3 ∧ opsGood m.f4 ∧ resultsGood m.f5
theorem opens_say : Opens Try.prog 34 (Kd.int .u8) (fun n => (Lit.int .u8 n).wf = true) := opens_int Try.underlying34 (by kernel_rfl)
theorem opens_msg : Opens Try.prog 38 k38 msgGood := by
  have h := opens_struct (P := Try.prog) (t := 38) Try.underlying38 (by kernel_rfl) (opensF_cons opens_say rfl (opensF_cons opens_u8 rfl (opensF_cons opens_u8 rfl (opensF_cons opens_u32 rfl (opensF_cons opens_ops rfl (opensF_one opens_results rfl))))))
  exact opens_iso (fun x : MsgT => (x.f0, x.f1, x.f2, x.f3, x.f4, x.f5)) (fun a => ⟨a.1, a.2.1, a.2.2.1, a.2.2.2.1, a.2.2.2.2.1, a.2.2.2.2.2⟩) (fun _ => rfl) (fun _ h => ⟨u8_of_wf h.1, u8_of_wf h.2.1, u8_of_wf h.2.2.1, u32_of_wf h.2.2.2.1, h.2.2.2.2.1, h.2.2.2.2.2⟩) h
theorem opens_msgs : Opens Try.prog 48 (Kd.slice 38 k38) (fun l => (∀ x ∈ l, msgGood x) ∧ l.length * 56 ≤ 140737488351232) :=
  opens_slice Try.underlying48 (by kernel_rfl) (by kernel_rfl) (by decide) opens_msg
theorem msgB_of_good {m : MsgT} (h : msgGood m) : msgB m :=
  ⟨by have := h.2.2.2.2.1.2; omega, by have := h.2.2.2.2.2.2; omega, fun r hr => by have := (h.2.2.2.2.2.1 r hr).2; omega⟩
theorem msgOk_of_good {m : MsgT} (h : msgGood m) : msgOk m := by
  unfold msgOk many
  exact ⟨⟨by have := h.2.2.2.2.1.2; omega, fun x hx => ⟨by have := (h.2.2.2.2.1.1 x hx).1; unfold sOk at this; omega, by have := (h.2.2.2.2.1.1 x hx).2.1; unfold sOk at this; omega⟩⟩,
    by have := h.2.2.2.2.2.2; omega, fun x hx => ⟨by have := (h.2.2.2.2.2.1 x hx).2; omega, fun r hr => by have := ((h.2.2.2.2.2.1 x hx).1 r hr).1; unfold sOk at this; omega⟩⟩
theorem msg_cells {w : World} {m : MsgT} {cs : Array Value} (h : k38.K w m cs.toList) : ∃ v4 v5, cs = msgCells m v4 v5 ∧ ∃ A4 c4 A5 c5, v4 = .slice A4 m.f4.length c4 ∧ v5 = .slice A5 m.f5.length c5 ∧ m.f4.length ≤ c4 ∧ k68.C w A4 m.f4.length m.f4 ∧ m.f5.length ≤ c5 ∧ k71.C w A5 m.f5.length m.f5 := by
  obtain ⟨A4, c4, A5, c5, hcs, l4, h4, l5, h5⟩ := k38_open h
  exact ⟨_, _, Array.ext' hcs, A4, c4, A5, c5, rfl, rfl, l4, h4, l5, h5⟩
end Go.Proofs.Ytcohodkpppmaoaa
