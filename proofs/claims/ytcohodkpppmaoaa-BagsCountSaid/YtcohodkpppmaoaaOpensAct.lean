/-
  Arguments of type []Act, opened.
-/
import Derived.Test.YtcohodkpppmaoaaOpensM
import Derived.Test.YtcohodkpppmaoaaGreat
namespace Go.Proofs.Ytcohodkpppmaoaa
open Go.RowKit Go.Proofs.YtcohodkpppmaoaaW.PrintWords Q
set_option linter.unusedVariables false
def actGood (x : ActT) : Prop := u8Ok x.f0 ∧ msgGood x.f1 ∧ (Lit.int .i64 x.f2).wf = true
theorem opens_i64 : Opens Try.prog 3 (Kd.int .i64) (fun n => (Lit.int .i64 n).wf = true) := opens_int Try.underlying3 (by kernel_rfl)
theorem opens_act : Opens Try.prog 58 k58 actGood := by
  have h := opens_struct (P := Try.prog) (t := 58) Try.underlying58 (by kernel_rfl) (opensF_cons opens_u8 rfl (opensF_cons opens_msg rfl (opensF_one opens_i64 rfl)))
  exact opens_iso (fun x : ActT => (x.f0, x.f1, x.f2)) (fun a => ⟨a.1, a.2.1, a.2.2⟩) (fun _ => rfl) (fun _ h => ⟨u8_of_wf h.1, h.2.1, h.2.2⟩) h
theorem opens_acts : Opens Try.prog 51 (Kd.slice 58 k58) (fun l => (∀ x ∈ l, actGood x) ∧ l.length * 72 ≤ 140737488351232) :=
  opens_slice Try.underlying51 (by kernel_rfl) (by kernel_rfl) (by decide) opens_act
end Go.Proofs.Ytcohodkpppmaoaa
