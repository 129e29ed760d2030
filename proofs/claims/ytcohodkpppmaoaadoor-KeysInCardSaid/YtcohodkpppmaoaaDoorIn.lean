/-
  keys.In: from <= k and k <= to.
-/
import Derived.Test.YtcohodkpppmaoaaDoorQT0
import Derived.Test.YtcohodkpppmaoaaDoorKeys
import Derived.Laws.Cover1
namespace Go.Proofs.YtcohodkpppmaoaaDoor.Q
open Go.RowKit Go.Proofs.YtcohodkpppmaoaaDoorW.PrintWords Go.Proofs.YtcohodkpppmaoaaDoorW.PrintLast Go.Proofs.YtcohodkpppmaoaaDoorW.PrintMore
set_option linter.unusedVariables false
/-- a <= b, as texts. -/
def sle (a b : ByteArray) : Bool := Op.bytesLess a.toList b.toList || a.toList == b.toList
def keys_In.f (a0 a1 a2 : ByteArray) : Option Bool := some (sle a1 a0 && sle a0 a2)
set_option maxRecDepth 100000 in
theorem keys_In.calls (a0 : ByteArray) (a1 : ByteArray) (a2 : ByteArray) (r : Bool) (w : World) (h : keys_In.f a0 a1 a2 = some r) :
    Calls Tryd.prog 21 #[.string a0, .string a1, .string a2] w fun e w' => e = .returned (.bool r) ∧ Below w.heap.size w w' := by
  have e := Option.some.inj h
  clear h
  subst e
  by_cases h1 : Op.bytesLess a1.toList a0.toList = true ∨ a1.toList = a0.toList
  · have e1 : sle a1 a0 = true := by unfold sle; simpa using h1
    go_enter Tryd.func21, Tryd.ntmps21
    go_wp2
    go_ret
    refine ⟨?_, Below.refl _ _⟩
    rfl
  · have e1 : sle a1 a0 = false := by unfold sle; simpa using h1
    go_enter Tryd.func21, Tryd.ntmps21
    go_wp2
    go_ret
    refine ⟨?_, Below.refl _ _⟩
    rw [e1, Bool.false_and]
    simp
end Go.Proofs.YtcohodkpppmaoaaDoor.Q
