/-
  The pure statement of RowsMay.
-/
import Derived.Test.YtcohodkpppmaoaaQLrowsmay1
import Derived.Test.YtcohodkpppmaoaaPureRows
namespace Go.Proofs.Ytcohodkpppmaoaa.Q
open Go.RowKit Go.Proofs.YtcohodkpppmaoaaW.PrintWords Go.Proofs.YtcohodkpppmaoaaW.PrintLast Go.Proofs.YtcohodkpppmaoaaW.PrintMore
set_option linter.unusedVariables false

theorem keyCheck_eq (s : ByteArray) : keys_Check.f s = some (isKey s) := rfl

theorem may_j1 (k : Nat) (x : OpT) (d : Bool) (hd : d = true → mayOp x = false) (hn : d = false → isKey x.f1 = true ∧ 1 ≤ x.f0 ∧ x.f0 ≤ 4) : concordatlaw02_RowsMay.j1 (k + 1) d x.f0 x.f1 x.f2 x.f3 = some true := by
  have hz : x.f2.toList = ([] : List UInt8) ↔ (x.f2.size == 0) = true := by rw [beq_iff_eq]; exact ⟨toList_size _, size_toList _⟩
  have hm := opCheck_eq x
  rw [concordatlaw02_RowsMay.j1]
  rw [hm, keyCheck_eq]
  cases d with
  | true =>
    rw [if_pos rfl, hd rfl]
    rfl
  | false =>
    obtain ⟨h1, h2, h3⟩ := hn rfl
    rw [if_neg (by decide)]
    simp only [Option.bind_some, hz]
    unfold mayOp
    rw [h1, decide_eq_true h2, decide_eq_true h3]
    generalize isKey x.f2 = b
    generalize (x.f2.size == 0) = c
    generalize x.f0 = n
    generalize x.f3 = m
    by_cases n4 : n = 4
    · subst n4
      by_cases m0 : m = 0 <;> cases b <;> simp [m0]
    · by_cases m0 : m = 0 <;> cases c <;> simp [m0, n4]

theorem may_j0 (k : Nat) (x : OpT) (d : Bool) : concordatlaw02_RowsMay.j0 (k + 2) d x.f0 x.f1 x.f2 x.f3 = some true := by
  rw [concordatlaw02_RowsMay.j0]
  rw [keyCheck_eq]
  cases d with
  | true => rfl
  | false =>
    rw [if_neg (by decide)]
    simp only [Option.bind_some]
    cases ha : isKey x.f1 with
    | false =>
      rw [if_neg (by decide)]
      refine may_j1 k x true (fun _ => ?_) (fun h => by cases h)
      unfold mayOp
      rw [ha]
      rfl
    | true =>
      rw [if_pos rfl]
      by_cases h1 : x.f0 < 1
      · rw [if_pos h1]
        refine may_j1 k x true (fun _ => ?_) (fun h => by cases h)
        unfold mayOp
        rw [decide_eq_false (show ¬ 1 ≤ x.f0 by omega)]
        simp
      · rw [if_neg h1]
        refine may_j1 k x _ (fun h => ?_) (fun h => ⟨ha, by omega, by have := of_decide_eq_false h; omega⟩)
        have := of_decide_eq_true h
        unfold mayOp
        rw [decide_eq_false (show ¬ x.f0 ≤ 4 by omega)]
        simp

theorem may_f (k : Nat) (x : OpT) : concordatlaw02_RowsMay.f k x.f0 x.f1 x.f2 x.f3 = concordatlaw02_RowsMay.j0 k (decide ((wrap64 ((x.f1.size : Int) + (x.f2.size : Int))) > 1000)) x.f0 x.f1 x.f2 x.f3 := by
  unfold concordatlaw02_RowsMay.f concordatlaw02_alive.f
  rw [Option.bind_some, if_pos rfl]
theorem RowsMay_ev (x : OpT) : ∃ k, concordatlaw02_RowsMay.f k x.f0 x.f1 x.f2 x.f3 = some true := by
  refine ⟨0 + 2, ?_⟩
  rw [may_f]
  exact may_j0 0 x _

end Go.Proofs.Ytcohodkpppmaoaa.Q
