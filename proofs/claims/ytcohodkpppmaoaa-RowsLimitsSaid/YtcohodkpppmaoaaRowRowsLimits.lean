/- The statement RowsLimits: as many ops, results, and rows of one as there may be are put, one more is too many; for every three numbers. -/
import Derived.Test.YtcohodkpppmaoaaRows
import Derived.Test.YtcohodkpppmaoaaQLrowslimits1
import Derived.Test.YtcohodkpppmaoaaPureLimits
import Derived.Test.YtcohodkpppmaoaaOpensT
import Derived.Test.YtcohodkpppmaoaaOpensA
import Derived.WalkKit
import Derived.ProofKit
import Derived.OpenShut
import Derived.ShutString
import Derived.ChangeOld
import Derived.Below
import Derived.SizedLaws
namespace Go.Proofs.Ytcohodkpppmaoaa.rowsLimits
open Go.ChangeShapes Go.WideShapes Go.ChangeAt Go.RowKit Go.Proofs.YtcohodkpppmaoaaW.PrintWords
open Go.ChangeMaps (open_string shut_string)
set_option linter.unusedVariables false
theorem own : ownKnob Try.prog.godebug = none := by kernel_rfl
theorem laidOut : laidOutB Try.prog = true := by kernel_rfl
set_option maxRecDepth 100000 in
theorem lifted (os : Os) (started : os.Started) (H : Type) (enc : TypeId × Value → H) :
    ReturnsInHanded {} Try.checked os 16 .any (Rows.rowsLimitsSpec.pre6 enc Try.prog Try.f16 Rows.rowsLimitsRow.domain false) (Rows.rowsLimitsSpec.post enc Try.prog Try.f16 false true false false) := by
  refine returnsInHanded_of_change_sized (C := Try.checked) own started (by kernel_rfl) Try.func16
    (ChangeSpec.witness6 (enc := enc) (C := Try.checked) false ⟨#[], #[.agg #[.int .u8 0, .int .u8 0, .int .u8 0]], []⟩ 8 (by kernel_rfl) (by kernel_rfl) (by kernel_rfl) (by kernel_rfl)) ?_
  intro W base args ds gs before hval0 hW hcnd hsz0 _
  have hsz : (DataW.weightsEach Try.prog (Try.f16.params.toList ++ Rows.rowsLimitsSpec.plain.varTypes Try.prog) (ds ++ gs)).all (· ≤ reachBytes) = true := hsz0
  have hval : ∀ (j : Nat) t v, Try.f16.params[j]? = some t → args[j]? = some v → Value.okWide Try.prog W .any base t v := hval0
  have hW' := hW
  obtain ⟨p, q, hA0, hV, rfl, hfz, hnd⟩ := hW
  have hA : DataW.TrodAll enc Try.prog W 0 (fun _ => true) true Try.f16.params.toList args.toList ds p := hA0
  rw [Try.params16] at hA hval hsz
  obtain ⟨v0, vs0, d0, ds0, p0, q0, hargs, rfl, rfl, h0, r0⟩ := trodAll_cons hA
  obtain ⟨rfl, rfl, rfl⟩ := trodAll_nil r0
  obtain rfl : args = #[v0] := by cases args; simp_all
  obtain ⟨rfl, rfl⟩ := trodVars_none hV
  have k0 := h0
  have lt0 : ∀ x ∈ p0, x.block < W.heap.size := by obtain ⟨m, hm⟩ := k0; exact DataW.trod_lt m _ _ _ hm
  have sz0 : ∀ n ∈ d0.weights Try.prog 98, n ≤ reachBytes := fun n hn => by simpa using List.all_eq_true.1 hsz n (DataW.weights_mem_each (j := 0) (t := 98) (d := d0) rfl rfl n hn)
  obtain ⟨cs0, rfl⟩ := okWide_arr Try.underlying98 (hval 0 98 v0 rfl rfl)
  obtain ⟨x0, hK0, g0⟩ := opens_agg (opens_arr3 Try.underlying98 (by kernel_rfl) opens_u8) h0 sz0
  obtain rfl : cs0 = #[.int .u8 x0.1, .int .u8 x0.2.1, .int .u8 x0.2.2] := Array.ext' (arr3_int hK0)
  clear hA0 hval0 hsz0 hsz
  obtain ⟨k, hk⟩ := Q.RowsLimits_ev x0.1 x0.2.1 x0.2.2 (u8_of_wf g0.1) (u8_of_wf g0.2.1) (u8_of_wf g0.2.2)
  refine (Q.concordatlaw02_RowsLimits.calls k x0.1 x0.2.1 x0.2.2 true W hk).mono fun e W' ⟨he, bel⟩ => ?_
  subst he
  exact ⟨_, rfl, _, _, _, [], _, [], hW', trodAll_mk1 (shut_bool Try.underlying4 _), (trodAll_cons_mk (Below.trod laidOut (by kernel_rfl) (of_decide_eq_true (by kernel_rfl)) k0 bel lt0) trodAll_mk0), rfl, bel.frame _, fun h => by cases h⟩
theorem over : Rows.rowsLimitsRow.holds Try.pinned (OpenSpec.ofChange Rows.rowsLimitsSpec) :=
  OpenClaim.holds_of_wide 16 Try.f16 rfl rfl rfl rfl rfl rfl rfl ⟨rfl, rfl, rfl, rfl, rfl⟩ rfl rfl rfl rfl rfl (by kernel_rfl) Try.func16 (by kernel_rfl)
    (of_decide_eq_true (by kernel_rfl)) (by unfold Func.isWrapper; first | (rw [if_pos (by decide +kernel)]; kernel_rfl) | (rw [if_neg (by decide +kernel)]; exact ⟨rfl, rfl⟩))
    (fun os started H enc _ => lifted os started H enc)
theorem proved : Rows.RowsLimitsSaid := over
#print axioms proved
end Go.Proofs.Ytcohodkpppmaoaa.rowsLimits
namespace Go.Proofs.Ytcohodkpppmaoaa
/-- The row, under a short name, for the claim. -/
theorem rowsLimits_holds : Rows.RowsLimitsSaid := rowsLimits.proved
end Go.Proofs.Ytcohodkpppmaoaa
