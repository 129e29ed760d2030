/- The statement PacketsLines: a message's line does not hang on its ops and results; unlike in what it says, from whom, to whom, or about what, it is another one; for every two messages; the library's tables are as the program's text lays them. -/
import Derived.Test.YtcohodkpppmaoaaDoorRows
import Derived.Test.YtcohodkpppmaoaaDoorQLpacketslines1
import Derived.Test.YtcohodkpppmaoaaDoorPurePLines
import Derived.Test.YtcohodkpppmaoaaDoorOpensP
import Derived.Test.YtcohodkpppmaoaaDoorLaid
import Derived.Test.YtcohodkpppmaoaaDoorCards
import Derived.Test.YtcohodkpppmaoaaDoorTie
import Derived.SevenTiedAt
import Derived.ChangeSame
import Derived.ChangeVars
import Derived.ChangeMaps5
import Derived.JoinedOf
import Derived.JoinedAt
import Derived.RowKit
import Derived.RowKit3
import Derived.RowKitTokens
import Derived.LaidLaws
import Derived.WalkKit
import Derived.ProofKit
import Derived.OpenShut
import Derived.ShutString
import Derived.ChangeOld
import Derived.Below
import Derived.SizedLaws
namespace Go.Proofs.YtcohodkpppmaoaaDoor.packetsLines
open Go.ChangeShapes Go.WideShapes Go.ChangeAt Go.RowKit Go.Proofs.YtcohodkpppmaoaaDoorW.PrintWords
open Go.ChangeMaps (open_string shut_string)
set_option linter.unusedVariables false
theorem own : ownKnob Tryd.prog.godebug = none := by kernel_rfl
theorem laidOut : laidOutB Tryd.prog = true := by kernel_rfl
set_option maxRecDepth 100000 in
theorem lifted (os : Os) (started : os.Started) (H : Type) (enc : TypeId × Value → H) :
    ReturnsInHanded {} Tryd.checked os 3 .any (fun w args => (Rows.packetsLinesSpec.pre enc Tryd.prog Tryd.f3 Rows.packetsLinesRow.domain false w args ∧ laidMetH Tryd.prog tabList w) ∧ sizedMet enc Tryd.prog Tryd.f3 (OpenSpec.ofChange Rows.packetsLinesSpec) false w args) (Rows.packetsLinesSpec.post enc Tryd.prog Tryd.f3 false true false false) := by
  refine returnsInHanded_of_change_and (C := Tryd.checked) (X := fun w _ => laidMetH Tryd.prog tabList w) (fun _ _ _ hh h => h.of_heap hh) own started (by kernel_rfl) Tryd.func3
    (ChangeSpec.witness_at (enc := enc) (C := Tryd.checked) (os := os) (X := fun w _ => laidMetH Tryd.prog tabList w) false (laidWorld os) #[.agg #[.int .u8 0, .int .u8 0, .int .u8 0, .int .u32 0, .slice none 0 0, .slice none 0 0], .agg #[.int .u8 0, .int .u8 0, .int .u8 0, .int .u32 0, .slice none 0 0, .slice none 0 0]] 8 rfl (by kernel_rfl) (by kernel_rfl) (by kernel_rfl) (by kernel_rfl) (by kernel_rfl) (laid_met os _)) ?_
  intro W base args ds gs before hval0 hW hcnd hsz0 hL _
  have hT : TabOk W := tabOk_of_laid hL
  have hsz : (DataW.weightsEach Tryd.prog (Tryd.f3.params.toList ++ Rows.packetsLinesSpec.plain.varTypes Tryd.prog) (ds ++ gs)).all (· ≤ reachBytes) = true := hsz0
  have hval : ∀ (j : Nat) t v, Tryd.f3.params[j]? = some t → args[j]? = some v → Value.okWide Tryd.prog W .any base t v := hval0
  have hW' := hW
  obtain ⟨p, q, hA0, hV, rfl, hfz, hnd⟩ := hW
  have hA : DataW.TrodAll enc Tryd.prog W 0 (fun _ => true) true Tryd.f3.params.toList args.toList ds p := hA0
  rw [Tryd.params3] at hA hval hsz
  obtain ⟨v0, vs0, d0, ds0, p0, q0, hargs, rfl, rfl, h0, r0⟩ := trodAll_cons hA
  obtain ⟨v1, vs1, d1, ds1, p1, q1, rfl, rfl, rfl, h1, r1⟩ := trodAll_cons r0
  obtain ⟨rfl, rfl, rfl⟩ := trodAll_nil r1
  obtain rfl : args = #[v0, v1] := by cases args; simp_all
  obtain ⟨rfl, rfl⟩ := trodVars_none hV
  have k0 := h0
  have lt0 : ∀ x ∈ p0, x.block < W.heap.size := by obtain ⟨m, hm⟩ := k0; exact DataW.trod_lt m _ _ _ hm
  have sz0 : ∀ n ∈ d0.weights Tryd.prog 27, n ≤ reachBytes := fun n hn => by simpa using List.all_eq_true.1 hsz n (DataW.weights_mem_each (j := 0) (t := 27) (d := d0) rfl rfl n hn)
  obtain ⟨cs0, rfl, _⟩ := okWide_struct Tryd.underlying27 (hval 0 27 v0 rfl rfl)
  obtain ⟨x0, hK0, g0⟩ := opens_agg opens_msg h0 sz0
  obtain ⟨A40, c40, A50, c50, hcs0, l40, h40, l50, h50⟩ := Q.k27_open hK0
  obtain rfl : cs0 = #[.int .u8 x0.f0, .int .u8 x0.f1, .int .u8 x0.f2, .int .u32 x0.f3, .slice A40 x0.f4.length c40, .slice A50 x0.f5.length c50] := Array.ext' hcs0
  have k1 := h1
  have lt1 : ∀ x ∈ p1, x.block < W.heap.size := by obtain ⟨m, hm⟩ := k1; exact DataW.trod_lt m _ _ _ hm
  have sz1 : ∀ n ∈ d1.weights Tryd.prog 27, n ≤ reachBytes := fun n hn => by simpa using List.all_eq_true.1 hsz n (DataW.weights_mem_each (j := 1) (t := 27) (d := d1) rfl rfl n hn)
  obtain ⟨cs1, rfl, _⟩ := okWide_struct Tryd.underlying27 (hval 1 27 v1 rfl rfl)
  obtain ⟨x1, hK1, g1⟩ := opens_agg opens_msg h1 sz1
  obtain ⟨A41, c41, A51, c51, hcs1, l41, h41, l51, h51⟩ := Q.k27_open hK1
  obtain rfl : cs1 = #[.int .u8 x1.f0, .int .u8 x1.f1, .int .u8 x1.f2, .int .u32 x1.f3, .slice A41 x1.f4.length c41, .slice A51 x1.f5.length c51] := Array.ext' hcs1
  clear hA0 hval0 hsz0 hsz
  obtain ⟨k, hk⟩ := Q.PacketsLines_ev x0.f0 x0.f1 x0.f2 x0.f3 x1.f0 x1.f1 x1.f2 x1.f3 x0.f4 x1.f4 x0.f5 x1.f5 (text_of_good g0) (text_of_good g1) (lists_of_good g0) (lists_of_good g1)
  refine (Q.concordatlaw07_PacketsLines.calls k x0.f0 x0.f1 x0.f2 x0.f3 A40 c40 x0.f4 A50 c50 x0.f5 x1.f0 x1.f1 x1.f2 x1.f3 A41 c41 x1.f4 A51 c51 x1.f5 true W h40 l40 h50 l50 h41 l41 h51 l51 hk hT).mono fun e W' ⟨he, bel⟩ => ?_
  subst he
  exact ⟨_, rfl, _, _, _, [], _, [], hW', trodAll_mk1 (shut_bool Tryd.underlying4 _), (trodAll_cons_mk (Below.trod laidOut (by kernel_rfl) (of_decide_eq_true (by kernel_rfl)) k0 bel lt0) (trodAll_cons_mk (Below.trod laidOut (by kernel_rfl) (of_decide_eq_true (by kernel_rfl)) k1 bel lt1) trodAll_mk0)), rfl, bel.frame _, fun h => by cases h⟩
theorem over : Rows.packetsLinesRow.holds Tryd.pinned (OpenSpec.ofChange Rows.packetsLinesSpec) :=
  OpenClaim.holds_of_wide 3 Tryd.f3 rfl rfl rfl rfl rfl rfl rfl ⟨rfl, rfl, rfl, rfl, rfl⟩ rfl rfl rfl rfl rfl (by kernel_rfl) Tryd.func3 (by kernel_rfl)
    (of_decide_eq_true (by kernel_rfl)) (by unfold Func.isWrapper; first | (rw [if_pos (by decide +kernel)]; kernel_rfl) | (rw [if_neg (by decide +kernel)]; exact ⟨rfl, rfl⟩))
    (fun os started H enc _ => lifted os started H enc)
set_option maxRecDepth 100000 in
theorem proved : Rows.PacketsLinesCardSaid :=
  Claim7.holds_tied_plain_at .later [] [.data, .data, .data] true (true, "d7dadcf2c2898dec5b5b5d5da1c9274fd3149d89c319deedbc4c50bcbe209d5a") false
    over (fun _ h => by cases h) (by kernel_rfl) (fun _ h => by cases h) packetsLines_row_tie rfl ⟨rfl, rfl⟩ (by kernel_rfl) rfl
    (fun f fn hf hfn => by
      obtain rfl : f = 3 := Option.some.inj ((show Tryd.prog.funcNamed "concordat/concordatlaw07.PacketsLines" = some 3 by kernel_rfl).symm.trans hf) |>.symm
      obtain rfl : fn = Tryd.f3 := (Option.some.inj (Tryd.func3.symm.trans hfn)).symm
      exact ⟨by kernel_rfl, fun j t ht => by
        rw [Tryd.params3] at ht
        have hm := Array.mem_of_getElem? ht
        simp only [List.mem_toArray, List.mem_cons, List.not_mem_nil, or_false] at hm
        have hall : Tryd.prog.wantsStandIn 27 = false ∧ True := ⟨by kernel_rfl, trivial⟩
        obtain ⟨q0, _⟩ := hall
        rcases hm with rfl | rfl <;> assumption⟩)
    (by kernel_rfl)
#print axioms proved
end Go.Proofs.YtcohodkpppmaoaaDoor.packetsLines
namespace Go.Proofs.YtcohodkpppmaoaaDoor
/-- The row, under a short name, for the claim. -/
theorem packetsLines_holds : Rows.PacketsLinesCardSaid := packetsLines.proved
end Go.Proofs.YtcohodkpppmaoaaDoor
