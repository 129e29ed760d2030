/-
  The pure statements of layer 2 that do not ask the reference: RowsMay, RowsLong, RowsBack, RowsTurned, RowsTold.
-/
import Derived.Test.YtcohodkpppmaoaaQC4
import Derived.Test.YtcohodkpppmaoaaQC5
import Derived.Test.YtcohodkpppmaoaaQC6
import Derived.Test.YtcohodkpppmaoaaPureGet
import Derived.Test.YtcohodkpppmaoaaAlive
namespace Go.Proofs.Ytcohodkpppmaoaa.Q
open Go.RowKit Go.Proofs.YtcohodkpppmaoaaW.PrintWords Go.Proofs.YtcohodkpppmaoaaW.PrintLast Go.Proofs.YtcohodkpppmaoaaW.PrintMore
set_option linter.unusedVariables false

/-! ### a list is the same as itself -/
theorem sameOps_self (l : List OpT) (hl : l.length ≤ 9223372036854775807) (d : Nat) : ∀ i : Nat, i ≤ l.length → l.length - i = d → Ev (fun k => concordatlaw01_SameOps.l0 k l l (i : Int)) true := by
  induction d with
  | zero =>
    intro i h0 h1
    refine Ev.step (f := fun _ => some true) (fun k => ?_) (Ev.now _)
    simp only [concordatlaw01_SameOps.l0]
    rw [if_neg (by omega)]
  | succ d ih =>
    intro i h0 h1
    refine Ev.step (f := fun k => concordatlaw01_SameOps.l0 k l l (wrap64 ((i : Int) + 1))) (fun k => ?_) ?_
    · simp only [concordatlaw01_SameOps.l0]
      rw [if_pos (by omega), if_pos (by omega), if_pos (by omega), if_neg (by simp)]
    · rw [wrap_id _ (by omega) (by omega)]
      exact ih (i + 1) (by omega) (by omega)
theorem ev_sameOps (l : List OpT) (hl : l.length ≤ 9223372036854775807) : Ev (fun k => concordatlaw01_SameOps.f k l l) true := by
  unfold concordatlaw01_SameOps.f
  simp only [if_true]
  exact sameOps_self l hl l.length 0 (by omega) (by omega)
theorem sameChanges_self (l : List ChangeT) (hl : l.length ≤ 9223372036854775807) (d : Nat) : ∀ i : Nat, i ≤ l.length → l.length - i = d → Ev (fun k => concordatlaw01_SameChanges.l0 k l l (i : Int)) true := by
  induction d with
  | zero =>
    intro i h0 h1
    refine Ev.step (f := fun _ => some true) (fun k => ?_) (Ev.now _)
    simp only [concordatlaw01_SameChanges.l0]
    rw [if_neg (by omega)]
  | succ d ih =>
    intro i h0 h1
    refine Ev.step (f := fun k => concordatlaw01_SameChanges.l0 k l l (wrap64 ((i : Int) + 1))) (fun k => ?_) ?_
    · simp only [concordatlaw01_SameChanges.l0]
      rw [if_pos (by omega), if_pos (by omega), if_pos (by omega), if_neg (by simp)]
    · rw [wrap_id _ (by omega) (by omega)]
      exact ih (i + 1) (by omega) (by omega)
theorem ev_sameChanges (l : List ChangeT) (hl : l.length ≤ 9223372036854775807) : Ev (fun k => concordatlaw01_SameChanges.f k l l) true := by
  unfold concordatlaw01_SameChanges.f
  simp only [if_true]
  exact sameChanges_self l hl l.length 0 (by omega) (by omega)
theorem sameRows_self (l : List RowT) (hl : l.length ≤ 9223372036854775807) (d : Nat) : ∀ i : Nat, i ≤ l.length → l.length - i = d → Ev (fun k => concordatlaw01_SameRows.l0 k l l (i : Int)) true := by
  induction d with
  | zero =>
    intro i h0 h1
    refine Ev.step (f := fun _ => some true) (fun k => ?_) (Ev.now _)
    simp only [concordatlaw01_SameRows.l0]
    rw [if_neg (by omega)]
  | succ d ih =>
    intro i h0 h1
    refine Ev.step (f := fun k => concordatlaw01_SameRows.l0 k l l (wrap64 ((i : Int) + 1))) (fun k => ?_) ?_
    · simp only [concordatlaw01_SameRows.l0]
      rw [if_pos (by omega), if_pos (by omega), if_pos (by omega), if_neg (by simp)]
    · rw [wrap_id _ (by omega) (by omega)]
      exact ih (i + 1) (by omega) (by omega)
theorem ev_sameResult (l : List RowT) (hl : l.length ≤ 9223372036854775807) : Ev (fun k => concordatlaw01_SameResult.f k l l) true := by
  unfold concordatlaw01_SameResult.f
  refine Ev.bind (a := true) ?_ (Ev.now _)
  unfold concordatlaw01_SameRows.f
  simp only [if_true]
  exact sameRows_self l hl l.length 0 (by omega) (by omega)
theorem sameResults_self (l : List ResultT) (hl : l.length ≤ 9223372036854775807) (hr : ∀ x ∈ l, x.f0.length ≤ 9223372036854775807) (d : Nat) : ∀ i : Nat, i ≤ l.length → l.length - i = d → Ev (fun k => concordatlaw01_SameResults.l0 k l l (i : Int)) true := by
  induction d with
  | zero =>
    intro i h0 h1
    refine Ev.step (f := fun _ => some true) (fun k => ?_) (Ev.now _)
    simp only [concordatlaw01_SameResults.l0]
    rw [if_neg (by omega)]
  | succ d ih =>
    intro i h0 h1
    refine Ev.step (f := fun k => (concordatlaw01_SameResult.f k (rd_T71 l i).f0 (rd_T71 l i).f0).bind fun t => (if t = true then (concordatlaw01_SameResults.l0 k l l (wrap64 ((i : Int) + 1))) else (some false))) (fun k => ?_) ?_
    · simp only [concordatlaw01_SameResults.l0]
      rw [if_pos (by omega), if_pos (by omega), if_pos (by omega)]
    · have hi : i < l.length := by omega
      have hm : rd_T71 l i ∈ l := by
        unfold rd_T71
        rw [Int.toNat_natCast, List.getD_eq_getElem?_getD, List.getElem?_eq_getElem hi]
        exact List.getElem_mem _
      refine Ev.bind (ev_sameResult _ (hr _ hm)) ?_
      simp only [if_true]
      rw [wrap_id _ (by omega) (by omega)]
      exact ih (i + 1) (by omega) (by omega)
theorem ev_sameResults (l : List ResultT) (hl : l.length ≤ 9223372036854775807) (hr : ∀ x ∈ l, x.f0.length ≤ 9223372036854775807) : Ev (fun k => concordatlaw01_SameResults.f k l l) true := by
  unfold concordatlaw01_SameResults.f
  simp only [if_true]
  exact sameResults_self l hl hr l.length 0 (by omega) (by omega)

/-! ### sizes: whatever they come to, no less than the list is long -/
def many : Nat := 140737488351232
theorem opsSize_from (l : List OpT) (hl : l.length ≤ many) (hs : ∀ x ∈ l, x.f1.size ≤ many ∧ x.f2.size ≤ many) (d : Nat) : ∀ (i : Nat) (n : Int), i ≤ l.length → l.length - i = d → 0 ≤ n → n ≤ 1000000000000000 → ∃ s, Ev (fun k => concordatlaw01_OpsSize.l0 k l n (i : Int)) s ∧ n ≤ s := by
  unfold many at *
  induction d with
  | zero =>
    intro i n h0 h1 h2 h3
    refine ⟨n, Ev.step (f := fun _ => some n) (fun k => ?_) (Ev.now _), Int.le_refl _⟩
    simp only [concordatlaw01_OpsSize.l0]
    rw [if_neg (by omega)]
  | succ d ih =>
    intro i n h0 h1 h2 h3
    have hi : i < l.length := by omega
    have hm : rd_T68 l i ∈ l := by
      unfold rd_T68
      rw [Int.toNat_natCast, List.getD_eq_getElem?_getD, List.getElem?_eq_getElem hi]
      exact List.getElem_mem _
    have hb := hs _ hm
    by_cases c : n ≤ 1048576
    · obtain ⟨s, he, hle⟩ := ih (i + 1) (n + ((rd_T68 l i).f1.size : Int) + ((rd_T68 l i).f2.size : Int)) (by omega) (by omega) (by omega) (by omega)
      refine ⟨s, Ev.step (f := fun k => concordatlaw01_OpsSize.l0 k l (n + ((rd_T68 l i).f1.size : Int) + ((rd_T68 l i).f2.size : Int)) ((i + 1 : Nat) : Int)) (fun k => ?_) he, by omega⟩
      simp only [concordatlaw01_OpsSize.l0]
      rw [if_pos (by omega), if_pos c, if_pos (by omega), wrap_id (n + _) (by omega) (by omega), wrap_id _ (by omega) (by omega), wrap_id _ (by omega) (by omega)]
      rfl
    · refine ⟨n, Ev.step (f := fun _ => some n) (fun k => ?_) (Ev.now _), Int.le_refl _⟩
      simp only [concordatlaw01_OpsSize.l0]
      rw [if_pos (by omega), if_neg c]
theorem ev_OpsSize (l : List OpT) (hl : l.length ≤ many) (hs : ∀ x ∈ l, x.f1.size ≤ many ∧ x.f2.size ≤ many) : ∃ s, Ev (fun k => concordatlaw01_OpsSize.f k l) s ∧ (l.length : Int) ≤ s :=
  opsSize_from l hl hs l.length 0 l.length (by omega) (by omega) (by omega) (by unfold many at hl; omega)
theorem changesSize_from (l : List ChangeT) (hl : l.length ≤ many) (hs : ∀ x ∈ l, x.f0.size ≤ many) (d : Nat) : ∀ (i : Nat) (n : Int), i ≤ l.length → l.length - i = d → 0 ≤ n → n ≤ 1000000000000000 → ∃ s, Ev (fun k => concordatlaw01_ChangesSize.l0 k l n (i : Int)) s ∧ n ≤ s := by
  unfold many at *
  induction d with
  | zero =>
    intro i n h0 h1 h2 h3
    refine ⟨n, Ev.step (f := fun _ => some n) (fun k => ?_) (Ev.now _), Int.le_refl _⟩
    simp only [concordatlaw01_ChangesSize.l0]
    rw [if_neg (by omega)]
  | succ d ih =>
    intro i n h0 h1 h2 h3
    have hi : i < l.length := by omega
    have hm : rd_T26 l i ∈ l := by
      unfold rd_T26
      rw [Int.toNat_natCast, List.getD_eq_getElem?_getD, List.getElem?_eq_getElem hi]
      exact List.getElem_mem _
    have hb := hs _ hm
    by_cases c : n ≤ 1048576
    · obtain ⟨s, he, hle⟩ := ih (i + 1) (n + ((rd_T26 l i).f0.size : Int)) (by omega) (by omega) (by omega) (by omega)
      refine ⟨s, Ev.step (f := fun k => concordatlaw01_ChangesSize.l0 k l (n + ((rd_T26 l i).f0.size : Int)) ((i + 1 : Nat) : Int)) (fun k => ?_) he, by omega⟩
      simp only [concordatlaw01_ChangesSize.l0]
      rw [if_pos (by omega), if_pos c, if_pos (by omega), wrap_id (n + _) (by omega) (by omega), wrap_id _ (by omega) (by omega)]
      rfl
    · refine ⟨n, Ev.step (f := fun _ => some n) (fun k => ?_) (Ev.now _), Int.le_refl _⟩
      simp only [concordatlaw01_ChangesSize.l0]
      rw [if_pos (by omega), if_neg c]
theorem ev_ChangesSize (l : List ChangeT) (hl : l.length ≤ many) (hs : ∀ x ∈ l, x.f0.size ≤ many) : ∃ s, Ev (fun k => concordatlaw01_ChangesSize.f k l) s ∧ (l.length : Int) ≤ s :=
  changesSize_from l hl hs l.length 0 l.length (by omega) (by omega) (by omega) (by unfold many at hl; omega)
theorem rowsSize_from (l : List RowT) (hl : l.length ≤ many) (hs : ∀ x ∈ l, x.f0.size ≤ many) (d : Nat) : ∀ (i : Nat) (n : Int), i ≤ l.length → l.length - i = d → 0 ≤ n → n ≤ 1000000000000000 → ∃ s, Ev (fun k => concordatlaw01_RowsSize.l0 k l n (i : Int)) s ∧ n ≤ s ∧ s ≤ 1000000000000000 := by
  unfold many at *
  induction d with
  | zero =>
    intro i n h0 h1 h2 h3
    refine ⟨n, Ev.step (f := fun _ => some n) (fun k => ?_) (Ev.now _), Int.le_refl _, h3⟩
    simp only [concordatlaw01_RowsSize.l0]
    rw [if_neg (by omega)]
  | succ d ih =>
    intro i n h0 h1 h2 h3
    have hi : i < l.length := by omega
    have hm : rd_T73 l i ∈ l := by
      unfold rd_T73
      rw [Int.toNat_natCast, List.getD_eq_getElem?_getD, List.getElem?_eq_getElem hi]
      exact List.getElem_mem _
    have hb := hs _ hm
    by_cases c : n ≤ 1048576
    · obtain ⟨s, he, hle, hle2⟩ := ih (i + 1) (n + ((rd_T73 l i).f0.size : Int)) (by omega) (by omega) (by omega) (by omega)
      refine ⟨s, Ev.step (f := fun k => concordatlaw01_RowsSize.l0 k l (n + ((rd_T73 l i).f0.size : Int)) ((i + 1 : Nat) : Int)) (fun k => ?_) he, by omega, hle2⟩
      simp only [concordatlaw01_RowsSize.l0]
      rw [if_pos (by omega), if_pos c, if_pos (by omega), wrap_id (n + _) (by omega) (by omega), wrap_id _ (by omega) (by omega)]
      rfl
    · refine ⟨n, Ev.step (f := fun _ => some n) (fun k => ?_) (Ev.now _), Int.le_refl _, h3⟩
      simp only [concordatlaw01_RowsSize.l0]
      rw [if_pos (by omega), if_neg c]
theorem ev_ResultSize (l : List RowT) (hl : l.length ≤ many) (hs : ∀ x ∈ l, x.f0.size ≤ many) : ∃ s, Ev (fun k => concordatlaw01_ResultSize.f k l) s ∧ 0 ≤ s ∧ s ≤ 1000000000000001 := by
  obtain ⟨s, he, h1, h2⟩ := rowsSize_from l hl hs l.length 0 l.length (by omega) (by omega) (by omega) (by unfold many at hl; omega)
  refine ⟨1 + s, ?_, by omega, by omega⟩
  unfold concordatlaw01_ResultSize.f
  refine Ev.bind he ?_
  rw [wrap_id _ (by omega) (by omega)]
  exact Ev.now _
theorem resultsSize_from (l : List ResultT) (hl : l.length ≤ many) (hs : ∀ x ∈ l, x.f0.length ≤ many ∧ ∀ r ∈ x.f0, r.f0.size ≤ many) (d : Nat) : ∀ (i : Nat) (n : Int), i ≤ l.length → l.length - i = d → 0 ≤ n → n ≤ 2000000000000000 → ∃ s, Ev (fun k => concordatlaw01_ResultsSize.l0 k l n (i : Int)) s ∧ n ≤ s := by
  unfold many at *
  induction d with
  | zero =>
    intro i n h0 h1 h2 h3
    refine ⟨n, Ev.step (f := fun _ => some n) (fun k => ?_) (Ev.now _), Int.le_refl _⟩
    simp only [concordatlaw01_ResultsSize.l0]
    rw [if_neg (by omega)]
  | succ d ih =>
    intro i n h0 h1 h2 h3
    have hi : i < l.length := by omega
    have hm : rd_T71 l i ∈ l := by
      unfold rd_T71
      rw [Int.toNat_natCast, List.getD_eq_getElem?_getD, List.getElem?_eq_getElem hi]
      exact List.getElem_mem _
    have hb := hs _ hm
    by_cases c : n ≤ 1048576
    · obtain ⟨t, ht, t0, t1⟩ := ev_ResultSize (rd_T71 l i).f0 (by unfold many; exact hb.1) (by unfold many; exact hb.2)
      obtain ⟨s, he, hle⟩ := ih (i + 1) (n + t) (by omega) (by omega) (by omega) (by omega)
      refine ⟨s, Ev.step (f := fun k => (concordatlaw01_ResultSize.f k (rd_T71 l i).f0).bind fun t => (concordatlaw01_ResultsSize.l0 k l (wrap64 (n + t)) (wrap64 ((i : Int) + 1)))) (fun k => ?_) ?_, by omega⟩
      · simp only [concordatlaw01_ResultsSize.l0]
        rw [if_pos (by omega), if_pos c, if_pos (by omega)]
      · refine Ev.bind ht ?_
        rw [wrap_id (n + t) (by omega) (by omega), wrap_id _ (by omega) (by omega)]
        exact he
    · refine ⟨n, Ev.step (f := fun _ => some n) (fun k => ?_) (Ev.now _), Int.le_refl _⟩
      simp only [concordatlaw01_ResultsSize.l0]
      rw [if_pos (by omega), if_neg c]
theorem ev_ResultsSize (l : List ResultT) (hl : l.length ≤ many) (hs : ∀ x ∈ l, x.f0.length ≤ many ∧ ∀ r ∈ x.f0, r.f0.size ≤ many) : ∃ s, Ev (fun k => concordatlaw01_ResultsSize.f k l) s ∧ (l.length : Int) ≤ s :=
  resultsSize_from l hl hs l.length 0 l.length (by omega) (by omega) (by omega) (by unfold many at hl; omega)

/-! ### more on put and get -/
theorem getOps_f {b : List Int} (hb : inB b) : rows_GetOps.f b = some (getR opR opS putOps b) := if_pos hb
theorem getChanges_f {b : List Int} (hb : inB b) : rows_GetChanges.f b = some (getR changeR changeS putChanges b) := if_pos hb
theorem getResults_f {b : List Int} (hb : inB b) : rows_GetResults.f b = some (getR resR resS putResults b) := if_pos hb
theorem ev_same {a b : List Int} (h : a = b) (hl : a.length ≤ 9223372036854775807) : Ev (fun k => concordatlaw01_SameBytes.f k a b) true := ev_eq (decide_eq_true h) (ev_SameBytes a b hl)

theorem op_all (l : List OpT) (h : l.all mayOp = true) : putOps l = if l.length ≤ 16 then (num2 l.length ++ l.flatMap opB, 0) else ([], 3) := by
  have h0 : ∀ x ∈ l, opE x = 0 := fun x hx => by
    unfold opE
    rw [if_pos (List.all_eq_true.1 h x hx)]
  have a1 : l.any (fun x => opE x == 1) = false := by
    rw [List.any_eq_false]
    intro x hx
    rw [h0 x hx]
    decide
  have a3 : l.any (fun x => opE x == 3) = false := by
    rw [List.any_eq_false]
    intro x hx
    rw [h0 x hx]
    decide
  unfold putOps putList
  rw [a1, a3, if_neg (by decide), Bool.false_or]
  by_cases c : l.length ≤ 16
  · rw [if_pos c, decide_eq_false (by omega), if_neg (by decide)]
  · rw [if_neg c, decide_eq_true (by omega), if_pos rfl]

end Go.Proofs.Ytcohodkpppmaoaa.Q
