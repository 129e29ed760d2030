
/-
  A list is the same as itself, and sizes come to an answer: ops, results, messages; ids.
-/
import Derived.Test.YtcohodkpppmaoaaDoorQC3
import Derived.Test.YtcohodkpppmaoaaDoorFoot
import Derived.Test.YtcohodkpppmaoaaDoorEvPut
namespace Go.Proofs.YtcohodkpppmaoaaDoor.Q
open Go.RowKit Go.Proofs.YtcohodkpppmaoaaDoorW.PrintWords Go.Proofs.YtcohodkpppmaoaaDoorW.PrintLast Go.Proofs.YtcohodkpppmaoaaDoorW.PrintMore
set_option linter.unusedVariables false
theorem sameOps_self (l : List OpT) (hl : l.length ≤ 9223372036854775807) (d : Nat) : ∀ i : Nat, i ≤ l.length → l.length - i = d → Ev (fun k => concordatlaw01_SameOps.l0 k l l (i : Int)) true := by
  induction d with
  | zero =>
    intro i h0 h1
    refine Ev.step (f := fun _ => some true) (fun k => ?_) (Ev.now _)
    simp only [concordatlaw01_SameOps.l0]
    rw [if_neg (by omega)]
  | succ d ih =>
    intro i h0 h1
    refine Ev.step (f := fun k => concordatlaw01_SameOps.l0 k l l (wrap64 ((i : Int) + 1))) (fun k => ?_) ?_
    · simp only [concordatlaw01_SameOps.l0]
      rw [if_pos (by omega), if_pos (by omega), if_pos (by omega), if_neg (by simp)]
    · rw [wrap_id _ (by omega) (by omega)]
      exact ih (i + 1) (by omega) (by omega)
theorem ev_sameOps (l : List OpT) (hl : l.length ≤ 9223372036854775807) : Ev (fun k => concordatlaw01_SameOps.f k l l) true := by
  unfold concordatlaw01_SameOps.f
  simp only [if_true]
  exact sameOps_self l hl l.length 0 (by omega) (by omega)
theorem sameRows_self (l : List RowT) (hl : l.length ≤ 9223372036854775807) (d : Nat) : ∀ i : Nat, i ≤ l.length → l.length - i = d → Ev (fun k => concordatlaw01_SameRows.l0 k l l (i : Int)) true := by
  induction d with
  | zero =>
    intro i h0 h1
    refine Ev.step (f := fun _ => some true) (fun k => ?_) (Ev.now _)
    simp only [concordatlaw01_SameRows.l0]
    rw [if_neg (by omega)]
  | succ d ih =>
    intro i h0 h1
    refine Ev.step (f := fun k => concordatlaw01_SameRows.l0 k l l (wrap64 ((i : Int) + 1))) (fun k => ?_) ?_
    · simp only [concordatlaw01_SameRows.l0]
      rw [if_pos (by omega), if_pos (by omega), if_pos (by omega), if_neg (by simp)]
    · rw [wrap_id _ (by omega) (by omega)]
      exact ih (i + 1) (by omega) (by omega)
theorem ev_sameResult (l : List RowT) (hl : l.length ≤ 9223372036854775807) : Ev (fun k => concordatlaw01_SameResult.f k l l) true := by
  unfold concordatlaw01_SameResult.f
  refine Ev.bind (a := true) ?_ (Ev.now _)
  unfold concordatlaw01_SameRows.f
  simp only [if_true]
  exact sameRows_self l hl l.length 0 (by omega) (by omega)
theorem sameResults_self (l : List ResultT) (hl : l.length ≤ 9223372036854775807) (hr : ∀ x ∈ l, x.f0.length ≤ 9223372036854775807) (d : Nat) : ∀ i : Nat, i ≤ l.length → l.length - i = d → Ev (fun k => concordatlaw01_SameResults.l0 k l l (i : Int)) true := by
  induction d with
  | zero =>
    intro i h0 h1
    refine Ev.step (f := fun _ => some true) (fun k => ?_) (Ev.now _)
    simp only [concordatlaw01_SameResults.l0]
    rw [if_neg (by omega)]
  | succ d ih =>
    intro i h0 h1
    refine Ev.step (f := fun k => (concordatlaw01_SameResult.f k (rd_T59 l i).f0 (rd_T59 l i).f0).bind fun t => (if t = true then (concordatlaw01_SameResults.l0 k l l (wrap64 ((i : Int) + 1))) else (some false))) (fun k => ?_) ?_
    · simp only [concordatlaw01_SameResults.l0]
      rw [if_pos (by omega), if_pos (by omega), if_pos (by omega)]
    · have hi : i < l.length := by omega
      have hm : rd_T59 l i ∈ l := by
        unfold rd_T59
        rw [Int.toNat_natCast, List.getD_eq_getElem?_getD, List.getElem?_eq_getElem hi]
        exact List.getElem_mem _
      refine Ev.bind (ev_sameResult _ (hr _ hm)) ?_
      simp only [if_true]
      rw [wrap_id _ (by omega) (by omega)]
      exact ih (i + 1) (by omega) (by omega)
theorem ev_sameResults (l : List ResultT) (hl : l.length ≤ 9223372036854775807) (hr : ∀ x ∈ l, x.f0.length ≤ 9223372036854775807) : Ev (fun k => concordatlaw01_SameResults.f k l l) true := by
  unfold concordatlaw01_SameResults.f
  simp only [if_true]
  exact sameResults_self l hl hr l.length 0 (by omega) (by omega)
def many : Nat := 140737488351232
theorem opsSize_from (l : List OpT) (hl : l.length ≤ many) (hs : ∀ x ∈ l, x.f1.size ≤ many ∧ x.f2.size ≤ many) (d : Nat) : ∀ (i : Nat) (n : Int), i ≤ l.length → l.length - i = d → 0 ≤ n → n ≤ 1000000000000000 → ∃ s, Ev (fun k => concordatlaw01_OpsSize.l0 k l n (i : Int)) s ∧ n ≤ s := by
  unfold many at *
  induction d with
  | zero =>
    intro i n h0 h1 h2 h3
    refine ⟨n, Ev.step (f := fun _ => some n) (fun k => ?_) (Ev.now _), Int.le_refl _⟩
    simp only [concordatlaw01_OpsSize.l0]
    rw [if_neg (by omega)]
  | succ d ih =>
    intro i n h0 h1 h2 h3
    have hi : i < l.length := by omega
    have hm : rd_T62 l i ∈ l := by
      unfold rd_T62
      rw [Int.toNat_natCast, List.getD_eq_getElem?_getD, List.getElem?_eq_getElem hi]
      exact List.getElem_mem _
    have hb := hs _ hm
    by_cases c : n ≤ 1048576
    · obtain ⟨s, he, hle⟩ := ih (i + 1) (n + ((rd_T62 l i).f1.size : Int) + ((rd_T62 l i).f2.size : Int)) (by omega) (by omega) (by omega) (by omega)
      refine ⟨s, Ev.step (f := fun k => concordatlaw01_OpsSize.l0 k l (n + ((rd_T62 l i).f1.size : Int) + ((rd_T62 l i).f2.size : Int)) ((i + 1 : Nat) : Int)) (fun k => ?_) he, by omega⟩
      simp only [concordatlaw01_OpsSize.l0]
      rw [if_pos (by omega), if_pos c, if_pos (by omega), wrap_id (n + _) (by omega) (by omega), wrap_id _ (by omega) (by omega), wrap_id _ (by omega) (by omega)]
      rfl
    · refine ⟨n, Ev.step (f := fun _ => some n) (fun k => ?_) (Ev.now _), Int.le_refl _⟩
      simp only [concordatlaw01_OpsSize.l0]
      rw [if_pos (by omega), if_neg c]
theorem ev_OpsSize (l : List OpT) (hl : l.length ≤ many) (hs : ∀ x ∈ l, x.f1.size ≤ many ∧ x.f2.size ≤ many) : ∃ s, Ev (fun k => concordatlaw01_OpsSize.f k l) s ∧ (l.length : Int) ≤ s :=
  opsSize_from l hl hs l.length 0 l.length (by omega) (by omega) (by omega) (by unfold many at hl; omega)
theorem rowsSize_from (l : List RowT) (hl : l.length ≤ many) (hs : ∀ x ∈ l, x.f0.size ≤ many) (d : Nat) : ∀ (i : Nat) (n : Int), i ≤ l.length → l.length - i = d → 0 ≤ n → n ≤ 1000000000000000 → ∃ s, Ev (fun k => concordatlaw01_RowsSize.l0 k l n (i : Int)) s ∧ n ≤ s ∧ s ≤ 1000000000000000 := by
  unfold many at *
  induction d with
  | zero =>
    intro i n h0 h1 h2 h3
    refine ⟨n, Ev.step (f := fun _ => some n) (fun k => ?_) (Ev.now _), Int.le_refl _, h3⟩
    simp only [concordatlaw01_RowsSize.l0]
    rw [if_neg (by omega)]
  | succ d ih =>
    intro i n h0 h1 h2 h3
    have hi : i < l.length := by omega
    have hm : rd_T93 l i ∈ l := by
      unfold rd_T93
      rw [Int.toNat_natCast, List.getD_eq_getElem?_getD, List.getElem?_eq_getElem hi]
      exact List.getElem_mem _
    have hb := hs _ hm
    by_cases c : n ≤ 1048576
    · obtain ⟨s, he, hle, hle2⟩ := ih (i + 1) (n + ((rd_T93 l i).f0.size : Int)) (by omega) (by omega) (by omega) (by omega)
      refine ⟨s, Ev.step (f := fun k => concordatlaw01_RowsSize.l0 k l (n + ((rd_T93 l i).f0.size : Int)) ((i + 1 : Nat) : Int)) (fun k => ?_) he, by omega, hle2⟩
      simp only [concordatlaw01_RowsSize.l0]
      rw [if_pos (by omega), if_pos c, if_pos (by omega), wrap_id (n + _) (by omega) (by omega), wrap_id _ (by omega) (by omega)]
      rfl
    · refine ⟨n, Ev.step (f := fun _ => some n) (fun k => ?_) (Ev.now _), Int.le_refl _, h3⟩
      simp only [concordatlaw01_RowsSize.l0]
      rw [if_pos (by omega), if_neg c]
theorem ev_ResultSize (l : List RowT) (hl : l.length ≤ many) (hs : ∀ x ∈ l, x.f0.size ≤ many) : ∃ s, Ev (fun k => concordatlaw01_ResultSize.f k l) s ∧ 0 ≤ s ∧ s ≤ 1000000000000001 := by
  obtain ⟨s, he, h1, h2⟩ := rowsSize_from l hl hs l.length 0 l.length (by omega) (by omega) (by omega) (by unfold many at hl; omega)
  refine ⟨1 + s, ?_, by omega, by omega⟩
  unfold concordatlaw01_ResultSize.f
  refine Ev.bind he ?_
  rw [wrap_id _ (by omega) (by omega)]
  exact Ev.now _
theorem resultsSize_from (l : List ResultT) (hl : l.length ≤ many) (hs : ∀ x ∈ l, x.f0.length ≤ many ∧ ∀ r ∈ x.f0, r.f0.size ≤ many) (d : Nat) : ∀ (i : Nat) (n : Int), i ≤ l.length → l.length - i = d → 0 ≤ n → n ≤ 2000000000000000 → ∃ s, Ev (fun k => concordatlaw01_ResultsSize.l0 k l n (i : Int)) s ∧ n ≤ s := by
  unfold many at *
  induction d with
  | zero =>
    intro i n h0 h1 h2 h3
    refine ⟨n, Ev.step (f := fun _ => some n) (fun k => ?_) (Ev.now _), Int.le_refl _⟩
    simp only [concordatlaw01_ResultsSize.l0]
    rw [if_neg (by omega)]
  | succ d ih =>
    intro i n h0 h1 h2 h3
    have hi : i < l.length := by omega
    have hm : rd_T59 l i ∈ l := by
      unfold rd_T59
      rw [Int.toNat_natCast, List.getD_eq_getElem?_getD, List.getElem?_eq_getElem hi]
      exact List.getElem_mem _
    have hb := hs _ hm
    by_cases c : n ≤ 1048576
    · obtain ⟨t, ht, t0, t1⟩ := ev_ResultSize (rd_T59 l i).f0 (by unfold many; exact hb.1) (by unfold many; exact hb.2)
      obtain ⟨s, he, hle⟩ := ih (i + 1) (n + t) (by omega) (by omega) (by omega) (by omega)
      refine ⟨s, Ev.step (f := fun k => (concordatlaw01_ResultSize.f k (rd_T59 l i).f0).bind fun t => (concordatlaw01_ResultsSize.l0 k l (wrap64 (n + t)) (wrap64 ((i : Int) + 1)))) (fun k => ?_) ?_, by omega⟩
      · simp only [concordatlaw01_ResultsSize.l0]
        rw [if_pos (by omega), if_pos c, if_pos (by omega)]
      · refine Ev.bind ht ?_
        rw [wrap_id (n + t) (by omega) (by omega), wrap_id _ (by omega) (by omega)]
        exact he
    · refine ⟨n, Ev.step (f := fun _ => some n) (fun k => ?_) (Ev.now _), Int.le_refl _⟩
      simp only [concordatlaw01_ResultsSize.l0]
      rw [if_pos (by omega), if_neg c]
theorem ev_ResultsSize (l : List ResultT) (hl : l.length ≤ many) (hs : ∀ x ∈ l, x.f0.length ≤ many ∧ ∀ r ∈ x.f0, r.f0.size ≤ many) : ∃ s, Ev (fun k => concordatlaw01_ResultsSize.f k l) s ∧ (l.length : Int) ≤ s :=
  resultsSize_from l hl hs l.length 0 l.length (by omega) (by omega) (by omega) (by unfold many at hl; omega)
theorem resultsSize_both (l : List ResultT) (hl : l.length ≤ many) (hs : ∀ x ∈ l, x.f0.length ≤ many ∧ ∀ r ∈ x.f0, r.f0.size ≤ many) (d : Nat) : ∀ (i : Nat) (n : Int), i ≤ l.length → l.length - i = d → 0 ≤ n → n ≤ 2000000000000000 → ∃ s, Ev (fun k => concordatlaw01_ResultsSize.l0 k l n (i : Int)) s ∧ n ≤ s ∧ s ≤ 2000000000000000 := by
  unfold many at *
  induction d with
  | zero =>
    intro i n h0 h1 h2 h3
    refine ⟨n, Ev.step (f := fun _ => some n) (fun k => ?_) (Ev.now _), Int.le_refl _, h3⟩
    simp only [concordatlaw01_ResultsSize.l0]
    rw [if_neg (by omega)]
  | succ d ih =>
    intro i n h0 h1 h2 h3
    have hi : i < l.length := by omega
    have hm : rd_T59 l i ∈ l := by
      unfold rd_T59
      rw [Int.toNat_natCast, List.getD_eq_getElem?_getD, List.getElem?_eq_getElem hi]
      exact List.getElem_mem _
    have hb := hs _ hm
    by_cases c : n ≤ 1048576
    · obtain ⟨t, ht, t0, t1⟩ := ev_ResultSize (rd_T59 l i).f0 (by unfold many; exact hb.1) (by unfold many; exact hb.2)
      obtain ⟨s, he, hle, hle2⟩ := ih (i + 1) (n + t) (by omega) (by omega) (by omega) (by omega)
      refine ⟨s, Ev.step (f := fun k => (concordatlaw01_ResultSize.f k (rd_T59 l i).f0).bind fun t => (concordatlaw01_ResultsSize.l0 k l (wrap64 (n + t)) (wrap64 ((i : Int) + 1)))) (fun k => ?_) ?_, by omega, hle2⟩
      · simp only [concordatlaw01_ResultsSize.l0]
        rw [if_pos (by omega), if_pos c, if_pos (by omega)]
      · refine Ev.bind ht ?_
        rw [wrap_id (n + t) (by omega) (by omega), wrap_id _ (by omega) (by omega)]
        exact he
    · refine ⟨n, Ev.step (f := fun _ => some n) (fun k => ?_) (Ev.now _), Int.le_refl _, h3⟩
      simp only [concordatlaw01_ResultsSize.l0]
      rw [if_pos (by omega), if_neg c]

/-! ### messages -/
/-- What is known of a message that came in. -/
def msgOk (m : S27) : Prop := (m.f4.length ≤ many ∧ ∀ x ∈ m.f4, x.f1.size ≤ many ∧ x.f2.size ≤ many) ∧ (m.f5.length ≤ many ∧ ∀ x ∈ m.f5, x.f0.length ≤ many ∧ ∀ r ∈ x.f0, r.f0.size ≤ many)
theorem ev_sameMsg (m : S27) (h4 : m.f4.length ≤ 9223372036854775807) (h5 : m.f5.length ≤ 9223372036854775807) (hr : ∀ x ∈ m.f5, x.f0.length ≤ 9223372036854775807) :
    Ev (fun k => concordatlaw01_SameMsg.f k m.f0 m.f1 m.f2 m.f3 m.f4 m.f5 m.f0 m.f1 m.f2 m.f3 m.f4 m.f5) true := by
  unfold concordatlaw01_SameMsg.f
  simp only [if_true]
  refine Ev.bind (ev_sameOps m.f4 h4) ?_
  simp only [if_true]
  exact Ev.bind (ev_sameResults m.f5 h5 hr) (Ev.now _)
theorem opsSize_upto (l : List OpT) (hl : l.length ≤ many) (hs : ∀ x ∈ l, x.f1.size ≤ many ∧ x.f2.size ≤ many) (d : Nat) : ∀ (i : Nat) (n : Int), i ≤ l.length → l.length - i = d → 0 ≤ n → n ≤ 1000000000000000 → ∀ s, Ev (fun k => concordatlaw01_OpsSize.l0 k l n (i : Int)) s → s ≤ 1000000000000000 ∧ n ≤ s := by
  unfold many at *
  induction d with
  | zero =>
    intro i n h0 h1 h2 h3 s hs
    have e : s = n := by
      obtain ⟨K, hK⟩ := hs
      have := hK (K + 1) (Nat.le_succ _)
      simp only [concordatlaw01_OpsSize.l0] at this
      rw [if_neg (by omega)] at this
      exact (Option.some.inj this).symm
    omega
  | succ d ih =>
    intro i n h0 h1 h2 h3 s hs'
    have hi : i < l.length := by omega
    have hm : rd_T62 l i ∈ l := by
      unfold rd_T62
      rw [Int.toNat_natCast, List.getD_eq_getElem?_getD, List.getElem?_eq_getElem hi]
      exact List.getElem_mem _
    have hb := hs _ hm
    by_cases c : n ≤ 1048576
    · have e : Ev (fun k => concordatlaw01_OpsSize.l0 k l (n + (rd_T62 l i).f1.size + (rd_T62 l i).f2.size) ((i + 1 : Nat) : Int)) s := by
        obtain ⟨K, hK⟩ := hs'
        refine ⟨K, fun k hk => ?_⟩
        have := hK (k + 1) (by omega)
        simp only [concordatlaw01_OpsSize.l0] at this
        rw [if_pos (by omega), if_pos c, if_pos (by omega)] at this
        rw [wrap_id (n + _) (by omega) (by omega), wrap_id (n + _ + _) (by omega) (by omega), wrap_id ((i : Int) + 1) (by omega) (by omega)] at this
        exact this
      have := ih (i + 1) _ (by omega) (by omega) (by omega) (by omega) s e
      omega
    · have e : s = n := by
        obtain ⟨K, hK⟩ := hs'
        have := hK (K + 1) (Nat.le_succ _)
        simp only [concordatlaw01_OpsSize.l0] at this
        rw [if_pos (by omega), if_neg c] at this
        exact (Option.some.inj this).symm
      omega
theorem ev_MsgSize (m : S27) (h : msgOk m) : ∃ s, Ev (fun k => concordatlaw01_MsgSize.f k m.f0 m.f1 m.f2 m.f3 m.f4 m.f5) s ∧ 1 ≤ s ∧ s ≤ 4000000000000000 := by
  obtain ⟨s, hs, hl⟩ := ev_OpsSize m.f4 h.1.1 h.1.2
  have hu : s ≤ 1000000000000000 := (opsSize_upto m.f4 h.1.1 h.1.2 m.f4.length 0 m.f4.length (by omega) (by omega) (by omega) (by have := h.1.1; unfold many at this; omega) s hs).1
  obtain ⟨u, hu1, hu2, hu3⟩ : ∃ u, Ev (fun k => concordatlaw01_ResultsSize.f k m.f5) u ∧ 0 ≤ u ∧ u ≤ 2000000000000000 := by
    obtain ⟨u, h1, h2, h3⟩ := resultsSize_both m.f5 h.2.1 h.2.2 m.f5.length 0 m.f5.length (by omega) (by omega) (by omega) (by have := h.2.1; unfold many at this; omega)
    exact ⟨u, h1, by omega, h3⟩
  by_cases c : 1 + s ≤ 1048576
  · refine ⟨1 + s + u, ?_, by omega, by omega⟩
    unfold concordatlaw01_MsgSize.f
    refine Ev.bind hs ?_
    rw [wrap_id (1 + s) (by omega) (by omega)]
    simp only [if_pos c]
    refine Ev.bind hu1 ?_
    rw [wrap_id _ (by omega) (by omega)]
    exact Ev.now _
  · refine ⟨1 + s, ?_, by omega, by omega⟩
    unfold concordatlaw01_MsgSize.f
    refine Ev.bind hs ?_
    rw [wrap_id (1 + s) (by omega) (by omega)]
    simp only [if_neg c]
    exact Ev.now _
/-! ### ids -/
end Go.Proofs.YtcohodkpppmaoaaDoor.Q
