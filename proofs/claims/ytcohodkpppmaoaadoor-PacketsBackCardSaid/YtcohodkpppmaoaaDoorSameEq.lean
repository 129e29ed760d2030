/-
  Whether two lists, two messages, are the same: what the statements' own comparing answers.
-/
import Derived.Test.YtcohodkpppmaoaaDoorQC3
import Derived.Test.YtcohodkpppmaoaaDoorSame2
namespace Go.Proofs.YtcohodkpppmaoaaDoor.Q
open Go.RowKit Go.Proofs.YtcohodkpppmaoaaDoorW.PrintWords Go.Proofs.YtcohodkpppmaoaaDoorW.PrintLast Go.Proofs.YtcohodkpppmaoaaDoorW.PrintMore
set_option linter.unusedVariables false

theorem str_beq (a b : ByteArray) : (a.toList == b.toList) = decide (a = b) := by
  rw [ByteArray.toList_eq, ByteArray.toList_eq, Bool.eq_iff_iff]
  simp only [beq_iff_eq, decide_eq_true_eq]
  constructor
  · intro h
    cases a; cases b
    simp only at h
    exact congrArg _ (Array.toList_inj.1 h)
  · rintro rfl
    rfl
theorem op_ne (x y : OpT) : (!(x.f0 == y.f0) || (!((x.f1).toList == (y.f1).toList) || (!((x.f2).toList == (y.f2).toList) || (!(x.f3 == y.f3))))) = true ↔ x ≠ y := by
  rw [str_beq, str_beq]
  obtain ⟨a0, a1, a2, a3⟩ := x
  obtain ⟨b0, b1, b2, b3⟩ := y
  by_cases c0 : a0 = b0 <;> by_cases c1 : a1 = b1 <;> by_cases c2 : a2 = b2 <;> by_cases c3 : a3 = b3 <;> simp [c0, c1, c2, c3]
theorem row_ne (x y : RowT) : (!((x.f0).toList == (y.f0).toList) || (!(x.f1 == y.f1))) = true ↔ x ≠ y := by
  rw [str_beq]
  obtain ⟨a0, a1⟩ := x
  obtain ⟨b0, b1⟩ := y
  by_cases c0 : a0 = b0 <;> by_cases c1 : a1 = b1 <;> simp [c0, c1]
theorem res_eq (x y : ResultT) : x = y ↔ x.f0 = y.f0 := by
  obtain ⟨a⟩ := x
  obtain ⟨b⟩ := y
  simp
theorem take_next {α : Type} {a b : List α} {i : Nat} (hi : i < a.length) (hj : i < b.length) (hp : a.take i = b.take i) (h : a[i] = b[i]) : a.take (i + 1) = b.take (i + 1) := by
  rw [List.take_succ_eq_append_getElem hi, List.take_succ_eq_append_getElem hj, hp, h]
theorem ne_next {α : Type} {a b : List α} {i : Nat} (hi : i < a.length) (hj : i < b.length) (h : a[i] ≠ b[i]) : a ≠ b := fun e => h (by subst e; rfl)

theorem sameOps_from (a b : List OpT) (hab : a.length = b.length) (hl : a.length ≤ 9223372036854775807) (d : Nat) : ∀ (i : Nat), i ≤ a.length → a.length - i = d → a.take i = b.take i →
    ∃ t, Ev (fun k => concordatlaw01_SameOps.l0 k a b (i : Int)) t ∧ (t = true ↔ a = b) := by
  induction d with
  | zero =>
    intro i h0 h1 hp
    rw [List.take_of_length_le (by omega), List.take_of_length_le (by omega)] at hp
    refine ⟨true, Ev.step (f := fun _ => some true) (fun k => ?_) (Ev.now _), by simp [hp]⟩
    simp only [concordatlaw01_SameOps.l0]
    rw [if_neg (by omega)]
  | succ d ih =>
    intro i h0 h1 hp
    have hi : i < a.length := by omega
    have hj : i < b.length := by omega
    have ha : rd_T62 a (i : Int) = a[i] := by unfold rd_T62; rw [Int.toNat_natCast, List.getD_eq_getElem?_getD, List.getElem?_eq_getElem hi]; rfl
    have hb : rd_T62 b (i : Int) = b[i] := by unfold rd_T62; rw [Int.toNat_natCast, List.getD_eq_getElem?_getD, List.getElem?_eq_getElem hj]; rfl
    by_cases c : a[i] = b[i]
    · obtain ⟨t, ht, hq⟩ := ih (i + 1) (by omega) (by omega) (take_next hi hj hp c)
      refine ⟨t, Ev.step (f := fun k => concordatlaw01_SameOps.l0 k a b (wrap64 ((i : Int) + 1))) (fun k => ?_) ?_, hq⟩
      · simp only [concordatlaw01_SameOps.l0]
        rw [if_pos (by omega), if_pos (by omega), if_pos (by omega), ha, hb, if_neg (fun h => (op_ne _ _).1 h c)]
      · rw [wrap_id _ (by omega) (by omega)]
        exact ht
    · refine ⟨false, Ev.step (f := fun _ => some false) (fun k => ?_) (Ev.now _), by simp [ne_next hi hj c]⟩
      simp only [concordatlaw01_SameOps.l0]
      rw [if_pos (by omega), if_pos (by omega), if_pos (by omega), ha, hb, if_pos ((op_ne _ _).2 c)]
theorem ev_SameOps (a b : List OpT) (hl : a.length ≤ 9223372036854775807) : ∃ t, Ev (fun k => concordatlaw01_SameOps.f k a b) t ∧ (t = true ↔ a = b) := by
  unfold concordatlaw01_SameOps.f
  by_cases c : (a.length : Int) = (b.length : Int)
  · simp only [if_pos c]
    exact sameOps_from a b (by omega) hl a.length 0 (by omega) (by omega) (by simp)
  · simp only [if_neg c]
    exact ⟨false, Ev.now _, by simp; intro e; exact c (by rw [e])⟩
theorem sameRows_from (a b : List RowT) (hab : a.length = b.length) (hl : a.length ≤ 9223372036854775807) (d : Nat) : ∀ (i : Nat), i ≤ a.length → a.length - i = d → a.take i = b.take i →
    ∃ t, Ev (fun k => concordatlaw01_SameRows.l0 k a b (i : Int)) t ∧ (t = true ↔ a = b) := by
  induction d with
  | zero =>
    intro i h0 h1 hp
    rw [List.take_of_length_le (by omega), List.take_of_length_le (by omega)] at hp
    refine ⟨true, Ev.step (f := fun _ => some true) (fun k => ?_) (Ev.now _), by simp [hp]⟩
    simp only [concordatlaw01_SameRows.l0]
    rw [if_neg (by omega)]
  | succ d ih =>
    intro i h0 h1 hp
    have hi : i < a.length := by omega
    have hj : i < b.length := by omega
    have ha : rd_T93 a (i : Int) = a[i] := by unfold rd_T93; rw [Int.toNat_natCast, List.getD_eq_getElem?_getD, List.getElem?_eq_getElem hi]; rfl
    have hb : rd_T93 b (i : Int) = b[i] := by unfold rd_T93; rw [Int.toNat_natCast, List.getD_eq_getElem?_getD, List.getElem?_eq_getElem hj]; rfl
    by_cases c : a[i] = b[i]
    · obtain ⟨t, ht, hq⟩ := ih (i + 1) (by omega) (by omega) (take_next hi hj hp c)
      refine ⟨t, Ev.step (f := fun k => concordatlaw01_SameRows.l0 k a b (wrap64 ((i : Int) + 1))) (fun k => ?_) ?_, hq⟩
      · simp only [concordatlaw01_SameRows.l0]
        rw [if_pos (by omega), if_pos (by omega), if_pos (by omega), ha, hb, if_neg (fun h => (row_ne _ _).1 h c)]
      · rw [wrap_id _ (by omega) (by omega)]
        exact ht
    · refine ⟨false, Ev.step (f := fun _ => some false) (fun k => ?_) (Ev.now _), by simp [ne_next hi hj c]⟩
      simp only [concordatlaw01_SameRows.l0]
      rw [if_pos (by omega), if_pos (by omega), if_pos (by omega), ha, hb, if_pos ((row_ne _ _).2 c)]
theorem ev_SameResult (a b : List RowT) (hl : a.length ≤ 9223372036854775807) : ∃ t, Ev (fun k => concordatlaw01_SameResult.f k a b) t ∧ (t = true ↔ a = b) := by
  unfold concordatlaw01_SameResult.f concordatlaw01_SameRows.f
  by_cases c : (a.length : Int) = (b.length : Int)
  · simp only [if_pos c]
    obtain ⟨t, ht, hq⟩ := sameRows_from a b (by omega) hl a.length 0 (by omega) (by omega) (by simp)
    exact ⟨t, Ev.bind ht (Ev.now _), hq⟩
  · simp only [if_neg c]
    exact ⟨false, Ev.now _, by simp; intro e; exact c (by rw [e])⟩
theorem sameResults_from (a b : List ResultT) (hab : a.length = b.length) (hl : a.length ≤ 9223372036854775807) (hr : ∀ x ∈ a, x.f0.length ≤ 9223372036854775807) (d : Nat) : ∀ (i : Nat), i ≤ a.length → a.length - i = d → a.take i = b.take i →
    ∃ t, Ev (fun k => concordatlaw01_SameResults.l0 k a b (i : Int)) t ∧ (t = true ↔ a = b) := by
  induction d with
  | zero =>
    intro i h0 h1 hp
    rw [List.take_of_length_le (by omega), List.take_of_length_le (by omega)] at hp
    refine ⟨true, Ev.step (f := fun _ => some true) (fun k => ?_) (Ev.now _), by simp [hp]⟩
    simp only [concordatlaw01_SameResults.l0]
    rw [if_neg (by omega)]
  | succ d ih =>
    intro i h0 h1 hp
    have hi : i < a.length := by omega
    have hj : i < b.length := by omega
    have ha : rd_T59 a (i : Int) = a[i] := by unfold rd_T59; rw [Int.toNat_natCast, List.getD_eq_getElem?_getD, List.getElem?_eq_getElem hi]; rfl
    have hb : rd_T59 b (i : Int) = b[i] := by unfold rd_T59; rw [Int.toNat_natCast, List.getD_eq_getElem?_getD, List.getElem?_eq_getElem hj]; rfl
    obtain ⟨u, hu, hv⟩ := ev_SameResult (a[i]).f0 (b[i]).f0 (hr _ (List.getElem_mem _))
    rw [← res_eq] at hv
    by_cases c : a[i] = b[i]
    · obtain rfl : u = true := hv.2 c
      obtain ⟨t, ht, hq⟩ := ih (i + 1) (by omega) (by omega) (take_next hi hj hp c)
      refine ⟨t, Ev.step (f := fun k => (concordatlaw01_SameResult.f k (a[i]).f0 (b[i]).f0).bind fun t => (if t = true then (concordatlaw01_SameResults.l0 k a b (wrap64 ((i : Int) + 1))) else (some false))) (fun k => ?_) (Ev.bind hu ?_), hq⟩
      · simp only [concordatlaw01_SameResults.l0]
        rw [if_pos (by omega), if_pos (by omega), if_pos (by omega), ha, hb]
      · simp only [if_true]
        rw [wrap_id _ (by omega) (by omega)]
        exact ht
    · have hf : u = false := by
        cases u
        · rfl
        · exact absurd (hv.1 rfl) c
      subst hf
      refine ⟨false, Ev.step (f := fun k => (concordatlaw01_SameResult.f k (a[i]).f0 (b[i]).f0).bind fun t => (if t = true then (concordatlaw01_SameResults.l0 k a b (wrap64 ((i : Int) + 1))) else (some false))) (fun k => ?_) (Ev.bind hu ?_), by simp [ne_next hi hj c]⟩
      · simp only [concordatlaw01_SameResults.l0]
        rw [if_pos (by omega), if_pos (by omega), if_pos (by omega), ha, hb]
      · exact Ev.now _
theorem ev_SameResults (a b : List ResultT) (hl : a.length ≤ 9223372036854775807) (hr : ∀ x ∈ a, x.f0.length ≤ 9223372036854775807) : ∃ t, Ev (fun k => concordatlaw01_SameResults.f k a b) t ∧ (t = true ↔ a = b) := by
  unfold concordatlaw01_SameResults.f
  by_cases c : (a.length : Int) = (b.length : Int)
  · simp only [if_pos c]
    exact sameResults_from a b (by omega) hl hr a.length 0 (by omega) (by omega) (by simp)
  · simp only [if_neg c]
    exact ⟨false, Ev.now _, by simp; intro e; exact c (by rw [e])⟩
theorem ev_SameMsg (s f t g : Int) (l4 : List OpT) (l5 : List ResultT) (s' f' t' g' : Int) (m4 : List OpT) (m5 : List ResultT) (h4 : l4.length ≤ 9223372036854775807) (h5 : l5.length ≤ 9223372036854775807) (hr : ∀ x ∈ l5, x.f0.length ≤ 9223372036854775807) :
    ∃ u, Ev (fun k => concordatlaw01_SameMsg.f k s f t g l4 l5 s' f' t' g' m4 m5) u ∧ (u = true ↔ (s = s' ∧ f = f' ∧ t = t' ∧ g = g' ∧ l4 = m4 ∧ l5 = m5)) := by
  unfold concordatlaw01_SameMsg.f
  by_cases c0 : s = s'
  · simp only [if_pos c0]
    by_cases c1 : f = f'
    · simp only [if_pos c1]
      by_cases c2 : t = t'
      · simp only [if_pos c2]
        by_cases c3 : g = g'
        · simp only [if_pos c3]
          obtain ⟨u, hu, hv⟩ := ev_SameOps l4 m4 h4
          obtain ⟨u2, hu2, hv2⟩ := ev_SameResults l5 m5 h5 hr
          cases u with
          | true =>
            refine ⟨u2, Ev.bind hu (Ev.bind hu2 (Ev.now _)), ?_⟩
            simp [c0, c1, c2, c3, hv.1 rfl, hv2]
          | false =>
            refine ⟨false, Ev.bind hu (Ev.now _), ?_⟩
            have : l4 ≠ m4 := fun e => by have := hv.2 e; cases this
            simp [this]
        · simp only [if_neg c3]
          exact ⟨false, Ev.now _, by simp [c3]⟩
      · simp only [if_neg c2]
        exact ⟨false, Ev.now _, by simp [c2]⟩
    · simp only [if_neg c1]
      exact ⟨false, Ev.now _, by simp [c1]⟩
  · simp only [if_neg c0]
    exact ⟨false, Ev.now _, by simp [c0]⟩
end Go.Proofs.YtcohodkpppmaoaaDoor.Q
