/-
  The pure statement of RowsLong.
-/
import Derived.Test.YtcohodkpppmaoaaQLrowslong1
import Derived.Test.YtcohodkpppmaoaaPureRows
namespace Go.Proofs.Ytcohodkpppmaoaa.Q
open Go.RowKit Go.Proofs.YtcohodkpppmaoaaW.PrintWords Go.Proofs.YtcohodkpppmaoaaW.PrintLast Go.Proofs.YtcohodkpppmaoaaW.PrintMore
set_option linter.unusedVariables false

theorem opB_length (x : OpT) : (opB x).length = 7 + x.f1.size + x.f2.size := by
  unfold opB
  simp only [List.length_append, textB_length, num4_length, List.length_singleton]
  omega
theorem changeB_length (x : ChangeT) : (changeB x).length = 6 + x.f0.size := by
  unfold changeB
  simp only [List.length_append, textB_length, num4_length, List.length_singleton]
  omega

theorem long_l1 (l1 : List ChangeT) (hl : l1.length ≤ 1000) (p q : List Int × Int) (n : Int) (hp : p.2 = 0 → (p.1.length : Int) = n) (d : Nat) : ∀ (i : Nat) (m : Int), i ≤ l1.length → l1.length - i = d →
    (q.2 = 0 → 0 ≤ m ∧ m + ((l1.drop i).flatMap changeB).length = q.1.length ∧ q.1.length ≤ 1000000000) → Ev (fun k => concordatlaw02_RowsLong.l1 k l1 p.1 p.2 q.1 q.2 n m (i : Int)) true := by
  induction d with
  | zero =>
    intro i m h0 h1 h2
    refine Ev.step (f := fun _ => some true) (fun k => ?_) (Ev.now _)
    simp only [concordatlaw02_RowsLong.l1]
    rw [if_neg (by omega)]
    have hq : q.2 = 0 → ((q.1.length : Int) == m) = true := fun hq => by
      have h3 := h2 hq
      rw [List.drop_eq_nil_of_le (by omega)] at h3
      simp at h3
      rw [beq_iff_eq]
      omega
    by_cases c : p.2 = 0
    · rw [if_pos c, if_pos (hp c)]
      by_cases e : q.2 = 0
      · rw [if_pos e, hq e]
      · rw [if_neg e]
    · rw [if_neg c]
      by_cases e : q.2 = 0
      · rw [if_pos e, hq e]
      · rw [if_neg e]
  | succ d ih =>
    intro i m h0 h1 h2
    have hi : i < l1.length := by omega
    have hx : rd_T26 l1 i = l1[i] := by
      unfold rd_T26
      rw [Int.toNat_natCast, List.getD_eq_getElem?_getD, List.getElem?_eq_getElem hi]
      rfl
    refine Ev.step (f := fun k => concordatlaw02_RowsLong.l1 k l1 p.1 p.2 q.1 q.2 n (wrap64 (wrap64 (m + 6) + ((rd_T26 l1 i).f0.size : Int))) ((i + 1 : Nat) : Int)) (fun k => ?_) (ih (i + 1) _ (by omega) (by omega) (fun hq => ?_))
    · simp only [concordatlaw02_RowsLong.l1]
      rw [if_pos (by omega), if_pos (by omega), wrap_id ((i : Int) + 1) (by omega) (by omega)]
      rfl
    · have h3 := h2 hq
      rw [List.drop_eq_getElem_cons hi, List.flatMap_cons, List.length_append, changeB_length] at h3
      rw [hx]
      generalize ((l1.drop (i + 1)).flatMap changeB).length = r at *
      generalize l1[i].f0.size = z at *
      rw [wrap_id (m + 6) (by omega) (by omega), wrap_id _ (by omega) (by omega)]
      omega

theorem long_l0 (l0 : List OpT) (hl0 : l0.length ≤ 1000000) (l1 : List ChangeT) (hl : l1.length ≤ 1000) (p q : List Int × Int) (hq : q.2 = 0 → 2 + (l1.flatMap changeB).length = q.1.length ∧ q.1.length ≤ 1000000000) (d : Nat) : ∀ (i : Nat) (n : Int), i ≤ l0.length → l0.length - i = d →
    (p.2 = 0 → 0 ≤ n ∧ n + ((l0.drop i).flatMap opB).length = p.1.length ∧ p.1.length ≤ 1000000000) → Ev (fun k => concordatlaw02_RowsLong.l0 k l0 l1 p.1 p.2 q.1 q.2 n (i : Int)) true := by
  induction d with
  | zero =>
    intro i n h0 h1 h2
    refine Ev.step (f := fun k => concordatlaw02_RowsLong.l1 k l1 p.1 p.2 q.1 q.2 n 2 ((0 : Nat) : Int)) (fun k => ?_) (long_l1 l1 hl p q n (fun hp => ?_) l1.length 0 2 (by omega) (by omega) (fun h => ?_))
    · simp only [concordatlaw02_RowsLong.l0]
      rw [if_neg (by omega)]
      rfl
    · have h3 := h2 hp
      rw [List.drop_eq_nil_of_le (by omega)] at h3
      simp at h3
      omega
    · have := hq h
      rw [List.drop_zero]
      omega
  | succ d ih =>
    intro i n h0 h1 h2
    have hi : i < l0.length := by omega
    have hx : rd_T68 l0 i = l0[i] := by
      unfold rd_T68
      rw [Int.toNat_natCast, List.getD_eq_getElem?_getD, List.getElem?_eq_getElem hi]
      rfl
    refine Ev.step (f := fun k => concordatlaw02_RowsLong.l0 k l0 l1 p.1 p.2 q.1 q.2 (wrap64 (wrap64 (wrap64 (n + 7) + ((rd_T68 l0 i).f1.size : Int)) + ((rd_T68 l0 i).f2.size : Int))) ((i + 1 : Nat) : Int)) (fun k => ?_) (ih (i + 1) _ (by omega) (by omega) (fun hp => ?_))
    · simp only [concordatlaw02_RowsLong.l0]
      rw [if_pos (by omega), if_pos (by omega), wrap_id ((i : Int) + 1) (by omega) (by omega)]
      rfl
    · have h3 := h2 hp
      rw [List.drop_eq_getElem_cons hi, List.flatMap_cons, List.length_append, opB_length] at h3
      rw [hx]
      generalize ((l0.drop (i + 1)).flatMap opB).length = r at *
      generalize l0[i].f1.size = y at *
      generalize l0[i].f2.size = z at *
      rw [wrap_id (n + 7) (by omega) (by omega), wrap_id (n + 7 + y) (by omega) (by omega), wrap_id _ (by omega) (by omega)]
      omega

theorem long_true (l0 : List OpT) (l1 : List ChangeT) : Ev (fun k => concordatlaw02_RowsLong.j0 k l0 l1 true) true := by
  refine Ev.step (f := fun _ => some true) (fun k => ?_) (Ev.now _)
  rw [concordatlaw02_RowsLong.j0, if_pos rfl]
  rfl
theorem long_false (l0 : List OpT) (hl0 : l0.length ≤ 3000) (l1 : List ChangeT) (hl : l1.length ≤ 100) : Ev (fun k => concordatlaw02_RowsLong.j0 k l0 l1 false) true := by
  refine Ev.step (f := fun k => (rows_PutOps.f k l0).bind fun p => ((rows_PutChanges.f k l1).bind fun q => (concordatlaw02_RowsLong.l0 k l0 l1 p.1 p.2 q.1 q.2 2 0))) (fun k => ?_) ?_
  · rw [concordatlaw02_RowsLong.j0, if_neg (by decide)]
  · refine Ev.bind (ev_putOps l0 (by omega)) (Ev.bind (ev_putChanges l1 (by omega)) ?_)
    refine long_l0 l0 (by omega) l1 (by omega) (putOps l0) (putChanges l1) (fun h => ?_) l0.length 0 2 (by omega) (by omega) (fun h => ?_)
    · obtain ⟨h1, h2, h3⟩ := putList_ok changeE_cases h
      have e : (putChanges l1).1 = num2 l1.length ++ l1.flatMap changeB := h3
      have hb := flatMap_len_le changeB 64 l1 (fun y hy => change_len y (h1 y hy))
      rw [e, List.length_append, num2_length]
      omega
    · obtain ⟨h1, h2, h3⟩ := putList_ok opE_cases h
      have e : (putOps l0).1 = num2 l0.length ++ l0.flatMap opB := h3
      have hb := flatMap_len_le opB 64 l0 (fun y hy => op_len y (h1 y hy))
      rw [e, List.length_append, num2_length, List.drop_zero]
      omega

theorem RowsLong_ev (l0 : List OpT) (hl0 : l0.length ≤ many) (hs0 : ∀ x ∈ l0, x.f1.size ≤ many ∧ x.f2.size ≤ many) (l1 : List ChangeT) (hl1 : l1.length ≤ many) (hs1 : ∀ x ∈ l1, x.f0.size ≤ many) : ∃ k, concordatlaw02_RowsLong.f k l0 l1 = some true := by
  refine Ev.rounds (g := fun k => concordatlaw02_RowsLong.f k l0 l1) ?_
  obtain ⟨s, hs, hsl⟩ := ev_OpsSize l0 hl0 hs0
  obtain ⟨t, ht, htl⟩ := ev_ChangesSize l1 hl1 hs1
  have e : ∀ k, concordatlaw02_RowsLong.f k l0 l1 = (concordatlaw01_OpsSize.f k l0).bind fun t289 => (if t289 > 3000 then (concordatlaw02_RowsLong.j0 k l0 l1 true) else (if (l1.length : Int) > 100 then (concordatlaw02_RowsLong.j0 k l0 l1 true) else ((concordatlaw01_ChangesSize.f k l1).bind fun t290 => (concordatlaw02_RowsLong.j0 k l0 l1 (decide (t290 > 5000)))))) := fun k => by
    unfold concordatlaw02_RowsLong.f concordatlaw02_alive.f
    rw [Option.bind_some, if_pos rfl]
  refine Ev.congr e (Ev.bind hs ?_)
  by_cases c : s > 3000
  · simp only [if_pos c]
    exact long_true l0 l1
  · simp only [if_neg c]
    by_cases c2 : (l1.length : Int) > 100
    · simp only [if_pos c2]
      exact long_true l0 l1
    · simp only [if_neg c2]
      refine Ev.bind ht ?_
      by_cases c3 : t > 5000
      · rw [decide_eq_true c3]
        exact long_true l0 l1
      · rw [decide_eq_false c3]
        exact long_false l0 (by omega) l1 (by omega)

end Go.Proofs.Ytcohodkpppmaoaa.Q
