/-
  The pure statements of RowsBack, RowsTurned, RowsTold.
-/
import Derived.Test.YtcohodkpppmaoaaQLrowsback1
import Derived.Test.YtcohodkpppmaoaaQLrowstold1
import Derived.Test.YtcohodkpppmaoaaQLrowsturned1
import Derived.Test.YtcohodkpppmaoaaPureRows
namespace Go.Proofs.Ytcohodkpppmaoaa.Q
open Go.RowKit Go.Proofs.YtcohodkpppmaoaaW.PrintWords Go.Proofs.YtcohodkpppmaoaaW.PrintLast Go.Proofs.YtcohodkpppmaoaaW.PrintMore
set_option linter.unusedVariables false

/-! ### RowsBack -/
theorem getOps_f {b : List Int} (hb : inB b) : rows_GetOps.f b = some (getR opR opS putOps b) := if_pos hb
theorem getChanges_f {b : List Int} (hb : inB b) : rows_GetChanges.f b = some (getR changeR changeS putChanges b) := if_pos hb
theorem getResults_f {b : List Int} (hb : inB b) : rows_GetResults.f b = some (getR resR resS putResults b) := if_pos hb
theorem ev_same {a b : List Int} (h : a = b) (hl : a.length ≤ 9223372036854775807) : Ev (fun k => concordatlaw01_SameBytes.f k a b) true := ev_eq (decide_eq_true h) (ev_SameBytes a b hl)

theorem back_j3 (b : List Int) (hb : inB b) (hl : b.length ≤ 9223372036854775807) : Ev (fun k => concordatlaw02_RowsBack.j3 k b) true := by
  obtain ⟨m, e, hq⟩ : ∃ m e, getR opR opS putOps b = (m, e) := ⟨_, _, rfl⟩
  refine Ev.step (f := fun k => if e = 0 then ((rows_PutOps.f k m).bind fun p => (if p.2 = 0 then ((concordatlaw01_SameBytes.f k p.1 b).bind fun t => (some t)) else (some false))) else (if e = 4 then (some ((m.length : Int) == 0)) else (some false))) (fun k => ?_) ?_
  · rw [concordatlaw02_RowsBack.j3, getOps_f hb, hq, Option.bind_some]
  · rcases gotOps hq hb with ⟨rfl, rfl⟩ | ⟨rfl, h1, h2, h3⟩
    · exact Ev.now _
    · simp only [if_true]
      refine Ev.bind (ev_putOps m (by omega)) ?_
      simp only [h2, if_true]
      exact Ev.bind (ev_same h3 (by rw [h3]; exact hl)) (Ev.now _)
theorem back_j2 (l : List OpT) (hl : l.length ≤ 3000) (hok : ∀ x ∈ l, opOk x) (b : List Int) (hb : inB b) (hbl : b.length ≤ 9223372036854775807) : Ev (fun k => concordatlaw02_RowsBack.j2 k l b (putOps l).1 (putOps l).2 false) true := by
  refine Ev.step (f := fun k => if (putOps l).2 = 0 then ((rows_GetOps.f (putOps l).1).bind fun p => (if p.2 = 0 then ((concordatlaw01_SameOps.f k p.1 l).bind fun t => (if t = true then (concordatlaw02_RowsBack.j3 k b) else (some false))) else (some false))) else (concordatlaw02_RowsBack.j3 k b)) (fun k => ?_) ?_
  · rw [concordatlaw02_RowsBack.j2, if_neg (by decide)]
  · by_cases c : (putOps l).2 = 0
    · simp only [if_pos c]
      obtain ⟨h1, h2, h3⟩ := putList_ok opE_cases c
      have hi : inB (putOps l).1 := put_inB opE_cases c (fun x hx => inB_op x (hok x hx))
      simp only [getOps_f hi, getOps_put l hok c, Option.bind_some, if_true]
      refine Ev.bind (ev_sameOps l (by omega)) ?_
      simp only [if_true]
      exact back_j3 b hb hbl
    · simp only [if_neg c]
      exact back_j3 b hb hbl
theorem op_all (l : List OpT) (h : l.all mayOp = true) : putOps l = if l.length ≤ 16 then (num2 l.length ++ l.flatMap opB, 0) else ([], 3) := by
  have h0 : ∀ x ∈ l, opE x = 0 := fun x hx => by
    unfold opE
    rw [if_pos (List.all_eq_true.1 h x hx)]
  have a1 : l.any (fun x => opE x == 1) = false := by
    rw [List.any_eq_false]
    intro x hx
    rw [h0 x hx]
    decide
  have a3 : l.any (fun x => opE x == 3) = false := by
    rw [List.any_eq_false]
    intro x hx
    rw [h0 x hx]
    decide
  unfold putOps putList
  rw [a1, a3, if_neg (by decide), Bool.false_or]
  by_cases c : l.length ≤ 16
  · rw [if_pos c, decide_eq_false (by omega), if_neg (by decide)]
  · rw [if_neg c, decide_eq_true (by omega), if_pos rfl]
theorem op_some (l : List OpT) (h : l.all mayOp = false) : putOps l = ([], 1) := by
  have a1 : l.any (fun x => opE x == 1) = true := by
    obtain ⟨x, hx, hm⟩ := List.all_eq_false.1 h
    refine List.any_eq_true.2 ⟨x, hx, ?_⟩
    unfold opE
    rw [if_neg hm]
    decide
  unfold putOps putList
  rw [if_pos a1]
theorem back_l0 (l : List OpT) (hl : l.length ≤ 3000) (hok : ∀ x ∈ l, opOk x) (b : List Int) (hb : inB b) (hbl : b.length ≤ 9223372036854775807) (d : Nat) : ∀ (i : Nat), i ≤ l.length → l.length - i = d →
    Ev (fun k => concordatlaw02_RowsBack.l0 k l b (putOps l).1 (putOps l).2 ((l.take i).all mayOp) (i : Int)) true := by
  induction d with
  | zero =>
    intro i h0 h1
    have e : l.take i = l := List.take_of_length_le (by omega)
    rw [e]
    refine Ev.step (f := fun k => concordatlaw02_RowsBack.j2 k l b (putOps l).1 (putOps l).2 false) (fun k => ?_) (back_j2 l hl hok b hb hbl)
    rw [concordatlaw02_RowsBack.l0, if_neg (by omega)]
    cases ha : l.all mayOp with
    | true =>
      have hp := op_all l ha
      rw [if_pos rfl]
      by_cases c : l.length ≤ 16
      · rw [if_pos c] at hp
        rw [hp]
        have : decide ((l.length : Int) ≤ 16) = true := decide_eq_true (by omega)
        rw [this]
        rfl
      · rw [if_neg c] at hp
        rw [hp]
        have : decide ((l.length : Int) ≤ 16) = false := decide_eq_false (by omega)
        rw [this]
        rfl
    | false =>
      rw [op_some l ha]
      rfl
  | succ d ih =>
    intro i h0 h1
    have hi : i < l.length := by omega
    have hx : rd_T68 l i = l[i] := by
      unfold rd_T68
      rw [Int.toNat_natCast, List.getD_eq_getElem?_getD, List.getElem?_eq_getElem hi]
      rfl
    have e : (l.take (i + 1)).all mayOp = ((l.take i).all mayOp && mayOp l[i]) := by
      rw [List.take_succ_eq_append_getElem hi, List.all_append]
      simp
    refine Ev.step (f := fun k => concordatlaw02_RowsBack.l0 k l b (putOps l).1 (putOps l).2 ((l.take (i + 1)).all mayOp) ((i + 1 : Nat) : Int)) (fun k => ?_) (ih (i + 1) (by omega) (by omega))
    rw [concordatlaw02_RowsBack.l0, if_pos (by omega), wrap_id ((i : Int) + 1) (by omega) (by omega), e]
    cases (l.take i).all mayOp with
    | true =>
      rw [if_pos rfl, if_pos (by omega), opCheck_eq, hx, Option.bind_some, Bool.true_and]
      rfl
    | false =>
      rw [if_neg (by decide), Bool.false_and]
      rfl
theorem RowsBack_ev (l : List OpT) (hl : l.length ≤ many) (hs : ∀ x ∈ l, x.f1.size ≤ many ∧ x.f2.size ≤ many) (hok : ∀ x ∈ l, opOk x) (b : List Int) (hb : inB b) (hbl : b.length ≤ 9223372036854775807) : ∃ k, concordatlaw02_RowsBack.f k l b = some true := by
  refine Ev.rounds (g := fun k => concordatlaw02_RowsBack.f k l b) ?_
  obtain ⟨s, hs, hsl⟩ := ev_OpsSize l hl hs
  have e : ∀ k, concordatlaw02_RowsBack.f k l b = (concordatlaw01_OpsSize.f k l).bind fun t289 => (if t289 > 3000 then (concordatlaw02_RowsBack.j0 k l b true) else (concordatlaw02_RowsBack.j0 k l b (decide ((b.length : Int) > 70000)))) := fun k => by
    unfold concordatlaw02_RowsBack.f concordatlaw02_alive.f
    rw [Option.bind_some, if_pos rfl]
  have ht : Ev (fun k => concordatlaw02_RowsBack.j0 k l b true) true := by
    refine Ev.step (f := fun _ => some true) (fun k => ?_) (Ev.now _)
    rw [concordatlaw02_RowsBack.j0, if_pos rfl]
    rfl
  refine Ev.congr e (Ev.bind hs ?_)
  by_cases c : s > 3000
  · simp only [if_pos c]
    exact ht
  · simp only [if_neg c]
    by_cases c2 : (b.length : Int) > 70000
    · rw [decide_eq_true c2]
      exact ht
    · rw [decide_eq_false c2]
      refine Ev.step (f := fun k => (rows_PutOps.f k l).bind fun p => (concordatlaw02_RowsBack.l0 k l b p.1 p.2 true ((0 : Nat) : Int))) (fun k => ?_) (Ev.bind (ev_putOps l (by omega)) ?_)
      · rw [concordatlaw02_RowsBack.j0, if_neg (by decide)]
        rfl
      · exact back_l0 l (by omega) hok b hb hbl l.length 0 (by omega) (by omega)

/-! ### RowsTurned -/
theorem turned_j3 (b : List Int) (hb : inB b) (hl : b.length ≤ 9223372036854775807) : Ev (fun k => concordatlaw02_RowsTurned.j3 k b) true := by
  obtain ⟨m, e, hq⟩ : ∃ m e, getR changeR changeS putChanges b = (m, e) := ⟨_, _, rfl⟩
  refine Ev.step (f := fun k => if e = 0 then ((rows_PutChanges.f k m).bind fun p => (if p.2 = 0 then ((concordatlaw01_SameBytes.f k p.1 b).bind fun t => (some t)) else (some false))) else (if e = 4 then (some ((m.length : Int) == 0)) else (some false))) (fun k => ?_) ?_
  · rw [concordatlaw02_RowsTurned.j3, getChanges_f hb, hq, Option.bind_some]
  · rcases gotChanges hq hb with ⟨rfl, rfl⟩ | ⟨rfl, h1, h2, h3⟩
    · exact Ev.now _
    · simp only [if_true]
      refine Ev.bind (ev_putChanges m (by omega)) ?_
      simp only [h2, if_true]
      exact Ev.bind (ev_same h3 (by rw [h3]; exact hl)) (Ev.now _)
theorem turned_j2 (l : List ChangeT) (hl : l.length ≤ 200) (hok : ∀ x ∈ l, changeOk x) (b : List Int) (hb : inB b) (hbl : b.length ≤ 9223372036854775807) : Ev (fun k => concordatlaw02_RowsTurned.j2 k l b (putChanges l).1 (putChanges l).2 false) true := by
  refine Ev.step (f := fun k => if (putChanges l).2 = 0 then ((rows_GetChanges.f (putChanges l).1).bind fun p => (if p.2 = 0 then ((concordatlaw01_SameChanges.f k p.1 l).bind fun t => (if t = true then (concordatlaw02_RowsTurned.j3 k b) else (some false))) else (some false))) else (concordatlaw02_RowsTurned.j3 k b)) (fun k => ?_) ?_
  · rw [concordatlaw02_RowsTurned.j2, if_neg (by decide)]
  · by_cases c : (putChanges l).2 = 0
    · simp only [if_pos c]
      obtain ⟨h1, h2, h3⟩ := putList_ok changeE_cases c
      have hi : inB (putChanges l).1 := put_inB changeE_cases c (fun x hx => inB_change x)
      simp only [getChanges_f hi, getChanges_put l hok c, Option.bind_some, if_true]
      refine Ev.bind (ev_sameChanges l (by omega)) ?_
      simp only [if_true]
      exact turned_j3 b hb hbl
    · simp only [if_neg c]
      exact turned_j3 b hb hbl
theorem change_all (l : List ChangeT) (hl : l.length ≤ 4096) (h : l.all mayChange = true) : (putChanges l).2 = 0 := by
  have h0 : ∀ x ∈ l, changeE x = 0 := fun x hx => by
    unfold changeE
    rw [if_pos (List.all_eq_true.1 h x hx)]
  have a1 : l.any (fun x => changeE x == 1) = false := by
    rw [List.any_eq_false]
    intro x hx
    rw [h0 x hx]
    decide
  have a3 : l.any (fun x => changeE x == 3) = false := by
    rw [List.any_eq_false]
    intro x hx
    rw [h0 x hx]
    decide
  unfold putChanges putList
  rw [a1, a3, if_neg (by decide), Bool.false_or, decide_eq_false (by omega), if_neg (by decide)]
theorem change_some (l : List ChangeT) (h : l.all mayChange = false) : putChanges l = ([], 1) := by
  have a1 : l.any (fun x => changeE x == 1) = true := by
    obtain ⟨x, hx, hm⟩ := List.all_eq_false.1 h
    refine List.any_eq_true.2 ⟨x, hx, ?_⟩
    unfold changeE
    rw [if_neg hm]
    decide
  unfold putChanges putList
  rw [if_pos a1]
theorem turned_l0 (l : List ChangeT) (hl : l.length ≤ 200) (hok : ∀ x ∈ l, changeOk x) (b : List Int) (hb : inB b) (hbl : b.length ≤ 9223372036854775807) (d : Nat) : ∀ (i : Nat), i ≤ l.length → l.length - i = d →
    Ev (fun k => concordatlaw02_RowsTurned.l0 k l b (putChanges l).1 (putChanges l).2 ((l.take i).all mayChange) (i : Int)) true := by
  induction d with
  | zero =>
    intro i h0 h1
    have e : l.take i = l := List.take_of_length_le (by omega)
    rw [e]
    refine Ev.step (f := fun k => concordatlaw02_RowsTurned.j2 k l b (putChanges l).1 (putChanges l).2 false) (fun k => ?_) (turned_j2 l hl hok b hb hbl)
    rw [concordatlaw02_RowsTurned.l0, if_neg (by omega)]
    cases ha : l.all mayChange with
    | true =>
      rw [change_all l (by omega) ha]
      rfl
    | false =>
      rw [change_some l ha]
      rfl
  | succ d ih =>
    intro i h0 h1
    have hi : i < l.length := by omega
    have hx : rd_T26 l i = l[i] := by
      unfold rd_T26
      rw [Int.toNat_natCast, List.getD_eq_getElem?_getD, List.getElem?_eq_getElem hi]
      rfl
    have e : (l.take (i + 1)).all mayChange = ((l.take i).all mayChange && mayChange l[i]) := by
      rw [List.take_succ_eq_append_getElem hi, List.all_append]
      simp
    refine Ev.step (f := fun k => concordatlaw02_RowsTurned.l0 k l b (putChanges l).1 (putChanges l).2 ((l.take (i + 1)).all mayChange) ((i + 1 : Nat) : Int)) (fun k => ?_) (ih (i + 1) (by omega) (by omega))
    rw [concordatlaw02_RowsTurned.l0, if_pos (by omega), wrap_id ((i : Int) + 1) (by omega) (by omega), e]
    cases (l.take i).all mayChange with
    | true =>
      rw [if_pos rfl, if_pos (by omega), show keys_Check.f (rd_T26 l i).f0 = some (isKey (rd_T26 l i).f0) from rfl, hx, Option.bind_some, Bool.true_and]
      unfold mayChange
      cases isKey l[i].f0 with
      | true =>
        rw [if_pos rfl, Bool.true_and]
        cases l[i].f2 with
        | true => rw [if_pos rfl]; rfl
        | false => rw [if_neg (by decide)]; rfl
      | false => rw [if_neg (by decide)]; rfl
    | false =>
      rw [if_neg (by decide), Bool.false_and]
      rfl
theorem RowsTurned_ev (l : List ChangeT) (hl : l.length ≤ many) (hs : ∀ x ∈ l, x.f0.size ≤ many) (hok : ∀ x ∈ l, changeOk x) (b : List Int) (hb : inB b) (hbl : b.length ≤ 9223372036854775807) : ∃ k, concordatlaw02_RowsTurned.f k l b = some true := by
  refine Ev.rounds (g := fun k => concordatlaw02_RowsTurned.f k l b) ?_
  obtain ⟨s, hs, hsl⟩ := ev_ChangesSize l hl hs
  have e : ∀ k, concordatlaw02_RowsTurned.f k l b = (if (l.length : Int) > 200 then (concordatlaw02_RowsTurned.j0 k l b true) else ((concordatlaw01_ChangesSize.f k l).bind fun t289 => (if t289 > 5000 then (concordatlaw02_RowsTurned.j0 k l b true) else (concordatlaw02_RowsTurned.j0 k l b (decide ((b.length : Int) > 70000)))))) := fun k => by
    unfold concordatlaw02_RowsTurned.f concordatlaw02_alive.f
    rw [Option.bind_some, if_pos rfl]
  have ht : Ev (fun k => concordatlaw02_RowsTurned.j0 k l b true) true := by
    refine Ev.step (f := fun _ => some true) (fun k => ?_) (Ev.now _)
    rw [concordatlaw02_RowsTurned.j0, if_pos rfl]
    rfl
  refine Ev.congr e ?_
  by_cases c0 : (l.length : Int) > 200
  · simp only [if_pos c0]
    exact ht
  · simp only [if_neg c0]
    refine Ev.bind hs ?_
    by_cases c : s > 5000
    · simp only [if_pos c]
      exact ht
    · simp only [if_neg c]
      by_cases c2 : (b.length : Int) > 70000
      · rw [decide_eq_true c2]
        exact ht
      · rw [decide_eq_false c2]
        refine Ev.step (f := fun k => (rows_PutChanges.f k l).bind fun p => (concordatlaw02_RowsTurned.l0 k l b p.1 p.2 true ((0 : Nat) : Int))) (fun k => ?_) (Ev.bind (ev_putChanges l (by omega)) ?_)
        · rw [concordatlaw02_RowsTurned.j0, if_neg (by decide)]
          rfl
        · exact turned_l0 l (by omega) hok b hb hbl l.length 0 (by omega) (by omega)

/-! ### RowsTold -/
theorem told_j1 (b : List Int) (hb : inB b) (hl : b.length ≤ 9223372036854775807) : Ev (fun k => concordatlaw02_RowsTold.j1 k b) true := by
  obtain ⟨m, e, hq⟩ : ∃ m e, getR resR resS putResults b = (m, e) := ⟨_, _, rfl⟩
  refine Ev.step (f := fun k => if e = 0 then ((rows_PutResults.f k m).bind fun p => (if p.2 = 0 then ((concordatlaw01_SameBytes.f k p.1 b).bind fun t => (some t)) else (some false))) else (if e = 4 then (some ((m.length : Int) == 0)) else (some false))) (fun k => ?_) ?_
  · rw [concordatlaw02_RowsTold.j1, getResults_f hb, hq, Option.bind_some]
  · rcases gotResults hq hb with ⟨rfl, rfl⟩ | ⟨rfl, h1, h2, h3, h4⟩
    · exact Ev.now _
    · simp only [if_true]
      refine Ev.bind (ev_putResults m (by omega) h4) ?_
      simp only [h2, if_true]
      exact Ev.bind (ev_same h3 (by rw [h3]; exact hl)) (Ev.now _)
theorem put_err {α : Type} {may : α → Int} {most : Nat} {one : α → List Int} {l : List α} (h : (putList may most one l).2 ≠ 0) : (putList may most one l).2 = 1 ∨ (putList may most one l).2 = 3 := by
  unfold putList at h ⊢
  split
  · exact .inl rfl
  · rename_i h1
    rw [if_neg h1] at h
    split
    · exact .inr rfl
    · rename_i h2
      rw [if_neg h2] at h
      exact absurd rfl h
theorem RowsTold_ev (l : List ResultT) (hl : l.length ≤ many) (hs : ∀ x ∈ l, x.f0.length ≤ many ∧ ∀ r ∈ x.f0, r.f0.size ≤ many) (hok : ∀ x ∈ l, resultOk x) (b : List Int) (hb : inB b) (hbl : b.length ≤ 9223372036854775807) : ∃ k, concordatlaw02_RowsTold.f k l b = some true := by
  refine Ev.rounds (g := fun k => concordatlaw02_RowsTold.f k l b) ?_
  obtain ⟨s, hsv, hsl⟩ := ev_ResultsSize l hl hs
  have hrl : ∀ x ∈ l, x.f0.length ≤ 9223372036854775807 := fun x hx => by have := (hs x hx).1; unfold many at this; omega
  have e : ∀ k, concordatlaw02_RowsTold.f k l b = (concordatlaw01_ResultsSize.f k l).bind fun t289 => (if t289 > 3000 then (concordatlaw02_RowsTold.j0 k l b true) else (concordatlaw02_RowsTold.j0 k l b (decide ((b.length : Int) > 70000)))) := fun k => by
    unfold concordatlaw02_RowsTold.f concordatlaw02_alive.f
    rw [Option.bind_some, if_pos rfl]
  have ht : Ev (fun k => concordatlaw02_RowsTold.j0 k l b true) true := by
    refine Ev.step (f := fun _ => some true) (fun k => ?_) (Ev.now _)
    rw [concordatlaw02_RowsTold.j0, if_pos rfl]
    rfl
  refine Ev.congr e (Ev.bind hsv ?_)
  by_cases c : s > 3000
  · simp only [if_pos c]
    exact ht
  · simp only [if_neg c]
    by_cases c2 : (b.length : Int) > 70000
    · rw [decide_eq_true c2]
      exact ht
    · rw [decide_eq_false c2]
      refine Ev.step (f := fun k => (rows_PutResults.f k l).bind fun bt291 => (if bt291.2 = 0 then ((rows_GetResults.f bt291.1).bind fun bt295 => (if bt295.2 = 0 then ((concordatlaw01_SameResults.f k bt295.1 l).bind fun t299 => (if t299 = true then (if (l.length : Int) > 16 then (some false) else (concordatlaw02_RowsTold.j1 k b)) else (some false))) else (some false))) else (if (bt291.1.length : Int) = 0 then (if bt291.2 = 1 then (concordatlaw02_RowsTold.j1 k b) else (if bt291.2 = 3 then (concordatlaw02_RowsTold.j1 k b) else (some false))) else (some false)))) (fun k => ?_) (Ev.bind (ev_putResults l (by omega) hrl) ?_)
      · rw [concordatlaw02_RowsTold.j0, if_neg (by decide)]
      · by_cases c3 : (putResults l).2 = 0
        · simp only [if_pos c3]
          obtain ⟨h1, h2, h3⟩ := putList_ok resultE_cases c3
          have hi : inB (putResults l).1 := put_inB resultE_cases c3 (fun x hx => inB_result x)
          simp only [getResults_f hi, getResults_put l hok c3, Option.bind_some, if_true]
          refine Ev.bind (ev_sameResults l (by omega) hrl) ?_
          simp only [if_true, if_neg (show ¬ (l.length : Int) > 16 by omega)]
          exact told_j1 b hb hbl
        · have hz : (putResults l).1 = [] := putList_err c3
          simp only [if_neg c3, hz, List.length_nil, Int.natCast_zero, if_true]
          rcases put_err (may := resultE) (most := 16) (one := resultB) (l := l) c3 with h1 | h3
          · have h1' : (putResults l).2 = 1 := h1
            simp only [h1', if_true]
            exact told_j1 b hb hbl
          · have h3' : (putResults l).2 = 3 := h3
            simp only [h3', if_true, if_neg (show ¬ (3 : Int) = 1 by decide)]
            exact told_j1 b hb hbl

end Go.Proofs.Ytcohodkpppmaoaa.Q
