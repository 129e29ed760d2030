/-
  PacketsUnlike, pure: two messages have the same bytes just if they are the same.
-/
import Derived.Test.YtcohodkpppmaoaaDoorQLpacketsunlike1
import Derived.Test.YtcohodkpppmaoaaDoorPurePS
namespace Go.Proofs.YtcohodkpppmaoaaDoor.Q
open Go.RowKit Go.Proofs.YtcohodkpppmaoaaDoorW.PrintWords Go.Proofs.YtcohodkpppmaoaaDoorW.PrintLast Go.Proofs.YtcohodkpppmaoaaDoorW.PrintMore
set_option linter.unusedVariables false
theorem PacketsUnlike_ev (s f t g s' f' t' g' : Int) (l4 m4 : List OpT) (l5 m5 : List ResultT) (hg : 0 ≤ g ∧ g ≤ 4294967295) (hg' : 0 ≤ g' ∧ g' ≤ 4294967295) (hl : listsOk l4 l5) (hl' : listsOk m4 m5) (h4 : ∀ x ∈ l4, opOk x) (h5 : ∀ x ∈ l5, resultOk x) (h4' : ∀ x ∈ m4, opOk x) (h5' : ∀ x ∈ m5, resultOk x) :
    ∃ k, concordatlaw07_PacketsUnlike.f k s f t g l4 l5 s' f' t' g' m4 m5 = some true := by
  refine Ev.rounds (g := fun k => concordatlaw07_PacketsUnlike.f k s f t g l4 l5 s' f' t' g' m4 m5) ?_
  obtain ⟨n, hn, n0, n1, n2⟩ := msgSize7 s f t g l4 l5 hl
  obtain ⟨n', hn', n0', n1', n2'⟩ := msgSize7 s' f' t' g' m4 m5 hl'
  unfold concordatlaw07_PacketsUnlike.f concordatlaw07_alive.f
  simp only [Option.bind_some, if_true]
  refine Ev.bind hn (Ev.bind hn' ?_)
  rw [wrap_id _ (by omega) (by omega)]
  have j1t : ∀ a b, Ev (fun k => concordatlaw07_PacketsUnlike.j1 k a b true s f t g l4 l5 s' f' t' g' m4 m5) true := fun a b => Ev.step (f := fun _ => some true) (fun k => by rw [concordatlaw07_PacketsUnlike.j1, if_pos rfl]) (Ev.now _)
  by_cases c : n + n' > 5000
  · rw [decide_eq_true c]
    refine Ev.step (f := fun _ => some true) (fun k => ?_) (Ev.now _)
    rw [concordatlaw07_PacketsUnlike.j0, if_pos rfl]
    rfl
  rw [decide_eq_false c]
  have r1 := n2 (by omega)
  have r2 := n2' (by omega)
  have hr1 := room_of l4 l5 (by omega) (by omega) (rows_in hl)
  have hr2 := room_of m4 m5 (by omega) (by omega) (rows_in hl')
  refine Ev.step (f := fun k => if (putP s f t g l4 l5).2 = 0 then (concordatlaw07_PacketsUnlike.j1 k (putP s f t g l4 l5).1 (putP s' f' t' g' m4 m5).1 ((putP s' f' t' g' m4 m5).2 != 0) s f t g l4 l5 s' f' t' g' m4 m5) else (concordatlaw07_PacketsUnlike.j1 k (putP s f t g l4 l5).1 (putP s' f' t' g' m4 m5).1 true s f t g l4 l5 s' f' t' g' m4 m5)) (fun k => ?_) ?_
  · rw [concordatlaw07_PacketsUnlike.j0, if_neg (by decide), put_f hr1, put_f hr2]
    rfl
  by_cases e1 : (putP s f t g l4 l5).2 = 0
  · simp only [if_pos e1]
    by_cases e2 : (putP s' f' t' g' m4 m5).2 = 0
    · rw [e2, show ((0 : Int) != 0) = false from rfl]
      obtain ⟨u, hu, hv⟩ := ev_SameMsg s f t g l4 l5 s' f' t' g' m4 m5 (long_in hl).1 (long_in hl).2 (rows_in hl)
      have hsb := ev_SameBytes (putP s f t g l4 l5).1 (putP s' f' t' g' m4 m5).1 (by have := put_len e1; omega)
      have hb : decide ((putP s f t g l4 l5).1 = (putP s' f' t' g' m4 m5).1) = u := by
        rw [Bool.eq_iff_iff, decide_eq_true_eq, hv]
        constructor
        · intro e
          have g1 := get_put hg h4 h5 e1
          have g2 := get_put hg' h4' h5' e2
          rw [e, g2] at g1
          simp only [Prod.mk.injEq] at g1
          obtain ⟨k1, k2, k3, k4, k5, k6, _⟩ := g1
          exact ⟨k1.symm, k2.symm, k3.symm, k4.symm, k5.symm, k6.symm⟩
        · rintro ⟨rfl, rfl, rfl, rfl, rfl, rfl⟩
          rfl
      refine Ev.step (f := fun k => (concordatlaw01_SameBytes.f k (putP s f t g l4 l5).1 (putP s' f' t' g' m4 m5).1).bind fun t238 => ((concordatlaw01_SameMsg.f k s f t g l4 l5 s' f' t' g' m4 m5).bind fun t239 => (some (t238 == t239)))) (fun k => ?_) (Ev.bind hsb (Ev.bind hu ?_))
      · rw [concordatlaw07_PacketsUnlike.j1, if_neg (by decide)]
      · rw [hb]
        simp only [BEq.rfl]
        exact Ev.now _
    · rw [show ((putP s' f' t' g' m4 m5).2 != 0) = true by simpa using e2]
      exact j1t _ _
  · simp only [if_neg e1]
    exact j1t _ _
end Go.Proofs.YtcohodkpppmaoaaDoor.Q
