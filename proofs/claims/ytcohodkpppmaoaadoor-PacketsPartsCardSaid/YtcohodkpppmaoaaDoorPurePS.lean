/-
  The pure side of layer 7: how much a message has in it, and what that says of its lists.
-/
import Derived.Test.YtcohodkpppmaoaaDoorPureP
import Derived.Test.YtcohodkpppmaoaaDoorSameEq
import Derived.Test.YtcohodkpppmaoaaDoorAlive7
namespace Go.Proofs.YtcohodkpppmaoaaDoor.Q
open Go.RowKit Go.Proofs.YtcohodkpppmaoaaDoorW.PrintWords Go.Proofs.YtcohodkpppmaoaaDoorW.PrintLast Go.Proofs.YtcohodkpppmaoaaDoorW.PrintMore
set_option linter.unusedVariables false
def listsOk (l4 : List OpT) (l5 : List ResultT) : Prop := (l4.length ≤ many ∧ ∀ x ∈ l4, x.f1.size ≤ many ∧ x.f2.size ≤ many) ∧ (l5.length ≤ many ∧ ∀ x ∈ l5, x.f0.length ≤ many ∧ ∀ r ∈ x.f0, r.f0.size ≤ many)
theorem msgSize7 (s f t g : Int) (l4 : List OpT) (l5 : List ResultT) (h : listsOk l4 l5) : ∃ n, Ev (fun k => concordatlaw01_MsgSize.f k s f t g l4 l5) n ∧ 0 ≤ n ∧ n ≤ 4000000000000000 ∧ (n ≤ 5000 → l4.length ≤ 5000 ∧ l5.length ≤ 5000) := by
  obtain ⟨s, hs, hl⟩ := ev_OpsSize l4 h.1.1 h.1.2
  have hu : s ≤ 1000000000000000 := (opsSize_upto l4 h.1.1 h.1.2 l4.length 0 l4.length (by omega) (by omega) (by omega) (by have := h.1.1; unfold many at this; omega) s hs).1
  obtain ⟨u, hu1, hu2, hu3⟩ : ∃ u, Ev (fun k => concordatlaw01_ResultsSize.f k l5) u ∧ (l5.length : Int) ≤ u ∧ u ≤ 2000000000000000 := by
    obtain ⟨u, h1, h2, h3⟩ := resultsSize_both l5 h.2.1 h.2.2 l5.length 0 l5.length (by omega) (by omega) (by omega) (by have := h.2.1; unfold many at this; omega)
    exact ⟨u, h1, h2, h3⟩
  by_cases c : 1 + s ≤ 1048576
  · refine ⟨1 + s + u, ?_, by omega, by omega, by omega⟩
    unfold concordatlaw01_MsgSize.f
    refine Ev.bind hs ?_
    rw [wrap_id (1 + s) (by omega) (by omega)]
    simp only [if_pos c]
    refine Ev.bind hu1 ?_
    rw [wrap_id _ (by omega) (by omega)]
    exact Ev.now _
  · refine ⟨1 + s, ?_, by omega, by omega, by omega⟩
    unfold concordatlaw01_MsgSize.f
    refine Ev.bind hs ?_
    rw [wrap_id (1 + s) (by omega) (by omega)]
    simp only [if_neg c]
    exact Ev.now _
theorem rows_in {l4 : List OpT} {l5 : List ResultT} (h : listsOk l4 l5) : ∀ x ∈ l5, x.f0.length ≤ 9223372036854775807 := fun x hx => by
  have := (h.2.2 x hx).1
  unfold many at this
  omega
theorem long_in {l4 : List OpT} {l5 : List ResultT} (h : listsOk l4 l5) : l4.length ≤ 9223372036854775807 ∧ l5.length ≤ 9223372036854775807 := by
  have h1 := h.1.1
  have h2 := h.2.1
  unfold many at h1 h2
  omega
theorem put_code {s f t g : Int} {l4 : List OpT} {l5 : List ResultT} (h : (putP s f t g l4 l5).2 ≠ 0) : (putP s f t g l4 l5).1 = [] ∧ ((putP s f t g l4 l5).2 = 1 ∨ (putP s f t g l4 l5).2 = 3) := by
  have code : ∀ {α : Type} {may : α → Int} {most : Nat} {one : α → List Int} {l : List α}, (putList may most one l).2 = 0 ∨ (putList may most one l).2 = 1 ∨ (putList may most one l).2 = 3 := by
    intro α may most one l
    unfold putList
    split
    · simp
    · split <;> simp
  have c4 : (putOps l4).2 = 0 ∨ (putOps l4).2 = 1 ∨ (putOps l4).2 = 3 := code
  have c5 : (putResults l5).2 = 0 ∨ (putResults l5).2 = 1 ∨ (putResults l5).2 = 3 := code
  unfold putP at h ⊢
  by_cases hm : mayH s f t = true
  · rw [if_pos hm] at h ⊢
    by_cases he : errP (putOps l4).2 (putResults l5).2 = 0
    · rw [if_pos he] at h
      exact absurd rfl h
    · rw [if_neg he]
      refine ⟨rfl, ?_⟩
      unfold errP at he ⊢
      dsimp only
      split
      · exact .inl rfl
      · split
        · rename_i h1 h2
          rw [if_neg h1, if_pos h2] at he
          rcases c5 with c | c | c
          · exact absurd c he
          · exact .inl c
          · exact .inr c
        · rcases c4 with c | c | c
          · contradiction
          · exact .inl c
          · exact .inr c
  · rw [if_neg hm]
    exact ⟨rfl, .inl rfl⟩
end Go.Proofs.YtcohodkpppmaoaaDoor.Q
