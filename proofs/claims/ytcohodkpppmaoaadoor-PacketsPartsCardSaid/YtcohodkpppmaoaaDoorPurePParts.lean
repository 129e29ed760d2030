/-
  PacketsParts, pure: a message's bytes are its head, and those of its ops, and of its results.
-/
import Derived.Test.YtcohodkpppmaoaaDoorQLpacketsparts1
import Derived.Test.YtcohodkpppmaoaaDoorPurePS
namespace Go.Proofs.YtcohodkpppmaoaaDoor.Q
open Go.RowKit Go.Proofs.YtcohodkpppmaoaaDoorW.PrintWords Go.Proofs.YtcohodkpppmaoaaDoorW.PrintLast Go.Proofs.YtcohodkpppmaoaaDoorW.PrintMore
set_option linter.unusedVariables false
theorem list_code {α : Type} {may : α → Int} {most : Nat} {one : α → List Int} {l : List α} : (putList may most one l).2 = 0 ∨ (putList may most one l).2 = 1 ∨ (putList may most one l).2 = 3 := by
  unfold putList
  split
  · simp
  · split <;> simp
theorem putP_arg {s f t g : Int} {l4 : List OpT} {l5 : List ResultT} (h : mayH s f t = false ∨ (putOps l4).2 = 1 ∨ (putResults l5).2 = 1) : putP s f t g l4 l5 = ([], 1) := by
  unfold putP
  by_cases hm : mayH s f t = true
  · rw [if_pos hm]
    have he : errP (putOps l4).2 (putResults l5).2 = 1 := by
      unfold errP
      rcases h with h | h | h
      · rw [hm] at h
        cases h
      · rw [h]
        split
        · rfl
        · rfl
      · rw [if_pos h]
    rw [he, if_neg (by decide)]
  · rw [if_neg hm]
theorem putP_many {s f t g : Int} {l4 : List OpT} {l5 : List ResultT} (hm : mayH s f t = true) (h4 : (putOps l4).2 ≠ 1) (h5 : (putResults l5).2 ≠ 1) (h : (putOps l4).2 ≠ 0 ∨ (putResults l5).2 ≠ 0) : putP s f t g l4 l5 = ([], 3) := by
  have c4 : (putOps l4).2 = 0 ∨ (putOps l4).2 = 1 ∨ (putOps l4).2 = 3 := list_code
  have c5 : (putResults l5).2 = 0 ∨ (putResults l5).2 = 1 ∨ (putResults l5).2 = 3 := list_code
  unfold putP
  rw [if_pos hm]
  have he : errP (putOps l4).2 (putResults l5).2 = 3 := by
    unfold errP
    rw [if_neg h5]
    split
    · omega
    · omega
  rw [he, if_neg (by decide)]
theorem parts_j2 (s f t g : Int) (l4 : List OpT) (l5 : List ResultT) : Ev (fun k => concordatlaw07_PacketsParts.j2 k (putP s f t g l4 l5).1 (putP s f t g l4 l5).2 (putOps l4).1 (putOps l4).2 (putResults l5).1 (putResults l5).2 (!mayH s f t || (putOps l4).2 == 1 || (putResults l5).2 == 1) s f t g l4 l5) true := by
  by_cases c : (!mayH s f t || (putOps l4).2 == 1 || (putResults l5).2 == 1) = true
  · have hp : putP s f t g l4 l5 = ([], 1) := putP_arg (by simpa [or_assoc] using c)
    rw [c, hp]
    refine Ev.step (f := fun _ => some true) (fun k => ?_) (Ev.now _)
    rw [concordatlaw07_PacketsParts.j2, if_pos rfl, if_pos rfl]
    rfl
  · have hc : mayH s f t = true ∧ (putOps l4).2 ≠ 1 ∧ (putResults l5).2 ≠ 1 := by simpa [and_assoc] using c
    rw [Bool.not_eq_true] at c
    rw [c]
    by_cases z : (putOps l4).2 = 0 ∧ (putResults l5).2 = 0
    · have hp : putP s f t g l4 l5 = (bytesP s f t g (putOps l4).1 (putResults l5).1, 0) := by
        unfold putP
        rw [if_pos hc.1, z.1, z.2]
        rfl
      have l1 := putOps_len l4
      have l2 := putResults_len l5
      have e : ([s, f, t, (g / 16777216) % 256, (g / 65536) % 256, (g / 256) % 256, g % 256, (((putOps l4).1.length : Int) / 16777216) % 256, (((putOps l4).1.length : Int) / 65536) % 256, (((putOps l4).1.length : Int) / 256) % 256, ((putOps l4).1.length : Int) % 256] : List Int) ++ (putOps l4).1 ++ (putResults l5).1 = bytesP s f t g (putOps l4).1 (putResults l5).1 := by
        rw [bytesP_cons]
        simp [num4]
      have hb := ev_SameBytes (bytesP s f t g (putOps l4).1 (putResults l5).1) (bytesP s f t g (putOps l4).1 (putResults l5).1) (by rw [bytesP_len]; omega)
      rw [decide_eq_true rfl] at hb
      rw [hp, z.1, z.2]
      refine Ev.step (f := fun k => (concordatlaw01_SameBytes.f k (bytesP s f t g (putOps l4).1 (putResults l5).1) (bytesP s f t g (putOps l4).1 (putResults l5).1)).bind fun t => some t) (fun k => ?_) (Ev.bind hb (Ev.now _))
      rw [concordatlaw07_PacketsParts.j2, if_neg (by decide), if_pos rfl, if_pos rfl]
      simp only [Option.bind_some]
      rw [if_pos (by simp; omega), if_pos (by simp; omega)]
      simp only [if_true]
      rw [e]
    · have hp : putP s f t g l4 l5 = ([], 3) := putP_many hc.1 hc.2.1 hc.2.2 (by omega)
      rw [hp]
      refine Ev.step (f := fun _ => some true) (fun k => ?_) (Ev.now _)
      rw [concordatlaw07_PacketsParts.j2, if_neg (by decide)]
      by_cases z1 : (putOps l4).2 = 0
      · rw [if_pos z1, if_neg (by omega), if_pos rfl]
        rfl
      · rw [if_neg z1, if_pos rfl]
        rfl
theorem parts_j1 (s f t g : Int) (l4 : List OpT) (l5 : List ResultT) : Ev (fun k => concordatlaw07_PacketsParts.j1 k (putP s f t g l4 l5).1 (putP s f t g l4 l5).2 (putOps l4).1 (putOps l4).2 (putResults l5).1 (putResults l5).2 (mayH s f t) s f t g l4 l5) true := by
  refine Ev.step (f := fun k => concordatlaw07_PacketsParts.j2 k (putP s f t g l4 l5).1 (putP s f t g l4 l5).2 (putOps l4).1 (putOps l4).2 (putResults l5).1 (putResults l5).2 (!mayH s f t || (putOps l4).2 == 1 || (putResults l5).2 == 1) s f t g l4 l5) (fun k => ?_) (parts_j2 s f t g l4 l5)
  rw [concordatlaw07_PacketsParts.j1]
  cases mayH s f t with
  | true =>
    rw [if_pos rfl]
    by_cases z : (putOps l4).2 = 1
    · rw [if_pos z, z]
      rfl
    · rw [if_neg z, show ((putOps l4).2 == 1) = false by simpa using z]
      rfl
  | false => rfl
theorem PacketsParts_ev (s f t g : Int) (l4 : List OpT) (l5 : List ResultT) (hl : listsOk l4 l5) : ∃ k, concordatlaw07_PacketsParts.f k s f t g l4 l5 = some true := by
  refine Ev.rounds (g := fun k => concordatlaw07_PacketsParts.f k s f t g l4 l5) ?_
  obtain ⟨n, hn, n0, n1, n2⟩ := msgSize7 s f t g l4 l5 hl
  unfold concordatlaw07_PacketsParts.f concordatlaw07_alive.f
  simp only [Option.bind_some, if_true]
  refine Ev.bind hn ?_
  by_cases c : n > 5000
  · rw [decide_eq_true c]
    refine Ev.step (f := fun _ => some true) (fun k => ?_) (Ev.now _)
    rw [concordatlaw07_PacketsParts.j0, if_pos rfl]
    rfl
  rw [decide_eq_false c]
  have r1 := n2 (by omega)
  have hr := room_of l4 l5 (by omega) (by omega) (rows_in hl)
  refine Ev.step (f := fun k => (rows_PutOps.f k l4).bind fun p => ((rows_PutResults.f k l5).bind fun q => concordatlaw07_PacketsParts.j1 k (putP s f t g l4 l5).1 (putP s f t g l4 l5).2 p.1 p.2 q.1 q.2 (mayH s f t) s f t g l4 l5)) (fun k => ?_) (Ev.bind (ev_putOps l4 (by omega)) (Ev.bind (ev_putResults l5 (by omega) (rows_in hl)) (parts_j1 s f t g l4 l5)))
  rw [concordatlaw07_PacketsParts.j0, if_neg (by decide), put_f hr]
  simp only [Option.bind_some]
  refine congrArg _ (funext fun p => congrArg _ (funext fun q => ?_))
  unfold mayH
  by_cases c0 : s ≥ 1
  · rw [if_pos c0, decide_eq_true (show 1 ≤ s from c0)]
    by_cases c1 : s ≤ 7
    · rw [if_pos c1, decide_eq_true c1]
      by_cases c2 : f ≤ 3
      · rw [if_pos c2, decide_eq_true (show f < 4 by omega), show decide (t ≤ 3) = decide (t < 4) by rw [decide_eq_decide]; omega]
        rfl
      · rw [if_neg c2, decide_eq_false (show ¬ f < 4 by omega)]
        rfl
    · rw [if_neg c1, decide_eq_false c1]
      rfl
  · rw [if_neg c0, decide_eq_false (show ¬ 1 ≤ s from c0)]
    rfl
end Go.Proofs.YtcohodkpppmaoaaDoor.Q
