/-
  PacketsBack, pure: a message that is put is got; what is got may be, and is put as it was.
-/
import Derived.Test.YtcohodkpppmaoaaDoorQLpacketsback1
import Derived.Test.YtcohodkpppmaoaaDoorPurePS
namespace Go.Proofs.YtcohodkpppmaoaaDoor.Q
open Go.RowKit Go.Proofs.YtcohodkpppmaoaaDoorW.PrintWords Go.Proofs.YtcohodkpppmaoaaDoorW.PrintLast Go.Proofs.YtcohodkpppmaoaaDoorW.PrintMore
set_option linter.unusedVariables false
theorem back7_j1 (b : List Int) (hb : inB b) (hl : b.length ≤ 9223372036854775807) : Ev (fun k => concordatlaw07_PacketsBack.j1 k b) true := by
  obtain ⟨s, f, t, g, l4, l5, e, hq⟩ : ∃ s f t g l4 l5 e, getP b = (s, f, t, g, l4, l5, e) := ⟨_, _, _, _, _, _, _, rfl⟩
  rcases got_put hb hq with ⟨rfl, rfl, rfl, rfl⟩ | ⟨rfl, hp, hr⟩
  · refine Ev.step (f := fun _ => some true) (fun k => ?_) (Ev.now _)
    rw [concordatlaw07_PacketsBack.j1, get_f hb, hq]
    rfl
  · refine Ev.step (f := fun k => (concordatlaw01_SameBytes.f k b b).bind fun t263 => (some t263)) (fun k => ?_) (Ev.bind (ev_eq (decide_eq_true rfl) (ev_SameBytes b b hl)) (Ev.now _))
    rw [concordatlaw07_PacketsBack.j1, get_f hb, hq]
    simp only [Option.bind_some, if_true]
    rw [put_f hr, hp]
    rfl
theorem PacketsBack_ev (s f t g : Int) (l4 : List OpT) (l5 : List ResultT) (b : List Int) (ht : textOk s f t g) (hl : listsOk l4 l5) (h4 : ∀ x ∈ l4, opOk x) (h5 : ∀ x ∈ l5, resultOk x) (hb : inB b) (hbl : b.length ≤ 9223372036854775807) :
    ∃ k, concordatlaw07_PacketsBack.f k s f t g l4 l5 b = some true := by
  refine Ev.rounds (g := fun k => concordatlaw07_PacketsBack.f k s f t g l4 l5 b) ?_
  obtain ⟨n, hn, n0, n1, n2⟩ := msgSize7 s f t g l4 l5 hl
  unfold concordatlaw07_PacketsBack.f concordatlaw07_alive.f
  simp only [Option.bind_some, if_true]
  have jt : Ev (fun k => concordatlaw07_PacketsBack.j0 k b true s f t g l4 l5) true := by
    refine Ev.step (f := fun _ => some true) (fun k => ?_) (Ev.now _)
    rw [concordatlaw07_PacketsBack.j0, if_pos rfl]
    rfl
  refine Ev.bind hn ?_
  by_cases c : n > 5000
  · simp only [if_pos c]
    exact jt
  simp only [if_neg c]
  by_cases c2 : (b.length : Int) > 100000
  · rw [decide_eq_true c2]
    exact jt
  rw [decide_eq_false c2]
  have r1 := n2 (by omega)
  have hr := room_of l4 l5 (by omega) (by omega) (rows_in hl)
  by_cases e1 : (putP s f t g l4 l5).2 = 0
  · have g1 := get_put ht.2.2.2 h4 h5 e1
    have hm := mayH_iff.1 (put_zero e1).1
    have hi := put_inP ht.1.1 ht.2.1.1 ht.2.2.1.1 h4 h5 e1
    obtain ⟨u, hu, hv⟩ := ev_SameMsg s f t g l4 l5 s f t g l4 l5 (long_in hl).1 (long_in hl).2 (rows_in hl)
    obtain rfl : u = true := hv.2 ⟨rfl, rfl, rfl, rfl, rfl, rfl⟩
    refine Ev.step (f := fun k => (concordatlaw01_SameMsg.f k s f t g l4 l5 s f t g l4 l5).bind fun t246 => (if t246 = true then (if s < 1 then (some false) else (if s > 7 then (some false) else (if f > 3 then (some false) else (if t > 3 then (some false) else (concordatlaw07_PacketsBack.j1 k b))))) else (some false))) (fun k => ?_) (Ev.bind hu ?_)
    · rw [concordatlaw07_PacketsBack.j0, if_neg (by decide), put_f hr]
      simp only [Option.bind_some]
      rw [if_pos e1, get_f hi, g1]
      rfl
    · simp only [if_true]
      simp only [if_neg (show ¬ s < 1 by omega), if_neg (show ¬ s > 7 by omega), if_neg (show ¬ f > 3 by omega), if_neg (show ¬ t > 3 by omega)]
      exact back7_j1 b hb hbl
  · obtain ⟨k1, k2⟩ := put_code e1
    refine Ev.step (f := fun k => concordatlaw07_PacketsBack.j1 k b) (fun k => ?_) (back7_j1 b hb hbl)
    rw [concordatlaw07_PacketsBack.j0, if_neg (by decide), put_f hr]
    simp only [Option.bind_some]
    rw [if_neg e1, k1, if_pos (show (([] : List Int).length : Int) = 0 from rfl)]
    rcases k2 with c | c
    · rw [if_pos c]
    · rw [if_neg (by omega), if_pos c]
end Go.Proofs.YtcohodkpppmaoaaDoor.Q
