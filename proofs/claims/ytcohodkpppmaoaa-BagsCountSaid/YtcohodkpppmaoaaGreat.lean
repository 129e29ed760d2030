/-
  concordatlaw08.great: it answers.
-/
import Derived.Test.YtcohodkpppmaoaaQG1
import Derived.Test.YtcohodkpppmaoaaAlive8
namespace Go.Proofs.Ytcohodkpppmaoaa.Q
open Go.RowKit Go.Proofs.YtcohodkpppmaoaaW.PrintWords Go.Proofs.YtcohodkpppmaoaaW.PrintLast Go.Proofs.YtcohodkpppmaoaaW.PrintMore
set_option linter.unusedVariables false
abbrev ActT := S58
theorem great_from (l : List ActT) (hl : l.length ≤ many) (hm : ∀ a ∈ l, msgOk a.f1) (d : Nat) : ∀ (i : Nat) (n : Int), i ≤ l.length → l.length - i = d → 0 ≤ n → n ≤ 3000 → ∃ r, Ev (fun k => concordatlaw08_great.l0 k l n (i : Int)) r := by
  induction d with
  | zero =>
    intro i n h0 h1 h2 h3
    refine ⟨decide ((l.length : Int) > 300), Ev.step (f := fun _ => some (decide ((l.length : Int) > 300))) (fun k => ?_) (Ev.now _)⟩
    simp only [concordatlaw08_great.l0]
    rw [if_neg (by omega)]
  | succ d ih =>
    intro i n h0 h1 h2 h3
    have hi : i < l.length := by omega
    have hx : rd_T58 l i ∈ l := by
      unfold rd_T58
      rw [Int.toNat_natCast, List.getD_eq_getElem?_getD, List.getElem?_eq_getElem hi]
      exact List.getElem_mem _
    obtain ⟨t, ht, t0, t1⟩ := ev_MsgSize _ (hm _ hx)
    have e1 : wrap64 (wrap64 (n + 1) + t) = n + 1 + t := by rw [wrap_id (n + 1) (by omega) (by omega), wrap_id _ (by omega) (by omega)]
    have e2 : wrap64 ((i : Int) + 1) = ((i + 1 : Nat) : Int) := by
      have : (i : Int) < 9223372036854775807 := by unfold many at hl; omega
      rw [wrap_id _ (by omega) (by omega)]
      omega
    by_cases c : n + 1 + t > 3000
    · refine ⟨true, Ev.step (f := fun k => (concordatlaw01_MsgSize.f k ((rd_T58 l i).f1.f0) ((rd_T58 l i).f1.f1) ((rd_T58 l i).f1.f2) ((rd_T58 l i).f1.f3) ((rd_T58 l i).f1.f4) ((rd_T58 l i).f1.f5)).bind fun t138 => (if (wrap64 ((wrap64 (n + 1)) + t138)) > 3000 then (some true) else (concordatlaw08_great.l0 k l (wrap64 ((wrap64 (n + 1)) + t138)) (wrap64 ((i : Int) + 1))))) (fun k => ?_) ?_⟩
      · simp only [concordatlaw08_great.l0]
        rw [if_pos (by omega), if_pos (by omega)]
      · refine Ev.bind ht ?_
        rw [e1]
        exact Ev.step (f := fun _ => some true) (fun k => by rw [if_pos c]) (Ev.now _)
    · obtain ⟨s, he⟩ := ih (i + 1) (n + 1 + t) (by omega) (by omega) (by omega) (by omega)
      refine ⟨s, Ev.step (f := fun k => (concordatlaw01_MsgSize.f k ((rd_T58 l i).f1.f0) ((rd_T58 l i).f1.f1) ((rd_T58 l i).f1.f2) ((rd_T58 l i).f1.f3) ((rd_T58 l i).f1.f4) ((rd_T58 l i).f1.f5)).bind fun t138 => (if (wrap64 ((wrap64 (n + 1)) + t138)) > 3000 then (some true) else (concordatlaw08_great.l0 k l (wrap64 ((wrap64 (n + 1)) + t138)) (wrap64 ((i : Int) + 1))))) (fun k => ?_) ?_⟩
      · simp only [concordatlaw08_great.l0]
        rw [if_pos (by omega), if_pos (by omega)]
      · refine Ev.bind ht ?_
        rw [e1, e2]
        simp only [if_neg c]
        exact he
theorem great_any (l : List ActT) (hl : l.length ≤ many) (hm : ∀ a ∈ l, msgOk a.f1) : ∃ r, ∀ (w : World) (A : Option Addr) (c : Nat), k58.C w A l.length l → l.length ≤ c →
    Calls Try.prog 30 #[.slice A l.length c] w fun e w' => e = .returned (.bool r) ∧ Below w.heap.size w w' := by
  obtain ⟨r, hr⟩ := great_from l hl hm l.length 0 0 (by omega) (by omega) (by omega) (by omega)
  obtain ⟨K, hK⟩ := (show Ev (fun k => concordatlaw08_great.f k l) r from hr).rounds
  exact ⟨r, fun w A c h hc => concordatlaw08_great.calls K A c l r w h hc hK⟩
end Go.Proofs.Ytcohodkpppmaoaa.Q
