/-
  concordatref01.Digits and Marker, walked: a number's digits.
-/
import Derived.Test.YtcohodkpppmaoaaDoorQT0
import Derived.Test.YtcohodkpppmaoaaDoorMarker
import Derived.Deep.RegionHeld3
import Derived.IntWalk
namespace Go.Proofs.YtcohodkpppmaoaaDoor.Q
open Go.RowKit Go.Proofs.YtcohodkpppmaoaaDoorW.PrintWords Go.Proofs.YtcohodkpppmaoaaDoorW.PrintLast Go.Proofs.YtcohodkpppmaoaaDoorW.PrintMore
set_option linter.unusedVariables false

def decStr (n : Nat) : ByteArray := ⟨(Lib.decDigits n).toArray⟩
theorem dec_piece (r : Nat) (h : r < 10) : (⟨#[48, 49, 50, 51, 52, 53, 54, 55, 56, 57]⟩ : ByteArray).extract r (r + 1) = decStr r := by
  unfold decStr
  rw [Lib.decDigits_one h]
  match r, h with
  | 0, _ => decide
  | 1, _ => decide
  | 2, _ => decide
  | 3, _ => decide
  | 4, _ => decide
  | 5, _ => decide
  | 6, _ => decide
  | 7, _ => decide
  | 8, _ => decide
  | 9, _ => decide
theorem dec_step (n : Nat) (h : ¬ n < 10) : decStr n = decStr (n / 10) ++ decStr (n % 10) := by
  unfold decStr
  rw [Lib.decDigits_one (Nat.mod_lt _ (by decide)), Lib.decDigits, dif_neg h]
  rfl
set_option maxHeartbeats 3200000 in
set_option maxRecDepth 100000 in
theorem refDigits_calls : ∀ (g : Nat) (hg : g ≤ 4294967295) (w : World), Calls Tryd.prog 42 #[.int .u32 g] w fun e w' => e = .returned (.string (decStr g)) ∧ Below w.heap.size w w' := by
  intro g
  induction g using Nat.strongRecOn with
  | ind g ih =>
    intro hg w
    by_cases h : g < 10
    · have h' : (g : Int) < 10 := by omega
      have h0 : (0 : Int) ≤ (g : Int) := by omega
      have h1 : (g : Int) ≤ (g : Int) + 1 := by omega
      have h2 : (g : Int) + 1 ≤ 10 := by omega
      have hw : IntKind.u32.wrap ((g : Int) + 1) = (g : Int) + 1 := by rw [IntKind.wrap_u32]; omega
      have hp := dec_piece g h
      clear ih
      go_enter Tryd.func42, Tryd.ntmps42
      go_wp2
      go_ret
      exact ⟨rfl, Below.refl _ _⟩
    · have h' : ¬ (g : Int) < 10 := by omega
      obtain ⟨q, hq⟩ : ∃ q, g / 10 = q := ⟨_, rfl⟩
      obtain ⟨r, hr⟩ : ∃ r, g % 10 = r := ⟨_, rfl⟩
      have hr10 : r < 10 := by omega
      have hs := dec_step g h
      have hlt : q < g := by omega
      have IH := Aside0.mk (ih q hlt (by omega))
      rw [hq, hr] at hs
      have hp := dec_piece r hr10
      have e1 : Int.tdiv (g : Int) 10 = (q : Int) := by rw [Int.tdiv_eq_ediv_of_nonneg (by omega)]; omega
      have e2 : Int.tmod (g : Int) 10 = (r : Int) := by rw [Int.tmod_eq_emod_of_nonneg (by omega)]; omega
      have e3 : (g : Int) / 10 = (q : Int) := by omega
      have e4 : (g : Int) % 10 = (r : Int) := by omega
      have w1 : IntKind.u32.wrap (q : Int) = (q : Int) := by rw [IntKind.wrap_u32]; omega
      have w2 : IntKind.u32.wrap (r : Int) = (r : Int) := by rw [IntKind.wrap_u32]; omega
      have w3 : IntKind.u32.wrap ((r : Int) + 1) = (r : Int) + 1 := by rw [IntKind.wrap_u32]; omega
      have b0 : (0 : Int) ≤ (r : Int) := by omega
      have b1 : (r : Int) ≤ (r : Int) + 1 := by omega
      have b2 : (r : Int) + 1 ≤ 10 := by omega
      have z1 : (decStr q).size ≤ 20 := by
        have := digits_few q (by omega)
        exact this
      have z2 : (decStr r).size ≤ 20 := by
        have := digits_few r (by omega)
        exact this
      have hadd : ∀ W : World, (Op.stringOp .add (decStr q) (decStr r)).run Tryd.prog W = .ok (.string (decStr q ++ decStr r)) W := fun W => run_string_add_sum W _ _ (by omega)
      have HS := Aside0.mk hs
      clear ih hs hq hr hlt z1 z2 hr10
      go_enter Tryd.func42, Tryd.ntmps42
      go_wp2_with fail
      first
        | (go_region_held3 (fun _ : World => True) (exact trivial) (first
            | (go_at_call 42; refine (IH.out _).mono ?_; rintro e w' ⟨rfl, hb⟩; have BB := Aside0.mk (below_step (below_drew1 (Below.refl w.heap.size w)) hb); clear hb))
           all_goals
             go_wp2
             go_ret
             exact ⟨by rw [HS.out]; rfl, BB.out⟩)
        | fail "held3"
set_option maxRecDepth 100000 in
theorem refMarker_calls (g : Int) (h0 : 0 ≤ g) (h1 : g ≤ 4294967295) (w : World) : Calls Tryd.prog 24 #[.int .u32 g] w fun e w' => e = .returned (.string (markerOf g)) ∧ Below w.heap.size w w' := by
  obtain ⟨n, rfl⟩ := Int.eq_ofNat_of_zero_le h0
  have z : (decStr n).size ≤ 20 := digits_few n (by omega)
  have hadd : ∀ W : World, (Op.stringOp .add (⟨#[95, 109]⟩ : ByteArray) (decStr n)).run Tryd.prog W = .ok (.string ((⟨#[95, 109]⟩ : ByteArray) ++ decStr n)) W := fun W => run_string_add_sum W _ _ (by show 2 + (decStr n).size ≤ _; omega)
  have he : markerOf (n : Int) = (⟨#[95, 109]⟩ : ByteArray) ++ decStr n := rfl
  clear z
  go_enter Tryd.func24, Tryd.ntmps24
  go_wp2_with fail
  refine (refDigits_calls n (by omega) _).mono ?_
  rintro e w' ⟨rfl, hb⟩
  have BB := Aside0.mk hb
  clear hb
  go_wp2
  go_ret
  exact ⟨by rw [he]; rfl, BB.out⟩
end Go.Proofs.YtcohodkpppmaoaaDoor.Q
