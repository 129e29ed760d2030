-- Written by a program of this session (wip/qprint.py) out of the translation; Lean checks it.
import Derived.Test.YtcohodkpppmaoaaDoorQT0
import Derived.Test.YtcohodkpppmaoaaDoorKeys
import Derived.Test.YtcohodkpppmaoaaDoorMarker
import Derived.Test.YtcohodkpppmaoaaDoorQK1
namespace Go.Proofs.YtcohodkpppmaoaaDoor.Q
open Go.RowKit Go.Proofs.YtcohodkpppmaoaaDoorW.PrintWords Go.Proofs.YtcohodkpppmaoaaDoorW.PrintLast Go.Proofs.YtcohodkpppmaoaaDoorW.PrintMore
attribute [local go_sem] max2_int min2_int max_two min_two max_three min_three max_four min_four   -- for this text's walks alone
set_option linter.unusedVariables false
set_option linter.unusedSimpArgs false

/-! ### concordatlaw01_KeysMarkers: function 6 -/
mutual
def concordatlaw01_KeysMarkers.j0 : Nat → Int → ByteArray → Bool → Option (Bool)
  | 0, _, _, _ => none
  | k + 1, x0, x5, x51 => if x51 = true then (some false) else (concordatlaw01_KeysMarkers.l0 k x0 x5 0 2)
def concordatlaw01_KeysMarkers.l0 : Nat → Int → ByteArray → Int → Int → Option (Bool)
  | 0, _, _, _, _ => none
  | k + 1, x0, x5, x6, x7 => if x7 < (x5.size : Int) then (if 0 ≤ x7 then (if (bt x5 x7) < 48 then (some false) else (if (bt x5 x7) > 57 then (some false) else (concordatlaw01_KeysMarkers.l0 k x0 x5 (IntKind.u64.wrap ((IntKind.u64.wrap (10 * x6)) + (((bt x5 x7) - 48) % 256))) (wrap64 (x7 + 1))))) else (none)) else (some (x6 == (IntKind.u64.wrap (x0))))
end
def concordatlaw01_KeysMarkers.f (k : Nat) (a0 : Int) (a1 : Int) : Option (Bool) := (keys_Marker.f a0).bind fun t140 => ((concordatlaw01_alive.f).bind fun t141 => (if t141 = true then ((keys_Check.f t140).bind fun t142 => (if t142 = true then ((keys_Reserved.f t140).bind fun t143 => (if t143 = true then ((keys_Marker.f a1).bind fun t144 => (if ((t140.toList == t144.toList) != (a0 == a1)) = true then (concordatlaw01_KeysMarkers.j0 k a0 t140 true) else (if (t140.size : Int) < 3 then (concordatlaw01_KeysMarkers.j0 k a0 t140 true) else (if 2 ≤ (t140.size : Int) then (if (t140.extract 0 2).toList = ([95, 109] : List UInt8) then (if (t140.size : Int) > 3 then (if 2 < (t140.size : Int) then (concordatlaw01_KeysMarkers.j0 k a0 t140 ((bt t140 2) == 48)) else (none)) else (concordatlaw01_KeysMarkers.j0 k a0 t140 false)) else (concordatlaw01_KeysMarkers.j0 k a0 t140 true)) else (none))))) else (concordatlaw01_KeysMarkers.j0 k a0 t140 true))) else (concordatlaw01_KeysMarkers.j0 k a0 t140 true))) else (concordatlaw01_KeysMarkers.j0 k a0 t140 true)))
theorem concordatlaw01_KeysMarkers.mono_l : ∀ k, (∀ y0 y1 y2, LeO (concordatlaw01_KeysMarkers.j0 k y0 y1 y2) (concordatlaw01_KeysMarkers.j0 (k + 1) y0 y1 y2)) ∧ (∀ y0 y1 y2 y3, LeO (concordatlaw01_KeysMarkers.l0 k y0 y1 y2 y3) (concordatlaw01_KeysMarkers.l0 (k + 1) y0 y1 y2 y3))
  | 0 => ⟨fun _ _ _ r h => by simp [concordatlaw01_KeysMarkers.j0] at h, fun _ _ _ _ r h => by simp [concordatlaw01_KeysMarkers.l0] at h⟩
  | k + 1 => by
    obtain ⟨ih0, ih1⟩ := concordatlaw01_KeysMarkers.mono_l k
    refine ⟨?_, ?_⟩
    · intro y0 y1 y2
      unfold concordatlaw01_KeysMarkers.j0
      repeat' first
      | (with_reducible exact ih0 _ _ _)
      | (with_reducible exact ih1 _ _ _ _)
      | (with_reducible exact LeO.refl _)
      | (with_reducible exact LeO.none _)
      | (with_reducible refine LeO.ite ?_ ?_)
      | (with_reducible refine LeO.bind ?_ (fun _ => ?_))
      | exact ih0 _ _ _
      | exact ih1 _ _ _ _
      | exact LeO.none _
      | refine LeO.ite ?_ ?_
      | refine LeO.bind ?_ (fun _ => ?_)
    · intro y0 y1 y2 y3
      unfold concordatlaw01_KeysMarkers.l0
      repeat' first
      | (with_reducible exact ih0 _ _ _)
      | (with_reducible exact ih1 _ _ _ _)
      | (with_reducible exact LeO.refl _)
      | (with_reducible exact LeO.none _)
      | (with_reducible refine LeO.ite ?_ ?_)
      | (with_reducible refine LeO.bind ?_ (fun _ => ?_))
      | exact ih0 _ _ _
      | exact ih1 _ _ _ _
      | exact LeO.none _
      | refine LeO.ite ?_ ?_
      | refine LeO.bind ?_ (fun _ => ?_)
theorem concordatlaw01_KeysMarkers.mono : ∀ a0 a1 k, LeO (concordatlaw01_KeysMarkers.f k a0 a1) (concordatlaw01_KeysMarkers.f (k + 1) a0 a1) := by
  intro a0 a1 k
  obtain ⟨ih0, ih1⟩ := concordatlaw01_KeysMarkers.mono_l k
  unfold concordatlaw01_KeysMarkers.f
  repeat' first
      | (with_reducible exact ih0 _ _ _)
      | (with_reducible exact ih1 _ _ _ _)
      | (with_reducible exact LeO.refl _)
      | (with_reducible exact LeO.none _)
      | (with_reducible refine LeO.ite ?_ ?_)
      | (with_reducible refine LeO.bind ?_ (fun _ => ?_))
      | exact ih0 _ _ _
      | exact ih1 _ _ _ _
      | exact LeO.none _
      | refine LeO.ite ?_ ?_
      | refine LeO.bind ?_ (fun _ => ?_)
set_option maxHeartbeats 8000000 in
set_option maxRecDepth 100000 in
theorem concordatlaw01_KeysMarkers.calls (k : Nat) (a0 : Int) (a1 : Int) (r : Bool) (w : World) (h : concordatlaw01_KeysMarkers.f k a0 a1 = some r) (hT0_ : TabOk w) :
    Calls Tryd.prog 6 #[.int .u32 a0, .int .u32 a1] w fun e w' => e = .returned (.bool r) ∧ Below w.heap.size w w' := by
  have HT_ := Aside0.mk hT0_
  clear hT0_
  have HB := Aside0.mk (Below.refl w.heap.size w)
  have H : ((keys_Marker.f a0).bind fun t140 => ((concordatlaw01_alive.f).bind fun t141 => (if t141 = true then ((keys_Check.f t140).bind fun t142 => (if t142 = true then ((keys_Reserved.f t140).bind fun t143 => (if t143 = true then ((keys_Marker.f a1).bind fun t144 => (if ((t140.toList == t144.toList) != (a0 == a1)) = true then (concordatlaw01_KeysMarkers.j0 k a0 t140 true) else (if (t140.size : Int) < 3 then (concordatlaw01_KeysMarkers.j0 k a0 t140 true) else (if 2 ≤ (t140.size : Int) then (if (t140.extract 0 2).toList = ([95, 109] : List UInt8) then (if (t140.size : Int) > 3 then (if 2 < (t140.size : Int) then (concordatlaw01_KeysMarkers.j0 k a0 t140 ((bt t140 2) == 48)) else (none)) else (concordatlaw01_KeysMarkers.j0 k a0 t140 false)) else (concordatlaw01_KeysMarkers.j0 k a0 t140 true)) else (none))))) else (concordatlaw01_KeysMarkers.j0 k a0 t140 true))) else (concordatlaw01_KeysMarkers.j0 k a0 t140 true))) else (concordatlaw01_KeysMarkers.j0 k a0 t140 true)))) = some r := h
  clear h
  replace H := Option.bind_eq_some_iff.mp H
  obtain ⟨t140, A30, H⟩ := H
  replace H : ((concordatlaw01_alive.f).bind fun t141 => (if t141 = true then ((keys_Check.f t140).bind fun t142 => (if t142 = true then ((keys_Reserved.f t140).bind fun t143 => (if t143 = true then ((keys_Marker.f a1).bind fun t144 => (if ((t140.toList == t144.toList) != (a0 == a1)) = true then (concordatlaw01_KeysMarkers.j0 k a0 t140 true) else (if (t140.size : Int) < 3 then (concordatlaw01_KeysMarkers.j0 k a0 t140 true) else (if 2 ≤ (t140.size : Int) then (if (t140.extract 0 2).toList = ([95, 109] : List UInt8) then (if (t140.size : Int) > 3 then (if 2 < (t140.size : Int) then (concordatlaw01_KeysMarkers.j0 k a0 t140 ((bt t140 2) == 48)) else (none)) else (concordatlaw01_KeysMarkers.j0 k a0 t140 false)) else (concordatlaw01_KeysMarkers.j0 k a0 t140 true)) else (none))))) else (concordatlaw01_KeysMarkers.j0 k a0 t140 true))) else (concordatlaw01_KeysMarkers.j0 k a0 t140 true))) else (concordatlaw01_KeysMarkers.j0 k a0 t140 true))) = some r := H
  have A3 := Aside0.mk A30
  clear A30
  have HC4 := Aside0.mk H
  clear H
  go_enter Tryd.func6, Tryd.ntmps6
  go_upto_region 2 with (first | ((with_reducible refine gate_callee (f := 23) rfl ?_); refine goesL_ (some 9) rfl rfl Tryd.func23 (by kernel_rfl) rfl #[.int .u32 a0] rfl (by (try simp only [List.map_toArray, List.map_cons, List.map_nil]); first | done | rfl | (simp only [List.length_drop, List.length_take]; rfl)) ?_; (with_reducible refine (keys_Marker.calls a0 t140 _ A3.out ?tabw_).mono ?_); (case tabw_ => exact TabOk.below HT_.out (by repeat (first | (with_reducible first | exact HB.out | apply below_alloc | apply pw_below_drewN | apply below_drew1) | exact HB.out))); rintro e w5 ⟨rfl, hb⟩; refine ⟨_, rfl, ?_⟩; have n0_ := Aside0.mk (below_step (by repeat (first | (with_reducible first | exact HB.out | apply below_alloc | apply pw_below_drewN | apply below_drew1) | exact HB.out)) hb); clear HB; have HB := n0_; clear n0_; (try clear hb); (try clear hb2); (try clear hk); (try clear hi)))
  (try simp only [Act.put, List.setIfInBounds_toArray, List.set_cons_zero, List.set_cons_succ])
  go_cut [51] (fun v51 wc => ∃ (kq : Nat) (x51_3 : Bool), v51 = .bool x51_3 ∧ Aside0 (concordatlaw01_KeysMarkers.j0 kq a0 t140 x51_3 = some r) ∧ Aside0 (kq ≤ k) ∧ Aside0 (Below w.heap.size w wc))
  case first =>
    have H := HC4.out
    clear HC4
    replace H := Option.bind_eq_some_iff.mp H
    obtain ⟨t141, A60, H⟩ := H
    replace H : (if t141 = true then ((keys_Check.f t140).bind fun t142 => (if t142 = true then ((keys_Reserved.f t140).bind fun t143 => (if t143 = true then ((keys_Marker.f a1).bind fun t144 => (if ((t140.toList == t144.toList) != (a0 == a1)) = true then (concordatlaw01_KeysMarkers.j0 k a0 t140 true) else (if (t140.size : Int) < 3 then (concordatlaw01_KeysMarkers.j0 k a0 t140 true) else (if 2 ≤ (t140.size : Int) then (if (t140.extract 0 2).toList = ([95, 109] : List UInt8) then (if (t140.size : Int) > 3 then (if 2 < (t140.size : Int) then (concordatlaw01_KeysMarkers.j0 k a0 t140 ((bt t140 2) == 48)) else (none)) else (concordatlaw01_KeysMarkers.j0 k a0 t140 false)) else (concordatlaw01_KeysMarkers.j0 k a0 t140 true)) else (none))))) else (concordatlaw01_KeysMarkers.j0 k a0 t140 true))) else (concordatlaw01_KeysMarkers.j0 k a0 t140 true))) else (concordatlaw01_KeysMarkers.j0 k a0 t140 true)) = some r := H
    have A6 := Aside0.mk A60
    clear A60
    by_cases c7 : t141 = true
    · subst c7
      have H1 : ((keys_Check.f t140).bind fun t142 => (if t142 = true then ((keys_Reserved.f t140).bind fun t143 => (if t143 = true then ((keys_Marker.f a1).bind fun t144 => (if ((t140.toList == t144.toList) != (a0 == a1)) = true then (concordatlaw01_KeysMarkers.j0 k a0 t140 true) else (if (t140.size : Int) < 3 then (concordatlaw01_KeysMarkers.j0 k a0 t140 true) else (if 2 ≤ (t140.size : Int) then (if (t140.extract 0 2).toList = ([95, 109] : List UInt8) then (if (t140.size : Int) > 3 then (if 2 < (t140.size : Int) then (concordatlaw01_KeysMarkers.j0 k a0 t140 ((bt t140 2) == 48)) else (none)) else (concordatlaw01_KeysMarkers.j0 k a0 t140 false)) else (concordatlaw01_KeysMarkers.j0 k a0 t140 true)) else (none))))) else (concordatlaw01_KeysMarkers.j0 k a0 t140 true))) else (concordatlaw01_KeysMarkers.j0 k a0 t140 true))) = some r := by rw [if_pos rfl] at H; exact H
      clear H
      have H := H1
      clear H1
      replace H := Option.bind_eq_some_iff.mp H
      obtain ⟨t142, A80, H⟩ := H
      replace H : (if t142 = true then ((keys_Reserved.f t140).bind fun t143 => (if t143 = true then ((keys_Marker.f a1).bind fun t144 => (if ((t140.toList == t144.toList) != (a0 == a1)) = true then (concordatlaw01_KeysMarkers.j0 k a0 t140 true) else (if (t140.size : Int) < 3 then (concordatlaw01_KeysMarkers.j0 k a0 t140 true) else (if 2 ≤ (t140.size : Int) then (if (t140.extract 0 2).toList = ([95, 109] : List UInt8) then (if (t140.size : Int) > 3 then (if 2 < (t140.size : Int) then (concordatlaw01_KeysMarkers.j0 k a0 t140 ((bt t140 2) == 48)) else (none)) else (concordatlaw01_KeysMarkers.j0 k a0 t140 false)) else (concordatlaw01_KeysMarkers.j0 k a0 t140 true)) else (none))))) else (concordatlaw01_KeysMarkers.j0 k a0 t140 true))) else (concordatlaw01_KeysMarkers.j0 k a0 t140 true)) = some r := H
      have A8 := Aside0.mk A80
      clear A80
      by_cases c9 : t142 = true
      · subst c9
        have H1 : ((keys_Reserved.f t140).bind fun t143 => (if t143 = true then ((keys_Marker.f a1).bind fun t144 => (if ((t140.toList == t144.toList) != (a0 == a1)) = true then (concordatlaw01_KeysMarkers.j0 k a0 t140 true) else (if (t140.size : Int) < 3 then (concordatlaw01_KeysMarkers.j0 k a0 t140 true) else (if 2 ≤ (t140.size : Int) then (if (t140.extract 0 2).toList = ([95, 109] : List UInt8) then (if (t140.size : Int) > 3 then (if 2 < (t140.size : Int) then (concordatlaw01_KeysMarkers.j0 k a0 t140 ((bt t140 2) == 48)) else (none)) else (concordatlaw01_KeysMarkers.j0 k a0 t140 false)) else (concordatlaw01_KeysMarkers.j0 k a0 t140 true)) else (none))))) else (concordatlaw01_KeysMarkers.j0 k a0 t140 true))) = some r := by rw [if_pos rfl] at H; exact H
        clear H
        have H := H1
        clear H1
        replace H := Option.bind_eq_some_iff.mp H
        obtain ⟨t143, A100, H⟩ := H
        replace H : (if t143 = true then ((keys_Marker.f a1).bind fun t144 => (if ((t140.toList == t144.toList) != (a0 == a1)) = true then (concordatlaw01_KeysMarkers.j0 k a0 t140 true) else (if (t140.size : Int) < 3 then (concordatlaw01_KeysMarkers.j0 k a0 t140 true) else (if 2 ≤ (t140.size : Int) then (if (t140.extract 0 2).toList = ([95, 109] : List UInt8) then (if (t140.size : Int) > 3 then (if 2 < (t140.size : Int) then (concordatlaw01_KeysMarkers.j0 k a0 t140 ((bt t140 2) == 48)) else (none)) else (concordatlaw01_KeysMarkers.j0 k a0 t140 false)) else (concordatlaw01_KeysMarkers.j0 k a0 t140 true)) else (none))))) else (concordatlaw01_KeysMarkers.j0 k a0 t140 true)) = some r := H
        have A10 := Aside0.mk A100
        clear A100
        by_cases c11 : t143 = true
        · subst c11
          have H1 : ((keys_Marker.f a1).bind fun t144 => (if ((t140.toList == t144.toList) != (a0 == a1)) = true then (concordatlaw01_KeysMarkers.j0 k a0 t140 true) else (if (t140.size : Int) < 3 then (concordatlaw01_KeysMarkers.j0 k a0 t140 true) else (if 2 ≤ (t140.size : Int) then (if (t140.extract 0 2).toList = ([95, 109] : List UInt8) then (if (t140.size : Int) > 3 then (if 2 < (t140.size : Int) then (concordatlaw01_KeysMarkers.j0 k a0 t140 ((bt t140 2) == 48)) else (none)) else (concordatlaw01_KeysMarkers.j0 k a0 t140 false)) else (concordatlaw01_KeysMarkers.j0 k a0 t140 true)) else (none))))) = some r := by rw [if_pos rfl] at H; exact H
          clear H
          have H := H1
          clear H1
          replace H := Option.bind_eq_some_iff.mp H
          obtain ⟨t144, A120, H⟩ := H
          replace H : (if ((t140.toList == t144.toList) != (a0 == a1)) = true then (concordatlaw01_KeysMarkers.j0 k a0 t140 true) else (if (t140.size : Int) < 3 then (concordatlaw01_KeysMarkers.j0 k a0 t140 true) else (if 2 ≤ (t140.size : Int) then (if (t140.extract 0 2).toList = ([95, 109] : List UInt8) then (if (t140.size : Int) > 3 then (if 2 < (t140.size : Int) then (concordatlaw01_KeysMarkers.j0 k a0 t140 ((bt t140 2) == 48)) else (none)) else (concordatlaw01_KeysMarkers.j0 k a0 t140 false)) else (concordatlaw01_KeysMarkers.j0 k a0 t140 true)) else (none)))) = some r := H
          have A12 := Aside0.mk A120
          clear A120
          by_cases c13 : ((t140.toList == t144.toList) != (a0 == a1)) = true
          · rw [if_pos c13] at H
            have c13b0 : ((t140.toList == t144.toList) != (a0 == a1)) = true := c13
            (try (have c13b1 : decide ((t140.toList == t144.toList) = (a0 == a1)) = false := by simpa using c13))
            (try (have c13b2 : ((t140.toList == t144.toList) == (a0 == a1)) = false := by simpa using c13))
            (try (have c13b3 : ¬ ((t140.toList == t144.toList) = (a0 == a1)) := by simpa using c13))
            clear c13
            (first | rw [c13b0] | (simp only [i64_w, i32_w]; rw [c13b0]) | skip)
            have H' := Aside0.mk H
            clear H
            go_wp2_with (first | ((with_reducible refine gate_callee (f := 25) rfl ?_); refine goesL_ (some 10) rfl rfl Tryd.func25 (by kernel_rfl) rfl #[] rfl (by (try simp only [List.map_toArray, List.map_cons, List.map_nil]); first | done | rfl | (simp only [List.length_drop, List.length_take]; rfl)) ?_; (with_reducible refine (concordatlaw01_alive.calls  true _ A6.out ?tabw_).mono ?_); (case tabw_ => exact TabOk.below HT_.out (by repeat (first | (with_reducible first | exact HB.out | apply below_alloc | apply pw_below_drewN | apply below_drew1) | exact HB.out))); rintro e w14 ⟨rfl, hb⟩; refine ⟨_, rfl, ?_⟩; have n0_ := Aside0.mk (below_step (by repeat (first | (with_reducible first | exact HB.out | apply below_alloc | apply pw_below_drewN | apply below_drew1) | exact HB.out)) hb); clear HB; have HB := n0_; clear n0_; (try clear hb); (try clear hb2); (try clear hk); (try clear hi)) | (go_at_call 26; (with_reducible refine (keys_Check.calls t140 true _ A8.out).mono ?_); rintro e w15 ⟨rfl, hb⟩; have n0_ := Aside0.mk (below_step (by repeat (first | (with_reducible first | exact HB.out | apply below_alloc | apply pw_below_drewN | apply below_drew1) | exact HB.out)) hb); clear HB; have HB := n0_; clear n0_; (try clear hb); (try clear hb2); (try clear hk); (try clear hi)) | (go_at_call 27; (with_reducible refine (keys_Reserved.calls t140 true _ A10.out).mono ?_); rintro e w16 ⟨rfl, hb⟩; have n0_ := Aside0.mk (below_step (by repeat (first | (with_reducible first | exact HB.out | apply below_alloc | apply pw_below_drewN | apply below_drew1) | exact HB.out)) hb); clear HB; have HB := n0_; clear n0_; (try clear hb); (try clear hb2); (try clear hk); (try clear hi)) | (go_at_call 23; (with_reducible refine (keys_Marker.calls a1 t144 _ A12.out ?tabw_).mono ?_); (case tabw_ => exact TabOk.below HT_.out (by repeat (first | (with_reducible first | exact HB.out | apply below_alloc | apply pw_below_drewN | apply below_drew1) | exact HB.out))); rintro e w17 ⟨rfl, hb⟩; have n0_ := Aside0.mk (below_step (by repeat (first | (with_reducible first | exact HB.out | apply below_alloc | apply pw_below_drewN | apply below_drew1) | exact HB.out)) hb); clear HB; have HB := n0_; clear n0_; (try clear hb); (try clear hb2); (try clear hk); (try clear hi)))
            go_meet
            case rel => exact ⟨_, (true), (by first | rfl | (simp; done) | (simp [*]; done)), H', ⟨by first | omega | exact Nat.le_refl _⟩, ⟨by repeat (first | (with_reducible first | exact HB.out | apply below_alloc | apply pw_below_drewN | apply below_drew1) | exact HB.out)⟩⟩
          · rw [if_neg c13] at H
            have c13b0 : ((t140.toList == t144.toList) != (a0 == a1)) = false := by simpa using c13
            (try (have c13b1 : decide ((t140.toList == t144.toList) = (a0 == a1)) = true := by simpa using c13))
            (try (have c13b2 : ((t140.toList == t144.toList) == (a0 == a1)) = true := by simpa using c13))
            clear c13
            (first | rw [c13b0] | (simp only [i64_w, i32_w]; rw [c13b0]) | skip)
            by_cases c18 : (t140.size : Int) < 3
            · rw [if_pos c18] at H
              have c18b0 : decide ((t140.size : Int) < 3) = true := decide_eq_true c18
              have c18b1 : decide (t140.size < 3) = true := decide_eq_true (by omega)
              clear c18
              have H' := Aside0.mk H
              clear H
              go_wp2_with (first | ((with_reducible refine gate_callee (f := 25) rfl ?_); refine goesL_ (some 10) rfl rfl Tryd.func25 (by kernel_rfl) rfl #[] rfl (by (try simp only [List.map_toArray, List.map_cons, List.map_nil]); first | done | rfl | (simp only [List.length_drop, List.length_take]; rfl)) ?_; (with_reducible refine (concordatlaw01_alive.calls  true _ A6.out ?tabw_).mono ?_); (case tabw_ => exact TabOk.below HT_.out (by repeat (first | (with_reducible first | exact HB.out | apply below_alloc | apply pw_below_drewN | apply below_drew1) | exact HB.out))); rintro e w19 ⟨rfl, hb⟩; refine ⟨_, rfl, ?_⟩; have n0_ := Aside0.mk (below_step (by repeat (first | (with_reducible first | exact HB.out | apply below_alloc | apply pw_below_drewN | apply below_drew1) | exact HB.out)) hb); clear HB; have HB := n0_; clear n0_; (try clear hb); (try clear hb2); (try clear hk); (try clear hi)) | (go_at_call 26; (with_reducible refine (keys_Check.calls t140 true _ A8.out).mono ?_); rintro e w20 ⟨rfl, hb⟩; have n0_ := Aside0.mk (below_step (by repeat (first | (with_reducible first | exact HB.out | apply below_alloc | apply pw_below_drewN | apply below_drew1) | exact HB.out)) hb); clear HB; have HB := n0_; clear n0_; (try clear hb); (try clear hb2); (try clear hk); (try clear hi)) | (go_at_call 27; (with_reducible refine (keys_Reserved.calls t140 true _ A10.out).mono ?_); rintro e w21 ⟨rfl, hb⟩; have n0_ := Aside0.mk (below_step (by repeat (first | (with_reducible first | exact HB.out | apply below_alloc | apply pw_below_drewN | apply below_drew1) | exact HB.out)) hb); clear HB; have HB := n0_; clear n0_; (try clear hb); (try clear hb2); (try clear hk); (try clear hi)) | (go_at_call 23; (with_reducible refine (keys_Marker.calls a1 t144 _ A12.out ?tabw_).mono ?_); (case tabw_ => exact TabOk.below HT_.out (by repeat (first | (with_reducible first | exact HB.out | apply below_alloc | apply pw_below_drewN | apply below_drew1) | exact HB.out))); rintro e w22 ⟨rfl, hb⟩; have n0_ := Aside0.mk (below_step (by repeat (first | (with_reducible first | exact HB.out | apply below_alloc | apply pw_below_drewN | apply below_drew1) | exact HB.out)) hb); clear HB; have HB := n0_; clear n0_; (try clear hb); (try clear hb2); (try clear hk); (try clear hi)))
              go_meet
              case rel => exact ⟨_, (true), (by first | rfl | (simp; done) | (simp [*]; done)), H', ⟨by first | omega | exact Nat.le_refl _⟩, ⟨by repeat (first | (with_reducible first | exact HB.out | apply below_alloc | apply pw_below_drewN | apply below_drew1) | exact HB.out)⟩⟩
            · rw [if_neg c18] at H
              have c18b0 : decide ((t140.size : Int) < 3) = false := decide_eq_false c18
              have c18b1 : decide (t140.size < 3) = false := decide_eq_false (by omega)
              clear c18
              by_cases c23 : 2 ≤ (t140.size : Int)
              · rw [if_pos c23] at H
                have c23b0 := eq_true c23
                have c23b1 : decide (2 ≤ (t140.size : Int)) = true := decide_eq_true c23
                clear c23
                by_cases c24 : (t140.extract 0 2).toList = ([95, 109] : List UInt8)
                · rw [if_pos c24] at H
                  have c24b0 : ((t140.extract 0 2).toList == ([95, 109] : List UInt8)) = true := beq_iff_eq.mpr c24
                  have c24b1 : ((t140.extract 0 2).toList != ([95, 109] : List UInt8)) = false := bne_eq_false_iff_eq.mpr c24
                  clear c24
                  by_cases c25 : (t140.size : Int) > 3
                  · rw [if_pos c25] at H
                    have c25b0 : decide (3 < (t140.size : Int)) = true := decide_eq_true c25
                    have c25b1 : decide (3 < t140.size) = true := decide_eq_true (by omega)
                    clear c25
                    by_cases c26 : 2 < (t140.size : Int)
                    · rw [if_pos c26] at H
                      have c26b0 : decide (2 < (t140.size : Int)) = true := decide_eq_true c26
                      have c26b1 : decide (2 < t140.size) = true := decide_eq_true (by omega)
                      clear c26
                      have H' := Aside0.mk H
                      clear H
                      go_wp2_with (first | ((with_reducible refine gate_callee (f := 25) rfl ?_); refine goesL_ (some 10) rfl rfl Tryd.func25 (by kernel_rfl) rfl #[] rfl (by (try simp only [List.map_toArray, List.map_cons, List.map_nil]); first | done | rfl | (simp only [List.length_drop, List.length_take]; rfl)) ?_; (with_reducible refine (concordatlaw01_alive.calls  true _ A6.out ?tabw_).mono ?_); (case tabw_ => exact TabOk.below HT_.out (by repeat (first | (with_reducible first | exact HB.out | apply below_alloc | apply pw_below_drewN | apply below_drew1) | exact HB.out))); rintro e w28 ⟨rfl, hb⟩; refine ⟨_, rfl, ?_⟩; have n0_ := Aside0.mk (below_step (by repeat (first | (with_reducible first | exact HB.out | apply below_alloc | apply pw_below_drewN | apply below_drew1) | exact HB.out)) hb); clear HB; have HB := n0_; clear n0_; (try clear hb); (try clear hb2); (try clear hk); (try clear hi)) | (go_at_call 26; (with_reducible refine (keys_Check.calls t140 true _ A8.out).mono ?_); rintro e w29 ⟨rfl, hb⟩; have n0_ := Aside0.mk (below_step (by repeat (first | (with_reducible first | exact HB.out | apply below_alloc | apply pw_below_drewN | apply below_drew1) | exact HB.out)) hb); clear HB; have HB := n0_; clear n0_; (try clear hb); (try clear hb2); (try clear hk); (try clear hi)) | (go_at_call 27; (with_reducible refine (keys_Reserved.calls t140 true _ A10.out).mono ?_); rintro e w30 ⟨rfl, hb⟩; have n0_ := Aside0.mk (below_step (by repeat (first | (with_reducible first | exact HB.out | apply below_alloc | apply pw_below_drewN | apply below_drew1) | exact HB.out)) hb); clear HB; have HB := n0_; clear n0_; (try clear hb); (try clear hb2); (try clear hk); (try clear hi)) | (go_at_call 23; (with_reducible refine (keys_Marker.calls a1 t144 _ A12.out ?tabw_).mono ?_); (case tabw_ => exact TabOk.below HT_.out (by repeat (first | (with_reducible first | exact HB.out | apply below_alloc | apply pw_below_drewN | apply below_drew1) | exact HB.out))); rintro e w31 ⟨rfl, hb⟩; have n0_ := Aside0.mk (below_step (by repeat (first | (with_reducible first | exact HB.out | apply below_alloc | apply pw_below_drewN | apply below_drew1) | exact HB.out)) hb); clear HB; have HB := n0_; clear n0_; (try clear hb); (try clear hb2); (try clear hk); (try clear hi); have p27 : 0 ≤ (2 : Int) := (by omega); have q27 : 2 < t140.size := (by have : (2 : Int) < (t140.size : Int) := of_decide_eq_true (by first | (with_reducible assumption) | assumption); omega); have hx27 : ∀ h : 2 < t140.size, ((t140[2]'h).toNat : Int) = bt t140 2 := bt_at t140 2; clear p27; have qi27 : (2 < (t140.size : Int)) = True := eq_true (of_decide_eq_true (by first | (with_reducible assumption) | assumption)); replace q27 := eq_true q27))
                      go_meet
                      case rel => exact ⟨_, (((bt t140 2) == 48)), (by first | rfl | (simp; done) | (simp [*]; done)), H', ⟨by first | omega | exact Nat.le_refl _⟩, ⟨by repeat (first | (with_reducible first | exact HB.out | apply below_alloc | apply pw_below_drewN | apply below_drew1) | exact HB.out)⟩⟩
                    · rw [if_neg c26] at H
                      exact absurd H (by simp)
                  · rw [if_neg c25] at H
                    have c25b0 : decide (3 < (t140.size : Int)) = false := decide_eq_false c25
                    have c25b1 : decide (3 < t140.size) = false := decide_eq_false (by omega)
                    clear c25
                    have H' := Aside0.mk H
                    clear H
                    go_wp2_with (first | ((with_reducible refine gate_callee (f := 25) rfl ?_); refine goesL_ (some 10) rfl rfl Tryd.func25 (by kernel_rfl) rfl #[] rfl (by (try simp only [List.map_toArray, List.map_cons, List.map_nil]); first | done | rfl | (simp only [List.length_drop, List.length_take]; rfl)) ?_; (with_reducible refine (concordatlaw01_alive.calls  true _ A6.out ?tabw_).mono ?_); (case tabw_ => exact TabOk.below HT_.out (by repeat (first | (with_reducible first | exact HB.out | apply below_alloc | apply pw_below_drewN | apply below_drew1) | exact HB.out))); rintro e w32 ⟨rfl, hb⟩; refine ⟨_, rfl, ?_⟩; have n0_ := Aside0.mk (below_step (by repeat (first | (with_reducible first | exact HB.out | apply below_alloc | apply pw_below_drewN | apply below_drew1) | exact HB.out)) hb); clear HB; have HB := n0_; clear n0_; (try clear hb); (try clear hb2); (try clear hk); (try clear hi)) | (go_at_call 26; (with_reducible refine (keys_Check.calls t140 true _ A8.out).mono ?_); rintro e w33 ⟨rfl, hb⟩; have n0_ := Aside0.mk (below_step (by repeat (first | (with_reducible first | exact HB.out | apply below_alloc | apply pw_below_drewN | apply below_drew1) | exact HB.out)) hb); clear HB; have HB := n0_; clear n0_; (try clear hb); (try clear hb2); (try clear hk); (try clear hi)) | (go_at_call 27; (with_reducible refine (keys_Reserved.calls t140 true _ A10.out).mono ?_); rintro e w34 ⟨rfl, hb⟩; have n0_ := Aside0.mk (below_step (by repeat (first | (with_reducible first | exact HB.out | apply below_alloc | apply pw_below_drewN | apply below_drew1) | exact HB.out)) hb); clear HB; have HB := n0_; clear n0_; (try clear hb); (try clear hb2); (try clear hk); (try clear hi)) | (go_at_call 23; (with_reducible refine (keys_Marker.calls a1 t144 _ A12.out ?tabw_).mono ?_); (case tabw_ => exact TabOk.below HT_.out (by repeat (first | (with_reducible first | exact HB.out | apply below_alloc | apply pw_below_drewN | apply below_drew1) | exact HB.out))); rintro e w35 ⟨rfl, hb⟩; have n0_ := Aside0.mk (below_step (by repeat (first | (with_reducible first | exact HB.out | apply below_alloc | apply pw_below_drewN | apply below_drew1) | exact HB.out)) hb); clear HB; have HB := n0_; clear n0_; (try clear hb); (try clear hb2); (try clear hk); (try clear hi)))
                    go_meet
                    case rel => exact ⟨_, (false), (by first | rfl | (simp; done) | (simp [*]; done)), H', ⟨by first | omega | exact Nat.le_refl _⟩, ⟨by repeat (first | (with_reducible first | exact HB.out | apply below_alloc | apply pw_below_drewN | apply below_drew1) | exact HB.out)⟩⟩
                · rw [if_neg c24] at H
                  have c24b0 : ((t140.extract 0 2).toList == ([95, 109] : List UInt8)) = false := beq_eq_false_iff_ne.mpr c24
                  have c24b1 : ((t140.extract 0 2).toList != ([95, 109] : List UInt8)) = true := bne_iff_ne.mpr c24
                  have H' := Aside0.mk H
                  clear H
                  go_wp2_with (first | ((with_reducible refine gate_callee (f := 25) rfl ?_); refine goesL_ (some 10) rfl rfl Tryd.func25 (by kernel_rfl) rfl #[] rfl (by (try simp only [List.map_toArray, List.map_cons, List.map_nil]); first | done | rfl | (simp only [List.length_drop, List.length_take]; rfl)) ?_; (with_reducible refine (concordatlaw01_alive.calls  true _ A6.out ?tabw_).mono ?_); (case tabw_ => exact TabOk.below HT_.out (by repeat (first | (with_reducible first | exact HB.out | apply below_alloc | apply pw_below_drewN | apply below_drew1) | exact HB.out))); rintro e w36 ⟨rfl, hb⟩; refine ⟨_, rfl, ?_⟩; have n0_ := Aside0.mk (below_step (by repeat (first | (with_reducible first | exact HB.out | apply below_alloc | apply pw_below_drewN | apply below_drew1) | exact HB.out)) hb); clear HB; have HB := n0_; clear n0_; (try clear hb); (try clear hb2); (try clear hk); (try clear hi)) | (go_at_call 26; (with_reducible refine (keys_Check.calls t140 true _ A8.out).mono ?_); rintro e w37 ⟨rfl, hb⟩; have n0_ := Aside0.mk (below_step (by repeat (first | (with_reducible first | exact HB.out | apply below_alloc | apply pw_below_drewN | apply below_drew1) | exact HB.out)) hb); clear HB; have HB := n0_; clear n0_; (try clear hb); (try clear hb2); (try clear hk); (try clear hi)) | (go_at_call 27; (with_reducible refine (keys_Reserved.calls t140 true _ A10.out).mono ?_); rintro e w38 ⟨rfl, hb⟩; have n0_ := Aside0.mk (below_step (by repeat (first | (with_reducible first | exact HB.out | apply below_alloc | apply pw_below_drewN | apply below_drew1) | exact HB.out)) hb); clear HB; have HB := n0_; clear n0_; (try clear hb); (try clear hb2); (try clear hk); (try clear hi)) | (go_at_call 23; (with_reducible refine (keys_Marker.calls a1 t144 _ A12.out ?tabw_).mono ?_); (case tabw_ => exact TabOk.below HT_.out (by repeat (first | (with_reducible first | exact HB.out | apply below_alloc | apply pw_below_drewN | apply below_drew1) | exact HB.out))); rintro e w39 ⟨rfl, hb⟩; have n0_ := Aside0.mk (below_step (by repeat (first | (with_reducible first | exact HB.out | apply below_alloc | apply pw_below_drewN | apply below_drew1) | exact HB.out)) hb); clear HB; have HB := n0_; clear n0_; (try clear hb); (try clear hb2); (try clear hk); (try clear hi)))
                  go_meet
                  case rel => exact ⟨_, (true), (by first | rfl | (simp; done) | (simp [*]; done)), H', ⟨by first | omega | exact Nat.le_refl _⟩, ⟨by repeat (first | (with_reducible first | exact HB.out | apply below_alloc | apply pw_below_drewN | apply below_drew1) | exact HB.out)⟩⟩
              · rw [if_neg c23] at H
                exact absurd H (by simp)
        · replace c11 := Bool.eq_false_iff.mpr c11
          subst c11
          have H1 : (concordatlaw01_KeysMarkers.j0 k a0 t140 true) = some r := by rw [if_neg (show ¬ (false = true) by decide)] at H; exact H
          clear H
          have H := H1
          clear H1
          have H' := Aside0.mk H
          clear H
          go_wp2_with (first | ((with_reducible refine gate_callee (f := 25) rfl ?_); refine goesL_ (some 10) rfl rfl Tryd.func25 (by kernel_rfl) rfl #[] rfl (by (try simp only [List.map_toArray, List.map_cons, List.map_nil]); first | done | rfl | (simp only [List.length_drop, List.length_take]; rfl)) ?_; (with_reducible refine (concordatlaw01_alive.calls  true _ A6.out ?tabw_).mono ?_); (case tabw_ => exact TabOk.below HT_.out (by repeat (first | (with_reducible first | exact HB.out | apply below_alloc | apply pw_below_drewN | apply below_drew1) | exact HB.out))); rintro e w40 ⟨rfl, hb⟩; refine ⟨_, rfl, ?_⟩; have n0_ := Aside0.mk (below_step (by repeat (first | (with_reducible first | exact HB.out | apply below_alloc | apply pw_below_drewN | apply below_drew1) | exact HB.out)) hb); clear HB; have HB := n0_; clear n0_; (try clear hb); (try clear hb2); (try clear hk); (try clear hi)) | (go_at_call 26; (with_reducible refine (keys_Check.calls t140 true _ A8.out).mono ?_); rintro e w41 ⟨rfl, hb⟩; have n0_ := Aside0.mk (below_step (by repeat (first | (with_reducible first | exact HB.out | apply below_alloc | apply pw_below_drewN | apply below_drew1) | exact HB.out)) hb); clear HB; have HB := n0_; clear n0_; (try clear hb); (try clear hb2); (try clear hk); (try clear hi)) | (go_at_call 27; (with_reducible refine (keys_Reserved.calls t140 false _ A10.out).mono ?_); rintro e w42 ⟨rfl, hb⟩; have n0_ := Aside0.mk (below_step (by repeat (first | (with_reducible first | exact HB.out | apply below_alloc | apply pw_below_drewN | apply below_drew1) | exact HB.out)) hb); clear HB; have HB := n0_; clear n0_; (try clear hb); (try clear hb2); (try clear hk); (try clear hi)))
          go_meet
          case rel => exact ⟨_, (true), (by first | rfl | (simp; done) | (simp [*]; done)), H', ⟨by first | omega | exact Nat.le_refl _⟩, ⟨by repeat (first | (with_reducible first | exact HB.out | apply below_alloc | apply pw_below_drewN | apply below_drew1) | exact HB.out)⟩⟩
      · replace c9 := Bool.eq_false_iff.mpr c9
        subst c9
        have H1 : (concordatlaw01_KeysMarkers.j0 k a0 t140 true) = some r := by rw [if_neg (show ¬ (false = true) by decide)] at H; exact H
        clear H
        have H := H1
        clear H1
        have H' := Aside0.mk H
        clear H
        go_wp2_with (first | ((with_reducible refine gate_callee (f := 25) rfl ?_); refine goesL_ (some 10) rfl rfl Tryd.func25 (by kernel_rfl) rfl #[] rfl (by (try simp only [List.map_toArray, List.map_cons, List.map_nil]); first | done | rfl | (simp only [List.length_drop, List.length_take]; rfl)) ?_; (with_reducible refine (concordatlaw01_alive.calls  true _ A6.out ?tabw_).mono ?_); (case tabw_ => exact TabOk.below HT_.out (by repeat (first | (with_reducible first | exact HB.out | apply below_alloc | apply pw_below_drewN | apply below_drew1) | exact HB.out))); rintro e w43 ⟨rfl, hb⟩; refine ⟨_, rfl, ?_⟩; have n0_ := Aside0.mk (below_step (by repeat (first | (with_reducible first | exact HB.out | apply below_alloc | apply pw_below_drewN | apply below_drew1) | exact HB.out)) hb); clear HB; have HB := n0_; clear n0_; (try clear hb); (try clear hb2); (try clear hk); (try clear hi)) | (go_at_call 26; (with_reducible refine (keys_Check.calls t140 false _ A8.out).mono ?_); rintro e w44 ⟨rfl, hb⟩; have n0_ := Aside0.mk (below_step (by repeat (first | (with_reducible first | exact HB.out | apply below_alloc | apply pw_below_drewN | apply below_drew1) | exact HB.out)) hb); clear HB; have HB := n0_; clear n0_; (try clear hb); (try clear hb2); (try clear hk); (try clear hi)))
        go_meet
        case rel => exact ⟨_, (true), (by first | rfl | (simp; done) | (simp [*]; done)), H', ⟨by first | omega | exact Nat.le_refl _⟩, ⟨by repeat (first | (with_reducible first | exact HB.out | apply below_alloc | apply pw_below_drewN | apply below_drew1) | exact HB.out)⟩⟩
    · replace c7 := Bool.eq_false_iff.mpr c7
      subst c7
      have H1 : (concordatlaw01_KeysMarkers.j0 k a0 t140 true) = some r := by rw [if_neg (show ¬ (false = true) by decide)] at H; exact H
      clear H
      have H := H1
      clear H1
      have H' := Aside0.mk H
      clear H
      go_wp2_with (first | ((with_reducible refine gate_callee (f := 25) rfl ?_); refine goesL_ (some 10) rfl rfl Tryd.func25 (by kernel_rfl) rfl #[] rfl (by (try simp only [List.map_toArray, List.map_cons, List.map_nil]); first | done | rfl | (simp only [List.length_drop, List.length_take]; rfl)) ?_; (with_reducible refine (concordatlaw01_alive.calls  false _ A6.out ?tabw_).mono ?_); (case tabw_ => exact TabOk.below HT_.out (by repeat (first | (with_reducible first | exact HB.out | apply below_alloc | apply pw_below_drewN | apply below_drew1) | exact HB.out))); rintro e w45 ⟨rfl, hb⟩; refine ⟨_, rfl, ?_⟩; have n0_ := Aside0.mk (below_step (by repeat (first | (with_reducible first | exact HB.out | apply below_alloc | apply pw_below_drewN | apply below_drew1) | exact HB.out)) hb); clear HB; have HB := n0_; clear n0_; (try clear hb); (try clear hb2); (try clear hk); (try clear hi)))
      go_meet
      case rel => exact ⟨_, (true), (by first | rfl | (simp; done) | (simp [*]; done)), H', ⟨by first | omega | exact Nat.le_refl _⟩, ⟨by repeat (first | (with_reducible first | exact HB.out | apply below_alloc | apply pw_below_drewN | apply below_drew1) | exact HB.out)⟩⟩
  case rest =>
    clear HC4
    try clear c1
    try clear c2
    try clear p2
    try clear q2
    try clear hx2
    try clear qi2
    try clear c6
    try clear c7
    try clear c9
    try clear c11
    try clear c13
    try clear c13b0
    try clear c13b1
    try clear c13b2
    try clear c18
    try clear c18b0
    try clear c18b1
    try clear c23
    try clear c23b0
    try clear c23b1
    try clear c24
    try clear c24b0
    try clear c24b1
    try clear c25
    try clear c25b0
    try clear c25b1
    try clear c26
    try clear c26b0
    try clear c26b1
    try clear p27
    try clear q27
    try clear hx27
    try clear qi27
    try clear p27
    try clear q27
    obtain ⟨kq, x51_3, rfl, HA, HJ3, HB⟩ := hcut
    cases kq with
    | zero => exact absurd HA.out (by simp [concordatlaw01_KeysMarkers.j0])
    | succ kj3 =>
      have H := HA.out
      clear HA
      simp only [concordatlaw01_KeysMarkers.j0] at H
      by_cases c46 : x51_3 = true
      · subst c46
        have H1 : (some false) = some r := by rw [if_pos rfl] at H; exact H
        clear H
        have H := H1
        clear H1
        obtain rfl := Option.some.inj H
        go_wp2
        go_ret
        exact ⟨by first | rfl | (simp [errW_none, errW_some] <;> rfl) | (simp [*, errW_none, errW_some] <;> rfl), by repeat (first | (with_reducible first | exact HB.out | apply below_alloc | apply pw_below_drewN | apply below_drew1) | exact HB.out)⟩
      · replace c46 := Bool.eq_false_iff.mpr c46
        subst c46
        have H1 : (concordatlaw01_KeysMarkers.l0 kj3 a0 t140 0 2) = some r := by rw [if_neg (show ¬ (false = true) by decide)] at H; exact H
        clear H
        have H := H1
        clear H1
        have H' := Aside0.mk H
        clear H
        go_wp2
        go_loopg [6, 7] kj3 (fun kq v6 v7 w' => ∃ (x6_2 : Int) (x7_2 : Int), v6 = .int .u64 x6_2 ∧ v7 = .int .i64 x7_2 ∧ Aside0 (concordatlaw01_KeysMarkers.l0 kq a0 t140 x6_2 x7_2 = some r) ∧ Aside0 (kq ≤ kj3) ∧ Aside0 (Below w.heap.size w w'))
        case atStart => exact ⟨(0), (2), (by first | rfl | (simp; done) | (simp [*]; done)), (by first | rfl | (simp; done) | (simp [*]; done)), H', ⟨Nat.le_refl _⟩, ⟨by repeat (first | (with_reducible first | exact HB.out | apply below_alloc | apply pw_below_drewN | apply below_drew1) | exact HB.out)⟩⟩
        case round =>
          clear H'
          try clear c1
          try clear c2
          try clear p2
          try clear q2
          try clear hx2
          try clear qi2
          try clear c4
          try clear c6
          try clear c7
          try clear c9
          try clear c11
          try clear c13
          try clear c13b0
          try clear c13b1
          try clear c13b2
          try clear c18
          try clear c18b0
          try clear c18b1
          try clear c23
          try clear c23b0
          try clear c23b1
          try clear c24
          try clear c24b0
          try clear c24b1
          try clear c25
          try clear c25b0
          try clear c25b1
          try clear c26
          try clear c26b0
          try clear c26b1
          try clear p27
          try clear q27
          try clear hx27
          try clear qi27
          try clear c46
          try clear p2
          try clear p27
          try clear q2
          try clear q27
          obtain ⟨x6_2, x7_2, rfl, rfl, HA, HK2, HB⟩ := hrel
          cases gk with
          | zero => exact absurd HA.out (by simp [concordatlaw01_KeysMarkers.l0])
          | succ k2 =>
            have H := HA.out
            clear HA
            simp only [concordatlaw01_KeysMarkers.l0] at H
            by_cases c47 : x7_2 < (t140.size : Int)
            · rw [if_pos c47] at H
              have c47b0 : decide (x7_2 < (t140.size : Int)) = true := decide_eq_true c47
              clear c47
              by_cases c48 : 0 ≤ x7_2
              · rw [if_pos c48] at H
                have c48b0 : decide (0 ≤ x7_2) = true := decide_eq_true c48
                clear c48
                by_cases c50 : (bt t140 x7_2) < 48
                · rw [if_pos c50] at H
                  have c50b0 : decide ((bt t140 x7_2) < 48) = true := decide_eq_true c50
                  clear c50
                  obtain rfl := Option.some.inj H
                  have p49 : 0 ≤ (x7_2 : Int) := of_decide_eq_true (by first | (with_reducible assumption) | assumption)
                  have q49 : x7_2 < (t140.size : Int) := of_decide_eq_true (by first | (with_reducible assumption) | assumption)
                  have hx49 := bt_at t140 x7_2
                  replace p49 := eq_true p49
                  replace q49 := eq_true q49
                  go_wp2
                  go_ret
                  exact ⟨by first | rfl | (simp [errW_none, errW_some] <;> rfl) | (simp [*, errW_none, errW_some] <;> rfl), by repeat (first | (with_reducible first | exact HB.out | apply below_alloc | apply pw_below_drewN | apply below_drew1) | exact HB.out)⟩
                · rw [if_neg c50] at H
                  have c50b0 : decide ((bt t140 x7_2) < 48) = false := decide_eq_false c50
                  clear c50
                  by_cases c52 : (bt t140 x7_2) > 57
                  · rw [if_pos c52] at H
                    have c52b0 : decide (57 < (bt t140 x7_2)) = true := decide_eq_true c52
                    clear c52
                    obtain rfl := Option.some.inj H
                    have p49 : 0 ≤ (x7_2 : Int) := of_decide_eq_true (by first | (with_reducible assumption) | assumption)
                    have q49 : x7_2 < (t140.size : Int) := of_decide_eq_true (by first | (with_reducible assumption) | assumption)
                    have hx49 := bt_at t140 x7_2
                    replace p49 := eq_true p49
                    replace q49 := eq_true q49
                    have p51 : 0 ≤ (x7_2 : Int) := of_decide_eq_true (by first | (with_reducible assumption) | assumption)
                    have q51 : x7_2 < (t140.size : Int) := of_decide_eq_true (by first | (with_reducible assumption) | assumption)
                    have hx51 := bt_at t140 x7_2
                    replace p51 := eq_true p51
                    replace q51 := eq_true q51
                    go_wp2
                    go_ret
                    exact ⟨by first | rfl | (simp [errW_none, errW_some] <;> rfl) | (simp [*, errW_none, errW_some] <;> rfl), by repeat (first | (with_reducible first | exact HB.out | apply below_alloc | apply pw_below_drewN | apply below_drew1) | exact HB.out)⟩
                  · rw [if_neg c52] at H
                    have c52b0 : decide (57 < (bt t140 x7_2)) = false := decide_eq_false c52
                    clear c52
                    have H' := Aside0.mk H
                    clear H
                    have p49 : 0 ≤ (x7_2 : Int) := of_decide_eq_true (by first | (with_reducible assumption) | assumption)
                    have q49 : x7_2 < (t140.size : Int) := of_decide_eq_true (by first | (with_reducible assumption) | assumption)
                    have hx49 := bt_at t140 x7_2
                    replace p49 := eq_true p49
                    replace q49 := eq_true q49
                    have p51 : 0 ≤ (x7_2 : Int) := of_decide_eq_true (by first | (with_reducible assumption) | assumption)
                    have q51 : x7_2 < (t140.size : Int) := of_decide_eq_true (by first | (with_reducible assumption) | assumption)
                    have hx51 := bt_at t140 x7_2
                    replace p51 := eq_true p51
                    replace q51 := eq_true q51
                    have p53 : 0 ≤ (x7_2 : Int) := of_decide_eq_true (by first | (with_reducible assumption) | assumption)
                    have q53 : x7_2 < (t140.size : Int) := of_decide_eq_true (by first | (with_reducible assumption) | assumption)
                    have hx53 := bt_at t140 x7_2
                    replace p53 := eq_true p53
                    replace q53 := eq_true q53
                    go_wp2
                    go_roundg k2
                    case measure => have := HJ3.out; have := HK2.out; omega
                    case rel => exact ⟨(IntKind.u64.wrap ((IntKind.u64.wrap (10 * x6_2)) + (((bt t140 x7_2) - 48) % 256))), (wrap64 (x7_2 + 1)), (by first | rfl | (simp; done) | (simp [*]; done)), (by first | rfl | (simp; done) | (simp [*]; done)), H', ⟨by have := HJ3.out; have := HK2.out; omega⟩, ⟨by repeat (first | (with_reducible first | exact HB.out | apply below_alloc | apply pw_below_drewN | apply below_drew1) | exact HB.out)⟩⟩
              · rw [if_neg c48] at H
                exact absurd H (by simp)
            · rw [if_neg c47] at H
              have c47b0 : decide (x7_2 < (t140.size : Int)) = false := decide_eq_false c47
              clear c47
              obtain rfl := Option.some.inj H
              go_wp2
              go_ret
              exact ⟨by first | rfl | (simp [errW_none, errW_some] <;> rfl) | (simp [*, errW_none, errW_some] <;> rfl), by repeat (first | (with_reducible first | exact HB.out | apply below_alloc | apply pw_below_drewN | apply below_drew1) | exact HB.out)⟩


end Go.Proofs.YtcohodkpppmaoaaDoor.Q
