-- Written by a program of this session (wip/qprint.py) out of the translation; Lean checks it.
import Derived.Test.YtcohodkpppmaoaaDoorQT0
import Derived.Test.YtcohodkpppmaoaaDoorIn
import Derived.Test.YtcohodkpppmaoaaDoorKeys
import Derived.Test.YtcohodkpppmaoaaDoorQK1
namespace Go.Proofs.YtcohodkpppmaoaaDoor.Q
open Go.RowKit Go.Proofs.YtcohodkpppmaoaaDoorW.PrintWords Go.Proofs.YtcohodkpppmaoaaDoorW.PrintLast Go.Proofs.YtcohodkpppmaoaaDoorW.PrintMore
attribute [local go_sem] max2_int min2_int max_two min_two max_three min_three max_four min_four   -- for this text's walks alone
set_option linter.unusedVariables false
set_option linter.unusedSimpArgs false

/-! ### concordatlaw01_KeysPrefix: function 10 -/
mutual
def concordatlaw01_KeysPrefix.j0 : Nat → ByteArray → Int → Int → Bool → Option (Bool)
  | 0, _, _, _, _ => none
  | k + 1, x0, x1, x2, x22 => if x22 = true then ((concordatlaw01_alive.f).bind fun t145 => (some t145)) else (if (x0.size : Int) = 0 then (none) else (if 0 ≤ (wrap64 ((Int.tmod (wrap64 (x1)) (x0.size : Int)) + 1)) then (if (wrap64 ((Int.tmod (wrap64 (x1)) (x0.size : Int)) + 1)) ≤ (x0.size : Int) then (if 0 ≤ (Int.tmod (wrap64 (x1)) (x0.size : Int)) then (if (Int.tmod (wrap64 (x1)) (x0.size : Int)) ≤ (x0.size : Int) then ((some (([x2] : List Int) : List Int)).bind fun y146 => (if (x0.extract 0 ((Int.tmod (wrap64 (x1)) (x0.size : Int)) : Int).toNat).size + (strOfNums y146).size ≤ 9223372036854775807 then (if ((x0.extract 0 ((Int.tmod (wrap64 (x1)) (x0.size : Int)) : Int).toNat) ++ (strOfNums y146)).size + (x0.extract ((wrap64 ((Int.tmod (wrap64 (x1)) (x0.size : Int)) + 1)) : Int).toNat x0.size).size ≤ 9223372036854775807 then (if x2 ≥ 97 then (if x2 ≤ 122 then (concordatlaw01_KeysPrefix.j1 k x0 (x0.extract 0 ((wrap64 ((Int.tmod (wrap64 (x1)) (x0.size : Int)) + 1)) : Int).toNat) (((x0.extract 0 ((Int.tmod (wrap64 (x1)) (x0.size : Int)) : Int).toNat) ++ (strOfNums y146)) ++ (x0.extract ((wrap64 ((Int.tmod (wrap64 (x1)) (x0.size : Int)) + 1)) : Int).toNat x0.size)) true) else (if x2 ≥ 48 then (if x2 ≤ 57 then (concordatlaw01_KeysPrefix.j1 k x0 (x0.extract 0 ((wrap64 ((Int.tmod (wrap64 (x1)) (x0.size : Int)) + 1)) : Int).toNat) (((x0.extract 0 ((Int.tmod (wrap64 (x1)) (x0.size : Int)) : Int).toNat) ++ (strOfNums y146)) ++ (x0.extract ((wrap64 ((Int.tmod (wrap64 (x1)) (x0.size : Int)) + 1)) : Int).toNat x0.size)) true) else (concordatlaw01_KeysPrefix.j1 k x0 (x0.extract 0 ((wrap64 ((Int.tmod (wrap64 (x1)) (x0.size : Int)) + 1)) : Int).toNat) (((x0.extract 0 ((Int.tmod (wrap64 (x1)) (x0.size : Int)) : Int).toNat) ++ (strOfNums y146)) ++ (x0.extract ((wrap64 ((Int.tmod (wrap64 (x1)) (x0.size : Int)) + 1)) : Int).toNat x0.size)) (x2 == 95))) else (concordatlaw01_KeysPrefix.j1 k x0 (x0.extract 0 ((wrap64 ((Int.tmod (wrap64 (x1)) (x0.size : Int)) + 1)) : Int).toNat) (((x0.extract 0 ((Int.tmod (wrap64 (x1)) (x0.size : Int)) : Int).toNat) ++ (strOfNums y146)) ++ (x0.extract ((wrap64 ((Int.tmod (wrap64 (x1)) (x0.size : Int)) + 1)) : Int).toNat x0.size)) (x2 == 95)))) else (if x2 ≥ 48 then (if x2 ≤ 57 then (concordatlaw01_KeysPrefix.j1 k x0 (x0.extract 0 ((wrap64 ((Int.tmod (wrap64 (x1)) (x0.size : Int)) + 1)) : Int).toNat) (((x0.extract 0 ((Int.tmod (wrap64 (x1)) (x0.size : Int)) : Int).toNat) ++ (strOfNums y146)) ++ (x0.extract ((wrap64 ((Int.tmod (wrap64 (x1)) (x0.size : Int)) + 1)) : Int).toNat x0.size)) true) else (concordatlaw01_KeysPrefix.j1 k x0 (x0.extract 0 ((wrap64 ((Int.tmod (wrap64 (x1)) (x0.size : Int)) + 1)) : Int).toNat) (((x0.extract 0 ((Int.tmod (wrap64 (x1)) (x0.size : Int)) : Int).toNat) ++ (strOfNums y146)) ++ (x0.extract ((wrap64 ((Int.tmod (wrap64 (x1)) (x0.size : Int)) + 1)) : Int).toNat x0.size)) (x2 == 95))) else (concordatlaw01_KeysPrefix.j1 k x0 (x0.extract 0 ((wrap64 ((Int.tmod (wrap64 (x1)) (x0.size : Int)) + 1)) : Int).toNat) (((x0.extract 0 ((Int.tmod (wrap64 (x1)) (x0.size : Int)) : Int).toNat) ++ (strOfNums y146)) ++ (x0.extract ((wrap64 ((Int.tmod (wrap64 (x1)) (x0.size : Int)) + 1)) : Int).toNat x0.size)) (x2 == 95)))) else (none)) else (none))) else (none)) else (none)) else (none)) else (none)))
def concordatlaw01_KeysPrefix.j1 : Nat → ByteArray → ByteArray → ByteArray → Bool → Option (Bool)
  | 0, _, _, _, _ => none
  | k + 1, x0, x8, x9, x10 => if x10 = true then ((keys_Check.f x0).bind fun t149 => (if t149 = true then ((keys_Check.f x9).bind fun t150 => (concordatlaw01_KeysPrefix.j2 k x0 x8 (!t150))) else (concordatlaw01_KeysPrefix.j2 k x0 x8 false))) else ((keys_Check.f x9).bind fun t151 => (if t151 = true then (concordatlaw01_KeysPrefix.j2 k x0 x8 true) else (concordatlaw01_KeysPrefix.j2 k x0 x8 false)))
def concordatlaw01_KeysPrefix.j2 : Nat → ByteArray → ByteArray → Bool → Option (Bool)
  | 0, _, _, _ => none
  | k + 1, x0, x8, x80 => if x80 = true then (some false) else ((keys_Check.f x0).bind fun t152 => (if t152 = true then ((keys_Check.f x8).bind fun t153 => (if t153 = true then ((keys_In.f x8 (⟨#[]⟩ : ByteArray) x0).bind fun t154 => (if t154 = true then ((keys_Reserved.f x8).bind fun t155 => ((keys_Reserved.f x0).bind fun t156 => (some (t155 == t156)))) else (some false))) else (some false))) else (some true)))
end
def concordatlaw01_KeysPrefix.f (k : Nat) (a0 : ByteArray) (a1 : Int) (a2 : Int) : Option (Bool) := (concordatlaw01_alive.f).bind fun t140 => (if t140 = true then ((concordatlaw01_Beyond.f k (([(a0.size : Int)] : List Int))).bind fun t144 => (if t144 = true then (concordatlaw01_KeysPrefix.j0 k a0 a1 a2 true) else (concordatlaw01_KeysPrefix.j0 k a0 a1 a2 (a0.toList == ([] : List UInt8))))) else (concordatlaw01_KeysPrefix.j0 k a0 a1 a2 true))
theorem concordatlaw01_KeysPrefix.mono_l : ∀ k, (∀ y0 y1 y2 y3, LeO (concordatlaw01_KeysPrefix.j0 k y0 y1 y2 y3) (concordatlaw01_KeysPrefix.j0 (k + 1) y0 y1 y2 y3)) ∧ (∀ y0 y1 y2 y3, LeO (concordatlaw01_KeysPrefix.j1 k y0 y1 y2 y3) (concordatlaw01_KeysPrefix.j1 (k + 1) y0 y1 y2 y3)) ∧ (∀ y0 y1 y2, LeO (concordatlaw01_KeysPrefix.j2 k y0 y1 y2) (concordatlaw01_KeysPrefix.j2 (k + 1) y0 y1 y2))
  | 0 => ⟨fun _ _ _ _ r h => by simp [concordatlaw01_KeysPrefix.j0] at h, fun _ _ _ _ r h => by simp [concordatlaw01_KeysPrefix.j1] at h, fun _ _ _ r h => by simp [concordatlaw01_KeysPrefix.j2] at h⟩
  | k + 1 => by
    obtain ⟨ih0, ih1, ih2⟩ := concordatlaw01_KeysPrefix.mono_l k
    refine ⟨?_, ?_, ?_⟩
    · intro y0 y1 y2 y3
      unfold concordatlaw01_KeysPrefix.j0
      repeat' first
      | (with_reducible exact ih0 _ _ _ _)
      | (with_reducible exact ih1 _ _ _ _)
      | (with_reducible exact ih2 _ _ _)
      | (with_reducible exact concordatlaw01_Beyond.mono _ _)
      | (with_reducible exact LeO.refl _)
      | (with_reducible exact LeO.none _)
      | (with_reducible refine LeO.ite ?_ ?_)
      | (with_reducible refine LeO.bind ?_ (fun _ => ?_))
      | exact ih0 _ _ _ _
      | exact ih1 _ _ _ _
      | exact ih2 _ _ _
      | exact concordatlaw01_Beyond.mono _ _
      | exact LeO.none _
      | refine LeO.ite ?_ ?_
      | refine LeO.bind ?_ (fun _ => ?_)
    · intro y0 y1 y2 y3
      unfold concordatlaw01_KeysPrefix.j1
      repeat' first
      | (with_reducible exact ih0 _ _ _ _)
      | (with_reducible exact ih1 _ _ _ _)
      | (with_reducible exact ih2 _ _ _)
      | (with_reducible exact concordatlaw01_Beyond.mono _ _)
      | (with_reducible exact LeO.refl _)
      | (with_reducible exact LeO.none _)
      | (with_reducible refine LeO.ite ?_ ?_)
      | (with_reducible refine LeO.bind ?_ (fun _ => ?_))
      | exact ih0 _ _ _ _
      | exact ih1 _ _ _ _
      | exact ih2 _ _ _
      | exact concordatlaw01_Beyond.mono _ _
      | exact LeO.none _
      | refine LeO.ite ?_ ?_
      | refine LeO.bind ?_ (fun _ => ?_)
    · intro y0 y1 y2
      unfold concordatlaw01_KeysPrefix.j2
      repeat' first
      | (with_reducible exact ih0 _ _ _ _)
      | (with_reducible exact ih1 _ _ _ _)
      | (with_reducible exact ih2 _ _ _)
      | (with_reducible exact concordatlaw01_Beyond.mono _ _)
      | (with_reducible exact LeO.refl _)
      | (with_reducible exact LeO.none _)
      | (with_reducible refine LeO.ite ?_ ?_)
      | (with_reducible refine LeO.bind ?_ (fun _ => ?_))
      | exact ih0 _ _ _ _
      | exact ih1 _ _ _ _
      | exact ih2 _ _ _
      | exact concordatlaw01_Beyond.mono _ _
      | exact LeO.none _
      | refine LeO.ite ?_ ?_
      | refine LeO.bind ?_ (fun _ => ?_)
theorem concordatlaw01_KeysPrefix.mono : ∀ a0 a1 a2 k, LeO (concordatlaw01_KeysPrefix.f k a0 a1 a2) (concordatlaw01_KeysPrefix.f (k + 1) a0 a1 a2) := by
  intro a0 a1 a2 k
  obtain ⟨ih0, ih1, ih2⟩ := concordatlaw01_KeysPrefix.mono_l k
  unfold concordatlaw01_KeysPrefix.f
  repeat' first
      | (with_reducible exact ih0 _ _ _ _)
      | (with_reducible exact ih1 _ _ _ _)
      | (with_reducible exact ih2 _ _ _)
      | (with_reducible exact concordatlaw01_Beyond.mono _ _)
      | (with_reducible exact LeO.refl _)
      | (with_reducible exact LeO.none _)
      | (with_reducible refine LeO.ite ?_ ?_)
      | (with_reducible refine LeO.bind ?_ (fun _ => ?_))
      | exact ih0 _ _ _ _
      | exact ih1 _ _ _ _
      | exact ih2 _ _ _
      | exact concordatlaw01_Beyond.mono _ _
      | exact LeO.none _
      | refine LeO.ite ?_ ?_
      | refine LeO.bind ?_ (fun _ => ?_)
def concordatlaw01_KeysPrefix.T5 : Bool × List (List Nat × List Nat) := (true, [([], []), ([], []), ([0, 1], [0, 1]), ([], []), ([3], [3]), ([4], [4]), ([2, 5], [2, 5]), ([], []), ([], []), ([8], [8]), ([7, 9], [7, 9]), ([6, 10], [6, 10]), ([11, 0, 1, 2, 3, 4, 5, 6, 7, 8, 9, 10, 11], [11])])
def concordatlaw01_KeysPrefix.B5 : List Nat := [0, 0, 3, 0, 8, 24, 63, 0, 0, 256, 896, 2047, 4095]
theorem concordatlaw01_KeysPrefix.tab5 : rtab .any (opsOf Tryd.f10 5) = concordatlaw01_KeysPrefix.T5 := by kernel_rfl
theorem concordatlaw01_KeysPrefix.bits5 : waitsOk concordatlaw01_KeysPrefix.T5.2 concordatlaw01_KeysPrefix.B5 = true := by kernel_rfl
set_option maxHeartbeats 8000000 in
set_option maxRecDepth 100000 in
theorem concordatlaw01_KeysPrefix.calls (k : Nat) (a0 : ByteArray) (a1 : Int) (a2 : Int) (r : Bool) (w : World) (h : concordatlaw01_KeysPrefix.f k a0 a1 a2 = some r) (hT0_ : TabOk w) :
    Calls Tryd.prog 10 #[.string a0, .int .u8 a1, .int .u8 a2] w fun e w' => e = .returned (.bool r) ∧ Below w.heap.size w w' := by
  have HT_ := Aside0.mk hT0_
  clear hT0_
  have HB := Aside0.mk (Below.refl w.heap.size w)
  have H : ((concordatlaw01_alive.f).bind fun t140 => (if t140 = true then ((concordatlaw01_Beyond.f k (([(a0.size : Int)] : List Int))).bind fun t144 => (if t144 = true then (concordatlaw01_KeysPrefix.j0 k a0 a1 a2 true) else (concordatlaw01_KeysPrefix.j0 k a0 a1 a2 (a0.toList == ([] : List UInt8))))) else (concordatlaw01_KeysPrefix.j0 k a0 a1 a2 true))) = some r := h
  clear h
  have HC4 := Aside0.mk H
  clear H
  go_enter Tryd.func10, Tryd.ntmps10
  go_upto_region 1 with (fail)
  go_cut [22] (fun v22 wc => ∃ (kq : Nat) (x22_3 : Bool), v22 = .bool x22_3 ∧ Aside0 (concordatlaw01_KeysPrefix.j0 kq a0 a1 a2 x22_3 = some r) ∧ Aside0 (kq ≤ k) ∧ Aside0 (Below w.heap.size w wc))
  case first =>
    have H := HC4.out
    clear HC4
    replace H := Option.bind_eq_some_iff.mp H
    obtain ⟨t140, A50, H⟩ := H
    replace H : (if t140 = true then ((concordatlaw01_Beyond.f k (([(a0.size : Int)] : List Int))).bind fun t144 => (if t144 = true then (concordatlaw01_KeysPrefix.j0 k a0 a1 a2 true) else (concordatlaw01_KeysPrefix.j0 k a0 a1 a2 (a0.toList == ([] : List UInt8))))) else (concordatlaw01_KeysPrefix.j0 k a0 a1 a2 true)) = some r := H
    have A5 := Aside0.mk A50
    clear A50
    by_cases c6 : t140 = true
    · subst c6
      have H1 : ((concordatlaw01_Beyond.f k (([(a0.size : Int)] : List Int))).bind fun t144 => (if t144 = true then (concordatlaw01_KeysPrefix.j0 k a0 a1 a2 true) else (concordatlaw01_KeysPrefix.j0 k a0 a1 a2 (a0.toList == ([] : List UInt8))))) = some r := by rw [if_pos rfl] at H; exact H
      clear H
      have H := H1
      clear H1
      obtain ⟨y141, hy141⟩ : ∃ y_ : List Int, y_ = (([(a0.size : Int)] : List Int)) := ⟨_, rfl⟩
      replace H : ((concordatlaw01_Beyond.f k y141).bind fun t144 => (if t144 = true then (concordatlaw01_KeysPrefix.j0 k a0 a1 a2 true) else (concordatlaw01_KeysPrefix.j0 k a0 a1 a2 (a0.toList == ([] : List UInt8))))) = some r := by first | (rw [hy141]; with_reducible exact H) | (have H2_ := (Option.bind_some _ _).symm.trans H; rw [hy141]; with_reducible exact H2_) | (have H2_ := (Option.bind_some _ _).symm.trans H; with_reducible exact H2_) | with_reducible exact H | (rw [hy141]; exact H) | exact H
      have Ny141 := Aside0.mk hy141
      clear hy141
      replace H := Option.bind_eq_some_iff.mp H
      obtain ⟨t144, A70, H⟩ := H
      replace H : (if t144 = true then (concordatlaw01_KeysPrefix.j0 k a0 a1 a2 true) else (concordatlaw01_KeysPrefix.j0 k a0 a1 a2 (a0.toList == ([] : List UInt8)))) = some r := H
      have A7 := Aside0.mk A70
      clear A70
      by_cases c8 : t144 = true
      · subst c8
        have H1 : (concordatlaw01_KeysPrefix.j0 k a0 a1 a2 true) = some r := by rw [if_pos rfl] at H; exact H
        clear H
        have H := H1
        clear H1
        have H' := Aside0.mk H
        clear H
        go_wp2_with (first | ((with_reducible refine gate_callee (f := 25) rfl ?_); refine goesL_ (some 11) rfl rfl Tryd.func25 (by kernel_rfl) rfl #[] rfl (by (try simp only [List.map_toArray, List.map_cons, List.map_nil]); first | done | rfl | (simp only [List.length_drop, List.length_take]; rfl)) ?_; (with_reducible refine (concordatlaw01_alive.calls  true _ A5.out ?tabw_).mono ?_); (case tabw_ => exact TabOk.below HT_.out (by repeat (first | (with_reducible first | exact HB.out | apply below_alloc | apply pw_below_drewN | apply below_drew1) | exact HB.out))); rintro e w9 ⟨rfl, hb⟩; refine ⟨_, rfl, ?_⟩; have n0_ := Aside0.mk (below_step (by repeat (first | (with_reducible first | exact HB.out | apply below_alloc | apply pw_below_drewN | apply below_drew1) | exact HB.out)) hb); clear HB; have HB := n0_; clear n0_; (try clear hb); (try clear hb2); (try clear hk); (try clear hi)) | ((with_reducible refine gate_dst (N := 16) rfl ?_); (try (refine gate_guard (by rfl) ?_; dsimp only)); refine Kd.R_lit (Kd.int .i64) _ 3 ?hg (N := 16) ?hd (xs := ([(a0.size : Int)] : List Int)) (inner := [.int .i64 (a0.size : Int)]) (ok := fun _ => True) (okp := fun _ => True) ?hr ?hp (fun _ hk => hk) trivial (Below.refl _ _) (Nat.le_refl _) (by simp) ?_; (case hd => rfl); (case hg => rfl); (case hr => first | (go_simp; done) | (go_simp; rfl)); (case hp => exact (Reps.one (show Kd.M (Kd.int .i64) _ _ _ (a0.size : Int) [.int .i64 (a0.size : Int)] from rfl) (Reps.none _ _))); intro v142 w10 ho11 hb hg_ hnew_; clear hg_ hnew_; (first | rw [← Ny141.out] at ho11 | (simp only [Int.reduceToNat] at ho11; rw [← Ny141.out] at ho11)); have n0_ := Aside0.mk (Kd.R_lower ho11 (below_size (by repeat (first | (with_reducible first | exact HB.out | apply below_alloc | apply pw_below_drewN | apply below_drew1) | exact HB.out)))); have n1_ := Aside0.mk (below_step (by repeat (first | (with_reducible first | exact HB.out | apply below_alloc | apply pw_below_drewN | apply below_drew1) | exact HB.out)) hb); clear HB; have HO143 := n0_; have HB := n1_; clear n0_ n1_; clear hb ho11; obtain ⟨Ao12, co12, eo12⟩ := Kd.R_slice HO143.out; subst eo12) | (go_at_call 20; (with_reducible refine (concordatlaw01_Beyond.calls k _ _ y141 true _ ?side1 ?side2 A7.out).mono ?_); (case side1 => repeat (first | exact (Kd.R_reads' HO143.out).2.2 | (with_reducible refine Kd.C_alloc ?_ _) | (with_reducible refine Kd.C_drewN ?_ _) | (with_reducible refine Kd.C_drew ?_))); (case side2 => exact (Kd.R_reads' HO143.out).2.1); rintro e w' ⟨rfl, ⟨nd, rfl⟩⟩))
        go_meet
        case rel => exact ⟨_, (true), (by first | rfl | (simp; done) | (simp [*]; done)), H', ⟨by first | omega | exact Nat.le_refl _⟩, ⟨by repeat (first | (with_reducible first | exact HB.out | apply below_alloc | apply pw_below_drewN | apply below_drew1) | exact HB.out)⟩⟩
      · replace c8 := Bool.eq_false_iff.mpr c8
        subst c8
        have H1 : (concordatlaw01_KeysPrefix.j0 k a0 a1 a2 (a0.toList == ([] : List UInt8))) = some r := by rw [if_neg (show ¬ (false = true) by decide)] at H; exact H
        clear H
        have H := H1
        clear H1
        have H' := Aside0.mk H
        clear H
        go_wp2_with (first | ((with_reducible refine gate_callee (f := 25) rfl ?_); refine goesL_ (some 11) rfl rfl Tryd.func25 (by kernel_rfl) rfl #[] rfl (by (try simp only [List.map_toArray, List.map_cons, List.map_nil]); first | done | rfl | (simp only [List.length_drop, List.length_take]; rfl)) ?_; (with_reducible refine (concordatlaw01_alive.calls  true _ A5.out ?tabw_).mono ?_); (case tabw_ => exact TabOk.below HT_.out (by repeat (first | (with_reducible first | exact HB.out | apply below_alloc | apply pw_below_drewN | apply below_drew1) | exact HB.out))); rintro e w13 ⟨rfl, hb⟩; refine ⟨_, rfl, ?_⟩; have n0_ := Aside0.mk (below_step (by repeat (first | (with_reducible first | exact HB.out | apply below_alloc | apply pw_below_drewN | apply below_drew1) | exact HB.out)) hb); clear HB; have HB := n0_; clear n0_; (try clear hb); (try clear hb2); (try clear hk); (try clear hi)) | ((with_reducible refine gate_dst (N := 16) rfl ?_); (try (refine gate_guard (by rfl) ?_; dsimp only)); refine Kd.R_lit (Kd.int .i64) _ 3 ?hg (N := 16) ?hd (xs := ([(a0.size : Int)] : List Int)) (inner := [.int .i64 (a0.size : Int)]) (ok := fun _ => True) (okp := fun _ => True) ?hr ?hp (fun _ hk => hk) trivial (Below.refl _ _) (Nat.le_refl _) (by simp) ?_; (case hd => rfl); (case hg => rfl); (case hr => first | (go_simp; done) | (go_simp; rfl)); (case hp => exact (Reps.one (show Kd.M (Kd.int .i64) _ _ _ (a0.size : Int) [.int .i64 (a0.size : Int)] from rfl) (Reps.none _ _))); intro v142 w14 ho15 hb hg_ hnew_; clear hg_ hnew_; (first | rw [← Ny141.out] at ho15 | (simp only [Int.reduceToNat] at ho15; rw [← Ny141.out] at ho15)); have n0_ := Aside0.mk (Kd.R_lower ho15 (below_size (by repeat (first | (with_reducible first | exact HB.out | apply below_alloc | apply pw_below_drewN | apply below_drew1) | exact HB.out)))); have n1_ := Aside0.mk (below_step (by repeat (first | (with_reducible first | exact HB.out | apply below_alloc | apply pw_below_drewN | apply below_drew1) | exact HB.out)) hb); clear HB; have HO143 := n0_; have HB := n1_; clear n0_ n1_; clear hb ho15; obtain ⟨Ao16, co16, eo16⟩ := Kd.R_slice HO143.out; subst eo16) | (go_at_call 20; (with_reducible refine (concordatlaw01_Beyond.calls k _ _ y141 false _ ?side1 ?side2 A7.out).mono ?_); (case side1 => repeat (first | exact (Kd.R_reads' HO143.out).2.2 | (with_reducible refine Kd.C_alloc ?_ _) | (with_reducible refine Kd.C_drewN ?_ _) | (with_reducible refine Kd.C_drew ?_))); (case side2 => exact (Kd.R_reads' HO143.out).2.1); rintro e w' ⟨rfl, ⟨nd, rfl⟩⟩))
        go_meet
        case rel => exact ⟨_, ((a0.toList == ([] : List UInt8))), (by first | rfl | (simp; done) | (simp [*]; done)), H', ⟨by first | omega | exact Nat.le_refl _⟩, ⟨by repeat (first | (with_reducible first | exact HB.out | apply below_alloc | apply pw_below_drewN | apply below_drew1) | exact HB.out)⟩⟩
    · replace c6 := Bool.eq_false_iff.mpr c6
      subst c6
      have H1 : (concordatlaw01_KeysPrefix.j0 k a0 a1 a2 true) = some r := by rw [if_neg (show ¬ (false = true) by decide)] at H; exact H
      clear H
      have H := H1
      clear H1
      have H' := Aside0.mk H
      clear H
      go_wp2_with (first | ((with_reducible refine gate_callee (f := 25) rfl ?_); refine goesL_ (some 11) rfl rfl Tryd.func25 (by kernel_rfl) rfl #[] rfl (by (try simp only [List.map_toArray, List.map_cons, List.map_nil]); first | done | rfl | (simp only [List.length_drop, List.length_take]; rfl)) ?_; (with_reducible refine (concordatlaw01_alive.calls  false _ A5.out ?tabw_).mono ?_); (case tabw_ => exact TabOk.below HT_.out (by repeat (first | (with_reducible first | exact HB.out | apply below_alloc | apply pw_below_drewN | apply below_drew1) | exact HB.out))); rintro e w17 ⟨rfl, hb⟩; refine ⟨_, rfl, ?_⟩; have n0_ := Aside0.mk (below_step (by repeat (first | (with_reducible first | exact HB.out | apply below_alloc | apply pw_below_drewN | apply below_drew1) | exact HB.out)) hb); clear HB; have HB := n0_; clear n0_; (try clear hb); (try clear hb2); (try clear hk); (try clear hi)))
      go_meet
      case rel => exact ⟨_, (true), (by first | rfl | (simp; done) | (simp [*]; done)), H', ⟨by first | omega | exact Nat.le_refl _⟩, ⟨by repeat (first | (with_reducible first | exact HB.out | apply below_alloc | apply pw_below_drewN | apply below_drew1) | exact HB.out)⟩⟩
  case rest =>
    clear HC4
    try clear c1
    try clear c2
    try clear p2
    try clear c6
    try clear c8
    try clear c10
    obtain ⟨kq, x22_3, rfl, HA, HJ3, HB⟩ := hcut
    cases kq with
    | zero => exact absurd HA.out (by simp [concordatlaw01_KeysPrefix.j0])
    | succ kj3 =>
      have H := HA.out
      clear HA
      simp only [concordatlaw01_KeysPrefix.j0] at H
      by_cases c18 : x22_3 = true
      · subst c18
        have H1 : ((concordatlaw01_alive.f).bind fun t145 => (some t145)) = some r := by rw [if_pos rfl] at H; exact H
        clear H
        have H := H1
        clear H1
        replace H := Option.bind_eq_some_iff.mp H
        obtain ⟨t145, A190, H⟩ := H
        replace H : (some t145) = some r := H
        have A19 := Aside0.mk A190
        clear A190
        obtain rfl := Option.some.inj H
        go_wp2_with (first | ((with_reducible refine gate_callee (f := 25) rfl ?_); refine goesL_ (some 23) rfl rfl Tryd.func25 (by kernel_rfl) rfl #[] rfl (by (try simp only [List.map_toArray, List.map_cons, List.map_nil]); first | done | rfl | (simp only [List.length_drop, List.length_take]; rfl)) ?_; (with_reducible refine (concordatlaw01_alive.calls  t145 _ A19.out ?tabw_).mono ?_); (case tabw_ => exact TabOk.below HT_.out (by repeat (first | (with_reducible first | exact HB.out | apply below_alloc | apply pw_below_drewN | apply below_drew1) | exact HB.out))); rintro e w20 ⟨rfl, hb⟩; refine ⟨_, rfl, ?_⟩; have n0_ := Aside0.mk (below_step (by repeat (first | (with_reducible first | exact HB.out | apply below_alloc | apply pw_below_drewN | apply below_drew1) | exact HB.out)) hb); clear HB; have HB := n0_; clear n0_; (try clear hb); (try clear hb2); (try clear hk); (try clear hi)))
        go_ret
        exact ⟨by first | rfl | (simp [errW_none, errW_some] <;> rfl) | (simp [*, errW_none, errW_some] <;> rfl), by repeat (first | (with_reducible first | exact HB.out | apply below_alloc | apply pw_below_drewN | apply below_drew1) | exact HB.out)⟩
      · replace c18 := Bool.eq_false_iff.mpr c18
        subst c18
        have H1 : (if (a0.size : Int) = 0 then (none) else (if 0 ≤ (wrap64 ((Int.tmod (wrap64 (a1)) (a0.size : Int)) + 1)) then (if (wrap64 ((Int.tmod (wrap64 (a1)) (a0.size : Int)) + 1)) ≤ (a0.size : Int) then (if 0 ≤ (Int.tmod (wrap64 (a1)) (a0.size : Int)) then (if (Int.tmod (wrap64 (a1)) (a0.size : Int)) ≤ (a0.size : Int) then ((some (([a2] : List Int) : List Int)).bind fun y146 => (if (a0.extract 0 ((Int.tmod (wrap64 (a1)) (a0.size : Int)) : Int).toNat).size + (strOfNums y146).size ≤ 9223372036854775807 then (if ((a0.extract 0 ((Int.tmod (wrap64 (a1)) (a0.size : Int)) : Int).toNat) ++ (strOfNums y146)).size + (a0.extract ((wrap64 ((Int.tmod (wrap64 (a1)) (a0.size : Int)) + 1)) : Int).toNat a0.size).size ≤ 9223372036854775807 then (if a2 ≥ 97 then (if a2 ≤ 122 then (concordatlaw01_KeysPrefix.j1 kj3 a0 (a0.extract 0 ((wrap64 ((Int.tmod (wrap64 (a1)) (a0.size : Int)) + 1)) : Int).toNat) (((a0.extract 0 ((Int.tmod (wrap64 (a1)) (a0.size : Int)) : Int).toNat) ++ (strOfNums y146)) ++ (a0.extract ((wrap64 ((Int.tmod (wrap64 (a1)) (a0.size : Int)) + 1)) : Int).toNat a0.size)) true) else (if a2 ≥ 48 then (if a2 ≤ 57 then (concordatlaw01_KeysPrefix.j1 kj3 a0 (a0.extract 0 ((wrap64 ((Int.tmod (wrap64 (a1)) (a0.size : Int)) + 1)) : Int).toNat) (((a0.extract 0 ((Int.tmod (wrap64 (a1)) (a0.size : Int)) : Int).toNat) ++ (strOfNums y146)) ++ (a0.extract ((wrap64 ((Int.tmod (wrap64 (a1)) (a0.size : Int)) + 1)) : Int).toNat a0.size)) true) else (concordatlaw01_KeysPrefix.j1 kj3 a0 (a0.extract 0 ((wrap64 ((Int.tmod (wrap64 (a1)) (a0.size : Int)) + 1)) : Int).toNat) (((a0.extract 0 ((Int.tmod (wrap64 (a1)) (a0.size : Int)) : Int).toNat) ++ (strOfNums y146)) ++ (a0.extract ((wrap64 ((Int.tmod (wrap64 (a1)) (a0.size : Int)) + 1)) : Int).toNat a0.size)) (a2 == 95))) else (concordatlaw01_KeysPrefix.j1 kj3 a0 (a0.extract 0 ((wrap64 ((Int.tmod (wrap64 (a1)) (a0.size : Int)) + 1)) : Int).toNat) (((a0.extract 0 ((Int.tmod (wrap64 (a1)) (a0.size : Int)) : Int).toNat) ++ (strOfNums y146)) ++ (a0.extract ((wrap64 ((Int.tmod (wrap64 (a1)) (a0.size : Int)) + 1)) : Int).toNat a0.size)) (a2 == 95)))) else (if a2 ≥ 48 then (if a2 ≤ 57 then (concordatlaw01_KeysPrefix.j1 kj3 a0 (a0.extract 0 ((wrap64 ((Int.tmod (wrap64 (a1)) (a0.size : Int)) + 1)) : Int).toNat) (((a0.extract 0 ((Int.tmod (wrap64 (a1)) (a0.size : Int)) : Int).toNat) ++ (strOfNums y146)) ++ (a0.extract ((wrap64 ((Int.tmod (wrap64 (a1)) (a0.size : Int)) + 1)) : Int).toNat a0.size)) true) else (concordatlaw01_KeysPrefix.j1 kj3 a0 (a0.extract 0 ((wrap64 ((Int.tmod (wrap64 (a1)) (a0.size : Int)) + 1)) : Int).toNat) (((a0.extract 0 ((Int.tmod (wrap64 (a1)) (a0.size : Int)) : Int).toNat) ++ (strOfNums y146)) ++ (a0.extract ((wrap64 ((Int.tmod (wrap64 (a1)) (a0.size : Int)) + 1)) : Int).toNat a0.size)) (a2 == 95))) else (concordatlaw01_KeysPrefix.j1 kj3 a0 (a0.extract 0 ((wrap64 ((Int.tmod (wrap64 (a1)) (a0.size : Int)) + 1)) : Int).toNat) (((a0.extract 0 ((Int.tmod (wrap64 (a1)) (a0.size : Int)) : Int).toNat) ++ (strOfNums y146)) ++ (a0.extract ((wrap64 ((Int.tmod (wrap64 (a1)) (a0.size : Int)) + 1)) : Int).toNat a0.size)) (a2 == 95)))) else (none)) else (none))) else (none)) else (none)) else (none)) else (none))) = some r := by rw [if_neg (show ¬ (false = true) by decide)] at H; exact H
        clear H
        have H := H1
        clear H1
        by_cases c21 : (a0.size : Int) = 0
        · rw [if_pos c21] at H
          exact absurd H (by simp)
        · rw [if_neg c21] at H
          have c21b0 : ((a0.size : Int) == 0) = false := beq_eq_false_iff_ne.mpr c21
          have c21b1 : ((a0.size : Int) != 0) = true := bne_iff_ne.mpr c21
          obtain ⟨ji22, hji22⟩ : ∃ j_ : Int, (wrap64 ((Int.tmod (wrap64 (a1)) (a0.size : Int)) + 1)) = j_ := ⟨_, rfl⟩
          replace H : (if 0 ≤ (ji22) then (if (ji22) ≤ (a0.size : Int) then (if 0 ≤ (Int.tmod (wrap64 (a1)) (a0.size : Int)) then (if (Int.tmod (wrap64 (a1)) (a0.size : Int)) ≤ (a0.size : Int) then ((some (([a2] : List Int) : List Int)).bind fun y146 => (if (a0.extract 0 ((Int.tmod (wrap64 (a1)) (a0.size : Int)) : Int).toNat).size + (strOfNums y146).size ≤ 9223372036854775807 then (if ((a0.extract 0 ((Int.tmod (wrap64 (a1)) (a0.size : Int)) : Int).toNat) ++ (strOfNums y146)).size + (a0.extract ((ji22) : Int).toNat a0.size).size ≤ 9223372036854775807 then (if a2 ≥ 97 then (if a2 ≤ 122 then (concordatlaw01_KeysPrefix.j1 kj3 a0 (a0.extract 0 ((ji22) : Int).toNat) (((a0.extract 0 ((Int.tmod (wrap64 (a1)) (a0.size : Int)) : Int).toNat) ++ (strOfNums y146)) ++ (a0.extract ((ji22) : Int).toNat a0.size)) true) else (if a2 ≥ 48 then (if a2 ≤ 57 then (concordatlaw01_KeysPrefix.j1 kj3 a0 (a0.extract 0 ((ji22) : Int).toNat) (((a0.extract 0 ((Int.tmod (wrap64 (a1)) (a0.size : Int)) : Int).toNat) ++ (strOfNums y146)) ++ (a0.extract ((ji22) : Int).toNat a0.size)) true) else (concordatlaw01_KeysPrefix.j1 kj3 a0 (a0.extract 0 ((ji22) : Int).toNat) (((a0.extract 0 ((Int.tmod (wrap64 (a1)) (a0.size : Int)) : Int).toNat) ++ (strOfNums y146)) ++ (a0.extract ((ji22) : Int).toNat a0.size)) (a2 == 95))) else (concordatlaw01_KeysPrefix.j1 kj3 a0 (a0.extract 0 ((ji22) : Int).toNat) (((a0.extract 0 ((Int.tmod (wrap64 (a1)) (a0.size : Int)) : Int).toNat) ++ (strOfNums y146)) ++ (a0.extract ((ji22) : Int).toNat a0.size)) (a2 == 95)))) else (if a2 ≥ 48 then (if a2 ≤ 57 then (concordatlaw01_KeysPrefix.j1 kj3 a0 (a0.extract 0 ((ji22) : Int).toNat) (((a0.extract 0 ((Int.tmod (wrap64 (a1)) (a0.size : Int)) : Int).toNat) ++ (strOfNums y146)) ++ (a0.extract ((ji22) : Int).toNat a0.size)) true) else (concordatlaw01_KeysPrefix.j1 kj3 a0 (a0.extract 0 ((ji22) : Int).toNat) (((a0.extract 0 ((Int.tmod (wrap64 (a1)) (a0.size : Int)) : Int).toNat) ++ (strOfNums y146)) ++ (a0.extract ((ji22) : Int).toNat a0.size)) (a2 == 95))) else (concordatlaw01_KeysPrefix.j1 kj3 a0 (a0.extract 0 ((ji22) : Int).toNat) (((a0.extract 0 ((Int.tmod (wrap64 (a1)) (a0.size : Int)) : Int).toNat) ++ (strOfNums y146)) ++ (a0.extract ((ji22) : Int).toNat a0.size)) (a2 == 95)))) else (none)) else (none))) else (none)) else (none)) else (none)) else (none)) = some r := by first | (rw [hji22] at H; exact H) | (simp only [hji22] at H ⊢; exact H)
          have hji22w : (IntKind.i64.wrap ((Int.tmod (wrap64 (a1)) (a0.size : Int)) + 1)) = ji22 := (i64_w _).trans hji22
          by_cases c23 : 0 ≤ (ji22)
          · rw [if_pos c23] at H
            have c23b0 := eq_true c23
            have c23b1 : decide (0 ≤ (ji22)) = true := decide_eq_true c23
            clear c23
            by_cases c24 : (ji22) ≤ (a0.size : Int)
            · rw [if_pos c24] at H
              have c24b0 := eq_true c24
              have c24b1 : decide ((ji22) ≤ (a0.size : Int)) = true := decide_eq_true c24
              clear c24
              obtain ⟨ji25, hji25⟩ : ∃ j_ : Int, (Int.tmod (wrap64 (a1)) (a0.size : Int)) = j_ := ⟨_, rfl⟩
              replace H : (if 0 ≤ (ji25) then (if (ji25) ≤ (a0.size : Int) then ((some (([a2] : List Int) : List Int)).bind fun y146 => (if (a0.extract 0 ((ji25) : Int).toNat).size + (strOfNums y146).size ≤ 9223372036854775807 then (if ((a0.extract 0 ((ji25) : Int).toNat) ++ (strOfNums y146)).size + (a0.extract ((ji22) : Int).toNat a0.size).size ≤ 9223372036854775807 then (if a2 ≥ 97 then (if a2 ≤ 122 then (concordatlaw01_KeysPrefix.j1 kj3 a0 (a0.extract 0 ((ji22) : Int).toNat) (((a0.extract 0 ((ji25) : Int).toNat) ++ (strOfNums y146)) ++ (a0.extract ((ji22) : Int).toNat a0.size)) true) else (if a2 ≥ 48 then (if a2 ≤ 57 then (concordatlaw01_KeysPrefix.j1 kj3 a0 (a0.extract 0 ((ji22) : Int).toNat) (((a0.extract 0 ((ji25) : Int).toNat) ++ (strOfNums y146)) ++ (a0.extract ((ji22) : Int).toNat a0.size)) true) else (concordatlaw01_KeysPrefix.j1 kj3 a0 (a0.extract 0 ((ji22) : Int).toNat) (((a0.extract 0 ((ji25) : Int).toNat) ++ (strOfNums y146)) ++ (a0.extract ((ji22) : Int).toNat a0.size)) (a2 == 95))) else (concordatlaw01_KeysPrefix.j1 kj3 a0 (a0.extract 0 ((ji22) : Int).toNat) (((a0.extract 0 ((ji25) : Int).toNat) ++ (strOfNums y146)) ++ (a0.extract ((ji22) : Int).toNat a0.size)) (a2 == 95)))) else (if a2 ≥ 48 then (if a2 ≤ 57 then (concordatlaw01_KeysPrefix.j1 kj3 a0 (a0.extract 0 ((ji22) : Int).toNat) (((a0.extract 0 ((ji25) : Int).toNat) ++ (strOfNums y146)) ++ (a0.extract ((ji22) : Int).toNat a0.size)) true) else (concordatlaw01_KeysPrefix.j1 kj3 a0 (a0.extract 0 ((ji22) : Int).toNat) (((a0.extract 0 ((ji25) : Int).toNat) ++ (strOfNums y146)) ++ (a0.extract ((ji22) : Int).toNat a0.size)) (a2 == 95))) else (concordatlaw01_KeysPrefix.j1 kj3 a0 (a0.extract 0 ((ji22) : Int).toNat) (((a0.extract 0 ((ji25) : Int).toNat) ++ (strOfNums y146)) ++ (a0.extract ((ji22) : Int).toNat a0.size)) (a2 == 95)))) else (none)) else (none))) else (none)) else (none)) = some r := by first | (rw [hji25] at H; exact H) | (simp only [hji25] at H ⊢; exact H)
              by_cases c26 : 0 ≤ (ji25)
              · rw [if_pos c26] at H
                have c26b0 := eq_true c26
                have c26b1 : decide (0 ≤ (ji25)) = true := decide_eq_true c26
                clear c26
                by_cases c27 : (ji25) ≤ (a0.size : Int)
                · rw [if_pos c27] at H
                  have c27b0 := eq_true c27
                  have c27b1 : decide ((ji25) ≤ (a0.size : Int)) = true := decide_eq_true c27
                  clear c27
                  obtain ⟨y146, hy146⟩ : ∃ y_ : List Int, y_ = (([a2] : List Int)) := ⟨_, rfl⟩
                  replace H : (if (a0.extract 0 ((ji25) : Int).toNat).size + (strOfNums y146).size ≤ 9223372036854775807 then (if ((a0.extract 0 ((ji25) : Int).toNat) ++ (strOfNums y146)).size + (a0.extract ((ji22) : Int).toNat a0.size).size ≤ 9223372036854775807 then (if a2 ≥ 97 then (if a2 ≤ 122 then (concordatlaw01_KeysPrefix.j1 kj3 a0 (a0.extract 0 ((ji22) : Int).toNat) (((a0.extract 0 ((ji25) : Int).toNat) ++ (strOfNums y146)) ++ (a0.extract ((ji22) : Int).toNat a0.size)) true) else (if a2 ≥ 48 then (if a2 ≤ 57 then (concordatlaw01_KeysPrefix.j1 kj3 a0 (a0.extract 0 ((ji22) : Int).toNat) (((a0.extract 0 ((ji25) : Int).toNat) ++ (strOfNums y146)) ++ (a0.extract ((ji22) : Int).toNat a0.size)) true) else (concordatlaw01_KeysPrefix.j1 kj3 a0 (a0.extract 0 ((ji22) : Int).toNat) (((a0.extract 0 ((ji25) : Int).toNat) ++ (strOfNums y146)) ++ (a0.extract ((ji22) : Int).toNat a0.size)) (a2 == 95))) else (concordatlaw01_KeysPrefix.j1 kj3 a0 (a0.extract 0 ((ji22) : Int).toNat) (((a0.extract 0 ((ji25) : Int).toNat) ++ (strOfNums y146)) ++ (a0.extract ((ji22) : Int).toNat a0.size)) (a2 == 95)))) else (if a2 ≥ 48 then (if a2 ≤ 57 then (concordatlaw01_KeysPrefix.j1 kj3 a0 (a0.extract 0 ((ji22) : Int).toNat) (((a0.extract 0 ((ji25) : Int).toNat) ++ (strOfNums y146)) ++ (a0.extract ((ji22) : Int).toNat a0.size)) true) else (concordatlaw01_KeysPrefix.j1 kj3 a0 (a0.extract 0 ((ji22) : Int).toNat) (((a0.extract 0 ((ji25) : Int).toNat) ++ (strOfNums y146)) ++ (a0.extract ((ji22) : Int).toNat a0.size)) (a2 == 95))) else (concordatlaw01_KeysPrefix.j1 kj3 a0 (a0.extract 0 ((ji22) : Int).toNat) (((a0.extract 0 ((ji25) : Int).toNat) ++ (strOfNums y146)) ++ (a0.extract ((ji22) : Int).toNat a0.size)) (a2 == 95)))) else (none)) else (none)) = some r := by first | (rw [hy146]; with_reducible exact H) | (have H2_ := (Option.bind_some _ _).symm.trans H; rw [hy146]; with_reducible exact H2_) | (have H2_ := (Option.bind_some _ _).symm.trans H; with_reducible exact H2_) | with_reducible exact H | (rw [hy146]; exact H) | exact H
                  have Ny146 := Aside0.mk hy146
                  clear hy146
                  by_cases c28 : (a0.extract 0 ((ji25) : Int).toNat).size + (strOfNums y146).size ≤ 9223372036854775807
                  · rw [if_pos c28] at H
                    have c28b0 := eq_true c28
                    have c28b1 : decide ((a0.extract 0 ((ji25) : Int).toNat).size + (strOfNums y146).size ≤ 9223372036854775807) = true := decide_eq_true c28
                    try have c28b2 : (9223372036854775807 < (a0.extract 0 ((ji25) : Int).toNat).size + (strOfNums y146).size) = False := eq_false (Nat.not_lt.2 c28)
                    have c29b0 := eq_true (of_decide_eq_true (by first | (with_reducible assumption) | assumption) : 0 ≤ (ji22))
                    have c30b0 := eq_true (of_decide_eq_true (by first | (with_reducible assumption) | assumption) : (ji22) ≤ (a0.size : Int))
                    by_cases c31 : ((a0.extract 0 ((ji25) : Int).toNat) ++ (strOfNums y146)).size + (a0.extract ((ji22) : Int).toNat a0.size).size ≤ 9223372036854775807
                    · rw [if_pos c31] at H
                      have c31b0 := eq_true c31
                      have c31b1 : decide (((a0.extract 0 ((ji25) : Int).toNat) ++ (strOfNums y146)).size + (a0.extract ((ji22) : Int).toNat a0.size).size ≤ 9223372036854775807) = true := decide_eq_true c31
                      try have c31b2 : (9223372036854775807 < ((a0.extract 0 ((ji25) : Int).toNat) ++ (strOfNums y146)).size + (a0.extract ((ji22) : Int).toNat a0.size).size) = False := eq_false (Nat.not_lt.2 c31)
                      have hk22 : wrap64 (ji25 + 1) = ji22 := by rw [← hji25]; exact hji22
                      have sz1 : (a0.extract 0 ji25.toNat).size = ji25.toNat := by have := of_eq_true c26b0; have := of_eq_true c27b0; rw [ByteArray.size_extract]; omega
                      have c28x : (9223372036854775807 < ji25.toNat + (strOfNums y146).size) = False := by rw [← sz1]; exact eq_false (Nat.not_lt.2 c28)
                      have sz2 : (a0.extract ji22.toNat a0.size).size = a0.size - ji22.toNat := by rw [ByteArray.size_extract]; omega
                      have c31x : (9223372036854775807 < ji25.toNat + (strOfNums y146).size + (a0.size - ji22.toNat)) = False := by rw [← sz1, ← sz2, ← ByteArray.size_append]; exact eq_false (Nat.not_lt.2 c31)
                      clear sz1 sz2
                      have HC32 := Aside0.mk H
                      clear H
                      try go_wp2
                      have n0_ := Aside0.mk (below_drew1 HB.out)
                      clear HB
                      have HB := n0_
                      clear n0_
                      refine start_ (n := 13) (S := fun w' => True) (ds := []) #[false, false, false, false, false, false, false, false, false, false, false, false, false] (by kernel_rfl) rfl rfl trivial (fun hHeld => ?_); refine with_tabW concordatlaw01_KeysPrefix.tab5 concordatlaw01_KeysPrefix.bits5 (fun HT_ HW_ => ?_)
                      generalize wc.drew = w33 at HB hHeld ⊢
                      refine pure_ (i := 0) (N := some 33) (v := ?_) (a' := ?_) #[true, false, false, false, false, false, false, false, false, false, false, false, false] rfl rfl (any_of HT_.out (by kernel_rfl)) (fun _ _ _ h => h) (Or.inl ⟨by rfl, ?_⟩) ?_ ?_
                      rotate_left
                      · intro w'
                        go_simp
                        with_reducible rfl
                      rotate_left
                      · simp only [Act.put, List.setIfInBounds_toArray, List.set_cons_zero, List.set_cons_succ, i64_w, i32_w]
                        rfl
                      refine pure_ (i := 1) (N := some 34) (v := ?_) (a' := ?_) #[true, true, false, false, false, false, false, false, false, false, false, false, false] rfl rfl (any_of HT_.out (by kernel_rfl)) (fun _ _ _ h => h) (Or.inl ⟨by rfl, ?_⟩) ?_ ?_
                      rotate_left
                      · intro w'
                        go_simp
                        with_reducible rfl
                      rotate_left
                      · simp only [Act.put, List.setIfInBounds_toArray, List.set_cons_zero, List.set_cons_succ, i64_w, i32_w]
                        rfl
                      refine pure_ (i := 2) (N := some 35) (v := ?_) (a' := ?_) #[true, true, true, false, false, false, false, false, false, false, false, false, false] rfl rfl (any_of HT_.out (by kernel_rfl)) (fun _ _ _ h => h) (Or.inl ⟨by rfl, ?_⟩) ?_ ?_
                      rotate_left
                      · intro w'
                        go_simp
                        with_reducible rfl
                      rotate_left
                      · simp only [Act.put, List.setIfInBounds_toArray, List.set_cons_zero, List.set_cons_succ, i64_w, i32_w]
                        rfl
                      refine pure_ (i := 3) (N := some 36) (v := ?_) (a' := ?_) #[true, true, true, true, false, false, false, false, false, false, false, false, false] rfl rfl (any_of HT_.out (by kernel_rfl)) (fun _ _ _ h => h) (Or.inl ⟨by rfl, ?_⟩) ?_ ?_
                      rotate_left
                      · intro w'
                        go_simp
                        with_reducible rfl
                      rotate_left
                      · simp only [Act.put, List.setIfInBounds_toArray, List.set_cons_zero, List.set_cons_succ, i64_w, i32_w]
                        rfl
                      refine pure_ (i := 7) (N := some 40) (v := ?_) (a' := ?_) #[true, true, true, true, false, false, false, true, false, false, false, false, false] rfl rfl (any_of HT_.out (by kernel_rfl)) (fun _ _ _ h => h) (Or.inl ⟨by rfl, ?_⟩) ?_ ?_
                      rotate_left
                      · intro w'
                        go_simp
                        with_reducible rfl
                      rotate_left
                      · simp only [Act.put, List.setIfInBounds_toArray, List.set_cons_zero, List.set_cons_succ, i64_w, i32_w]
                        rfl
                      refine pure_ (i := 8) (N := some 41) (v := ?_) (a' := ?_) #[true, true, true, true, false, false, false, true, true, false, false, false, false] rfl rfl (any_of HT_.out (by kernel_rfl)) (fun _ _ _ h => h) (Or.inl ⟨by rfl, ?_⟩) ?_ ?_
                      rotate_left
                      · intro w'
                        go_simp
                        with_reducible rfl
                      rotate_left
                      · simp only [Act.put, List.setIfInBounds_toArray, List.set_cons_zero, List.set_cons_succ, i64_w, i32_w]
                        rfl
                      refine pure_ (i := 9) (N := some 42) (v := ?_) (a' := ?_) #[true, true, true, true, false, false, false, true, true, true, false, false, false] rfl rfl (any_of HT_.out (by kernel_rfl)) (fun _ _ _ h => h) (Or.inl ⟨by rfl, ?_⟩) ?_ ?_
                      rotate_left
                      · intro w'
                        go_simp
                        with_reducible rfl
                      rotate_left
                      · simp only [Act.put, List.setIfInBounds_toArray, List.set_cons_zero, List.set_cons_succ, i64_w, i32_w]
                        rfl
                      refine pure_ (i := 10) (N := some 43) (v := ?_) (a' := ?_) #[true, true, true, true, false, false, false, true, true, true, true, false, false] rfl rfl (any_of HT_.out (by kernel_rfl)) (fun _ _ _ h => h) (Or.inl ⟨by rfl, ?_⟩) ?_ ?_
                      rotate_left
                      · intro w'
                        go_simp
                        with_reducible rfl
                      rotate_left
                      · simp only [Act.put, List.setIfInBounds_toArray, List.set_cons_zero, List.set_cons_succ, i64_w, i32_w]
                        rfl
                      refine one_ (i := 4) (N := some 37) #[true, true, true, true, true, false, false, true, true, true, true, false, false] rfl rfl (one_of HT_.out (by kernel_rfl)) (by decide) (fun K hK => ?_)
                      refine Kd.R_lit_step (Kd.int .u8) _ 5 ?hg (N := 37) ?hd (xs := ([a2] : List Int)) (inner := [.int .u8 a2]) (ok := fun _ => True) (okp := fun _ => True) ?hr ?hp (fun _ hk => hk) trivial (Below.refl _ _) (Nat.le_refl _) (by simp) ?_; (case hd => rfl); (case hg => rfl); (case hr => first | (go_simp; done) | (go_simp; rfl)); (case hp => exact (Reps.one (show Kd.M (Kd.int .u8) _ _ _ a2 [.int .u8 a2] from rfl) (Reps.none _ _)))
                      intro v147 w34 ho35 hb hg_ hnew_
                      clear hg_ hnew_
                      (first | rw [← Ny146.out] at ho35 | (simp only [Int.reduceToNat] at ho35; rw [← Ny146.out] at ho35))
                      have n0_ := Aside0.mk (Kd.R_lower ho35 (below_size (by repeat (first | (with_reducible first | exact HB.out | apply below_alloc | apply pw_below_drewN | apply below_drew1) | exact HB.out))))
                      have n1_ := Aside0.mk (below_step (by repeat (first | (with_reducible first | exact HB.out | apply below_alloc | apply pw_below_drewN | apply below_drew1) | exact HB.out)) hb)
                      clear HB
                      have HO148 := n0_
                      have HB := n1_
                      clear n0_ n1_
                      clear hb ho35
                      refine hK.out _ _ trivial (fun hHeld => ?_)
                      clear hK K
                      refine norm_ (a' := ?_) ?_ ?_
                      rotate_left
                      · show Act.put _ (some 37) _ = _
                        simp only [Act.put, List.setIfInBounds_toArray, List.set_cons_zero, List.set_cons_succ, i64_w, i32_w]
                        rfl
                      refine one_ (i := 5) (N := some 38) #[true, true, true, true, true, true, false, true, true, true, true, false, false] rfl rfl (one_of HT_.out (by kernel_rfl)) (by decide) (fun K hK => ?_)
                      have hcv36 := own_string (P := Tryd.prog) Tryd.underlying32 Tryd.underlying5 Tryd.underlying9 (Kd.own_of_R HO148.out)
                      refine value_ (w1 := ?_) (v := ?_) (by rfl) rfl ?_ ?_
                      rotate_left 2
                      · go_simp
                        constructor
                        · rfl
                        · rfl
                      clear hcv36
                      refine hK.out _ _ trivial (fun hHeld => ?_)
                      clear hK K
                      refine norm_ (a' := ?_) ?_ ?_
                      rotate_left
                      · show Act.put _ (some 38) _ = _
                        simp only [Act.put, List.setIfInBounds_toArray, List.set_cons_zero, List.set_cons_succ, i64_w, i32_w]
                        rfl
                      refine pure_ (i := 6) (N := some 39) (v := ?_) (a' := ?_) #[true, true, true, true, true, true, true, true, true, true, true, false, false] rfl rfl (any_of HT_.out (by kernel_rfl)) (fun _ _ _ h => h) (Or.inl ⟨by rfl, ?_⟩) ?_ ?_
                      rotate_left
                      · intro w'
                        go_simp
                        with_reducible rfl
                      rotate_left
                      · simp only [Act.put, List.setIfInBounds_toArray, List.set_cons_zero, List.set_cons_succ, i64_w, i32_w]
                        rfl
                      refine pure_ (i := 11) (N := some 44) (v := ?_) (a' := ?_) #[true, true, true, true, true, true, true, true, true, true, true, true, false] rfl rfl (any_of HT_.out (by kernel_rfl)) (fun _ _ _ h => h) (Or.inl ⟨by rfl, ?_⟩) ?_ ?_
                      rotate_left
                      · intro w'
                        go_simp
                        with_reducible rfl
                      rotate_left
                      · simp only [Act.put, List.setIfInBounds_toArray, List.set_cons_zero, List.set_cons_succ, i64_w, i32_w]
                        rfl
                      refine pure_ (i := 12) (N := some 9) (v := ?_) (a' := ?_) #[true, true, true, true, true, true, true, true, true, true, true, true, true] rfl rfl (any_of HT_.out (by kernel_rfl)) (fun _ _ _ h => h) (Or.inl ⟨by rfl, ?_⟩) ?_ ?_
                      rotate_left
                      · intro w'
                        go_simp
                        with_reducible rfl
                      rotate_left
                      · simp only [Act.put, List.setIfInBounds_toArray, List.set_cons_zero, List.set_cons_succ, i64_w, i32_w]
                        rfl
                      refine done_ (done_of HT_.out (by kernel_rfl)) ?_
                      go_upto_region 6 with (fail)
                      go_cut [10] (fun v10 wc => ∃ (kq : Nat) (x10_31 : Bool), v10 = .bool x10_31 ∧ Aside0 (concordatlaw01_KeysPrefix.j1 kq a0 (a0.extract 0 ((ji22) : Int).toNat) (((a0.extract 0 ((ji25) : Int).toNat) ++ (strOfNums y146)) ++ (a0.extract ((ji22) : Int).toNat a0.size)) x10_31 = some r) ∧ Aside0 (kq ≤ kj3) ∧ Aside0 (Below w.heap.size w wc))
                      case first =>
                        have H := HC32.out
                        clear HC32
                        by_cases c37 : a2 ≥ 97
                        · rw [if_pos c37] at H
                          have c37b0 : decide (97 ≤ a2) = true := decide_eq_true c37
                          clear c37
                          (first | rw [c37b0] | (simp only [i64_w, i32_w]; rw [c37b0]) | skip)
                          by_cases c38 : a2 ≤ 122
                          · rw [if_pos c38] at H
                            have c38b0 : decide (a2 ≤ 122) = true := decide_eq_true c38
                            clear c38
                            have H' := Aside0.mk H
                            clear H
                            go_wp2
                            go_meet
                            case rel => exact ⟨_, (true), (by first | rfl | (simp; done) | (simp [*]; done)), H', ⟨by have := HJ3.out; first | omega | exact Nat.le_refl _⟩, ⟨by repeat (first | (with_reducible first | exact HB.out | apply below_alloc | apply pw_below_drewN | apply below_drew1) | exact HB.out)⟩⟩
                          · rw [if_neg c38] at H
                            have c38b0 : decide (a2 ≤ 122) = false := decide_eq_false c38
                            clear c38
                            by_cases c39 : a2 ≥ 48
                            · rw [if_pos c39] at H
                              have c39b0 : decide (48 ≤ a2) = true := decide_eq_true c39
                              clear c39
                              by_cases c40 : a2 ≤ 57
                              · rw [if_pos c40] at H
                                have c40b0 : decide (a2 ≤ 57) = true := decide_eq_true c40
                                clear c40
                                have H' := Aside0.mk H
                                clear H
                                go_wp2
                                go_meet
                                case rel => exact ⟨_, (true), (by first | rfl | (simp; done) | (simp [*]; done)), H', ⟨by have := HJ3.out; first | omega | exact Nat.le_refl _⟩, ⟨by repeat (first | (with_reducible first | exact HB.out | apply below_alloc | apply pw_below_drewN | apply below_drew1) | exact HB.out)⟩⟩
                              · rw [if_neg c40] at H
                                have c40b0 : decide (a2 ≤ 57) = false := decide_eq_false c40
                                clear c40
                                have H' := Aside0.mk H
                                clear H
                                go_wp2
                                go_meet
                                case rel => exact ⟨_, ((a2 == 95)), (by first | rfl | (simp; done) | (simp [*]; done)), H', ⟨by have := HJ3.out; first | omega | exact Nat.le_refl _⟩, ⟨by repeat (first | (with_reducible first | exact HB.out | apply below_alloc | apply pw_below_drewN | apply below_drew1) | exact HB.out)⟩⟩
                            · rw [if_neg c39] at H
                              have c39b0 : decide (48 ≤ a2) = false := decide_eq_false c39
                              clear c39
                              have H' := Aside0.mk H
                              clear H
                              go_wp2
                              go_meet
                              case rel => exact ⟨_, ((a2 == 95)), (by first | rfl | (simp; done) | (simp [*]; done)), H', ⟨by have := HJ3.out; first | omega | exact Nat.le_refl _⟩, ⟨by repeat (first | (with_reducible first | exact HB.out | apply below_alloc | apply pw_below_drewN | apply below_drew1) | exact HB.out)⟩⟩
                        · rw [if_neg c37] at H
                          have c37b0 : decide (97 ≤ a2) = false := decide_eq_false c37
                          clear c37
                          (first | rw [c37b0] | (simp only [i64_w, i32_w]; rw [c37b0]) | skip)
                          by_cases c41 : a2 ≥ 48
                          · rw [if_pos c41] at H
                            have c41b0 : decide (48 ≤ a2) = true := decide_eq_true c41
                            clear c41
                            by_cases c42 : a2 ≤ 57
                            · rw [if_pos c42] at H
                              have c42b0 : decide (a2 ≤ 57) = true := decide_eq_true c42
                              clear c42
                              have H' := Aside0.mk H
                              clear H
                              go_wp2
                              go_meet
                              case rel => exact ⟨_, (true), (by first | rfl | (simp; done) | (simp [*]; done)), H', ⟨by have := HJ3.out; first | omega | exact Nat.le_refl _⟩, ⟨by repeat (first | (with_reducible first | exact HB.out | apply below_alloc | apply pw_below_drewN | apply below_drew1) | exact HB.out)⟩⟩
                            · rw [if_neg c42] at H
                              have c42b0 : decide (a2 ≤ 57) = false := decide_eq_false c42
                              clear c42
                              have H' := Aside0.mk H
                              clear H
                              go_wp2
                              go_meet
                              case rel => exact ⟨_, ((a2 == 95)), (by first | rfl | (simp; done) | (simp [*]; done)), H', ⟨by have := HJ3.out; first | omega | exact Nat.le_refl _⟩, ⟨by repeat (first | (with_reducible first | exact HB.out | apply below_alloc | apply pw_below_drewN | apply below_drew1) | exact HB.out)⟩⟩
                          · rw [if_neg c41] at H
                            have c41b0 : decide (48 ≤ a2) = false := decide_eq_false c41
                            clear c41
                            have H' := Aside0.mk H
                            clear H
                            go_wp2
                            go_meet
                            case rel => exact ⟨_, ((a2 == 95)), (by first | rfl | (simp; done) | (simp [*]; done)), H', ⟨by have := HJ3.out; first | omega | exact Nat.le_refl _⟩, ⟨by repeat (first | (with_reducible first | exact HB.out | apply below_alloc | apply pw_below_drewN | apply below_drew1) | exact HB.out)⟩⟩
                      case rest =>
                        clear HC32
                        try clear c1
                        try clear c2
                        try clear p2
                        try clear c3
                        try clear hcv3
                        try clear c4
                        try clear c6
                        try clear p6
                        try clear c8
                        try clear c10
                        try clear c18
                        try clear c21
                        try clear c21b0
                        try clear c21b1
                        try clear c23
                        try clear c23b0
                        try clear c23b1
                        try clear c24
                        try clear c24b0
                        try clear c24b1
                        try clear c25
                        try clear c26
                        try clear c26b0
                        try clear c26b1
                        try clear c27
                        try clear c27b0
                        try clear c27b1
                        try clear c28
                        try clear c28b0
                        try clear c28b1
                        try clear c28b2
                        try clear c29
                        try clear c29b0
                        try clear c30
                        try clear c30b0
                        try clear c31
                        try clear c31b0
                        try clear c31b1
                        try clear c31b2
                        try clear hcv36
                        try clear c37
                        try clear c37b0
                        try clear c38
                        try clear c38b0
                        try clear c39
                        try clear c39b0
                        try clear c40
                        try clear c40b0
                        try clear c41
                        try clear c41b0
                        try clear c42
                        try clear c42b0
                        try clear p2
                        obtain ⟨kq, x10_31, rfl, HA, HJ31, HB⟩ := hcut
                        cases kq with
                        | zero => exact absurd HA.out (by simp [concordatlaw01_KeysPrefix.j1])
                        | succ kj31 =>
                          have H := HA.out
                          clear HA
                          simp only [concordatlaw01_KeysPrefix.j1] at H
                          have HC43 := Aside0.mk H
                          clear H
                          go_upto_region 7 with (fail)
                          go_cut [80] (fun v80 wc => ∃ (kq : Nat) (x80_42 : Bool), v80 = .bool x80_42 ∧ Aside0 (concordatlaw01_KeysPrefix.j2 kq a0 (a0.extract 0 ((ji22) : Int).toNat) x80_42 = some r) ∧ Aside0 (kq ≤ kj31) ∧ Aside0 (Below w.heap.size w wc))
                          case first =>
                            have H := HC43.out
                            clear HC43
                            by_cases c44 : x10_31 = true
                            · subst c44
                              have H1 : ((keys_Check.f a0).bind fun t149 => (if t149 = true then ((keys_Check.f (((a0.extract 0 ((ji25) : Int).toNat) ++ (strOfNums y146)) ++ (a0.extract ((ji22) : Int).toNat a0.size))).bind fun t150 => (concordatlaw01_KeysPrefix.j2 kj31 a0 (a0.extract 0 ((ji22) : Int).toNat) (!t150))) else (concordatlaw01_KeysPrefix.j2 kj31 a0 (a0.extract 0 ((ji22) : Int).toNat) false))) = some r := by rw [if_pos rfl] at H; exact H
                              clear H
                              have H := H1
                              clear H1
                              replace H := Option.bind_eq_some_iff.mp H
                              obtain ⟨t149, A450, H⟩ := H
                              replace H : (if t149 = true then ((keys_Check.f (((a0.extract 0 ((ji25) : Int).toNat) ++ (strOfNums y146)) ++ (a0.extract ((ji22) : Int).toNat a0.size))).bind fun t150 => (concordatlaw01_KeysPrefix.j2 kj31 a0 (a0.extract 0 ((ji22) : Int).toNat) (!t150))) else (concordatlaw01_KeysPrefix.j2 kj31 a0 (a0.extract 0 ((ji22) : Int).toNat) false)) = some r := H
                              have A45 := Aside0.mk A450
                              clear A450
                              by_cases c46 : t149 = true
                              · subst c46
                                have H1 : ((keys_Check.f (((a0.extract 0 ((ji25) : Int).toNat) ++ (strOfNums y146)) ++ (a0.extract ((ji22) : Int).toNat a0.size))).bind fun t150 => (concordatlaw01_KeysPrefix.j2 kj31 a0 (a0.extract 0 ((ji22) : Int).toNat) (!t150))) = some r := by rw [if_pos rfl] at H; exact H
                                clear H
                                have H := H1
                                clear H1
                                replace H := Option.bind_eq_some_iff.mp H
                                obtain ⟨t150, A470, H⟩ := H
                                replace H : (concordatlaw01_KeysPrefix.j2 kj31 a0 (a0.extract 0 ((ji22) : Int).toNat) (!t150)) = some r := H
                                have A47 := Aside0.mk A470
                                clear A470
                                have H' := Aside0.mk H
                                clear H
                                go_wp2_with (first | (go_at_call 26; (with_reducible refine (keys_Check.calls a0 true _ A45.out).mono ?_); rintro e w48 ⟨rfl, hb⟩; have n0_ := Aside0.mk (below_step (by repeat (first | (with_reducible first | exact HB.out | apply below_alloc | apply pw_below_drewN | apply below_drew1) | exact HB.out)) hb); clear HB; have HB := n0_; clear n0_; (try clear hb); (try clear hb2); (try clear hk); (try clear hi)) | (go_at_call 26; (with_reducible refine (keys_Check.calls (((a0.extract 0 ((ji25) : Int).toNat) ++ (strOfNums y146)) ++ (a0.extract ((ji22) : Int).toNat a0.size)) t150 _ A47.out).mono ?_); rintro e w49 ⟨rfl, hb⟩; have n0_ := Aside0.mk (below_step (by repeat (first | (with_reducible first | exact HB.out | apply below_alloc | apply pw_below_drewN | apply below_drew1) | exact HB.out)) hb); clear HB; have HB := n0_; clear n0_; (try clear hb); (try clear hb2); (try clear hk); (try clear hi)))
                                go_meet
                                case rel => exact ⟨_, (!t150), (by first | rfl | (simp; done) | (simp [*]; done)), H', ⟨by have := HJ3.out; have := HJ31.out; first | omega | exact Nat.le_refl _⟩, ⟨by repeat (first | (with_reducible first | exact HB.out | apply below_alloc | apply pw_below_drewN | apply below_drew1) | exact HB.out)⟩⟩
                              · replace c46 := Bool.eq_false_iff.mpr c46
                                subst c46
                                have H1 : (concordatlaw01_KeysPrefix.j2 kj31 a0 (a0.extract 0 ((ji22) : Int).toNat) false) = some r := by rw [if_neg (show ¬ (false = true) by decide)] at H; exact H
                                clear H
                                have H := H1
                                clear H1
                                have H' := Aside0.mk H
                                clear H
                                go_wp2_with (first | (go_at_call 26; (with_reducible refine (keys_Check.calls a0 false _ A45.out).mono ?_); rintro e w50 ⟨rfl, hb⟩; have n0_ := Aside0.mk (below_step (by repeat (first | (with_reducible first | exact HB.out | apply below_alloc | apply pw_below_drewN | apply below_drew1) | exact HB.out)) hb); clear HB; have HB := n0_; clear n0_; (try clear hb); (try clear hb2); (try clear hk); (try clear hi)))
                                go_meet
                                case rel => exact ⟨_, (false), (by first | rfl | (simp; done) | (simp [*]; done)), H', ⟨by have := HJ3.out; have := HJ31.out; first | omega | exact Nat.le_refl _⟩, ⟨by repeat (first | (with_reducible first | exact HB.out | apply below_alloc | apply pw_below_drewN | apply below_drew1) | exact HB.out)⟩⟩
                            · replace c44 := Bool.eq_false_iff.mpr c44
                              subst c44
                              have H1 : ((keys_Check.f (((a0.extract 0 ((ji25) : Int).toNat) ++ (strOfNums y146)) ++ (a0.extract ((ji22) : Int).toNat a0.size))).bind fun t151 => (if t151 = true then (concordatlaw01_KeysPrefix.j2 kj31 a0 (a0.extract 0 ((ji22) : Int).toNat) true) else (concordatlaw01_KeysPrefix.j2 kj31 a0 (a0.extract 0 ((ji22) : Int).toNat) false))) = some r := by rw [if_neg (show ¬ (false = true) by decide)] at H; exact H
                              clear H
                              have H := H1
                              clear H1
                              replace H := Option.bind_eq_some_iff.mp H
                              obtain ⟨t151, A510, H⟩ := H
                              replace H : (if t151 = true then (concordatlaw01_KeysPrefix.j2 kj31 a0 (a0.extract 0 ((ji22) : Int).toNat) true) else (concordatlaw01_KeysPrefix.j2 kj31 a0 (a0.extract 0 ((ji22) : Int).toNat) false)) = some r := H
                              have A51 := Aside0.mk A510
                              clear A510
                              by_cases c52 : t151 = true
                              · subst c52
                                have H1 : (concordatlaw01_KeysPrefix.j2 kj31 a0 (a0.extract 0 ((ji22) : Int).toNat) true) = some r := by rw [if_pos rfl] at H; exact H
                                clear H
                                have H := H1
                                clear H1
                                have H' := Aside0.mk H
                                clear H
                                go_wp2_with (first | (go_at_call 26; (with_reducible refine (keys_Check.calls (((a0.extract 0 ((ji25) : Int).toNat) ++ (strOfNums y146)) ++ (a0.extract ((ji22) : Int).toNat a0.size)) true _ A51.out).mono ?_); rintro e w53 ⟨rfl, hb⟩; have n0_ := Aside0.mk (below_step (by repeat (first | (with_reducible first | exact HB.out | apply below_alloc | apply pw_below_drewN | apply below_drew1) | exact HB.out)) hb); clear HB; have HB := n0_; clear n0_; (try clear hb); (try clear hb2); (try clear hk); (try clear hi)))
                                go_meet
                                case rel => exact ⟨_, (true), (by first | rfl | (simp; done) | (simp [*]; done)), H', ⟨by have := HJ3.out; have := HJ31.out; first | omega | exact Nat.le_refl _⟩, ⟨by repeat (first | (with_reducible first | exact HB.out | apply below_alloc | apply pw_below_drewN | apply below_drew1) | exact HB.out)⟩⟩
                              · replace c52 := Bool.eq_false_iff.mpr c52
                                subst c52
                                have H1 : (concordatlaw01_KeysPrefix.j2 kj31 a0 (a0.extract 0 ((ji22) : Int).toNat) false) = some r := by rw [if_neg (show ¬ (false = true) by decide)] at H; exact H
                                clear H
                                have H := H1
                                clear H1
                                have H' := Aside0.mk H
                                clear H
                                go_wp2_with (first | (go_at_call 26; (with_reducible refine (keys_Check.calls (((a0.extract 0 ((ji25) : Int).toNat) ++ (strOfNums y146)) ++ (a0.extract ((ji22) : Int).toNat a0.size)) false _ A51.out).mono ?_); rintro e w54 ⟨rfl, hb⟩; have n0_ := Aside0.mk (below_step (by repeat (first | (with_reducible first | exact HB.out | apply below_alloc | apply pw_below_drewN | apply below_drew1) | exact HB.out)) hb); clear HB; have HB := n0_; clear n0_; (try clear hb); (try clear hb2); (try clear hk); (try clear hi)))
                                go_meet
                                case rel => exact ⟨_, (false), (by first | rfl | (simp; done) | (simp [*]; done)), H', ⟨by have := HJ3.out; have := HJ31.out; first | omega | exact Nat.le_refl _⟩, ⟨by repeat (first | (with_reducible first | exact HB.out | apply below_alloc | apply pw_below_drewN | apply below_drew1) | exact HB.out)⟩⟩
                          case rest =>
                            clear HC43
                            try clear c1
                            try clear c2
                            try clear p2
                            try clear c3
                            try clear hcv3
                            try clear c4
                            try clear c5
                            try clear c6
                            try clear p6
                            try clear c8
                            try clear c10
                            try clear c18
                            try clear c21
                            try clear c21b0
                            try clear c21b1
                            try clear c23
                            try clear c23b0
                            try clear c23b1
                            try clear c24
                            try clear c24b0
                            try clear c24b1
                            try clear c25
                            try clear c26
                            try clear c26b0
                            try clear c26b1
                            try clear c27
                            try clear c27b0
                            try clear c27b1
                            try clear c28
                            try clear c28b0
                            try clear c28b1
                            try clear c28b2
                            try clear c29
                            try clear c29b0
                            try clear c30
                            try clear c30b0
                            try clear c31
                            try clear c31b0
                            try clear c31b1
                            try clear c31b2
                            try clear hcv36
                            try clear c37
                            try clear c37b0
                            try clear c38
                            try clear c38b0
                            try clear c39
                            try clear c39b0
                            try clear c40
                            try clear c40b0
                            try clear c41
                            try clear c41b0
                            try clear c42
                            try clear c42b0
                            try clear c44
                            try clear c46
                            try clear c52
                            try clear p2
                            try clear p6
                            obtain ⟨kq, x80_42, rfl, HA, HJ42, HB⟩ := hcut
                            cases kq with
                            | zero => exact absurd HA.out (by simp [concordatlaw01_KeysPrefix.j2])
                            | succ kj42 =>
                              have H := HA.out
                              clear HA
                              simp only [concordatlaw01_KeysPrefix.j2] at H
                              by_cases c55 : x80_42 = true
                              · subst c55
                                have H1 : (some false) = some r := by rw [if_pos rfl] at H; exact H
                                clear H
                                have H := H1
                                clear H1
                                obtain rfl := Option.some.inj H
                                go_wp2
                                go_ret
                                exact ⟨by first | rfl | (simp [errW_none, errW_some] <;> rfl) | (simp only [← hji22, ← hji25]; first | rfl | (simp [errW_none, errW_some] <;> rfl)) | (simp [*, errW_none, errW_some] <;> rfl), by repeat (first | (with_reducible first | exact HB.out | apply below_alloc | apply pw_below_drewN | apply below_drew1) | exact HB.out)⟩
                              · replace c55 := Bool.eq_false_iff.mpr c55
                                subst c55
                                have H1 : ((keys_Check.f a0).bind fun t152 => (if t152 = true then ((keys_Check.f (a0.extract 0 ((ji22) : Int).toNat)).bind fun t153 => (if t153 = true then ((keys_In.f (a0.extract 0 ((ji22) : Int).toNat) (⟨#[]⟩ : ByteArray) a0).bind fun t154 => (if t154 = true then ((keys_Reserved.f (a0.extract 0 ((ji22) : Int).toNat)).bind fun t155 => ((keys_Reserved.f a0).bind fun t156 => (some (t155 == t156)))) else (some false))) else (some false))) else (some true))) = some r := by rw [if_neg (show ¬ (false = true) by decide)] at H; exact H
                                clear H
                                have H := H1
                                clear H1
                                replace H := Option.bind_eq_some_iff.mp H
                                obtain ⟨t152, A560, H⟩ := H
                                replace H : (if t152 = true then ((keys_Check.f (a0.extract 0 ((ji22) : Int).toNat)).bind fun t153 => (if t153 = true then ((keys_In.f (a0.extract 0 ((ji22) : Int).toNat) (⟨#[]⟩ : ByteArray) a0).bind fun t154 => (if t154 = true then ((keys_Reserved.f (a0.extract 0 ((ji22) : Int).toNat)).bind fun t155 => ((keys_Reserved.f a0).bind fun t156 => (some (t155 == t156)))) else (some false))) else (some false))) else (some true)) = some r := H
                                have A56 := Aside0.mk A560
                                clear A560
                                by_cases c57 : t152 = true
                                · subst c57
                                  have H1 : ((keys_Check.f (a0.extract 0 ((ji22) : Int).toNat)).bind fun t153 => (if t153 = true then ((keys_In.f (a0.extract 0 ((ji22) : Int).toNat) (⟨#[]⟩ : ByteArray) a0).bind fun t154 => (if t154 = true then ((keys_Reserved.f (a0.extract 0 ((ji22) : Int).toNat)).bind fun t155 => ((keys_Reserved.f a0).bind fun t156 => (some (t155 == t156)))) else (some false))) else (some false))) = some r := by rw [if_pos rfl] at H; exact H
                                  clear H
                                  have H := H1
                                  clear H1
                                  replace H := Option.bind_eq_some_iff.mp H
                                  obtain ⟨t153, A580, H⟩ := H
                                  replace H : (if t153 = true then ((keys_In.f (a0.extract 0 ((ji22) : Int).toNat) (⟨#[]⟩ : ByteArray) a0).bind fun t154 => (if t154 = true then ((keys_Reserved.f (a0.extract 0 ((ji22) : Int).toNat)).bind fun t155 => ((keys_Reserved.f a0).bind fun t156 => (some (t155 == t156)))) else (some false))) else (some false)) = some r := H
                                  have A58 := Aside0.mk A580
                                  clear A580
                                  by_cases c59 : t153 = true
                                  · subst c59
                                    have H1 : ((keys_In.f (a0.extract 0 ((ji22) : Int).toNat) (⟨#[]⟩ : ByteArray) a0).bind fun t154 => (if t154 = true then ((keys_Reserved.f (a0.extract 0 ((ji22) : Int).toNat)).bind fun t155 => ((keys_Reserved.f a0).bind fun t156 => (some (t155 == t156)))) else (some false))) = some r := by rw [if_pos rfl] at H; exact H
                                    clear H
                                    have H := H1
                                    clear H1
                                    replace H := Option.bind_eq_some_iff.mp H
                                    obtain ⟨t154, A600, H⟩ := H
                                    replace H : (if t154 = true then ((keys_Reserved.f (a0.extract 0 ((ji22) : Int).toNat)).bind fun t155 => ((keys_Reserved.f a0).bind fun t156 => (some (t155 == t156)))) else (some false)) = some r := H
                                    have A60 := Aside0.mk A600
                                    clear A600
                                    by_cases c61 : t154 = true
                                    · subst c61
                                      have H1 : ((keys_Reserved.f (a0.extract 0 ((ji22) : Int).toNat)).bind fun t155 => ((keys_Reserved.f a0).bind fun t156 => (some (t155 == t156)))) = some r := by rw [if_pos rfl] at H; exact H
                                      clear H
                                      have H := H1
                                      clear H1
                                      replace H := Option.bind_eq_some_iff.mp H
                                      obtain ⟨t155, A620, H⟩ := H
                                      replace H : ((keys_Reserved.f a0).bind fun t156 => (some (t155 == t156))) = some r := H
                                      have A62 := Aside0.mk A620
                                      clear A620
                                      replace H := Option.bind_eq_some_iff.mp H
                                      obtain ⟨t156, A630, H⟩ := H
                                      replace H : (some (t155 == t156)) = some r := H
                                      have A63 := Aside0.mk A630
                                      clear A630
                                      obtain rfl := Option.some.inj H
                                      go_wp2_with (first | ((with_reducible refine gate_callee (f := 26) rfl ?_); refine goesL_ (some 82) rfl rfl Tryd.func26 (by kernel_rfl) rfl #[.string a0] rfl (by (try simp only [List.map_toArray, List.map_cons, List.map_nil]); first | done | rfl | (simp only [List.length_drop, List.length_take]; rfl)) ?_; (with_reducible refine (keys_Check.calls a0 true _ A56.out).mono ?_); rintro e w64 ⟨rfl, hb⟩; refine ⟨_, rfl, ?_⟩; have n0_ := Aside0.mk (below_step (by repeat (first | (with_reducible first | exact HB.out | apply below_alloc | apply pw_below_drewN | apply below_drew1) | exact HB.out)) hb); clear HB; have HB := n0_; clear n0_; (try clear hb); (try clear hb2); (try clear hk); (try clear hi)) | (go_at_call 26; (with_reducible refine (keys_Check.calls (a0.extract 0 ((ji22) : Int).toNat) true _ A58.out).mono ?_); rintro e w65 ⟨rfl, hb⟩; have n0_ := Aside0.mk (below_step (by repeat (first | (with_reducible first | exact HB.out | apply below_alloc | apply pw_below_drewN | apply below_drew1) | exact HB.out)) hb); clear HB; have HB := n0_; clear n0_; (try clear hb); (try clear hb2); (try clear hk); (try clear hi)) | (go_at_call 21; (with_reducible refine (keys_In.calls (a0.extract 0 ((ji22) : Int).toNat) (⟨#[]⟩ : ByteArray) a0 true _ A60.out).mono ?_); rintro e w66 ⟨rfl, hb⟩; have n0_ := Aside0.mk (below_step (by repeat (first | (with_reducible first | exact HB.out | apply below_alloc | apply pw_below_drewN | apply below_drew1) | exact HB.out)) hb); clear HB; have HB := n0_; clear n0_; (try clear hb); (try clear hb2); (try clear hk); (try clear hi)) | (go_at_call 27; (with_reducible refine (keys_Reserved.calls (a0.extract 0 ((ji22) : Int).toNat) t155 _ A62.out).mono ?_); rintro e w67 ⟨rfl, hb⟩; have n0_ := Aside0.mk (below_step (by repeat (first | (with_reducible first | exact HB.out | apply below_alloc | apply pw_below_drewN | apply below_drew1) | exact HB.out)) hb); clear HB; have HB := n0_; clear n0_; (try clear hb); (try clear hb2); (try clear hk); (try clear hi)) | (go_at_call 27; (with_reducible refine (keys_Reserved.calls a0 t156 _ A63.out).mono ?_); rintro e w68 ⟨rfl, hb⟩; have n0_ := Aside0.mk (below_step (by repeat (first | (with_reducible first | exact HB.out | apply below_alloc | apply pw_below_drewN | apply below_drew1) | exact HB.out)) hb); clear HB; have HB := n0_; clear n0_; (try clear hb); (try clear hb2); (try clear hk); (try clear hi)))
                                      go_ret
                                      exact ⟨by first | rfl | (simp [errW_none, errW_some] <;> rfl) | (simp only [← hji22, ← hji25]; first | rfl | (simp [errW_none, errW_some] <;> rfl)) | (simp [*, errW_none, errW_some] <;> rfl), by repeat (first | (with_reducible first | exact HB.out | apply below_alloc | apply pw_below_drewN | apply below_drew1) | exact HB.out)⟩
                                    · replace c61 := Bool.eq_false_iff.mpr c61
                                      subst c61
                                      have H1 : (some false) = some r := by rw [if_neg (show ¬ (false = true) by decide)] at H; exact H
                                      clear H
                                      have H := H1
                                      clear H1
                                      obtain rfl := Option.some.inj H
                                      go_wp2_with (first | ((with_reducible refine gate_callee (f := 26) rfl ?_); refine goesL_ (some 82) rfl rfl Tryd.func26 (by kernel_rfl) rfl #[.string a0] rfl (by (try simp only [List.map_toArray, List.map_cons, List.map_nil]); first | done | rfl | (simp only [List.length_drop, List.length_take]; rfl)) ?_; (with_reducible refine (keys_Check.calls a0 true _ A56.out).mono ?_); rintro e w69 ⟨rfl, hb⟩; refine ⟨_, rfl, ?_⟩; have n0_ := Aside0.mk (below_step (by repeat (first | (with_reducible first | exact HB.out | apply below_alloc | apply pw_below_drewN | apply below_drew1) | exact HB.out)) hb); clear HB; have HB := n0_; clear n0_; (try clear hb); (try clear hb2); (try clear hk); (try clear hi)) | (go_at_call 26; (with_reducible refine (keys_Check.calls (a0.extract 0 ((ji22) : Int).toNat) true _ A58.out).mono ?_); rintro e w70 ⟨rfl, hb⟩; have n0_ := Aside0.mk (below_step (by repeat (first | (with_reducible first | exact HB.out | apply below_alloc | apply pw_below_drewN | apply below_drew1) | exact HB.out)) hb); clear HB; have HB := n0_; clear n0_; (try clear hb); (try clear hb2); (try clear hk); (try clear hi)) | (go_at_call 21; (with_reducible refine (keys_In.calls (a0.extract 0 ((ji22) : Int).toNat) (⟨#[]⟩ : ByteArray) a0 false _ A60.out).mono ?_); rintro e w71 ⟨rfl, hb⟩; have n0_ := Aside0.mk (below_step (by repeat (first | (with_reducible first | exact HB.out | apply below_alloc | apply pw_below_drewN | apply below_drew1) | exact HB.out)) hb); clear HB; have HB := n0_; clear n0_; (try clear hb); (try clear hb2); (try clear hk); (try clear hi)))
                                      go_ret
                                      exact ⟨by first | rfl | (simp [errW_none, errW_some] <;> rfl) | (simp only [← hji22, ← hji25]; first | rfl | (simp [errW_none, errW_some] <;> rfl)) | (simp [*, errW_none, errW_some] <;> rfl), by repeat (first | (with_reducible first | exact HB.out | apply below_alloc | apply pw_below_drewN | apply below_drew1) | exact HB.out)⟩
                                  · replace c59 := Bool.eq_false_iff.mpr c59
                                    subst c59
                                    have H1 : (some false) = some r := by rw [if_neg (show ¬ (false = true) by decide)] at H; exact H
                                    clear H
                                    have H := H1
                                    clear H1
                                    obtain rfl := Option.some.inj H
                                    go_wp2_with (first | ((with_reducible refine gate_callee (f := 26) rfl ?_); refine goesL_ (some 82) rfl rfl Tryd.func26 (by kernel_rfl) rfl #[.string a0] rfl (by (try simp only [List.map_toArray, List.map_cons, List.map_nil]); first | done | rfl | (simp only [List.length_drop, List.length_take]; rfl)) ?_; (with_reducible refine (keys_Check.calls a0 true _ A56.out).mono ?_); rintro e w72 ⟨rfl, hb⟩; refine ⟨_, rfl, ?_⟩; have n0_ := Aside0.mk (below_step (by repeat (first | (with_reducible first | exact HB.out | apply below_alloc | apply pw_below_drewN | apply below_drew1) | exact HB.out)) hb); clear HB; have HB := n0_; clear n0_; (try clear hb); (try clear hb2); (try clear hk); (try clear hi)) | (go_at_call 26; (with_reducible refine (keys_Check.calls (a0.extract 0 ((ji22) : Int).toNat) false _ A58.out).mono ?_); rintro e w73 ⟨rfl, hb⟩; have n0_ := Aside0.mk (below_step (by repeat (first | (with_reducible first | exact HB.out | apply below_alloc | apply pw_below_drewN | apply below_drew1) | exact HB.out)) hb); clear HB; have HB := n0_; clear n0_; (try clear hb); (try clear hb2); (try clear hk); (try clear hi)))
                                    go_ret
                                    exact ⟨by first | rfl | (simp [errW_none, errW_some] <;> rfl) | (simp only [← hji22, ← hji25]; first | rfl | (simp [errW_none, errW_some] <;> rfl)) | (simp [*, errW_none, errW_some] <;> rfl), by repeat (first | (with_reducible first | exact HB.out | apply below_alloc | apply pw_below_drewN | apply below_drew1) | exact HB.out)⟩
                                · replace c57 := Bool.eq_false_iff.mpr c57
                                  subst c57
                                  have H1 : (some true) = some r := by rw [if_neg (show ¬ (false = true) by decide)] at H; exact H
                                  clear H
                                  have H := H1
                                  clear H1
                                  obtain rfl := Option.some.inj H
                                  go_wp2_with (first | ((with_reducible refine gate_callee (f := 26) rfl ?_); refine goesL_ (some 82) rfl rfl Tryd.func26 (by kernel_rfl) rfl #[.string a0] rfl (by (try simp only [List.map_toArray, List.map_cons, List.map_nil]); first | done | rfl | (simp only [List.length_drop, List.length_take]; rfl)) ?_; (with_reducible refine (keys_Check.calls a0 false _ A56.out).mono ?_); rintro e w74 ⟨rfl, hb⟩; refine ⟨_, rfl, ?_⟩; have n0_ := Aside0.mk (below_step (by repeat (first | (with_reducible first | exact HB.out | apply below_alloc | apply pw_below_drewN | apply below_drew1) | exact HB.out)) hb); clear HB; have HB := n0_; clear n0_; (try clear hb); (try clear hb2); (try clear hk); (try clear hi)))
                                  go_ret
                                  exact ⟨by first | rfl | (simp [errW_none, errW_some] <;> rfl) | (simp only [← hji22, ← hji25]; first | rfl | (simp [errW_none, errW_some] <;> rfl)) | (simp [*, errW_none, errW_some] <;> rfl), by repeat (first | (with_reducible first | exact HB.out | apply below_alloc | apply pw_below_drewN | apply below_drew1) | exact HB.out)⟩
                    · rw [if_neg c31] at H
                      exact absurd H (by simp)
                  · rw [if_neg c28] at H
                    exact absurd H (by simp)
                · rw [if_neg c27] at H
                  exact absurd H (by simp)
              · rw [if_neg c26] at H
                exact absurd H (by simp)
            · rw [if_neg c24] at H
              exact absurd H (by simp)
          · rw [if_neg c23] at H
            exact absurd H (by simp)


end Go.Proofs.YtcohodkpppmaoaaDoor.Q
