-- Written by a program of this session (wip/qprint.py) out of the translation; Lean checks it.
import Derived.Test.YtcohodkpppmaoaaQT0
import Derived.Test.YtcohodkpppmaoaaAlive
import Derived.Test.YtcohodkpppmaoaaGet
import Derived.Test.YtcohodkpppmaoaaQB6
import Derived.Test.YtcohodkpppmaoaaQB7
namespace Go.Proofs.Ytcohodkpppmaoaa.Q
open Go.RowKit Go.Proofs.YtcohodkpppmaoaaW.PrintWords Go.Proofs.YtcohodkpppmaoaaW.PrintLast Go.Proofs.YtcohodkpppmaoaaW.PrintMore
attribute [local go_sem] max2_int min2_int max_two min_two max_three min_three max_four min_four   -- for this text's walks alone
set_option linter.unusedVariables false
set_option linter.unusedSimpArgs false

theorem info68 : (Try.prog.info? 68).map (fun i => (i.zero, i.size, i.bytes)) = some (some (.agg #[(.int .u8 0), (.string ⟨#[]⟩), (.string ⟨#[]⟩), (.int .u32 0)]), 4, 48) := by kernel_rfl
theorem info71 : (Try.prog.info? 71).map (fun i => (i.zero, i.size, i.bytes)) = some (some (.agg #[(.slice none 0 0)]), 1, 24) := by kernel_rfl
theorem info73 : (Try.prog.info? 73).map (fun i => (i.zero, i.size, i.bytes)) = some (some (.agg #[(.string ⟨#[]⟩), (.int .u32 0)]), 2, 24) := by kernel_rfl
/-! ### concordatlaw02_RowsLimits: function 16 -/
mutual
def concordatlaw02_RowsLimits.l0 : Nat → Int → Int → Int → List (S68) → Int → Option (Bool)
  | 0, _, _, _, _, _ => none
  | k + 1, x3, x4, x5, x6, x7 => if x7 < x3 then (if 0 ≤ x7 then (if x7 < (x6.length : Int) then (concordatlaw02_RowsLimits.l0 k x3 x4 x5 (x6.set (x7 : Int).toNat (⟨1, (⟨#[107]⟩ : ByteArray), (⟨#[]⟩ : ByteArray), 0⟩ : S68)) (wrap64 (x7 + 1))) else (none)) else (none)) else (if 0 ≤ x4 then (if (x4 : Int).toNat ≤ 11728124029610 then (concordatlaw02_RowsLimits.l1 k x3 x4 x5 x6 (List.replicate (x4 : Int).toNat z71) 0) else (none)) else (none))
def concordatlaw02_RowsLimits.l1 : Nat → Int → Int → Int → List (S68) → List (S71) → Int → Option (Bool)
  | 0, _, _, _, _, _, _ => none
  | k + 1, x3, x4, x5, x6, x8, x9 => if x9 < x5 then (if 0 ≤ (wrap64 (Int.tdiv x4 2)) then (if (wrap64 (Int.tdiv x4 2)) < (x8.length : Int) then (if ((rd_T71 x8 (wrap64 (Int.tdiv x4 2))).f0).length < 5864062014805 then (concordatlaw02_RowsLimits.l1 k x3 x4 x5 x6 (x8.set ((wrap64 (Int.tdiv x4 2)) : Int).toNat (⟨(((rd_T71 x8 (wrap64 (Int.tdiv x4 2))).f0) ++ [(⟨(⟨#[107]⟩ : ByteArray), (x9) % 4294967296⟩ : S73)])⟩ : S71)) (wrap64 (x9 + 1))) else (none)) else (none)) else (none)) else ((rows_PutOps.f k x6).bind fun bt301 => ((rows_PutResults.f k x8).bind fun bt305 => (if ((bt301.2 == 0) != (decide (x3 ≤ 16))) = true then (concordatlaw02_RowsLimits.j2 k x4 x5 bt305.1 bt305.2 true) else (if bt301.2 = 0 then (if x4 ≤ 16 then (if ((bt305.2 == 0) != (decide (x5 ≤ 256))) = true then (concordatlaw02_RowsLimits.j2 k x4 x5 bt305.1 bt305.2 true) else (if bt305.2 = 0 then (concordatlaw02_RowsLimits.j2 k x4 x5 bt305.1 bt305.2 false) else (concordatlaw02_RowsLimits.j2 k x4 x5 bt305.1 bt305.2 (bt305.2 != 3)))) else (if ((bt305.2 == 0) != false) = true then (concordatlaw02_RowsLimits.j2 k x4 x5 bt305.1 bt305.2 true) else (if bt305.2 = 0 then (concordatlaw02_RowsLimits.j2 k x4 x5 bt305.1 bt305.2 false) else (concordatlaw02_RowsLimits.j2 k x4 x5 bt305.1 bt305.2 (bt305.2 != 3))))) else (if bt301.2 = 3 then (if x4 ≤ 16 then (if ((bt305.2 == 0) != (decide (x5 ≤ 256))) = true then (concordatlaw02_RowsLimits.j2 k x4 x5 bt305.1 bt305.2 true) else (if bt305.2 = 0 then (concordatlaw02_RowsLimits.j2 k x4 x5 bt305.1 bt305.2 false) else (concordatlaw02_RowsLimits.j2 k x4 x5 bt305.1 bt305.2 (bt305.2 != 3)))) else (if ((bt305.2 == 0) != false) = true then (concordatlaw02_RowsLimits.j2 k x4 x5 bt305.1 bt305.2 true) else (if bt305.2 = 0 then (concordatlaw02_RowsLimits.j2 k x4 x5 bt305.1 bt305.2 false) else (concordatlaw02_RowsLimits.j2 k x4 x5 bt305.1 bt305.2 (bt305.2 != 3))))) else (concordatlaw02_RowsLimits.j2 k x4 x5 bt305.1 bt305.2 true))))))
def concordatlaw02_RowsLimits.j2 : Nat → Int → Int → List Int → Int → Bool → Option (Bool)
  | 0, _, _, _, _, _ => none
  | k + 1, x4, x5, x12, x13, x106 => if x106 = true then (some false) else (if x13 = 0 then ((rows_GetResults.f x12).bind fun bt309 => ((concordatlaw02_alive.f).bind fun t313 => (if t313 = true then (if bt309.2 = 0 then (if (bt309.1.length : Int) = x4 then (if 0 ≤ (wrap64 (Int.tdiv x4 2)) then (if (wrap64 (Int.tdiv x4 2)) < (bt309.1.length : Int) then (some ((((rd_T71 bt309.1 (wrap64 (Int.tdiv x4 2))).f0).length : Int) == x5)) else (none)) else (none)) else (some false)) else (some false)) else (some false)))) else ((concordatlaw02_alive.f).bind fun t315 => (some t315)))
end
def concordatlaw02_RowsLimits.f (k : Nat) (a0_0 : Int) (a0_1 : Int) (a0_2 : Int) : Option (Bool) := if 0 ≤ (wrap64 (14 + (wrap64 (Int.tmod a0_0 5)))) then (if (wrap64 (14 + (wrap64 (Int.tmod a0_0 5))) : Int).toNat ≤ 5864062014805 then (concordatlaw02_RowsLimits.l0 k (wrap64 (14 + (wrap64 (Int.tmod a0_0 5)))) (wrap64 (14 + (wrap64 (Int.tmod a0_1 5)))) (wrap64 (254 + (wrap64 (Int.tmod a0_2 5)))) (List.replicate (wrap64 (14 + (wrap64 (Int.tmod a0_0 5))) : Int).toNat z68) 0) else (none)) else (none)
theorem concordatlaw02_RowsLimits.mono_l : ∀ k, (∀ y0 y1 y2 y3 y4, LeO (concordatlaw02_RowsLimits.l0 k y0 y1 y2 y3 y4) (concordatlaw02_RowsLimits.l0 (k + 1) y0 y1 y2 y3 y4)) ∧ (∀ y0 y1 y2 y3 y4 y5, LeO (concordatlaw02_RowsLimits.l1 k y0 y1 y2 y3 y4 y5) (concordatlaw02_RowsLimits.l1 (k + 1) y0 y1 y2 y3 y4 y5)) ∧ (∀ y0 y1 y2 y3 y4, LeO (concordatlaw02_RowsLimits.j2 k y0 y1 y2 y3 y4) (concordatlaw02_RowsLimits.j2 (k + 1) y0 y1 y2 y3 y4))
  | 0 => ⟨fun _ _ _ _ _ r h => by simp [concordatlaw02_RowsLimits.l0] at h, fun _ _ _ _ _ _ r h => by simp [concordatlaw02_RowsLimits.l1] at h, fun _ _ _ _ _ r h => by simp [concordatlaw02_RowsLimits.j2] at h⟩
  | k + 1 => by
    obtain ⟨ih0, ih1, ih2⟩ := concordatlaw02_RowsLimits.mono_l k
    refine ⟨?_, ?_, ?_⟩
    · intro y0 y1 y2 y3 y4
      unfold concordatlaw02_RowsLimits.l0
      repeat' first
      | (with_reducible exact ih0 _ _ _ _ _)
      | (with_reducible exact ih1 _ _ _ _ _ _)
      | (with_reducible exact ih2 _ _ _ _ _)
      | (with_reducible exact rows_PutOps.mono _ _)
      | (with_reducible exact rows_PutResults.mono _ _)
      | (with_reducible exact LeO.refl _)
      | (with_reducible exact LeO.none _)
      | (with_reducible refine LeO.ite ?_ ?_)
      | (with_reducible refine LeO.bind ?_ (fun _ => ?_))
      | exact ih0 _ _ _ _ _
      | exact ih1 _ _ _ _ _ _
      | exact ih2 _ _ _ _ _
      | exact rows_PutOps.mono _ _
      | exact rows_PutResults.mono _ _
      | exact LeO.none _
      | refine LeO.ite ?_ ?_
      | refine LeO.bind ?_ (fun _ => ?_)
    · intro y0 y1 y2 y3 y4 y5
      unfold concordatlaw02_RowsLimits.l1
      repeat' first
      | (with_reducible exact ih0 _ _ _ _ _)
      | (with_reducible exact ih1 _ _ _ _ _ _)
      | (with_reducible exact ih2 _ _ _ _ _)
      | (with_reducible exact rows_PutOps.mono _ _)
      | (with_reducible exact rows_PutResults.mono _ _)
      | (with_reducible exact LeO.refl _)
      | (with_reducible exact LeO.none _)
      | (with_reducible refine LeO.ite ?_ ?_)
      | (with_reducible refine LeO.bind ?_ (fun _ => ?_))
      | exact ih0 _ _ _ _ _
      | exact ih1 _ _ _ _ _ _
      | exact ih2 _ _ _ _ _
      | exact rows_PutOps.mono _ _
      | exact rows_PutResults.mono _ _
      | exact LeO.none _
      | refine LeO.ite ?_ ?_
      | refine LeO.bind ?_ (fun _ => ?_)
    · intro y0 y1 y2 y3 y4
      unfold concordatlaw02_RowsLimits.j2
      repeat' first
      | (with_reducible exact ih0 _ _ _ _ _)
      | (with_reducible exact ih1 _ _ _ _ _ _)
      | (with_reducible exact ih2 _ _ _ _ _)
      | (with_reducible exact rows_PutOps.mono _ _)
      | (with_reducible exact rows_PutResults.mono _ _)
      | (with_reducible exact LeO.refl _)
      | (with_reducible exact LeO.none _)
      | (with_reducible refine LeO.ite ?_ ?_)
      | (with_reducible refine LeO.bind ?_ (fun _ => ?_))
      | exact ih0 _ _ _ _ _
      | exact ih1 _ _ _ _ _ _
      | exact ih2 _ _ _ _ _
      | exact rows_PutOps.mono _ _
      | exact rows_PutResults.mono _ _
      | exact LeO.none _
      | refine LeO.ite ?_ ?_
      | refine LeO.bind ?_ (fun _ => ?_)
theorem concordatlaw02_RowsLimits.mono : ∀ a0 a1 a2 k, LeO (concordatlaw02_RowsLimits.f k a0 a1 a2) (concordatlaw02_RowsLimits.f (k + 1) a0 a1 a2) := by
  intro a0 a1 a2 k
  obtain ⟨ih0, ih1, ih2⟩ := concordatlaw02_RowsLimits.mono_l k
  unfold concordatlaw02_RowsLimits.f
  repeat' first
      | (with_reducible exact ih0 _ _ _ _ _)
      | (with_reducible exact ih1 _ _ _ _ _ _)
      | (with_reducible exact ih2 _ _ _ _ _)
      | (with_reducible exact rows_PutOps.mono _ _)
      | (with_reducible exact rows_PutResults.mono _ _)
      | (with_reducible exact LeO.refl _)
      | (with_reducible exact LeO.none _)
      | (with_reducible refine LeO.ite ?_ ?_)
      | (with_reducible refine LeO.bind ?_ (fun _ => ?_))
      | exact ih0 _ _ _ _ _
      | exact ih1 _ _ _ _ _ _
      | exact ih2 _ _ _ _ _
      | exact rows_PutOps.mono _ _
      | exact rows_PutResults.mono _ _
      | exact LeO.none _
      | refine LeO.ite ?_ ?_
      | refine LeO.bind ?_ (fun _ => ?_)
set_option maxHeartbeats 8000000 in
set_option maxRecDepth 100000 in
theorem concordatlaw02_RowsLimits.calls (k : Nat) (a0_0 : Int) (a0_1 : Int) (a0_2 : Int) (r : Bool) (w : World) (h : concordatlaw02_RowsLimits.f k a0_0 a0_1 a0_2 = some r) :
    Calls Try.prog 16 #[.agg #[.int .u8 a0_0, .int .u8 a0_1, .int .u8 a0_2]] w fun e w' => e = .returned (.bool r) ∧ Below w.heap.size w w' := by
  have hu98 := Try.underlying98
  have hu68 := Try.underlying68
  have hu73 := Try.underlying73
  have HB := Aside0.mk (Below.refl w.heap.size w)
  have H : (if 0 ≤ (wrap64 (14 + (wrap64 (Int.tmod a0_0 5)))) then (if (wrap64 (14 + (wrap64 (Int.tmod a0_0 5))) : Int).toNat ≤ 5864062014805 then (concordatlaw02_RowsLimits.l0 k (wrap64 (14 + (wrap64 (Int.tmod a0_0 5)))) (wrap64 (14 + (wrap64 (Int.tmod a0_1 5)))) (wrap64 (254 + (wrap64 (Int.tmod a0_2 5)))) (List.replicate (wrap64 (14 + (wrap64 (Int.tmod a0_0 5))) : Int).toNat z68) 0) else (none)) else (none)) = some r := h
  clear h
  obtain ⟨ji2, hji2⟩ : ∃ j_ : Int, (wrap64 (14 + (wrap64 (Int.tmod a0_0 5)))) = j_ := ⟨_, rfl⟩
  replace H : (if 0 ≤ (ji2) then (if (ji2 : Int).toNat ≤ 5864062014805 then (concordatlaw02_RowsLimits.l0 k ji2 (wrap64 (14 + (wrap64 (Int.tmod a0_1 5)))) (wrap64 (254 + (wrap64 (Int.tmod a0_2 5)))) (List.replicate (ji2 : Int).toNat z68) 0) else (none)) else (none)) = some r := by first | (rw [hji2] at H; exact H) | (simp only [hji2] at H ⊢; exact H)
  have hji2w : (IntKind.i64.wrap (14 + (wrap64 (Int.tmod a0_0 5)))) = ji2 := (i64_w _).trans hji2
  by_cases c3 : 0 ≤ (ji2)
  · rw [if_pos c3] at H
    have c3b0 := eq_true c3
    have c3b1 : decide (0 ≤ (ji2)) = true := decide_eq_true c3
    clear c3
    by_cases c4 : (ji2 : Int).toNat ≤ 5864062014805
    · rw [if_pos c4] at H
      have c4b0 := eq_true c4
      have c4b1 : decide ((ji2 : Int).toNat ≤ 5864062014805) = true := decide_eq_true c4
      clear c4
      obtain ⟨y289, hy289⟩ : ∃ y_ : List (S68), y_ = (List.replicate (ji2 : Int).toNat z68) := ⟨_, rfl⟩
      replace H : (concordatlaw02_RowsLimits.l0 k ji2 (wrap64 (14 + (wrap64 (Int.tmod a0_1 5)))) (wrap64 (254 + (wrap64 (Int.tmod a0_2 5)))) y289 0) = some r := by first | (rw [hy289]; with_reducible exact H) | (have H2_ := (Option.bind_some _ _).symm.trans H; rw [hy289]; with_reducible exact H2_) | (have H2_ := (Option.bind_some _ _).symm.trans H; with_reducible exact H2_) | with_reducible exact H | (rw [hy289]; exact H) | exact H
      have Ny289 := Aside0.mk hy289
      clear hy289
      have H' := Aside0.mk H
      clear H
      go_enter Try.func16, Try.ntmps16
      go_wp2_with (first | ((with_reducible refine gate_dst (N := 1) rfl ?_); (try (refine gate_guard (by rfl) ?_; dsimp only)); refine box_event ?hg (N := 1) ?hd (cs := #[.int .u8 a0_0, .int .u8 a0_1, .int .u8 a0_2]) (t := 98) ?hr ?_; (case hd => rfl); (case hg => rfl); (case hr => first | (go_simp; done) | (go_simp; rfl)); intro gb288 hg w5 hbox hb; have n0_ := Aside0.mk (below_step (by repeat (first | (with_reducible first | exact HB.out | apply below_alloc | apply pw_below_drewN | apply below_drew1) | exact HB.out)) hb); have n1_ := Aside0.mk (hbox); have n2_ := Aside0.mk ((by rw [hg]; exact (below_size (by repeat (first | (with_reducible first | exact HB.out | apply below_alloc | apply pw_below_drewN | apply below_drew1) | exact HB.out))) : w.heap.size ≤ gb288)); have n3_ := Aside0.mk ((by rw [hg]; exact (below_size (by repeat (first | (with_reducible first | exact HB.out | apply below_alloc | apply pw_below_drewN | apply below_drew1) | exact HB.out))) : w.heap.size ≤ gb288)); clear HB; have HB := n0_; have BK288 := n1_; have GW288 := n2_; have GE288 := n3_; clear n0_ n1_ n2_ n3_; clear hb hbox hg; have hcz6_0 : w5.cell? ⟨gb288, 0, none⟩ = some (.int .u8 a0_0) := (blk_cell BK288.out 0).trans rfl; have hcz6_1 : w5.cell? ⟨gb288, 1, none⟩ = some (.int .u8 a0_1) := (blk_cell BK288.out 1).trans rfl; have hcz6_2 : w5.cell? ⟨gb288, 2, none⟩ = some (.int .u8 a0_2) := (blk_cell BK288.out 2).trans rfl; have hfz6_0 := blk_frozen BK288.out 0; have hfz6_1 := blk_frozen BK288.out 1; have hfz6_2 := blk_frozen BK288.out 2) | ((with_reducible refine gate_dst (N := 32) rfl ?_); (try (refine gate_guard (by rfl) ?_; dsimp only)); refine Kd.R_make k68 _ 68 rfl (N := 32) rfl 35 _ _ rfl ji2 rfl rfl Try.underlying35 (.agg #[(.int .u8 0), (.string ⟨#[]⟩), (.string ⟨#[]⟩), (.int .u32 0)]) 48 info68 rfl (by decide) (by omega) z68 (ok := fun _ => True) (okp := fun _ => True) (k68_mkM _ _ _ z68 ) (fun _ hk => hk) trivial (of_decide_eq_true (by first | (with_reducible assumption) | assumption)) (Nat.le_trans (Nat.mul_le_mul_right _ (of_decide_eq_true (by first | (with_reducible assumption) | assumption) : ji2.toNat ≤ 5864062014805)) (by omega)) (Below.refl _ _) (Nat.le_refl _) ?_; intro v290 w7 ho8 hb hg_ hnew_; clear hg_ hnew_; (first | rw [← Ny289.out] at ho8 | (simp only [Int.reduceToNat] at ho8; rw [← Ny289.out] at ho8)); have n0_ := Aside0.mk (Kd.R_lower ho8 (below_size (by repeat (first | (with_reducible first | exact HB.out | apply below_alloc | apply pw_below_drewN | apply below_drew1 | refine below_set ?_ GE288.out) | exact HB.out)))); have n1_ := Aside0.mk (blk_below (g := gb288) (o := .cells #[.int .u8 a0_0, .int .u8 a0_1, .int .u8 a0_2] 98 (0, 0)) (by (with_reducible repeat (first | refine blk_drewN ?_ _ | refine blk_drew ?_ | refine blk_alloc ?_ _)); exact BK288.out) hb); have n2_ := Aside0.mk (below_step (by repeat (first | (with_reducible first | exact HB.out | apply below_alloc | apply pw_below_drewN | apply below_drew1 | refine below_set ?_ GE288.out) | exact HB.out)) hb); clear BK288; clear HB; have HO291 := n0_; have BK288 := n1_; have HB := n2_; clear n0_ n1_ n2_; clear hb ho8))
      go_loopg [7] k (fun kq v7 w' => ∃ (x6_1 : List (S68)) (x7_1 : Int), v7 = .int .i64 x7_1 ∧ Aside0 (concordatlaw02_RowsLimits.l0 kq ji2 (wrap64 (14 + (wrap64 (Int.tmod a0_1 5)))) (wrap64 (254 + (wrap64 (Int.tmod a0_2 5)))) x6_1 x7_1 = some r) ∧ Aside0 (kq ≤ k) ∧ Aside0 (Kd.R k68 68 w' w.heap.size (fun _ => True) v290 x6_1) ∧ Aside0 (w'.heap[gb288]? = some (.cells #[.int .u8 a0_0, .int .u8 a0_1, .int .u8 a0_2] 98 (0, 0))) ∧ Aside0 (Below w.heap.size w w'))
      case atStart => exact ⟨(y289), (0), (by first | rfl | (simp; done) | (simp [*]; done)), H', ⟨Nat.le_refl _⟩, ⟨by (with_reducible repeat (first | apply Kd.R_alloc | apply Kd.R_drewN | apply Kd.R_drew)); exact HO291.out⟩, ⟨by (with_reducible repeat (first | refine blk_drewN ?_ _ | refine blk_drew ?_ | refine blk_alloc ?_ _)); exact BK288.out⟩, ⟨by repeat (first | (with_reducible first | exact HB.out | apply below_alloc | apply pw_below_drewN | apply below_drew1 | refine below_set ?_ GE288.out) | exact HB.out)⟩⟩
      case round =>
        clear H'
        try clear c1
        try clear p2
        try clear c3
        try clear c3b0
        try clear c3b1
        try clear c4
        try clear c4b0
        try clear c4b1
        try clear p6
        try clear hcz6_0
        try clear hcz6_1
        try clear hcz6_2
        try clear hfz6_0
        try clear hfz6_1
        try clear hfz6_2
        obtain ⟨x6_1, x7_1, rfl, HA, HK1, HO_6, BK288, HB⟩ := hrel
        cases gk with
        | zero => exact absurd HA.out (by simp [concordatlaw02_RowsLimits.l0])
        | succ k1 =>
          have H := HA.out
          clear HA
          simp only [concordatlaw02_RowsLimits.l0] at H
          by_cases c9 : x7_1 < ji2
          · rw [if_pos c9] at H
            have c9b0 : decide (x7_1 < ji2) = true := decide_eq_true c9
            clear c9
            by_cases c10 : 0 ≤ x7_1
            · rw [if_pos c10] at H
              have c10b0 : decide (0 ≤ x7_1) = true := decide_eq_true c10
              clear c10
              by_cases c11 : x7_1 < (x6_1.length : Int)
              · rw [if_pos c11] at H
                have c11b0 : decide (x7_1 < (x6_1.length : Int)) = true := decide_eq_true c11
                clear c11
                obtain ⟨y292, hy292⟩ : ∃ y_ : List (S68), y_ = (x6_1.set (x7_1 : Int).toNat (⟨1, (⟨#[107]⟩ : ByteArray), (⟨#[]⟩ : ByteArray), 0⟩ : S68)) := ⟨_, rfl⟩
                replace H : (concordatlaw02_RowsLimits.l0 k1 ji2 (wrap64 (14 + (wrap64 (Int.tmod a0_1 5)))) (wrap64 (254 + (wrap64 (Int.tmod a0_2 5)))) y292 (wrap64 (x7_1 + 1))) = some r := by first | (rw [hy292]; with_reducible exact H) | (have H2_ := (Option.bind_some _ _).symm.trans H; rw [hy292]; with_reducible exact H2_) | (have H2_ := (Option.bind_some _ _).symm.trans H; with_reducible exact H2_) | with_reducible exact H | (rw [hy292]; exact H) | exact H
                have Ny292 := Aside0.mk hy292
                clear hy292
                have H' := Aside0.mk H
                clear H
                have p12 : 0 ≤ (x7_1 : Int) := of_decide_eq_true (by first | (with_reducible assumption) | assumption)
                have q12 : (x7_1 : Int) < ((x6_1.length : Int) : Int) := of_decide_eq_true (by first | (with_reducible assumption) | assumption)
                obtain ⟨go12, co12, eo12, gb12, gl12, cl12, HG12⟩ := Kd.R_form HO_6.out (by omega)
                (first | cases eo12 | (injection eo12 with ea_ en_ ec_; (first | subst ea_ | (injection ea_ with ea_; subst ea_)); subst ec_; clear en_))
                have GB12 := Aside0.mk gb12
                have GG12 := Aside0.mk HG12
                clear gb12 gl12 HG12
                obtain ⟨ce12, hcl12, hM12, hcc12, hfr12⟩ := Kd.R_elem HO_6.out z68 (x7_1 : Int) p12 q12
                obtain rfl := k68_openM hM12
                have hx12_0 : wr.cell? ⟨go12, (x7_1 : Int).toNat * 4, none⟩ = some (.int .u8 ((rd_T68 x6_1 x7_1).f0)) := hcc12 0 _ rfl
                have hx12_1 : wr.cell? ⟨go12, (x7_1 : Int).toNat * 4 + 1, none⟩ = some (.string ((rd_T68 x6_1 x7_1).f1)) := hcc12 1 _ rfl
                have hx12_2 : wr.cell? ⟨go12, (x7_1 : Int).toNat * 4 + 2, none⟩ = some (.string ((rd_T68 x6_1 x7_1).f2)) := hcc12 2 _ rfl
                have hx12_3 : wr.cell? ⟨go12, (x7_1 : Int).toNat * 4 + 3, none⟩ = some (.int .u32 ((rd_T68 x6_1 x7_1).f3)) := hcc12 3 _ rfl
                have hf12_0 : wr.frozen? ⟨go12, (x7_1 : Int).toNat * 4, none⟩ = false := hfr12 0
                have hf12_1 : wr.frozen? ⟨go12, (x7_1 : Int).toNat * 4 + 1, none⟩ = false := hfr12 1
                have hf12_2 : wr.frozen? ⟨go12, (x7_1 : Int).toNat * 4 + 2, none⟩ = false := hfr12 2
                have hf12_3 : wr.frozen? ⟨go12, (x7_1 : Int).toNat * 4 + 3, none⟩ = false := hfr12 3
                clear hcl12 hcc12 hfr12 hM12
                replace p12 := eq_true p12
                replace q12 := eq_true q12
                have HX13 := Aside0.mk (show Kd.R k68 68 wr w.heap.size (fun _ => True) (.slice (some ⟨go12, 0, none⟩) x6_1.length co12) x6_1 from (by (with_reducible repeat (first | apply Kd.R_alloc | apply Kd.R_drewN | apply Kd.R_drew)); exact HO_6.out))
                obtain ⟨ce13, hcl13, hM13, hcc13, hfr13⟩ := Kd.R_elem HX13.out z68 (x7_1 : Int) (of_decide_eq_true (by first | (with_reducible assumption) | assumption)) (by have h_ : (x7_1 : Int) < ((x6_1.length : Int) : Int) := of_decide_eq_true (by first | (with_reducible assumption) | assumption); first | exact h_ | (have e_ := (Kd.R_reads' HO_6.out).1; omega) | simpa using h_)
                obtain rfl := k68_openM hM13
                have HP13 := Kd.R_seg HX13.out (x7_1 : Int) (of_decide_eq_true (by first | (with_reducible assumption) | assumption)) (by have h_ : (x7_1 : Int) < ((x6_1.length : Int) : Int) := of_decide_eq_true (by first | (with_reducible assumption) | assumption); first | exact h_ | (have e_ := (Kd.R_reads' HO_6.out).1; omega) | simpa using h_) (seg := [.int .u8 1, .string (⟨#[107]⟩ : ByteArray), .string (⟨#[]⟩ : ByteArray), .int .u32 0]) (j := 0) hcl13 hcc13 (show 4 ≤ 4 from by decide) (x' := (⟨1, (⟨#[107]⟩ : ByteArray), (⟨#[]⟩ : ByteArray), 0⟩ : S68)) (k68_mkM _ _ _ (⟨1, (⟨#[107]⟩ : ByteArray), (⟨#[]⟩ : ByteArray), 0⟩ : S68) ) (fun _ hk => hk)
                have hx13_0 := hcc13 0 _ rfl
                (try simp only [show (k68).sz = 4 from rfl, Nat.mul_one, Nat.add_zero] at hx13_0)
                have hf13_0 := hfr13 0
                (try simp only [show (k68).sz = 4 from rfl, Nat.mul_one, Nat.add_zero] at hf13_0)
                have hx13_1 := hcc13 1 _ rfl
                (try simp only [show (k68).sz = 4 from rfl, Nat.mul_one, Nat.add_zero] at hx13_1)
                have hf13_1 := hfr13 1
                (try simp only [show (k68).sz = 4 from rfl, Nat.mul_one, Nat.add_zero] at hf13_1)
                have hx13_2 := hcc13 2 _ rfl
                (try simp only [show (k68).sz = 4 from rfl, Nat.mul_one, Nat.add_zero] at hx13_2)
                have hf13_2 := hfr13 2
                (try simp only [show (k68).sz = 4 from rfl, Nat.mul_one, Nat.add_zero] at hf13_2)
                have hx13_3 := hcc13 3 _ rfl
                (try simp only [show (k68).sz = 4 from rfl, Nat.mul_one, Nat.add_zero] at hx13_3)
                have hf13_3 := hfr13 3
                (try simp only [show (k68).sz = 4 from rfl, Nat.mul_one, Nat.add_zero] at hf13_3)
                clear hcl13 hcc13 hfr13 hM13
                go_wp2_with (first | ((with_reducible refine gate_store (t := 68) (p := 41) rfl ?_); refine store_event (t := 68) (p := 41) (v := ?vo_w14) (w1 := ((((wr.setCell ⟨go12, (x7_1 : Int).toNat * 4, none⟩ (.int .u8 1)).setCell ⟨go12, (x7_1 : Int).toNat * 4 + 1, none⟩ (.string (⟨#[107]⟩ : ByteArray))).setCell ⟨go12, (x7_1 : Int).toNat * 4 + 2, none⟩ (.string (⟨#[]⟩ : ByteArray))).setCell ⟨go12, (x7_1 : Int).toNat * 4 + 3, none⟩ (.int .u32 0))) ?hg ?ho ?hn ?hr ?_; (case ho => rfl); (case hg => rfl); (case hn => rfl); (case hr => first | (go_simp; done) | (go_simp; rfl)); intro w14 hw; have hg : wr.grownBy w14 (some go12) := (by rw [hw]; exact HP13.2); have hp_ : Kd.R k68 68 w14 w.heap.size (fun _ => True) (.slice (some ⟨go12, 0, none⟩) x6_1.length co12) y292 := (by rw [hw, Ny292.out]; exact HP13.1); clear HP13; have n0_ := Aside0.mk (hp_); have n1_ := Aside0.mk (blk_grown (g := gb288) (o := .cells #[.int .u8 a0_0, .int .u8 a0_1, .int .u8 a0_2] 98 (0, 0)) (by (with_reducible repeat (first | refine blk_drewN ?_ _ | refine blk_drew ?_ | refine blk_alloc ?_ _)); exact BK288.out) hg (Kd.R_ne HO_6.out BK288.out (by decide))); have n2_ := Aside0.mk ((by rw [hw]; exact below_set (below_set (below_set (below_set (HB.out) GB12.out) GB12.out) GB12.out) GB12.out : Below w.heap.size w w14)); clear HO_6; clear BK288; clear HB; have HO_6 := n0_; have BK288 := n1_; have HB := n2_; clear n0_ n1_ n2_; clear hg hw hp_))
                go_roundg k1
                case measure => have := HK1.out; omega
                case rel => exact ⟨(y292), (wrap64 (x7_1 + 1)), (by first | rfl | (simp; done) | (simp [*]; done)), H', ⟨by have := HK1.out; omega⟩, ⟨by (with_reducible repeat (first | apply Kd.R_alloc | apply Kd.R_drewN | apply Kd.R_drew)); exact HO_6.out⟩, ⟨by (with_reducible repeat (first | refine blk_drewN ?_ _ | refine blk_drew ?_ | refine blk_alloc ?_ _)); exact BK288.out⟩, ⟨by repeat (first | (with_reducible first | exact HB.out | apply below_alloc | apply pw_below_drewN | apply below_drew1 | refine below_set ?_ GE288.out) | exact HB.out)⟩⟩
              · rw [if_neg c11] at H
                exact absurd H (by simp)
            · rw [if_neg c10] at H
              exact absurd H (by simp)
          · rw [if_neg c9] at H
            have c9b0 : decide (x7_1 < ji2) = false := decide_eq_false c9
            clear c9
            obtain ⟨ji15, hji15⟩ : ∃ j_ : Int, (wrap64 (14 + (wrap64 (Int.tmod a0_1 5)))) = j_ := ⟨_, rfl⟩
            replace H : (if 0 ≤ (ji15) then (if ((ji15) : Int).toNat ≤ 11728124029610 then (concordatlaw02_RowsLimits.l1 k1 ji2 (ji15) (wrap64 (254 + (wrap64 (Int.tmod a0_2 5)))) x6_1 (List.replicate ((ji15) : Int).toNat z71) 0) else (none)) else (none)) = some r := by first | (rw [hji15] at H; exact H) | (simp only [hji15] at H ⊢; exact H)
            have hji15w : (IntKind.i64.wrap (14 + (wrap64 (Int.tmod a0_1 5)))) = ji15 := (i64_w _).trans hji15
            by_cases c16 : 0 ≤ (ji15)
            · rw [if_pos c16] at H
              have c16b0 := eq_true c16
              have c16b1 : decide (0 ≤ (ji15)) = true := decide_eq_true c16
              clear c16
              by_cases c17 : ((ji15) : Int).toNat ≤ 11728124029610
              · rw [if_pos c17] at H
                have c17b0 := eq_true c17
                have c17b1 : decide (((ji15) : Int).toNat ≤ 11728124029610) = true := decide_eq_true c17
                clear c17
                obtain ⟨y293, hy293⟩ : ∃ y_ : List (S71), y_ = (List.replicate ((ji15) : Int).toNat z71) := ⟨_, rfl⟩
                replace H : (concordatlaw02_RowsLimits.l1 k1 ji2 (ji15) (wrap64 (254 + (wrap64 (Int.tmod a0_2 5)))) x6_1 y293 0) = some r := by first | (rw [hy293]; with_reducible exact H) | (have H2_ := (Option.bind_some _ _).symm.trans H; rw [hy293]; with_reducible exact H2_) | (have H2_ := (Option.bind_some _ _).symm.trans H; with_reducible exact H2_) | with_reducible exact H | (rw [hy293]; exact H) | exact H
                have Ny293 := Aside0.mk hy293
                clear hy293
                have H' := Aside0.mk H
                clear H
                go_wp2_with (first | ((with_reducible refine gate_dst (N := 43) rfl ?_); (try (refine gate_guard (by rfl) ?_; dsimp only)); refine Kd.S_make k71 _ 71 rfl (N := 43) rfl 36 _ _ rfl (ji15) (congrArg (Value.int .i64) hji15) (congrArg (Value.int .i64) hji15) Try.underlying36 (.agg #[(.slice none 0 0)]) 24 info71 rfl (by decide) (by omega) z71 (ok := fun _ => True) (okp := fun _ => True) (k71_mkM _ _ _ z71 (Kd.R_nil _ _ _ _ _)) (fun _ hk => hk) trivial (of_decide_eq_true (by first | (with_reducible assumption) | assumption)) (Nat.le_trans (Nat.mul_le_mul_right _ (of_decide_eq_true (by first | (with_reducible assumption) | assumption) : (ji15).toNat ≤ 11728124029610)) (by omega)) (Below.refl _ _) (Nat.le_refl _) ?_; intro v294 w18 ho19 hb hg_ hnew_; clear hg_ hnew_; (first | rw [← Ny293.out] at ho19 | (simp only [Int.reduceToNat] at ho19; rw [← Ny293.out] at ho19)); have n0_ := Aside0.mk (Kd.R_below (by (with_reducible repeat (first | apply Kd.R_alloc | apply Kd.R_drewN | apply Kd.R_drew)); exact HO_6.out) hb); have n1_ := Aside0.mk (Kd.S_lower ho19 (below_size (by repeat (first | (with_reducible first | exact HB.out | apply below_alloc | apply pw_below_drewN | apply below_drew1 | refine below_set ?_ GE288.out) | exact HB.out)))); have n2_ := Aside0.mk (blk_below (g := gb288) (o := .cells #[.int .u8 a0_0, .int .u8 a0_1, .int .u8 a0_2] 98 (0, 0)) (by (with_reducible repeat (first | refine blk_drewN ?_ _ | refine blk_drew ?_ | refine blk_alloc ?_ _)); exact BK288.out) hb); have n3_ := Aside0.mk (below_step (by repeat (first | (with_reducible first | exact HB.out | apply below_alloc | apply pw_below_drewN | apply below_drew1 | refine below_set ?_ GE288.out) | exact HB.out)) hb); clear HO_6; clear BK288; clear HB; have HO_6 := n0_; have HO295 := n1_; have BK288 := n2_; have HB := n3_; clear n0_ n1_ n2_ n3_; clear hb ho19))
                go_loopg [9] k1 (fun kq v9 w' => ∃ (x8_2 : List (S71)) (x9_2 : Int), v9 = .int .i64 x9_2 ∧ Aside0 (concordatlaw02_RowsLimits.l1 kq ji2 (ji15) (wrap64 (254 + (wrap64 (Int.tmod a0_2 5)))) x6_1 x8_2 x9_2 = some r) ∧ Aside0 (kq ≤ k1) ∧ Aside0 (Kd.R k68 68 w' w.heap.size (fun _ => True) v290 x6_1) ∧ Aside0 (Kd.S k71 71 w' w.heap.size (fun _ => True) v294 x8_2) ∧ Aside0 (w'.heap[gb288]? = some (.cells #[.int .u8 a0_0, .int .u8 a0_1, .int .u8 a0_2] 98 (0, 0))) ∧ Aside0 (Below w.heap.size w w'))
                case atStart => exact ⟨(y293), (0), (by first | rfl | (simp; done) | (simp [*]; done)), H', ⟨Nat.le_refl _⟩, ⟨by (with_reducible repeat (first | apply Kd.R_alloc | apply Kd.R_drewN | apply Kd.R_drew)); exact HO_6.out⟩, ⟨by (with_reducible repeat (first | apply Kd.S_alloc | apply Kd.S_drewN | apply Kd.S_drew)); exact HO295.out⟩, ⟨by (with_reducible repeat (first | refine blk_drewN ?_ _ | refine blk_drew ?_ | refine blk_alloc ?_ _)); exact BK288.out⟩, ⟨by repeat (first | (with_reducible first | exact HB.out | apply below_alloc | apply pw_below_drewN | apply below_drew1 | refine below_set ?_ GE288.out) | exact HB.out)⟩⟩
                case round =>
                  clear H'
                  try clear c1
                  try clear p1
                  try clear q1
                  try clear hx1
                  try clear hf1
                  try clear p2
                  try clear c3
                  try clear c3b0
                  try clear c3b1
                  try clear c4
                  try clear c4b0
                  try clear c4b1
                  try clear p6
                  try clear c9
                  try clear c9b0
                  try clear c10
                  try clear c10b0
                  try clear c11
                  try clear c11b0
                  try clear c12
                  try clear p12
                  try clear q12
                  try clear hx12
                  try clear hf12
                  try clear c13
                  try clear hx13
                  try clear hf13
                  try clear c16
                  try clear c16b0
                  try clear c16b1
                  try clear c17
                  try clear c17b0
                  try clear c17b1
                  try clear hcz6_0
                  try clear hcz6_1
                  try clear hcz6_2
                  try clear hfz6_0
                  try clear hfz6_1
                  try clear hfz6_2
                  try clear hx12_0
                  try clear hx12_1
                  try clear hx12_2
                  try clear hx12_3
                  try clear hx13_0
                  try clear hx13_1
                  try clear hx13_2
                  try clear hx13_3
                  try clear p12
                  try clear p2
                  try clear p6
                  try clear q12
                  obtain ⟨x8_2, x9_2, rfl, HA, HK2, HO_6, HO_8, BK288, HB⟩ := hrel
                  cases gk with
                  | zero => exact absurd HA.out (by simp [concordatlaw02_RowsLimits.l1])
                  | succ k2 =>
                    have H := HA.out
                    clear HA
                    simp only [concordatlaw02_RowsLimits.l1] at H
                    by_cases c20 : x9_2 < (wrap64 (254 + (wrap64 (Int.tmod a0_2 5))))
                    · rw [if_pos c20] at H
                      have c20b0 : decide (x9_2 < (wrap64 (254 + (wrap64 (Int.tmod a0_2 5))))) = true := decide_eq_true c20
                      clear c20
                      obtain ⟨ji21, hji21⟩ : ∃ j_ : Int, (wrap64 (Int.tdiv (ji15) 2)) = j_ := ⟨_, rfl⟩
                      replace H : (if 0 ≤ (ji21) then (if (ji21) < (x8_2.length : Int) then (if ((rd_T71 x8_2 (ji21)).f0).length < 5864062014805 then (concordatlaw02_RowsLimits.l1 k2 ji2 (ji15) (wrap64 (254 + (wrap64 (Int.tmod a0_2 5)))) x6_1 (x8_2.set ((ji21) : Int).toNat (⟨(((rd_T71 x8_2 (ji21)).f0) ++ [(⟨(⟨#[107]⟩ : ByteArray), (x9_2) % 4294967296⟩ : S73)])⟩ : S71)) (wrap64 (x9_2 + 1))) else (none)) else (none)) else (none)) = some r := by first | (rw [hji21] at H; exact H) | (simp only [hji21] at H ⊢; exact H)
                      have hji21w : (IntKind.i64.wrap (Int.tdiv (ji15) 2)) = ji21 := (i64_w _).trans hji21
                      by_cases c22 : 0 ≤ (ji21)
                      · rw [if_pos c22] at H
                        have c22b0 : decide (0 ≤ (ji21)) = true := decide_eq_true c22
                        clear c22
                        by_cases c23 : (ji21) < (x8_2.length : Int)
                        · rw [if_pos c23] at H
                          have c23b0 : decide ((ji21) < (x8_2.length : Int)) = true := decide_eq_true c23
                          clear c23
                          by_cases c24 : ((rd_T71 x8_2 (ji21)).f0).length < 5864062014805
                          · rw [if_pos c24] at H
                            have LMc24 := Aside0.mk c24
                            clear c24
                            obtain ⟨y297, hy297⟩ : ∃ y_ : List (S73), y_ = (((rd_T71 x8_2 (ji21)).f0) ++ [(⟨(⟨#[107]⟩ : ByteArray), (x9_2) % 4294967296⟩ : S73)]) := ⟨_, rfl⟩
                            replace H : (concordatlaw02_RowsLimits.l1 k2 ji2 (ji15) (wrap64 (254 + (wrap64 (Int.tmod a0_2 5)))) x6_1 (x8_2.set ((ji21) : Int).toNat (⟨y297⟩ : S71)) (wrap64 (x9_2 + 1))) = some r := by first | (rw [hy297]; with_reducible exact H) | (have H2_ := (Option.bind_some _ _).symm.trans H; rw [hy297]; with_reducible exact H2_) | (have H2_ := (Option.bind_some _ _).symm.trans H; with_reducible exact H2_) | with_reducible exact H | (rw [hy297]; exact H) | exact H
                            have Ny297 := Aside0.mk hy297
                            clear hy297
                            obtain ⟨y300, hy300⟩ : ∃ y_ : List (S71), y_ = (x8_2.set ((ji21) : Int).toNat (⟨y297⟩ : S71)) := ⟨_, rfl⟩
                            replace H : (concordatlaw02_RowsLimits.l1 k2 ji2 (ji15) (wrap64 (254 + (wrap64 (Int.tmod a0_2 5)))) x6_1 y300 (wrap64 (x9_2 + 1))) = some r := by first | (rw [hy300]; with_reducible exact H) | (have H2_ := (Option.bind_some _ _).symm.trans H; rw [hy300]; with_reducible exact H2_) | (have H2_ := (Option.bind_some _ _).symm.trans H; with_reducible exact H2_) | with_reducible exact H | (rw [hy300]; exact H) | exact H
                            have Ny300 := Aside0.mk hy300
                            clear hy300
                            have H' := Aside0.mk H
                            clear H
                            obtain ⟨Ao26, co26, eo26⟩ := Kd.S_slice HO_8.out
                            subst eo26
                            have p296 : 0 ≤ ((ji21) : Int) := of_decide_eq_true (by first | (with_reducible assumption) | assumption)
                            have q296 : (ji21) < (x8_2.length : Int) := of_decide_eq_true (by first | (with_reducible assumption) | assumption)
                            obtain ⟨ad296, A296_0, c296_0, e296, hx296_0, hl296_0, hi296_0⟩ := at_T71 (Kd.S_reads' HO_8.out).2.2 (ji21) p296 q296
                            cases e296
                            obtain ⟨ce296, hce296, hMe296, hcc296⟩ := Kd.S_get HO_8.out z71 (ji21) p296 (by first | exact q296 | exact of_decide_eq_true (by first | (with_reducible assumption) | assumption) | (have e_ := (Kd.S_reads' HO_8.out).1; omega))
                            obtain ⟨ve296_0, rfl, ge296_0⟩ := k71_openM hMe296
                            have hv296_0 := hcc296 0 _ rfl
                            rw [Nat.add_zero, show (k71).sz = 1 from rfl, Nat.mul_one] at hv296_0
                            replace hv296_0 := Option.some.inj (hv296_0.symm.trans hx296_0)
                            rw [hv296_0] at ge296_0
                            have HL296_0 := Aside0.mk (show Kd.R k73 73 _ _ _ _ ((rd_T71 x8_2 (ji21)).f0) from ge296_0)
                            clear hv296_0 ge296_0
                            have HX296_0 := Aside0.mk hx296_0
                            clear hcc296 hce296
                            have HR296_0 := Aside0.mk hi296_0
                            have HC296_0 := Aside0.mk hl296_0
                            clear hi296_0 hl296_0
                            replace p296 := eq_true p296
                            replace q296 := eq_true q296
                            obtain ⟨go27, co27, eo27, gb27, gl27, cl27, HG27⟩ := Kd.S_form HO_8.out (by have h_ : ((ji21) : Int) < ((x8_2.length : Int) : Int) := of_decide_eq_true (by first | (with_reducible assumption) | assumption); have h2_ : 0 ≤ ((ji21) : Int) := (of_decide_eq_true (by first | (with_reducible assumption) | assumption)); omega)
                            (first | cases eo27 | (injection eo27 with ea_ en_ ec_; (first | subst ea_ | (injection ea_ with ea_; subst ea_)); subst ec_; clear en_))
                            have GB27 := Aside0.mk gb27
                            have GG27 := Aside0.mk HG27
                            clear gb27 gl27 HG27
                            (first | simp only [add_plain] at hx296_0 | skip)
                            obtain ⟨oki27, ce27, hcl27, hM27, hcc27, _, _, hH27⟩ := Kd.S_elem HO_8.out z71 ((ji21) : Int) (of_decide_eq_true (by first | (with_reducible assumption) | assumption)) (by have h_ : ((ji21) : Int) < ((x8_2.length : Int) : Int) := of_decide_eq_true (by first | (with_reducible assumption) | assumption); first | exact h_ | (have e_ := (Kd.S_reads' HO_8.out).1; omega) | simpa using h_)
                            obtain ⟨ve27_0, rfl, ge27_0⟩ := k71_openM hM27
                            have hv27 := hcc27 0 _ rfl
                            have hX27 := HX296_0.out
                            (try simp only [add_plain] at hX27)
                            (try simp only [Nat.add_zero] at hv27)
                            (try rw [show (k71).sz = 1 from rfl, Nat.mul_one] at hv27)
                            replace hv27 := Option.some.inj (hv27.symm.trans hX27)
                            subst hv27
                            clear hX27 hcc27 hcl27
                            have UU27 := Aside0.mk (show Kd.R k73 73 _ w.heap.size oki27 (.slice A296_0 ((rd_T71 x8_2 (ji21)).f0).length c296_0) ((rd_T71 x8_2 (ji21)).f0) from ge27_0)
                            have HH27 := Aside0.mk hH27
                            have HN27 := Aside0.mk (Kd.S_reads' HO_8.out).1
                            clear hH27 ge27_0
                            go_wp2_with (first | ((with_reducible refine gate_builtin (b := .append) (xs := #[.tmp 57, .tmp 61]) rfl ?_); (try (refine gate_guard (by rfl) ?_; dsimp only)); at_builtin; refine Kd.R_append k73 (w0 := w) w.heap.size rfl (.tmp 57) (.tmp 61) 69 73 (.agg #[(.string ⟨#[]⟩), (.int .u32 0)]) 24 rfl Try.underlying69 info73 rfl (by decide) (by omega) (.slice A296_0 ((rd_T71 x8_2 (ji21)).f0).length c296_0) ((rd_T71 x8_2 (ji21)).f0) (⟨(⟨#[107]⟩ : ByteArray), (x9_2) % 4294967296⟩ : S73) [.string (⟨#[107]⟩ : ByteArray), .int .u32 ((x9_2) % 4294967296)] (fun k_ => oki27 k_ ∨ ((fun _ => True)) k_ ∧ wr.heap.size ≤ k_) (fun _ => False) rfl rfl ?aP (fun _ hk => hk.elim) ?aF ?aO ?aB ?aS ?aL ?_; (case aP => exact k73_mkM _ _ _ (⟨(⟨#[107]⟩ : ByteArray), (x9_2) % 4294967296⟩ : S73)); (case aB => exact (by repeat (first | (with_reducible first | exact HB.out | apply below_alloc | apply pw_below_drewN | apply below_drew1 | refine below_set ?_ GE288.out) | exact HB.out))); (case aF => exact (fun k_ hk => .inr ⟨trivial, hk⟩)); (case aO => exact (by (with_reducible repeat (first | apply Kd.R_alloc | apply Kd.R_drewN | apply Kd.R_drew)); exact Kd.R_mono UU27.out (fun _ hk => .inl hk))); (case aS => exact (below_size (by repeat (first | (with_reducible first | exact HB.out | apply below_alloc | apply pw_below_drewN | apply below_drew1 | refine below_set ?_ GE288.out) | exact HB.out)))); (case aL => have := LMc24.out; omega); intro v298 w28 ho hb hg hat; rw [← Ny297.out] at ho; have n0_ := Aside0.mk (Kd.R_over' (v := (.slice A296_0 ((rd_T71 x8_2 (ji21)).f0).length c296_0)) (by (with_reducible repeat (first | apply Kd.R_alloc | apply Kd.R_drewN | apply Kd.R_drew)); exact HO_6.out) (Kd.R_typed HL296_0.out) (by decide) hg); have n1_ := Aside0.mk (blk_grown (g := gb288) (o := .cells #[.int .u8 a0_0, .int .u8 a0_1, .int .u8 a0_2] 98 (0, 0)) (by (with_reducible repeat (first | refine blk_drewN ?_ _ | refine blk_drew ?_ | refine blk_alloc ?_ _)); exact BK288.out) hg (Kd.R_ne HL296_0.out BK288.out (by decide))); have n2_ := Aside0.mk (hb); have n3_ := Aside0.mk (Kd.H_grown (Kd.H_widen (by repeat (first | exact HH27.out | refine Kd.H_alloc ?_ _ | refine Kd.H_drewN ?_ _ | refine Kd.H_drew ?_))) hg (fun k_ e_ => .inl (UU27.out.1 k_ e_))); have n4_ := Aside0.mk (ho); clear HO_6; clear BK288; clear HB; clear HH27; clear HO_8; clear UU27; clear HL296_0; have HO_6 := n0_; have BK288 := n1_; have HB := n2_; have HH27 := n3_; have HO299 := n4_; clear n0_ n1_ n2_ n3_ n4_; clear ho hb hg hat; have p25 : 0 ≤ ((ji21) : Int) := of_decide_eq_true (by first | (with_reducible assumption) | assumption); have q25 : ((ji21) : Int) < ((x8_2.length : Int) : Int) := of_decide_eq_true (by first | (with_reducible assumption) | assumption); replace p25 := eq_true p25; replace q25 := eq_true q25; obtain ⟨Ao31, co31, eo31⟩ := Kd.R_slice HO299.out; subst eo31; obtain ⟨_, _, hraw29, _, _, hcc29, _⟩ := Kd.H_raw HH27.out (of_decide_eq_true (by first | (with_reducible assumption) | assumption)) (by have h_ : ((ji21) : Int) < ((x8_2.length : Int) : Int) := of_decide_eq_true (by first | (with_reducible assumption) | assumption); first | exact h_ | (have e_ := (HN27.out); omega) | simpa using h_); obtain ⟨_, hfr29⟩ := Kd.H_at HH27.out (of_decide_eq_true (by first | (with_reducible assumption) | assumption)) (by have h_ : ((ji21) : Int) < ((x8_2.length : Int) : Int) := of_decide_eq_true (by first | (with_reducible assumption) | assumption); first | exact h_ | (have e_ := (HN27.out); omega) | simpa using h_); have hx29_0 := hcc29 0 _ rfl; have hf29_0 := hfr29 0; (try simp only [Nat.add_zero] at hx29_0 hf29_0); (try rw [show (k71).sz = 1 from rfl, Nat.mul_one] at hx29_0); (try rw [show (k71).sz = 1 from rfl, Nat.mul_one] at hf29_0); have HP29 := Kd.S_seg0 HH27.out (of_decide_eq_true (by first | (with_reducible assumption) | assumption)) (by have h_ : ((ji21) : Int) < ((x8_2.length : Int) : Int) := of_decide_eq_true (by first | (with_reducible assumption) | assumption); first | exact h_ | (have e_ := (HN27.out); omega) | simpa using h_) (seg := [.slice Ao31 y297.length co31]) (j := 0) (show 1 ≤ 1 from by decide) (x' := (⟨y297⟩ : S71)) (k71_mkM _ _ _ (⟨y297⟩ : S71) HO299.out) (fun _ hk => hk); (try simp only [show (k71).sz = 1 from rfl, Nat.mul_one, Nat.add_zero] at HP29); clear hcc29 hfr29) | ((with_reducible refine gate_store (t := 69) (p := 64) rfl ?_); refine store_event (t := 69) (p := 64) (v := ?vo_w30) (w1 := (w28.setCell ⟨go27, ((ji21) : Int).toNat, none⟩ (.slice Ao31 y297.length co31))) ?hg ?ho ?hn ?hr ?_; (case ho => rfl); (case hg => rfl); (case hn => rfl); (case hr => first | (go_simp; done) | (go_simp; rfl)); intro w30 hw; have hg : w28.grownBy w30 (some go27) := (by rw [hw]; exact HP29.2); have hp_ : Kd.S k71 71 w30 w.heap.size (fun _ => True) (.slice (some ⟨go27, 0, none⟩) x8_2.length co26) y300 := (by rw [hw, Ny300.out]; exact HP29.1); clear HP29; have n0_ := Aside0.mk (Kd.R_over' (v := (.slice (some ⟨go27, 0, none⟩) x8_2.length co26)) (by (with_reducible repeat (first | apply Kd.R_alloc | apply Kd.R_drewN | apply Kd.R_drew)); exact HO_6.out) (Kd.R_typed hraw29) (by decide) hg); have n1_ := Aside0.mk (blk_grown (g := gb288) (o := .cells #[.int .u8 a0_0, .int .u8 a0_1, .int .u8 a0_2] 98 (0, 0)) (by (with_reducible repeat (first | refine blk_drewN ?_ _ | refine blk_drew ?_ | refine blk_alloc ?_ _)); exact BK288.out) hg (Kd.R_ne hraw29 BK288.out (by decide))); have n2_ := Aside0.mk ((by rw [hw]; exact below_set HB.out GB27.out : Below w.heap.size w w30)); have n3_ := Aside0.mk (hp_); clear HO_6; clear BK288; clear HB; clear HO299; clear HH27; have HO_6 := n0_; have BK288 := n1_; have HB := n2_; have HO_8 := n3_; clear n0_ n1_ n2_ n3_; clear hg hw hp_ hraw29))
                            go_roundg k2
                            case measure => have := HK1.out; have := HK2.out; omega
                            case rel => exact ⟨(y300), (wrap64 (x9_2 + 1)), (by first | rfl | (simp; done) | (simp [*]; done)), H', ⟨by have := HK1.out; have := HK2.out; omega⟩, ⟨by (with_reducible repeat (first | apply Kd.R_alloc | apply Kd.R_drewN | apply Kd.R_drew)); exact HO_6.out⟩, ⟨by (with_reducible repeat (first | apply Kd.S_alloc | apply Kd.S_drewN | apply Kd.S_drew)); exact HO_8.out⟩, ⟨by (with_reducible repeat (first | refine blk_drewN ?_ _ | refine blk_drew ?_ | refine blk_alloc ?_ _)); exact BK288.out⟩, ⟨by repeat (first | (with_reducible first | exact HB.out | apply below_alloc | apply pw_below_drewN | apply below_drew1 | refine below_set ?_ GE288.out) | exact HB.out)⟩⟩
                          · rw [if_neg c24] at H
                            exact absurd H (by simp)
                        · rw [if_neg c23] at H
                          exact absurd H (by simp)
                      · rw [if_neg c22] at H
                        exact absurd H (by simp)
                    · rw [if_neg c20] at H
                      have c20b0 : decide (x9_2 < (wrap64 (254 + (wrap64 (Int.tmod a0_2 5))))) = false := decide_eq_false c20
                      clear c20
                      replace H := Option.bind_eq_some_iff.mp H
                      obtain ⟨⟨t301, t302⟩, A320, H⟩ := H
                      replace H : ((rows_PutResults.f k2 x8_2).bind fun bt305 => (if ((t302 == 0) != (decide (ji2 ≤ 16))) = true then (concordatlaw02_RowsLimits.j2 k2 (ji15) (wrap64 (254 + (wrap64 (Int.tmod a0_2 5)))) bt305.1 bt305.2 true) else (if t302 = 0 then (if (ji15) ≤ 16 then (if ((bt305.2 == 0) != (decide ((wrap64 (254 + (wrap64 (Int.tmod a0_2 5)))) ≤ 256))) = true then (concordatlaw02_RowsLimits.j2 k2 (ji15) (wrap64 (254 + (wrap64 (Int.tmod a0_2 5)))) bt305.1 bt305.2 true) else (if bt305.2 = 0 then (concordatlaw02_RowsLimits.j2 k2 (ji15) (wrap64 (254 + (wrap64 (Int.tmod a0_2 5)))) bt305.1 bt305.2 false) else (concordatlaw02_RowsLimits.j2 k2 (ji15) (wrap64 (254 + (wrap64 (Int.tmod a0_2 5)))) bt305.1 bt305.2 (bt305.2 != 3)))) else (if ((bt305.2 == 0) != false) = true then (concordatlaw02_RowsLimits.j2 k2 (ji15) (wrap64 (254 + (wrap64 (Int.tmod a0_2 5)))) bt305.1 bt305.2 true) else (if bt305.2 = 0 then (concordatlaw02_RowsLimits.j2 k2 (ji15) (wrap64 (254 + (wrap64 (Int.tmod a0_2 5)))) bt305.1 bt305.2 false) else (concordatlaw02_RowsLimits.j2 k2 (ji15) (wrap64 (254 + (wrap64 (Int.tmod a0_2 5)))) bt305.1 bt305.2 (bt305.2 != 3))))) else (if t302 = 3 then (if (ji15) ≤ 16 then (if ((bt305.2 == 0) != (decide ((wrap64 (254 + (wrap64 (Int.tmod a0_2 5)))) ≤ 256))) = true then (concordatlaw02_RowsLimits.j2 k2 (ji15) (wrap64 (254 + (wrap64 (Int.tmod a0_2 5)))) bt305.1 bt305.2 true) else (if bt305.2 = 0 then (concordatlaw02_RowsLimits.j2 k2 (ji15) (wrap64 (254 + (wrap64 (Int.tmod a0_2 5)))) bt305.1 bt305.2 false) else (concordatlaw02_RowsLimits.j2 k2 (ji15) (wrap64 (254 + (wrap64 (Int.tmod a0_2 5)))) bt305.1 bt305.2 (bt305.2 != 3)))) else (if ((bt305.2 == 0) != false) = true then (concordatlaw02_RowsLimits.j2 k2 (ji15) (wrap64 (254 + (wrap64 (Int.tmod a0_2 5)))) bt305.1 bt305.2 true) else (if bt305.2 = 0 then (concordatlaw02_RowsLimits.j2 k2 (ji15) (wrap64 (254 + (wrap64 (Int.tmod a0_2 5)))) bt305.1 bt305.2 false) else (concordatlaw02_RowsLimits.j2 k2 (ji15) (wrap64 (254 + (wrap64 (Int.tmod a0_2 5)))) bt305.1 bt305.2 (bt305.2 != 3))))) else (concordatlaw02_RowsLimits.j2 k2 (ji15) (wrap64 (254 + (wrap64 (Int.tmod a0_2 5)))) bt305.1 bt305.2 true))))) = some r := H
                      have A32 := Aside0.mk A320
                      clear A320
                      replace H := Option.bind_eq_some_iff.mp H
                      obtain ⟨⟨t305, t306⟩, A330, H⟩ := H
                      replace H : (if ((t302 == 0) != (decide (ji2 ≤ 16))) = true then (concordatlaw02_RowsLimits.j2 k2 (ji15) (wrap64 (254 + (wrap64 (Int.tmod a0_2 5)))) t305 t306 true) else (if t302 = 0 then (if (ji15) ≤ 16 then (if ((t306 == 0) != (decide ((wrap64 (254 + (wrap64 (Int.tmod a0_2 5)))) ≤ 256))) = true then (concordatlaw02_RowsLimits.j2 k2 (ji15) (wrap64 (254 + (wrap64 (Int.tmod a0_2 5)))) t305 t306 true) else (if t306 = 0 then (concordatlaw02_RowsLimits.j2 k2 (ji15) (wrap64 (254 + (wrap64 (Int.tmod a0_2 5)))) t305 t306 false) else (concordatlaw02_RowsLimits.j2 k2 (ji15) (wrap64 (254 + (wrap64 (Int.tmod a0_2 5)))) t305 t306 (t306 != 3)))) else (if ((t306 == 0) != false) = true then (concordatlaw02_RowsLimits.j2 k2 (ji15) (wrap64 (254 + (wrap64 (Int.tmod a0_2 5)))) t305 t306 true) else (if t306 = 0 then (concordatlaw02_RowsLimits.j2 k2 (ji15) (wrap64 (254 + (wrap64 (Int.tmod a0_2 5)))) t305 t306 false) else (concordatlaw02_RowsLimits.j2 k2 (ji15) (wrap64 (254 + (wrap64 (Int.tmod a0_2 5)))) t305 t306 (t306 != 3))))) else (if t302 = 3 then (if (ji15) ≤ 16 then (if ((t306 == 0) != (decide ((wrap64 (254 + (wrap64 (Int.tmod a0_2 5)))) ≤ 256))) = true then (concordatlaw02_RowsLimits.j2 k2 (ji15) (wrap64 (254 + (wrap64 (Int.tmod a0_2 5)))) t305 t306 true) else (if t306 = 0 then (concordatlaw02_RowsLimits.j2 k2 (ji15) (wrap64 (254 + (wrap64 (Int.tmod a0_2 5)))) t305 t306 false) else (concordatlaw02_RowsLimits.j2 k2 (ji15) (wrap64 (254 + (wrap64 (Int.tmod a0_2 5)))) t305 t306 (t306 != 3)))) else (if ((t306 == 0) != false) = true then (concordatlaw02_RowsLimits.j2 k2 (ji15) (wrap64 (254 + (wrap64 (Int.tmod a0_2 5)))) t305 t306 true) else (if t306 = 0 then (concordatlaw02_RowsLimits.j2 k2 (ji15) (wrap64 (254 + (wrap64 (Int.tmod a0_2 5)))) t305 t306 false) else (concordatlaw02_RowsLimits.j2 k2 (ji15) (wrap64 (254 + (wrap64 (Int.tmod a0_2 5)))) t305 t306 (t306 != 3))))) else (concordatlaw02_RowsLimits.j2 k2 (ji15) (wrap64 (254 + (wrap64 (Int.tmod a0_2 5)))) t305 t306 true)))) = some r := H
                      have A33 := Aside0.mk A330
                      clear A330
                      have HC34 := Aside0.mk H
                      clear H
                      obtain ⟨Ao35, co35, eo35⟩ := Kd.R_slice HO_6.out
                      subst eo35
                      go_upto_region 16 with (first | ((with_reducible refine gate_callee (f := 41) rfl ?_); refine goesL_ (some 67) rfl rfl Try.func41 (by kernel_rfl) rfl #[.slice Ao35 x6_1.length co35] rfl (by (try simp only [List.map_toArray, List.map_cons, List.map_nil]); first | done | rfl | (simp only [List.length_drop, List.length_take]; rfl)) ?_; (with_reducible refine (rows_PutOps.calls k2 _ _ x6_1 t301 t302 _ ?side1 ?side2 A32.out).mono ?_); (case side1 => repeat (first | exact (Kd.R_reads' HO_6.out).2.2 | (with_reducible refine Kd.C_alloc ?_ _) | (with_reducible refine Kd.C_drewN ?_ _) | (with_reducible refine Kd.C_drew ?_))); (case side2 => exact (Kd.R_reads' HO_6.out).2.1); rintro e w36 ⟨v303, rfl, ho0, hb⟩; refine ⟨_, rfl, ?_⟩; have n0_ := Aside0.mk (Kd.R_below (by (with_reducible repeat (first | apply Kd.R_alloc | apply Kd.R_drewN | apply Kd.R_drew)); exact HO_6.out) hb); have n1_ := Aside0.mk (Kd.S_below (by (with_reducible repeat (first | apply Kd.S_alloc | apply Kd.S_drewN | apply Kd.S_drew)); exact HO_8.out) hb); have n2_ := Aside0.mk (Kd.R_lower ho0 (below_size (by repeat (first | (with_reducible first | exact HB.out | apply below_alloc | apply pw_below_drewN | apply below_drew1 | refine below_set ?_ GE288.out) | exact HB.out)))); have n3_ := Aside0.mk (blk_below (g := gb288) (o := .cells #[.int .u8 a0_0, .int .u8 a0_1, .int .u8 a0_2] 98 (0, 0)) (by (with_reducible repeat (first | refine blk_drewN ?_ _ | refine blk_drew ?_ | refine blk_alloc ?_ _)); exact BK288.out) hb); have n4_ := Aside0.mk (below_step (by repeat (first | (with_reducible first | exact HB.out | apply below_alloc | apply pw_below_drewN | apply below_drew1 | refine below_set ?_ GE288.out) | exact HB.out)) hb); clear HO_6; clear HO_8; clear BK288; clear HB; have HO_6 := n0_; have HO_8 := n1_; have HO304 := n2_; have BK288 := n3_; have HB := n4_; clear n0_ n1_ n2_ n3_ n4_; (try clear hb); (try clear hb2); (try clear hk); (try clear hi); (try clear ho0); obtain ⟨Ao37, co37, eo37⟩ := Kd.S_slice HO_8.out; subst eo37) | ((with_reducible refine gate_callee (f := 49) rfl ?_); refine goesL_ (some 72) rfl rfl Try.func49 (by kernel_rfl) rfl #[.slice Ao37 x8_2.length co37] rfl (by (try simp only [List.map_toArray, List.map_cons, List.map_nil]); first | done | rfl | (simp only [List.length_drop, List.length_take]; rfl)) ?_; (with_reducible refine (rows_PutResults.calls k2 _ _ x8_2 t305 t306 _ ?side1 ?side2 A33.out).mono ?_); (case side1 => repeat (first | exact (Kd.S_reads' HO_8.out).2.2 | (with_reducible refine Kd.C_alloc ?_ _) | (with_reducible refine Kd.C_drewN ?_ _) | (with_reducible refine Kd.C_drew ?_))); (case side2 => exact (Kd.S_reads' HO_8.out).2.1); rintro e w38 ⟨v307, rfl, ho0, hb⟩; refine ⟨_, rfl, ?_⟩; have n0_ := Aside0.mk (Kd.R_below (by (with_reducible repeat (first | apply Kd.R_alloc | apply Kd.R_drewN | apply Kd.R_drew)); exact HO_6.out) hb); have n1_ := Aside0.mk (Kd.S_below (by (with_reducible repeat (first | apply Kd.S_alloc | apply Kd.S_drewN | apply Kd.S_drew)); exact HO_8.out) hb); have n2_ := Aside0.mk (Kd.R_elder' (by (with_reducible repeat (first | apply Kd.R_alloc | apply Kd.R_drewN | apply Kd.R_drew)); exact HO304.out) (Kd.R_base ho0) hb); have n3_ := Aside0.mk (Kd.R_lower (Kd.R_new' ho0 (Kd.R_lt (by (with_reducible repeat (first | apply Kd.R_alloc | apply Kd.R_drewN | apply Kd.R_drew)); exact HO304.out))) (below_size (by repeat (first | (with_reducible first | exact HB.out | apply below_alloc | apply pw_below_drewN | apply below_drew1 | refine below_set ?_ GE288.out) | exact HB.out)))); have n4_ := Aside0.mk (blk_below (g := gb288) (o := .cells #[.int .u8 a0_0, .int .u8 a0_1, .int .u8 a0_2] 98 (0, 0)) (by (with_reducible repeat (first | refine blk_drewN ?_ _ | refine blk_drew ?_ | refine blk_alloc ?_ _)); exact BK288.out) hb); have n5_ := Aside0.mk (below_step (by repeat (first | (with_reducible first | exact HB.out | apply below_alloc | apply pw_below_drewN | apply below_drew1 | refine below_set ?_ GE288.out) | exact HB.out)) hb); clear HO_6; clear HO_8; clear HO304; clear BK288; clear HB; have HO_6 := n0_; have HO_8 := n1_; have HO304 := n2_; have HO308 := n3_; have BK288 := n4_; have HB := n5_; clear n0_ n1_ n2_ n3_ n4_ n5_; (try clear hb); (try clear hb2); (try clear hk); (try clear hi); (try clear ho0)))
                      (try simp only [Act.put, List.setIfInBounds_toArray, List.set_cons_zero, List.set_cons_succ])
                      go_cut [106] (fun v106 wc => ∃ (kq : Nat) (x106_33 : Bool), v106 = .bool x106_33 ∧ Aside0 (concordatlaw02_RowsLimits.j2 kq (ji15) (wrap64 (254 + (wrap64 (Int.tmod a0_2 5)))) t305 t306 x106_33 = some r) ∧ Aside0 (kq ≤ k2) ∧ Aside0 (Kd.R (Kd.int .u8) 5 wc w.heap.size (fun _ => True) v307 t305) ∧ Aside0 (wc.heap[gb288]? = some (.cells #[.int .u8 a0_0, .int .u8 a0_1, .int .u8 a0_2] 98 (0, 0))) ∧ Aside0 (Below w.heap.size w wc))
                      case first =>
                        have H := HC34.out
                        clear HC34
                        by_cases c39 : ((t302 == 0) != (decide (ji2 ≤ 16))) = true
                        · rw [if_pos c39] at H
                          have c39b0 : ((t302 == 0) != (decide (ji2 ≤ 16))) = true := c39
                          (try (have c39b1 : decide ((t302 == 0) = (decide (ji2 ≤ 16))) = false := by simpa using c39))
                          (try (have c39b2 : ((t302 == 0) == (decide (ji2 ≤ 16))) = false := by simpa using c39))
                          (try (have c39b3 : ¬ ((t302 == 0) = (decide (ji2 ≤ 16))) := by simpa using c39))
                          clear c39
                          (first | rw [c39b0] | (simp only [i64_w, i32_w]; rw [c39b0]) | skip)
                          have H' := Aside0.mk H
                          clear H
                          go_wp2
                          go_meet
                          case rel => exact ⟨_, (true), (by first | rfl | (simp; done) | (simp [*]; done)), H', ⟨by have := HK1.out; have := HK2.out; first | omega | exact Nat.le_refl _⟩, ⟨by (with_reducible repeat (first | apply Kd.R_alloc | apply Kd.R_drewN | apply Kd.R_drew)); exact Kd.R_mono HO308.out (fun _ hk => trivial)⟩, ⟨by (with_reducible repeat (first | refine blk_drewN ?_ _ | refine blk_drew ?_ | refine blk_alloc ?_ _)); exact BK288.out⟩, ⟨by repeat (first | (with_reducible first | exact HB.out | apply below_alloc | apply pw_below_drewN | apply below_drew1 | refine below_set ?_ GE288.out) | exact HB.out)⟩⟩
                        · rw [if_neg c39] at H
                          have c39b0 : ((t302 == 0) != (decide (ji2 ≤ 16))) = false := by simpa using c39
                          (try (have c39b1 : decide ((t302 == 0) = (decide (ji2 ≤ 16))) = true := by simpa using c39))
                          (try (have c39b2 : ((t302 == 0) == (decide (ji2 ≤ 16))) = true := by simpa using c39))
                          clear c39
                          (first | rw [c39b0] | (simp only [i64_w, i32_w]; rw [c39b0]) | skip)
                          by_cases c40 : t302 = 0
                          · rw [if_pos c40] at H
                            have hq40 : decide ((ji2) ≤ 16) = true := by have q_ := c39b0; rw [c40] at q_; simpa using q_
                            have hq40a : (ji2) ≤ 16 := of_decide_eq_true hq40
                            have hq40b : ¬ (16 : Int) < (ji2) := by omega
                            have c40b0 : (t302 == 0) = true := beq_iff_eq.mpr c40
                            have c40b1 : (t302 != 0) = false := bne_eq_false_iff_eq.mpr c40
                            clear c40
                            by_cases c41 : (ji15) ≤ 16
                            · rw [if_pos c41] at H
                              have c41b0 : decide ((ji15) ≤ 16) = true := decide_eq_true c41
                              clear c41
                              by_cases c42 : ((t306 == 0) != (decide ((wrap64 (254 + (wrap64 (Int.tmod a0_2 5)))) ≤ 256))) = true
                              · rw [if_pos c42] at H
                                have c42b0 : ((t306 == 0) != (decide ((wrap64 (254 + (wrap64 (Int.tmod a0_2 5)))) ≤ 256))) = true := c42
                                (try (have c42b1 : decide ((t306 == 0) = (decide ((wrap64 (254 + (wrap64 (Int.tmod a0_2 5)))) ≤ 256))) = false := by simpa using c42))
                                (try (have c42b2 : ((t306 == 0) == (decide ((wrap64 (254 + (wrap64 (Int.tmod a0_2 5)))) ≤ 256))) = false := by simpa using c42))
                                (try (have c42b3 : ¬ ((t306 == 0) = (decide ((wrap64 (254 + (wrap64 (Int.tmod a0_2 5)))) ≤ 256))) := by simpa using c42))
                                clear c42
                                have H' := Aside0.mk H
                                clear H
                                go_wp2
                                go_meet
                                case rel => exact ⟨_, (true), (by first | rfl | (simp; done) | (simp [*]; done)), H', ⟨by have := HK1.out; have := HK2.out; first | omega | exact Nat.le_refl _⟩, ⟨by (with_reducible repeat (first | apply Kd.R_alloc | apply Kd.R_drewN | apply Kd.R_drew)); exact Kd.R_mono HO308.out (fun _ hk => trivial)⟩, ⟨by (with_reducible repeat (first | refine blk_drewN ?_ _ | refine blk_drew ?_ | refine blk_alloc ?_ _)); exact BK288.out⟩, ⟨by repeat (first | (with_reducible first | exact HB.out | apply below_alloc | apply pw_below_drewN | apply below_drew1 | refine below_set ?_ GE288.out) | exact HB.out)⟩⟩
                              · rw [if_neg c42] at H
                                have c42b0 : ((t306 == 0) != (decide ((wrap64 (254 + (wrap64 (Int.tmod a0_2 5)))) ≤ 256))) = false := by simpa using c42
                                (try (have c42b1 : decide ((t306 == 0) = (decide ((wrap64 (254 + (wrap64 (Int.tmod a0_2 5)))) ≤ 256))) = true := by simpa using c42))
                                (try (have c42b2 : ((t306 == 0) == (decide ((wrap64 (254 + (wrap64 (Int.tmod a0_2 5)))) ≤ 256))) = true := by simpa using c42))
                                clear c42
                                by_cases c43 : t306 = 0
                                · rw [if_pos c43] at H
                                  have hq43 : decide (((wrap64 (254 + (wrap64 (Int.tmod a0_2 5))))) ≤ 256) = true := by have q_ := c42b0; rw [c43] at q_; simpa using q_
                                  have hq43a : ((wrap64 (254 + (wrap64 (Int.tmod a0_2 5))))) ≤ 256 := of_decide_eq_true hq43
                                  have hq43b : ¬ (256 : Int) < ((wrap64 (254 + (wrap64 (Int.tmod a0_2 5))))) := by omega
                                  have c43b0 : (t306 == 0) = true := beq_iff_eq.mpr c43
                                  have c43b1 : (t306 != 0) = false := bne_eq_false_iff_eq.mpr c43
                                  clear c43
                                  have H' := Aside0.mk H
                                  clear H
                                  go_wp2
                                  go_meet
                                  case rel => exact ⟨_, (false), (by first | rfl | (simp; done) | (simp [*]; done)), H', ⟨by have := HK1.out; have := HK2.out; first | omega | exact Nat.le_refl _⟩, ⟨by (with_reducible repeat (first | apply Kd.R_alloc | apply Kd.R_drewN | apply Kd.R_drew)); exact Kd.R_mono HO308.out (fun _ hk => trivial)⟩, ⟨by (with_reducible repeat (first | refine blk_drewN ?_ _ | refine blk_drew ?_ | refine blk_alloc ?_ _)); exact BK288.out⟩, ⟨by repeat (first | (with_reducible first | exact HB.out | apply below_alloc | apply pw_below_drewN | apply below_drew1 | refine below_set ?_ GE288.out) | exact HB.out)⟩⟩
                                · rw [if_neg c43] at H
                                  have hq43 : decide (((wrap64 (254 + (wrap64 (Int.tmod a0_2 5))))) ≤ 256) = false := by have q_ := c42b0; rw [beq_eq_false_iff_ne.mpr c43] at q_; simpa using q_
                                  have hq43a : (256 : Int) < ((wrap64 (254 + (wrap64 (Int.tmod a0_2 5))))) := by have := of_decide_eq_false hq43; omega
                                  have hq43b : ¬ ((wrap64 (254 + (wrap64 (Int.tmod a0_2 5))))) ≤ 256 := by omega
                                  have c43b0 : (t306 == 0) = false := beq_eq_false_iff_ne.mpr c43
                                  have c43b1 : (t306 != 0) = true := bne_iff_ne.mpr c43
                                  have H' := Aside0.mk H
                                  clear H
                                  go_wp2
                                  go_meet
                                  case rel => exact ⟨_, ((t306 != 3)), (by first | rfl | (simp; done) | (simp [*]; done)), H', ⟨by have := HK1.out; have := HK2.out; first | omega | exact Nat.le_refl _⟩, ⟨by (with_reducible repeat (first | apply Kd.R_alloc | apply Kd.R_drewN | apply Kd.R_drew)); exact Kd.R_mono HO308.out (fun _ hk => trivial)⟩, ⟨by (with_reducible repeat (first | refine blk_drewN ?_ _ | refine blk_drew ?_ | refine blk_alloc ?_ _)); exact BK288.out⟩, ⟨by repeat (first | (with_reducible first | exact HB.out | apply below_alloc | apply pw_below_drewN | apply below_drew1 | refine below_set ?_ GE288.out) | exact HB.out)⟩⟩
                            · rw [if_neg c41] at H
                              have c41b0 : decide ((ji15) ≤ 16) = false := decide_eq_false c41
                              clear c41
                              by_cases c44 : ((t306 == 0) != false) = true
                              · rw [if_pos c44] at H
                                have c44b0 : ((t306 == 0) != false) = true := c44
                                (try (have c44b1 : decide ((t306 == 0) = false) = false := by simpa using c44))
                                (try (have c44b2 : ((t306 == 0) == false) = false := by simpa using c44))
                                (try (have c44b3 : ¬ ((t306 == 0) = false) := by simpa using c44))
                                clear c44
                                have H' := Aside0.mk H
                                clear H
                                go_wp2
                                go_meet
                                case rel => exact ⟨_, (true), (by first | rfl | (simp; done) | (simp [*]; done)), H', ⟨by have := HK1.out; have := HK2.out; first | omega | exact Nat.le_refl _⟩, ⟨by (with_reducible repeat (first | apply Kd.R_alloc | apply Kd.R_drewN | apply Kd.R_drew)); exact Kd.R_mono HO308.out (fun _ hk => trivial)⟩, ⟨by (with_reducible repeat (first | refine blk_drewN ?_ _ | refine blk_drew ?_ | refine blk_alloc ?_ _)); exact BK288.out⟩, ⟨by repeat (first | (with_reducible first | exact HB.out | apply below_alloc | apply pw_below_drewN | apply below_drew1 | refine below_set ?_ GE288.out) | exact HB.out)⟩⟩
                              · rw [if_neg c44] at H
                                have c44b0 : ((t306 == 0) != false) = false := by simpa using c44
                                (try (have c44b1 : decide ((t306 == 0) = false) = true := by simpa using c44))
                                (try (have c44b2 : ((t306 == 0) == false) = true := by simpa using c44))
                                clear c44
                                by_cases c45 : t306 = 0
                                · exact absurd c44b0 (by rw [c45]; decide)
                                · rw [if_neg c45] at H
                                  have c45b0 : (t306 == 0) = false := beq_eq_false_iff_ne.mpr c45
                                  have c45b1 : (t306 != 0) = true := bne_iff_ne.mpr c45
                                  have H' := Aside0.mk H
                                  clear H
                                  go_wp2
                                  go_meet
                                  case rel => exact ⟨_, ((t306 != 3)), (by first | rfl | (simp; done) | (simp [*]; done)), H', ⟨by have := HK1.out; have := HK2.out; first | omega | exact Nat.le_refl _⟩, ⟨by (with_reducible repeat (first | apply Kd.R_alloc | apply Kd.R_drewN | apply Kd.R_drew)); exact Kd.R_mono HO308.out (fun _ hk => trivial)⟩, ⟨by (with_reducible repeat (first | refine blk_drewN ?_ _ | refine blk_drew ?_ | refine blk_alloc ?_ _)); exact BK288.out⟩, ⟨by repeat (first | (with_reducible first | exact HB.out | apply below_alloc | apply pw_below_drewN | apply below_drew1 | refine below_set ?_ GE288.out) | exact HB.out)⟩⟩
                          · rw [if_neg c40] at H
                            have hq40 : decide ((ji2) ≤ 16) = false := by have q_ := c39b0; rw [beq_eq_false_iff_ne.mpr c40] at q_; simpa using q_
                            have hq40a : (16 : Int) < (ji2) := by have := of_decide_eq_false hq40; omega
                            have hq40b : ¬ (ji2) ≤ 16 := by omega
                            have c40b0 : (t302 == 0) = false := beq_eq_false_iff_ne.mpr c40
                            have c40b1 : (t302 != 0) = true := bne_iff_ne.mpr c40
                            by_cases c46 : t302 = 3
                            · rw [if_pos c46] at H
                              have c46b0 : (t302 == 3) = true := beq_iff_eq.mpr c46
                              have c46b1 : (t302 != 3) = false := bne_eq_false_iff_eq.mpr c46
                              clear c46
                              by_cases c47 : (ji15) ≤ 16
                              · rw [if_pos c47] at H
                                have c47b0 : decide ((ji15) ≤ 16) = true := decide_eq_true c47
                                clear c47
                                by_cases c48 : ((t306 == 0) != (decide ((wrap64 (254 + (wrap64 (Int.tmod a0_2 5)))) ≤ 256))) = true
                                · rw [if_pos c48] at H
                                  have c48b0 : ((t306 == 0) != (decide ((wrap64 (254 + (wrap64 (Int.tmod a0_2 5)))) ≤ 256))) = true := c48
                                  (try (have c48b1 : decide ((t306 == 0) = (decide ((wrap64 (254 + (wrap64 (Int.tmod a0_2 5)))) ≤ 256))) = false := by simpa using c48))
                                  (try (have c48b2 : ((t306 == 0) == (decide ((wrap64 (254 + (wrap64 (Int.tmod a0_2 5)))) ≤ 256))) = false := by simpa using c48))
                                  (try (have c48b3 : ¬ ((t306 == 0) = (decide ((wrap64 (254 + (wrap64 (Int.tmod a0_2 5)))) ≤ 256))) := by simpa using c48))
                                  clear c48
                                  have H' := Aside0.mk H
                                  clear H
                                  go_wp2
                                  go_meet
                                  case rel => exact ⟨_, (true), (by first | rfl | (simp; done) | (simp [*]; done)), H', ⟨by have := HK1.out; have := HK2.out; first | omega | exact Nat.le_refl _⟩, ⟨by (with_reducible repeat (first | apply Kd.R_alloc | apply Kd.R_drewN | apply Kd.R_drew)); exact Kd.R_mono HO308.out (fun _ hk => trivial)⟩, ⟨by (with_reducible repeat (first | refine blk_drewN ?_ _ | refine blk_drew ?_ | refine blk_alloc ?_ _)); exact BK288.out⟩, ⟨by repeat (first | (with_reducible first | exact HB.out | apply below_alloc | apply pw_below_drewN | apply below_drew1 | refine below_set ?_ GE288.out) | exact HB.out)⟩⟩
                                · rw [if_neg c48] at H
                                  have c48b0 : ((t306 == 0) != (decide ((wrap64 (254 + (wrap64 (Int.tmod a0_2 5)))) ≤ 256))) = false := by simpa using c48
                                  (try (have c48b1 : decide ((t306 == 0) = (decide ((wrap64 (254 + (wrap64 (Int.tmod a0_2 5)))) ≤ 256))) = true := by simpa using c48))
                                  (try (have c48b2 : ((t306 == 0) == (decide ((wrap64 (254 + (wrap64 (Int.tmod a0_2 5)))) ≤ 256))) = true := by simpa using c48))
                                  clear c48
                                  by_cases c49 : t306 = 0
                                  · rw [if_pos c49] at H
                                    have hq49 : decide (((wrap64 (254 + (wrap64 (Int.tmod a0_2 5))))) ≤ 256) = true := by have q_ := c48b0; rw [c49] at q_; simpa using q_
                                    have hq49a : ((wrap64 (254 + (wrap64 (Int.tmod a0_2 5))))) ≤ 256 := of_decide_eq_true hq49
                                    have hq49b : ¬ (256 : Int) < ((wrap64 (254 + (wrap64 (Int.tmod a0_2 5))))) := by omega
                                    have c49b0 : (t306 == 0) = true := beq_iff_eq.mpr c49
                                    have c49b1 : (t306 != 0) = false := bne_eq_false_iff_eq.mpr c49
                                    clear c49
                                    have H' := Aside0.mk H
                                    clear H
                                    go_wp2
                                    go_meet
                                    case rel => exact ⟨_, (false), (by first | rfl | (simp; done) | (simp [*]; done)), H', ⟨by have := HK1.out; have := HK2.out; first | omega | exact Nat.le_refl _⟩, ⟨by (with_reducible repeat (first | apply Kd.R_alloc | apply Kd.R_drewN | apply Kd.R_drew)); exact Kd.R_mono HO308.out (fun _ hk => trivial)⟩, ⟨by (with_reducible repeat (first | refine blk_drewN ?_ _ | refine blk_drew ?_ | refine blk_alloc ?_ _)); exact BK288.out⟩, ⟨by repeat (first | (with_reducible first | exact HB.out | apply below_alloc | apply pw_below_drewN | apply below_drew1 | refine below_set ?_ GE288.out) | exact HB.out)⟩⟩
                                  · rw [if_neg c49] at H
                                    have hq49 : decide (((wrap64 (254 + (wrap64 (Int.tmod a0_2 5))))) ≤ 256) = false := by have q_ := c48b0; rw [beq_eq_false_iff_ne.mpr c49] at q_; simpa using q_
                                    have hq49a : (256 : Int) < ((wrap64 (254 + (wrap64 (Int.tmod a0_2 5))))) := by have := of_decide_eq_false hq49; omega
                                    have hq49b : ¬ ((wrap64 (254 + (wrap64 (Int.tmod a0_2 5))))) ≤ 256 := by omega
                                    have c49b0 : (t306 == 0) = false := beq_eq_false_iff_ne.mpr c49
                                    have c49b1 : (t306 != 0) = true := bne_iff_ne.mpr c49
                                    have H' := Aside0.mk H
                                    clear H
                                    go_wp2
                                    go_meet
                                    case rel => exact ⟨_, ((t306 != 3)), (by first | rfl | (simp; done) | (simp [*]; done)), H', ⟨by have := HK1.out; have := HK2.out; first | omega | exact Nat.le_refl _⟩, ⟨by (with_reducible repeat (first | apply Kd.R_alloc | apply Kd.R_drewN | apply Kd.R_drew)); exact Kd.R_mono HO308.out (fun _ hk => trivial)⟩, ⟨by (with_reducible repeat (first | refine blk_drewN ?_ _ | refine blk_drew ?_ | refine blk_alloc ?_ _)); exact BK288.out⟩, ⟨by repeat (first | (with_reducible first | exact HB.out | apply below_alloc | apply pw_below_drewN | apply below_drew1 | refine below_set ?_ GE288.out) | exact HB.out)⟩⟩
                              · rw [if_neg c47] at H
                                have c47b0 : decide ((ji15) ≤ 16) = false := decide_eq_false c47
                                clear c47
                                by_cases c50 : ((t306 == 0) != false) = true
                                · rw [if_pos c50] at H
                                  have c50b0 : ((t306 == 0) != false) = true := c50
                                  (try (have c50b1 : decide ((t306 == 0) = false) = false := by simpa using c50))
                                  (try (have c50b2 : ((t306 == 0) == false) = false := by simpa using c50))
                                  (try (have c50b3 : ¬ ((t306 == 0) = false) := by simpa using c50))
                                  clear c50
                                  have H' := Aside0.mk H
                                  clear H
                                  go_wp2
                                  go_meet
                                  case rel => exact ⟨_, (true), (by first | rfl | (simp; done) | (simp [*]; done)), H', ⟨by have := HK1.out; have := HK2.out; first | omega | exact Nat.le_refl _⟩, ⟨by (with_reducible repeat (first | apply Kd.R_alloc | apply Kd.R_drewN | apply Kd.R_drew)); exact Kd.R_mono HO308.out (fun _ hk => trivial)⟩, ⟨by (with_reducible repeat (first | refine blk_drewN ?_ _ | refine blk_drew ?_ | refine blk_alloc ?_ _)); exact BK288.out⟩, ⟨by repeat (first | (with_reducible first | exact HB.out | apply below_alloc | apply pw_below_drewN | apply below_drew1 | refine below_set ?_ GE288.out) | exact HB.out)⟩⟩
                                · rw [if_neg c50] at H
                                  have c50b0 : ((t306 == 0) != false) = false := by simpa using c50
                                  (try (have c50b1 : decide ((t306 == 0) = false) = true := by simpa using c50))
                                  (try (have c50b2 : ((t306 == 0) == false) = true := by simpa using c50))
                                  clear c50
                                  by_cases c51 : t306 = 0
                                  · exact absurd c50b0 (by rw [c51]; decide)
                                  · rw [if_neg c51] at H
                                    have c51b0 : (t306 == 0) = false := beq_eq_false_iff_ne.mpr c51
                                    have c51b1 : (t306 != 0) = true := bne_iff_ne.mpr c51
                                    have H' := Aside0.mk H
                                    clear H
                                    go_wp2
                                    go_meet
                                    case rel => exact ⟨_, ((t306 != 3)), (by first | rfl | (simp; done) | (simp [*]; done)), H', ⟨by have := HK1.out; have := HK2.out; first | omega | exact Nat.le_refl _⟩, ⟨by (with_reducible repeat (first | apply Kd.R_alloc | apply Kd.R_drewN | apply Kd.R_drew)); exact Kd.R_mono HO308.out (fun _ hk => trivial)⟩, ⟨by (with_reducible repeat (first | refine blk_drewN ?_ _ | refine blk_drew ?_ | refine blk_alloc ?_ _)); exact BK288.out⟩, ⟨by repeat (first | (with_reducible first | exact HB.out | apply below_alloc | apply pw_below_drewN | apply below_drew1 | refine below_set ?_ GE288.out) | exact HB.out)⟩⟩
                            · rw [if_neg c46] at H
                              have c46b0 : (t302 == 3) = false := beq_eq_false_iff_ne.mpr c46
                              have c46b1 : (t302 != 3) = true := bne_iff_ne.mpr c46
                              have H' := Aside0.mk H
                              clear H
                              go_wp2
                              go_meet
                              case rel => exact ⟨_, (true), (by first | rfl | (simp; done) | (simp [*]; done)), H', ⟨by have := HK1.out; have := HK2.out; first | omega | exact Nat.le_refl _⟩, ⟨by (with_reducible repeat (first | apply Kd.R_alloc | apply Kd.R_drewN | apply Kd.R_drew)); exact Kd.R_mono HO308.out (fun _ hk => trivial)⟩, ⟨by (with_reducible repeat (first | refine blk_drewN ?_ _ | refine blk_drew ?_ | refine blk_alloc ?_ _)); exact BK288.out⟩, ⟨by repeat (first | (with_reducible first | exact HB.out | apply below_alloc | apply pw_below_drewN | apply below_drew1 | refine below_set ?_ GE288.out) | exact HB.out)⟩⟩
                      case rest =>
                        clear HC34
                        try clear c1
                        try clear p1
                        try clear q1
                        try clear hx1
                        try clear hf1
                        try clear c2
                        try clear p2
                        try clear q2
                        try clear hx2
                        try clear hf2
                        try clear c3
                        try clear c3b0
                        try clear c3b1
                        try clear c4
                        try clear c4b0
                        try clear c4b1
                        try clear c5
                        try clear p6
                        try clear c9
                        try clear c9b0
                        try clear c10
                        try clear c10b0
                        try clear c11
                        try clear c11b0
                        try clear c12
                        try clear p12
                        try clear q12
                        try clear hx12
                        try clear hf12
                        try clear c13
                        try clear hx13
                        try clear hf13
                        try clear c16
                        try clear c16b0
                        try clear c16b1
                        try clear c17
                        try clear c17b0
                        try clear c17b1
                        try clear c20
                        try clear c20b0
                        try clear c22
                        try clear c22b0
                        try clear c23
                        try clear c23b0
                        try clear c24
                        try clear p25
                        try clear q25
                        try clear c27
                        try clear c29
                        try clear p29
                        try clear q29
                        try clear hx29
                        try clear hf29
                        try clear c39
                        try clear c39b0
                        try clear c39b1
                        try clear c39b2
                        try clear c40
                        try clear c40b0
                        try clear c40b1
                        try clear c41
                        try clear c41b0
                        try clear c42
                        try clear c42b0
                        try clear c42b1
                        try clear c42b2
                        try clear c43
                        try clear c43b0
                        try clear c43b1
                        try clear c44
                        try clear c44b0
                        try clear c44b1
                        try clear c44b2
                        try clear c45
                        try clear c45b0
                        try clear c45b1
                        try clear c46
                        try clear c46b0
                        try clear c46b1
                        try clear c47
                        try clear c47b0
                        try clear c48
                        try clear c48b0
                        try clear c48b1
                        try clear c48b2
                        try clear c49
                        try clear c49b0
                        try clear c49b1
                        try clear c50
                        try clear c50b0
                        try clear c50b1
                        try clear c50b2
                        try clear c51
                        try clear c51b0
                        try clear c51b1
                        try clear hcz6_0
                        try clear hcz6_1
                        try clear hcz6_2
                        try clear hfz6_0
                        try clear hfz6_1
                        try clear hfz6_2
                        try clear hx12_0
                        try clear hx12_1
                        try clear hx12_2
                        try clear hx12_3
                        try clear hx13_0
                        try clear hx13_1
                        try clear hx13_2
                        try clear hx13_3
                        try clear hx296_0
                        try clear hx29_0
                        try clear p1
                        try clear p12
                        try clear p2
                        try clear p25
                        try clear p296
                        try clear p6
                        try clear q1
                        try clear q12
                        try clear q25
                        try clear q296
                        obtain ⟨kq, x106_33, rfl, HA, HJ33, HO_12, BK288, HB⟩ := hcut
                        cases kq with
                        | zero => exact absurd HA.out (by simp [concordatlaw02_RowsLimits.j2])
                        | succ kj33 =>
                          have H := HA.out
                          clear HA
                          simp only [concordatlaw02_RowsLimits.j2] at H
                          by_cases c52 : x106_33 = true
                          · subst c52
                            have H1 : (some false) = some r := by rw [if_pos rfl] at H; exact H
                            clear H
                            have H := H1
                            clear H1
                            obtain rfl := Option.some.inj H
                            go_wp2
                            go_ret
                            exact ⟨by first | rfl | (simp [errW_none, errW_some] <;> rfl) | (simp only [← hji2, ← hji15]; first | rfl | (simp [errW_none, errW_some] <;> rfl)) | (simp [*, errW_none, errW_some] <;> rfl), by repeat (first | (with_reducible first | exact HB.out | apply below_alloc | apply pw_below_drewN | apply below_drew1 | refine below_set ?_ GE288.out) | exact HB.out)⟩
                          · replace c52 := Bool.eq_false_iff.mpr c52
                            subst c52
                            have H1 : (if t306 = 0 then ((rows_GetResults.f t305).bind fun bt309 => ((concordatlaw02_alive.f).bind fun t313 => (if t313 = true then (if bt309.2 = 0 then (if (bt309.1.length : Int) = (ji15) then (if 0 ≤ (wrap64 (Int.tdiv (ji15) 2)) then (if (wrap64 (Int.tdiv (ji15) 2)) < (bt309.1.length : Int) then (some ((((rd_T71 bt309.1 (wrap64 (Int.tdiv (ji15) 2))).f0).length : Int) == (wrap64 (254 + (wrap64 (Int.tmod a0_2 5)))))) else (none)) else (none)) else (some false)) else (some false)) else (some false)))) else ((concordatlaw02_alive.f).bind fun t315 => (some t315))) = some r := by rw [if_neg (show ¬ (false = true) by decide)] at H; exact H
                            clear H
                            have H := H1
                            clear H1
                            by_cases c53 : t306 = 0
                            · rw [if_pos c53] at H
                              have c53b0 : (t306 == 0) = true := beq_iff_eq.mpr c53
                              have c53b1 : (t306 != 0) = false := bne_eq_false_iff_eq.mpr c53
                              clear c53
                              replace H := Option.bind_eq_some_iff.mp H
                              obtain ⟨⟨t309, t310⟩, A540, H⟩ := H
                              replace H : ((concordatlaw02_alive.f).bind fun t313 => (if t313 = true then (if t310 = 0 then (if (t309.length : Int) = (ji15) then (if 0 ≤ (wrap64 (Int.tdiv (ji15) 2)) then (if (wrap64 (Int.tdiv (ji15) 2)) < (t309.length : Int) then (some ((((rd_T71 t309 (wrap64 (Int.tdiv (ji15) 2))).f0).length : Int) == (wrap64 (254 + (wrap64 (Int.tmod a0_2 5)))))) else (none)) else (none)) else (some false)) else (some false)) else (some false))) = some r := H
                              have A54 := Aside0.mk A540
                              clear A540
                              replace H := Option.bind_eq_some_iff.mp H
                              obtain ⟨t313, A550, H⟩ := H
                              replace H : (if t313 = true then (if t310 = 0 then (if (t309.length : Int) = (ji15) then (if 0 ≤ (wrap64 (Int.tdiv (ji15) 2)) then (if (wrap64 (Int.tdiv (ji15) 2)) < (t309.length : Int) then (some ((((rd_T71 t309 (wrap64 (Int.tdiv (ji15) 2))).f0).length : Int) == (wrap64 (254 + (wrap64 (Int.tmod a0_2 5)))))) else (none)) else (none)) else (some false)) else (some false)) else (some false)) = some r := H
                              have A55 := Aside0.mk A550
                              clear A550
                              by_cases c56 : t313 = true
                              · subst c56
                                have H1 : (if t310 = 0 then (if (t309.length : Int) = (ji15) then (if 0 ≤ (wrap64 (Int.tdiv (ji15) 2)) then (if (wrap64 (Int.tdiv (ji15) 2)) < (t309.length : Int) then (some ((((rd_T71 t309 (wrap64 (Int.tdiv (ji15) 2))).f0).length : Int) == (wrap64 (254 + (wrap64 (Int.tmod a0_2 5)))))) else (none)) else (none)) else (some false)) else (some false)) = some r := by rw [if_pos rfl] at H; exact H
                                clear H
                                have H := H1
                                clear H1
                                by_cases c57 : t310 = 0
                                · rw [if_pos c57] at H
                                  have c57b0 : (t310 == 0) = true := beq_iff_eq.mpr c57
                                  have c57b1 : (t310 != 0) = false := bne_eq_false_iff_eq.mpr c57
                                  clear c57
                                  by_cases c58 : (t309.length : Int) = (ji15)
                                  · rw [if_pos c58] at H
                                    have c58b0 : ((t309.length : Int) == (ji15)) = true := beq_iff_eq.mpr c58
                                    have c58b1 : ((t309.length : Int) != (ji15)) = false := bne_eq_false_iff_eq.mpr c58
                                    clear c58
                                    obtain ⟨ji59, hji59⟩ : ∃ j_ : Int, (wrap64 (Int.tdiv (ji15) 2)) = j_ := ⟨_, rfl⟩
                                    replace H : (if 0 ≤ (ji59) then (if (ji59) < (t309.length : Int) then (some ((((rd_T71 t309 (ji59)).f0).length : Int) == (wrap64 (254 + (wrap64 (Int.tmod a0_2 5)))))) else (none)) else (none)) = some r := by first | (rw [hji59] at H; exact H) | (simp only [hji59] at H ⊢; exact H)
                                    (try rw [hji59] at A54)
                                    (try rw [hji59] at A55)
                                    have hji59w : (IntKind.i64.wrap (Int.tdiv (ji15) 2)) = ji59 := (i64_w _).trans hji59
                                    by_cases c60 : 0 ≤ (ji59)
                                    · rw [if_pos c60] at H
                                      have c60b0 : decide (0 ≤ (ji59)) = true := decide_eq_true c60
                                      clear c60
                                      by_cases c61 : (ji59) < (t309.length : Int)
                                      · rw [if_pos c61] at H
                                        have c61b0 : decide ((ji59) < (t309.length : Int)) = true := decide_eq_true c61
                                        clear c61
                                        obtain rfl := Option.some.inj H
                                        obtain ⟨Ao62, co62, eo62⟩ := Kd.R_slice HO_12.out
                                        subst eo62
                                        go_wp2_with (first | ((with_reducible refine gate_callee (f := 50) rfl ?_); refine goesL_ (some 112) rfl rfl Try.func50 (by kernel_rfl) rfl #[.slice Ao62 t305.length co62] rfl (by (try simp only [List.map_toArray, List.map_cons, List.map_nil]); first | done | rfl | (simp only [List.length_drop, List.length_take]; rfl)) ?_; (with_reducible refine (rows_GetResults.calls _ _ t305 t309 t310 _ ?side1 ?side2 A54.out).mono ?_); (case side1 => repeat (first | exact (Kd.R_reads' HO_12.out).2.2 | (with_reducible refine Kd.C_alloc ?_ _) | (with_reducible refine Kd.C_drewN ?_ _) | (with_reducible refine Kd.C_drew ?_))); (case side2 => exact (Kd.R_reads' HO_12.out).2.1); rintro e w63 ⟨v311, rfl, ho0, hb⟩; refine ⟨_, rfl, ?_⟩; have n0_ := Aside0.mk (Kd.R_below (by (with_reducible repeat (first | apply Kd.R_alloc | apply Kd.R_drewN | apply Kd.R_drew)); exact HO_12.out) hb); have n1_ := Aside0.mk (Kd.S_lower ho0 (below_size (by repeat (first | (with_reducible first | exact HB.out | apply below_alloc | apply pw_below_drewN | apply below_drew1 | refine below_set ?_ GE288.out) | exact HB.out)))); have n2_ := Aside0.mk (blk_below (g := gb288) (o := .cells #[.int .u8 a0_0, .int .u8 a0_1, .int .u8 a0_2] 98 (0, 0)) (by (with_reducible repeat (first | refine blk_drewN ?_ _ | refine blk_drew ?_ | refine blk_alloc ?_ _)); exact BK288.out) hb); have n3_ := Aside0.mk (below_step (by repeat (first | (with_reducible first | exact HB.out | apply below_alloc | apply pw_below_drewN | apply below_drew1 | refine below_set ?_ GE288.out) | exact HB.out)) hb); clear HO_12; clear BK288; clear HB; have HO_12 := n0_; have HO312 := n1_; have BK288 := n2_; have HB := n3_; clear n0_ n1_ n2_ n3_; (try clear hb); (try clear hb2); (try clear hk); (try clear hi); (try clear ho0)) | ((with_reducible refine gate_callee (f := 39) rfl ?_); refine goesL_ (some 115) rfl rfl Try.func39 (by kernel_rfl) rfl #[] rfl (by (try simp only [List.map_toArray, List.map_cons, List.map_nil]); first | done | rfl | (simp only [List.length_drop, List.length_take]; rfl)) ?_; (with_reducible refine (concordatlaw02_alive.calls  true _ A55.out).mono ?_); rintro e w64 ⟨rfl, hb⟩; refine ⟨_, rfl, ?_⟩; have n0_ := Aside0.mk (Kd.R_below (by (with_reducible repeat (first | apply Kd.R_alloc | apply Kd.R_drewN | apply Kd.R_drew)); exact HO_12.out) hb); have n1_ := Aside0.mk (Kd.S_below (by (with_reducible repeat (first | apply Kd.S_alloc | apply Kd.S_drewN | apply Kd.S_drew)); exact HO312.out) hb); have n2_ := Aside0.mk (blk_below (g := gb288) (o := .cells #[.int .u8 a0_0, .int .u8 a0_1, .int .u8 a0_2] 98 (0, 0)) (by (with_reducible repeat (first | refine blk_drewN ?_ _ | refine blk_drew ?_ | refine blk_alloc ?_ _)); exact BK288.out) hb); have n3_ := Aside0.mk (below_step (by repeat (first | (with_reducible first | exact HB.out | apply below_alloc | apply pw_below_drewN | apply below_drew1 | refine below_set ?_ GE288.out) | exact HB.out)) hb); clear HO_12; clear HO312; clear BK288; clear HB; have HO_12 := n0_; have HO312 := n1_; have BK288 := n2_; have HB := n3_; clear n0_ n1_ n2_ n3_; (try clear hb); (try clear hb2); (try clear hk); (try clear hi); obtain ⟨Ao65, co65, eo65⟩ := Kd.S_slice HO312.out; subst eo65; have p314 : 0 ≤ ((ji59) : Int) := of_decide_eq_true (by first | (with_reducible assumption) | assumption); have q314 : (ji59) < (t309.length : Int) := of_decide_eq_true (by first | (with_reducible assumption) | assumption); obtain ⟨ad314, A314_0, c314_0, e314, hx314_0, hl314_0, hi314_0⟩ := at_T71 (Kd.S_reads' HO312.out).2.2 (ji59) p314 q314; cases e314; obtain ⟨ce314, hce314, hMe314, hcc314⟩ := Kd.S_get HO312.out z71 (ji59) p314 (by first | exact q314 | exact of_decide_eq_true (by first | (with_reducible assumption) | assumption) | (have e_ := (Kd.S_reads' HO312.out).1; omega)); obtain ⟨ve314_0, rfl, ge314_0⟩ := k71_openM hMe314; have hv314_0 := hcc314 0 _ rfl; rw [Nat.add_zero, show (k71).sz = 1 from rfl, Nat.mul_one] at hv314_0; replace hv314_0 := Option.some.inj (hv314_0.symm.trans hx314_0); rw [hv314_0] at ge314_0; have HL314_0 := Aside0.mk (show Kd.R k73 73 _ _ _ _ ((rd_T71 t309 (ji59)).f0) from ge314_0); clear hv314_0 ge314_0; have HX314_0 := Aside0.mk hx314_0; clear hcc314 hce314; have HR314_0 := Aside0.mk hi314_0; have HC314_0 := Aside0.mk hl314_0; clear hi314_0 hl314_0; replace p314 := eq_true p314; replace q314 := eq_true q314))
                                        go_ret
                                        exact ⟨by first | rfl | (simp [errW_none, errW_some] <;> rfl) | (simp only [← hji2, ← hji15, ← hji59]; first | rfl | (simp [errW_none, errW_some] <;> rfl)) | (simp [*, errW_none, errW_some] <;> rfl), by repeat (first | (with_reducible first | exact HB.out | apply below_alloc | apply pw_below_drewN | apply below_drew1 | refine below_set ?_ GE288.out) | exact HB.out)⟩
                                      · rw [if_neg c61] at H
                                        exact absurd H (by simp)
                                    · rw [if_neg c60] at H
                                      exact absurd H (by simp)
                                  · rw [if_neg c58] at H
                                    have c58b0 : ((t309.length : Int) == (ji15)) = false := beq_eq_false_iff_ne.mpr c58
                                    have c58b1 : ((t309.length : Int) != (ji15)) = true := bne_iff_ne.mpr c58
                                    obtain rfl := Option.some.inj H
                                    obtain ⟨Ao66, co66, eo66⟩ := Kd.R_slice HO_12.out
                                    subst eo66
                                    go_wp2_with (first | ((with_reducible refine gate_callee (f := 50) rfl ?_); refine goesL_ (some 112) rfl rfl Try.func50 (by kernel_rfl) rfl #[.slice Ao66 t305.length co66] rfl (by (try simp only [List.map_toArray, List.map_cons, List.map_nil]); first | done | rfl | (simp only [List.length_drop, List.length_take]; rfl)) ?_; (with_reducible refine (rows_GetResults.calls _ _ t305 t309 t310 _ ?side1 ?side2 A54.out).mono ?_); (case side1 => repeat (first | exact (Kd.R_reads' HO_12.out).2.2 | (with_reducible refine Kd.C_alloc ?_ _) | (with_reducible refine Kd.C_drewN ?_ _) | (with_reducible refine Kd.C_drew ?_))); (case side2 => exact (Kd.R_reads' HO_12.out).2.1); rintro e w67 ⟨v311, rfl, ho0, hb⟩; refine ⟨_, rfl, ?_⟩; have n0_ := Aside0.mk (Kd.R_below (by (with_reducible repeat (first | apply Kd.R_alloc | apply Kd.R_drewN | apply Kd.R_drew)); exact HO_12.out) hb); have n1_ := Aside0.mk (Kd.S_lower ho0 (below_size (by repeat (first | (with_reducible first | exact HB.out | apply below_alloc | apply pw_below_drewN | apply below_drew1 | refine below_set ?_ GE288.out) | exact HB.out)))); have n2_ := Aside0.mk (blk_below (g := gb288) (o := .cells #[.int .u8 a0_0, .int .u8 a0_1, .int .u8 a0_2] 98 (0, 0)) (by (with_reducible repeat (first | refine blk_drewN ?_ _ | refine blk_drew ?_ | refine blk_alloc ?_ _)); exact BK288.out) hb); have n3_ := Aside0.mk (below_step (by repeat (first | (with_reducible first | exact HB.out | apply below_alloc | apply pw_below_drewN | apply below_drew1 | refine below_set ?_ GE288.out) | exact HB.out)) hb); clear HO_12; clear BK288; clear HB; have HO_12 := n0_; have HO312 := n1_; have BK288 := n2_; have HB := n3_; clear n0_ n1_ n2_ n3_; (try clear hb); (try clear hb2); (try clear hk); (try clear hi); (try clear ho0)) | ((with_reducible refine gate_callee (f := 39) rfl ?_); refine goesL_ (some 115) rfl rfl Try.func39 (by kernel_rfl) rfl #[] rfl (by (try simp only [List.map_toArray, List.map_cons, List.map_nil]); first | done | rfl | (simp only [List.length_drop, List.length_take]; rfl)) ?_; (with_reducible refine (concordatlaw02_alive.calls  true _ A55.out).mono ?_); rintro e w68 ⟨rfl, hb⟩; refine ⟨_, rfl, ?_⟩; have n0_ := Aside0.mk (Kd.R_below (by (with_reducible repeat (first | apply Kd.R_alloc | apply Kd.R_drewN | apply Kd.R_drew)); exact HO_12.out) hb); have n1_ := Aside0.mk (Kd.S_below (by (with_reducible repeat (first | apply Kd.S_alloc | apply Kd.S_drewN | apply Kd.S_drew)); exact HO312.out) hb); have n2_ := Aside0.mk (blk_below (g := gb288) (o := .cells #[.int .u8 a0_0, .int .u8 a0_1, .int .u8 a0_2] 98 (0, 0)) (by (with_reducible repeat (first | refine blk_drewN ?_ _ | refine blk_drew ?_ | refine blk_alloc ?_ _)); exact BK288.out) hb); have n3_ := Aside0.mk (below_step (by repeat (first | (with_reducible first | exact HB.out | apply below_alloc | apply pw_below_drewN | apply below_drew1 | refine below_set ?_ GE288.out) | exact HB.out)) hb); clear HO_12; clear HO312; clear BK288; clear HB; have HO_12 := n0_; have HO312 := n1_; have BK288 := n2_; have HB := n3_; clear n0_ n1_ n2_ n3_; (try clear hb); (try clear hb2); (try clear hk); (try clear hi); obtain ⟨Ao69, co69, eo69⟩ := Kd.S_slice HO312.out; subst eo69))
                                    go_ret
                                    exact ⟨by first | rfl | (simp [errW_none, errW_some] <;> rfl) | (simp only [← hji2, ← hji15]; first | rfl | (simp [errW_none, errW_some] <;> rfl)) | (simp [*, errW_none, errW_some] <;> rfl), by repeat (first | (with_reducible first | exact HB.out | apply below_alloc | apply pw_below_drewN | apply below_drew1 | refine below_set ?_ GE288.out) | exact HB.out)⟩
                                · rw [if_neg c57] at H
                                  have c57b0 : (t310 == 0) = false := beq_eq_false_iff_ne.mpr c57
                                  have c57b1 : (t310 != 0) = true := bne_iff_ne.mpr c57
                                  obtain rfl := Option.some.inj H
                                  obtain ⟨Ao70, co70, eo70⟩ := Kd.R_slice HO_12.out
                                  subst eo70
                                  go_wp2_with (first | ((with_reducible refine gate_callee (f := 50) rfl ?_); refine goesL_ (some 112) rfl rfl Try.func50 (by kernel_rfl) rfl #[.slice Ao70 t305.length co70] rfl (by (try simp only [List.map_toArray, List.map_cons, List.map_nil]); first | done | rfl | (simp only [List.length_drop, List.length_take]; rfl)) ?_; (with_reducible refine (rows_GetResults.calls _ _ t305 t309 t310 _ ?side1 ?side2 A54.out).mono ?_); (case side1 => repeat (first | exact (Kd.R_reads' HO_12.out).2.2 | (with_reducible refine Kd.C_alloc ?_ _) | (with_reducible refine Kd.C_drewN ?_ _) | (with_reducible refine Kd.C_drew ?_))); (case side2 => exact (Kd.R_reads' HO_12.out).2.1); rintro e w71 ⟨v311, rfl, ho0, hb⟩; refine ⟨_, rfl, ?_⟩; have n0_ := Aside0.mk (Kd.R_below (by (with_reducible repeat (first | apply Kd.R_alloc | apply Kd.R_drewN | apply Kd.R_drew)); exact HO_12.out) hb); have n1_ := Aside0.mk (Kd.S_lower ho0 (below_size (by repeat (first | (with_reducible first | exact HB.out | apply below_alloc | apply pw_below_drewN | apply below_drew1 | refine below_set ?_ GE288.out) | exact HB.out)))); have n2_ := Aside0.mk (blk_below (g := gb288) (o := .cells #[.int .u8 a0_0, .int .u8 a0_1, .int .u8 a0_2] 98 (0, 0)) (by (with_reducible repeat (first | refine blk_drewN ?_ _ | refine blk_drew ?_ | refine blk_alloc ?_ _)); exact BK288.out) hb); have n3_ := Aside0.mk (below_step (by repeat (first | (with_reducible first | exact HB.out | apply below_alloc | apply pw_below_drewN | apply below_drew1 | refine below_set ?_ GE288.out) | exact HB.out)) hb); clear HO_12; clear BK288; clear HB; have HO_12 := n0_; have HO312 := n1_; have BK288 := n2_; have HB := n3_; clear n0_ n1_ n2_ n3_; (try clear hb); (try clear hb2); (try clear hk); (try clear hi); (try clear ho0)) | ((with_reducible refine gate_callee (f := 39) rfl ?_); refine goesL_ (some 115) rfl rfl Try.func39 (by kernel_rfl) rfl #[] rfl (by (try simp only [List.map_toArray, List.map_cons, List.map_nil]); first | done | rfl | (simp only [List.length_drop, List.length_take]; rfl)) ?_; (with_reducible refine (concordatlaw02_alive.calls  true _ A55.out).mono ?_); rintro e w72 ⟨rfl, hb⟩; refine ⟨_, rfl, ?_⟩; have n0_ := Aside0.mk (Kd.R_below (by (with_reducible repeat (first | apply Kd.R_alloc | apply Kd.R_drewN | apply Kd.R_drew)); exact HO_12.out) hb); have n1_ := Aside0.mk (Kd.S_below (by (with_reducible repeat (first | apply Kd.S_alloc | apply Kd.S_drewN | apply Kd.S_drew)); exact HO312.out) hb); have n2_ := Aside0.mk (blk_below (g := gb288) (o := .cells #[.int .u8 a0_0, .int .u8 a0_1, .int .u8 a0_2] 98 (0, 0)) (by (with_reducible repeat (first | refine blk_drewN ?_ _ | refine blk_drew ?_ | refine blk_alloc ?_ _)); exact BK288.out) hb); have n3_ := Aside0.mk (below_step (by repeat (first | (with_reducible first | exact HB.out | apply below_alloc | apply pw_below_drewN | apply below_drew1 | refine below_set ?_ GE288.out) | exact HB.out)) hb); clear HO_12; clear HO312; clear BK288; clear HB; have HO_12 := n0_; have HO312 := n1_; have BK288 := n2_; have HB := n3_; clear n0_ n1_ n2_ n3_; (try clear hb); (try clear hb2); (try clear hk); (try clear hi)))
                                  go_ret
                                  exact ⟨by first | rfl | (simp [errW_none, errW_some] <;> rfl) | (simp only [← hji2, ← hji15]; first | rfl | (simp [errW_none, errW_some] <;> rfl)) | (simp [*, errW_none, errW_some] <;> rfl), by repeat (first | (with_reducible first | exact HB.out | apply below_alloc | apply pw_below_drewN | apply below_drew1 | refine below_set ?_ GE288.out) | exact HB.out)⟩
                              · replace c56 := Bool.eq_false_iff.mpr c56
                                subst c56
                                have H1 : (some false) = some r := by rw [if_neg (show ¬ (false = true) by decide)] at H; exact H
                                clear H
                                have H := H1
                                clear H1
                                obtain rfl := Option.some.inj H
                                obtain ⟨Ao73, co73, eo73⟩ := Kd.R_slice HO_12.out
                                subst eo73
                                go_wp2_with (first | ((with_reducible refine gate_callee (f := 50) rfl ?_); refine goesL_ (some 112) rfl rfl Try.func50 (by kernel_rfl) rfl #[.slice Ao73 t305.length co73] rfl (by (try simp only [List.map_toArray, List.map_cons, List.map_nil]); first | done | rfl | (simp only [List.length_drop, List.length_take]; rfl)) ?_; (with_reducible refine (rows_GetResults.calls _ _ t305 t309 t310 _ ?side1 ?side2 A54.out).mono ?_); (case side1 => repeat (first | exact (Kd.R_reads' HO_12.out).2.2 | (with_reducible refine Kd.C_alloc ?_ _) | (with_reducible refine Kd.C_drewN ?_ _) | (with_reducible refine Kd.C_drew ?_))); (case side2 => exact (Kd.R_reads' HO_12.out).2.1); rintro e w74 ⟨v311, rfl, ho0, hb⟩; refine ⟨_, rfl, ?_⟩; have n0_ := Aside0.mk (Kd.R_below (by (with_reducible repeat (first | apply Kd.R_alloc | apply Kd.R_drewN | apply Kd.R_drew)); exact HO_12.out) hb); have n1_ := Aside0.mk (Kd.S_lower ho0 (below_size (by repeat (first | (with_reducible first | exact HB.out | apply below_alloc | apply pw_below_drewN | apply below_drew1 | refine below_set ?_ GE288.out) | exact HB.out)))); have n2_ := Aside0.mk (blk_below (g := gb288) (o := .cells #[.int .u8 a0_0, .int .u8 a0_1, .int .u8 a0_2] 98 (0, 0)) (by (with_reducible repeat (first | refine blk_drewN ?_ _ | refine blk_drew ?_ | refine blk_alloc ?_ _)); exact BK288.out) hb); have n3_ := Aside0.mk (below_step (by repeat (first | (with_reducible first | exact HB.out | apply below_alloc | apply pw_below_drewN | apply below_drew1 | refine below_set ?_ GE288.out) | exact HB.out)) hb); clear HO_12; clear BK288; clear HB; have HO_12 := n0_; have HO312 := n1_; have BK288 := n2_; have HB := n3_; clear n0_ n1_ n2_ n3_; (try clear hb); (try clear hb2); (try clear hk); (try clear hi); (try clear ho0)) | ((with_reducible refine gate_callee (f := 39) rfl ?_); refine goesL_ (some 115) rfl rfl Try.func39 (by kernel_rfl) rfl #[] rfl (by (try simp only [List.map_toArray, List.map_cons, List.map_nil]); first | done | rfl | (simp only [List.length_drop, List.length_take]; rfl)) ?_; (with_reducible refine (concordatlaw02_alive.calls  false _ A55.out).mono ?_); rintro e w75 ⟨rfl, hb⟩; refine ⟨_, rfl, ?_⟩; have n0_ := Aside0.mk (Kd.R_below (by (with_reducible repeat (first | apply Kd.R_alloc | apply Kd.R_drewN | apply Kd.R_drew)); exact HO_12.out) hb); have n1_ := Aside0.mk (Kd.S_below (by (with_reducible repeat (first | apply Kd.S_alloc | apply Kd.S_drewN | apply Kd.S_drew)); exact HO312.out) hb); have n2_ := Aside0.mk (blk_below (g := gb288) (o := .cells #[.int .u8 a0_0, .int .u8 a0_1, .int .u8 a0_2] 98 (0, 0)) (by (with_reducible repeat (first | refine blk_drewN ?_ _ | refine blk_drew ?_ | refine blk_alloc ?_ _)); exact BK288.out) hb); have n3_ := Aside0.mk (below_step (by repeat (first | (with_reducible first | exact HB.out | apply below_alloc | apply pw_below_drewN | apply below_drew1 | refine below_set ?_ GE288.out) | exact HB.out)) hb); clear HO_12; clear HO312; clear BK288; clear HB; have HO_12 := n0_; have HO312 := n1_; have BK288 := n2_; have HB := n3_; clear n0_ n1_ n2_ n3_; (try clear hb); (try clear hb2); (try clear hk); (try clear hi)))
                                go_ret
                                exact ⟨by first | rfl | (simp [errW_none, errW_some] <;> rfl) | (simp only [← hji2, ← hji15]; first | rfl | (simp [errW_none, errW_some] <;> rfl)) | (simp [*, errW_none, errW_some] <;> rfl), by repeat (first | (with_reducible first | exact HB.out | apply below_alloc | apply pw_below_drewN | apply below_drew1 | refine below_set ?_ GE288.out) | exact HB.out)⟩
                            · rw [if_neg c53] at H
                              have c53b0 : (t306 == 0) = false := beq_eq_false_iff_ne.mpr c53
                              have c53b1 : (t306 != 0) = true := bne_iff_ne.mpr c53
                              replace H := Option.bind_eq_some_iff.mp H
                              obtain ⟨t315, A760, H⟩ := H
                              replace H : (some t315) = some r := H
                              have A76 := Aside0.mk A760
                              clear A760
                              obtain rfl := Option.some.inj H
                              go_wp2_with (first | ((with_reducible refine gate_callee (f := 39) rfl ?_); refine goesL_ (some 109) rfl rfl Try.func39 (by kernel_rfl) rfl #[] rfl (by (try simp only [List.map_toArray, List.map_cons, List.map_nil]); first | done | rfl | (simp only [List.length_drop, List.length_take]; rfl)) ?_; (with_reducible refine (concordatlaw02_alive.calls  t315 _ A76.out).mono ?_); rintro e w77 ⟨rfl, hb⟩; refine ⟨_, rfl, ?_⟩; have n0_ := Aside0.mk (Kd.R_below (by (with_reducible repeat (first | apply Kd.R_alloc | apply Kd.R_drewN | apply Kd.R_drew)); exact HO_12.out) hb); have n1_ := Aside0.mk (blk_below (g := gb288) (o := .cells #[.int .u8 a0_0, .int .u8 a0_1, .int .u8 a0_2] 98 (0, 0)) (by (with_reducible repeat (first | refine blk_drewN ?_ _ | refine blk_drew ?_ | refine blk_alloc ?_ _)); exact BK288.out) hb); have n2_ := Aside0.mk (below_step (by repeat (first | (with_reducible first | exact HB.out | apply below_alloc | apply pw_below_drewN | apply below_drew1 | refine below_set ?_ GE288.out) | exact HB.out)) hb); clear HO_12; clear BK288; clear HB; have HO_12 := n0_; have BK288 := n1_; have HB := n2_; clear n0_ n1_ n2_; (try clear hb); (try clear hb2); (try clear hk); (try clear hi)))
                              go_ret
                              exact ⟨by first | rfl | (simp [errW_none, errW_some] <;> rfl) | (simp only [← hji2, ← hji15]; first | rfl | (simp [errW_none, errW_some] <;> rfl)) | (simp [*, errW_none, errW_some] <;> rfl), by repeat (first | (with_reducible first | exact HB.out | apply below_alloc | apply pw_below_drewN | apply below_drew1 | refine below_set ?_ GE288.out) | exact HB.out)⟩
              · rw [if_neg c17] at H
                exact absurd H (by simp)
            · rw [if_neg c16] at H
              exact absurd H (by simp)
    · rw [if_neg c4] at H
      exact absurd H (by simp)
  · rw [if_neg c3] at H
    exact absurd H (by simp)

end Go.Proofs.Ytcohodkpppmaoaa.Q
