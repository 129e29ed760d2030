/-
  Values that own blocks, and which ones: a row's block and its elements' blocks in a list; what stands outside a list of blocks stays.
-/
import Derived.Test.YtcohodkpppmaoaaGreatDoorMC1
namespace Go.Proofs.YtcohodkpppmaoaaGreatDoor.Q
open Go.RowKit Go.Proofs.YtcohodkpppmaoaaGreatDoorW.PrintWords Go.Proofs.YtcohodkpppmaoaaGreatDoorW.PrintLast Go.Proofs.YtcohodkpppmaoaaGreatDoorW.PrintMore
attribute [local go_sem] max2_int min2_int max_two min_two max_three min_three max_four min_four   -- for this text's walks alone
set_option linter.unusedVariables false
set_option linter.unusedSimpArgs false

theorem eqA82 (d : Nat) (w : World) (x0 y0 : Int) (x1 y1 : ByteArray) (x2 y2 : ByteArray) (x3 y3 : Int) :
    (Op.equalIn (d + 2) 82 (.agg #[.int .u8 x0, .string x1, .string x2, .int .u32 x3]) (.agg #[.int .u8 y0, .string y1, .string y2, .int .u32 y3])).run Tryz.prog w = .ok (x0 == y0 && (x1.toList == y1.toList && (x2.toList == y2.toList && (x3 == y3)))) w := by
  refine eqA_of Tryz.underlying82 (by kernel_rfl) ?_
  refine eqf_cons (by rfl) (by go_simp; rfl) (by go_simp; rfl) (by go_simp) ?_
  refine eqf_cons (by rfl) (by go_simp; rfl) (by go_simp; rfl) (by go_simp) ?_
  refine eqf_cons (by rfl) (by go_simp; rfl) (by go_simp; rfl) (by go_simp) ?_
  exact eqf_last (by rfl) (by go_simp; rfl) (by go_simp; rfl) (by go_simp)
end Go.Proofs.YtcohodkpppmaoaaGreatDoor.Q
namespace Go.Proofs.YtcohodkpppmaoaaGreatDoor.Q
open Go.RowKit Go.Proofs.YtcohodkpppmaoaaGreatDoorW.PrintWords Go.Proofs.YtcohodkpppmaoaaGreatDoorW.PrintLast Go.Proofs.YtcohodkpppmaoaaGreatDoorW.PrintMore
attribute [local go_sem] max2_int min2_int max_two min_two max_three min_three max_four min_four   -- for this text's walks alone
set_option linter.unusedVariables false
set_option linter.unusedSimpArgs false

theorem eqA116 (d : Nat) (w : World) (x0 y0 : ByteArray) (x1 y1 : Int) (x2 y2 : Bool) :
    (Op.equalIn (d + 2) 116 (.agg #[.string x0, .int .u32 x1, .bool x2]) (.agg #[.string y0, .int .u32 y1, .bool y2])).run Tryz.prog w = .ok (x0.toList == y0.toList && (x1 == y1 && (x2 == y2))) w := by
  refine eqA_of Tryz.underlying116 (by kernel_rfl) ?_
  refine eqf_cons (by rfl) (by go_simp; rfl) (by go_simp; rfl) (by go_simp) ?_
  refine eqf_cons (by rfl) (by go_simp; rfl) (by go_simp; rfl) (by go_simp) ?_
  exact eqf_last (by rfl) (by go_simp; rfl) (by go_simp; rfl) (by go_simp)
end Go.Proofs.YtcohodkpppmaoaaGreatDoor.Q
namespace Go.Proofs.YtcohodkpppmaoaaGreatDoor.Q
open Go.RowKit Go.Proofs.YtcohodkpppmaoaaGreatDoorW.PrintWords Go.Proofs.YtcohodkpppmaoaaGreatDoorW.PrintLast Go.Proofs.YtcohodkpppmaoaaGreatDoorW.PrintMore
attribute [local go_sem] max2_int min2_int max_two min_two max_three min_three max_four min_four   -- for this text's walks alone
set_option linter.unusedVariables false
set_option linter.unusedSimpArgs false

theorem eqA148 (d : Nat) (w : World) (x0 y0 : ByteArray) (x1 y1 : Int) :
    (Op.equalIn (d + 2) 148 (.agg #[.string x0, .int .u32 x1]) (.agg #[.string y0, .int .u32 y1])).run Tryz.prog w = .ok (x0.toList == y0.toList && (x1 == y1)) w := by
  refine eqA_of Tryz.underlying148 (by kernel_rfl) ?_
  refine eqf_cons (by rfl) (by go_simp; rfl) (by go_simp; rfl) (by go_simp) ?_
  exact eqf_last (by rfl) (by go_simp; rfl) (by go_simp; rfl) (by go_simp)
end Go.Proofs.YtcohodkpppmaoaaGreatDoor.Q
namespace Go.Proofs.YtcohodkpppmaoaaGreatDoor.Q
open Go.RowKit Go.Proofs.YtcohodkpppmaoaaGreatDoorW.PrintWords Go.Proofs.YtcohodkpppmaoaaGreatDoorW.PrintLast Go.Proofs.YtcohodkpppmaoaaGreatDoorW.PrintMore
attribute [local go_sem] max2_int min2_int max_two min_two max_three min_three max_four min_four   -- for this text's walks alone
set_option linter.unusedVariables false
set_option linter.unusedSimpArgs false

attribute [local go_sem high] eqA82 eqA116 eqA148
def concordatlaw01_ChangesSize.l0 : Nat → List (S116) → Int → Int → Option (Int)
  | 0, _, _, _ => none
  | k + 1, x0, x3, x4 => if x4 < (x0.length : Int) then (if x3 ≤ 1048576 then (if 0 ≤ x4 then (concordatlaw01_ChangesSize.l0 k x0 (wrap64 (x3 + (((rd_T116 x0 x4).f0).size : Int))) (wrap64 (x4 + 1))) else (none)) else (some x3)) else (some x3)
def concordatlaw01_ChangesSize.f (k : Nat) (l0 : List (S116)) : Option (Int) := concordatlaw01_ChangesSize.l0 k l0 (l0.length : Int) 0
set_option maxHeartbeats 8000000 in
set_option maxRecDepth 100000 in
theorem concordatlaw01_ChangesSize.calls (k : Nat) (A0 : Option Addr) (c0 : Nat) (l0 : List (S116)) (r : Int) (w : World) (hr0 : Kd.C k116 w A0 l0.length l0) (hc0 : l0.length ≤ c0) (h : concordatlaw01_ChangesSize.f k l0 = some r) :
    Calls Tryz.prog 27 #[.slice A0 l0.length c0] w fun e w' => e = .returned (.int .i64 r) ∧ Drawn0 w w' := by
  have HR0 := Aside0.mk hr0
  have HC0 := Aside0.mk hc0
  clear hr0 hc0
  have H : (concordatlaw01_ChangesSize.l0 k l0 (l0.length : Int) 0) = some r := h
  clear h
  have H' := Aside0.mk H
  clear H
  go_enter Tryz.func27, Tryz.ntmps27
  go_wp2
  go_loopg [3, 4] k (fun kq v3 v4 w' => ∃ (x3_1 : Int) (x4_1 : Int), v3 = .int .i64 x3_1 ∧ v4 = .int .i64 x4_1 ∧ Aside0 (concordatlaw01_ChangesSize.l0 kq l0 x3_1 x4_1 = some r) ∧ Aside0 (kq ≤ k) ∧ Drawn0 w w')
  case atStart => exact ⟨((l0.length : Int)), (0), (by first | rfl | (simp; done) | (simp [*]; done)), (by first | rfl | (simp; done) | (simp [*]; done)), H', ⟨Nat.le_refl _⟩, by repeat (first | exact Drawn0.refl _ | apply Drawn0.step)⟩
  case round =>
    clear H'
    obtain ⟨x3_1, x4_1, rfl, rfl, HA, HK1, ⟨m1, rfl⟩⟩ := hrel
    cases gk with
    | zero => exact absurd HA.out (by simp [concordatlaw01_ChangesSize.l0])
    | succ k1 =>
      have H := HA.out
      clear HA
      simp only [concordatlaw01_ChangesSize.l0] at H
      by_cases c2 : x4_1 < (l0.length : Int)
      · rw [if_pos c2] at H
        have c2b0 : decide (x4_1 < (l0.length : Int)) = true := decide_eq_true c2
        clear c2
        by_cases c3 : x3_1 ≤ 1048576
        · rw [if_pos c3] at H
          have c3b0 : decide (x3_1 ≤ 1048576) = true := decide_eq_true c3
          clear c3
          by_cases c4 : 0 ≤ x4_1
          · rw [if_pos c4] at H
            have c4b0 : decide (0 ≤ x4_1) = true := decide_eq_true c4
            clear c4
            have H' := Aside0.mk H
            clear H
            have p222 : 0 ≤ (x4_1 : Int) := of_decide_eq_true (by first | (with_reducible assumption) | assumption)
            have q222 : x4_1 < (l0.length : Int) := of_decide_eq_true (by first | (with_reducible assumption) | assumption)
            obtain ⟨ad222, e222, hx222_0, hx222_1, hx222_2⟩ := at_T116 HR0.out x4_1 p222 q222
            cases e222
            replace p222 := eq_true p222
            replace q222 := eq_true q222
            go_wp2
            go_roundg k1
            case measure => have := HK1.out; omega
            case rel => exact ⟨(wrap64 (x3_1 + (((rd_T116 l0 x4_1).f0).size : Int))), (wrap64 (x4_1 + 1)), (by first | rfl | (simp; done) | (simp [*]; done)), (by first | rfl | (simp; done) | (simp [*]; done)), H', ⟨by have := HK1.out; omega⟩, by repeat (first | exact Drawn0.refl _ | apply Drawn0.step)⟩
          · rw [if_neg c4] at H
            exact absurd H (by simp)
        · rw [if_neg c3] at H
          have c3b0 : decide (x3_1 ≤ 1048576) = false := decide_eq_false c3
          clear c3
          obtain rfl := Option.some.inj H
          go_wp2
          go_ret
          exact ⟨by first | rfl | (simp; done) | (simp [*]; done), by repeat (first | exact Drawn0.refl _ | apply Drawn0.step)⟩
      · rw [if_neg c2] at H
        have c2b0 : decide (x4_1 < (l0.length : Int)) = false := decide_eq_false c2
        clear c2
        obtain rfl := Option.some.inj H
        go_wp2
        go_ret
        exact ⟨by first | rfl | (simp; done) | (simp [*]; done), by repeat (first | exact Drawn0.refl _ | apply Drawn0.step)⟩

def concordatlaw01_SameBytes.l0 : Nat → List Int → List Int → Int → Option (Bool)
  | 0, _, _, _ => none
  | k + 1, x0, x1, x5 => if x5 < (x0.length : Int) then (if 0 ≤ x5 then (if x5 < (x1.length : Int) then (if (rd x0 x5) = (rd x1 x5) then (concordatlaw01_SameBytes.l0 k x0 x1 (wrap64 (x5 + 1))) else (some false)) else (none)) else (none)) else (some true)
def concordatlaw01_SameBytes.f (k : Nat) (l0 : List Int) (l1 : List Int) : Option (Bool) := if (l0.length : Int) = (l1.length : Int) then (concordatlaw01_SameBytes.l0 k l0 l1 0) else (some false)
set_option maxHeartbeats 8000000 in
set_option maxRecDepth 100000 in
theorem concordatlaw01_SameBytes.calls (k : Nat) (A0 : Option Addr) (c0 : Nat) (l0 : List Int) (A1 : Option Addr) (c1 : Nat) (l1 : List Int) (r : Bool) (w : World) (hr0 : Kd.C (Kd.int .u8) w A0 l0.length l0) (hc0 : l0.length ≤ c0) (hr1 : Kd.C (Kd.int .u8) w A1 l1.length l1) (hc1 : l1.length ≤ c1) (h : concordatlaw01_SameBytes.f k l0 l1 = some r) :
    Calls Tryz.prog 34 #[.slice A0 l0.length c0, .slice A1 l1.length c1] w fun e w' => e = .returned (.bool r) ∧ Drawn0 w w' := by
  have HR0 := Aside0.mk hr0
  have HC0 := Aside0.mk hc0
  clear hr0 hc0
  have HR1 := Aside0.mk hr1
  have HC1 := Aside0.mk hc1
  clear hr1 hc1
  have H : (if (l0.length : Int) = (l1.length : Int) then (concordatlaw01_SameBytes.l0 k l0 l1 0) else (some false)) = some r := h
  clear h
  by_cases c3 : (l0.length : Int) = (l1.length : Int)
  · rw [if_pos c3] at H
    have c3b0 : ((l0.length : Int) == (l1.length : Int)) = true := beq_iff_eq.mpr c3
    have c3b1 : ((l0.length : Int) != (l1.length : Int)) = false := bne_eq_false_iff_eq.mpr c3
    have c3b2 : (l0.length == l1.length) = true := by first | simpa using c3 | (simp at c3 ⊢; omega)
    clear c3
    have H' := Aside0.mk H
    clear H
    go_enter Tryz.func34, Tryz.ntmps34
    go_wp2
    repeat (go_quiet (fail); try go_wp2)
    go_loopg [5] k (fun kq v5 w' => ∃ (x5_1 : Int), v5 = .int .i64 x5_1 ∧ Aside0 (concordatlaw01_SameBytes.l0 kq l0 l1 x5_1 = some r) ∧ Aside0 (kq ≤ k) ∧ Drawn0 w w')
    case atStart => exact ⟨(0), (by first | rfl | (simp; done) | (simp [*]; done)), H', ⟨Nat.le_refl _⟩, by repeat (first | exact Drawn0.refl _ | apply Drawn0.step)⟩
    case round =>
      clear H'
      try clear c1
      try clear p2
      try clear c3
      try clear c3b0
      try clear c3b1
      try clear c3b2
      obtain ⟨x5_1, rfl, HA, HK1, ⟨m1, rfl⟩⟩ := hrel
      cases gk with
      | zero => exact absurd HA.out (by simp [concordatlaw01_SameBytes.l0])
      | succ k1 =>
        have H := HA.out
        clear HA
        simp only [concordatlaw01_SameBytes.l0] at H
        by_cases c4 : x5_1 < (l0.length : Int)
        · rw [if_pos c4] at H
          have c4b0 : decide (x5_1 < (l0.length : Int)) = true := decide_eq_true c4
          clear c4
          by_cases c5 : 0 ≤ x5_1
          · rw [if_pos c5] at H
            have c5b0 : decide (0 ≤ x5_1) = true := decide_eq_true c5
            clear c5
            by_cases c6 : x5_1 < (l1.length : Int)
            · rw [if_pos c6] at H
              have c6b0 : decide (x5_1 < (l1.length : Int)) = true := decide_eq_true c6
              clear c6
              by_cases c7 : (rd l0 x5_1) = (rd l1 x5_1)
              · rw [if_pos c7] at H
                have c7b0 : ((rd l0 x5_1) == (rd l1 x5_1)) = true := beq_iff_eq.mpr c7
                have c7b1 : ((rd l0 x5_1) != (rd l1 x5_1)) = false := bne_eq_false_iff_eq.mpr c7
                clear c7
                have H' := Aside0.mk H
                clear H
                have p228 : 0 ≤ (x5_1 : Int) := of_decide_eq_true (by first | (with_reducible assumption) | assumption)
                have q228 : x5_1 < (l0.length : Int) := of_decide_eq_true (by first | (with_reducible assumption) | assumption)
                obtain ⟨ad228, e228, hx228_0⟩ := Kd.at_int HR0.out x5_1 p228 q228
                cases e228
                replace p228 := eq_true p228
                replace q228 := eq_true q228
                have p229 : 0 ≤ (x5_1 : Int) := of_decide_eq_true (by first | (with_reducible assumption) | assumption)
                have q229 : x5_1 < (l1.length : Int) := of_decide_eq_true (by first | (with_reducible assumption) | assumption)
                obtain ⟨ad229, e229, hx229_0⟩ := Kd.at_int HR1.out x5_1 p229 q229
                cases e229
                replace p229 := eq_true p229
                replace q229 := eq_true q229
                go_wp2
                repeat (go_quiet (fail); try go_wp2)
                go_roundg k1
                case measure => have := HK1.out; omega
                case rel => exact ⟨(wrap64 (x5_1 + 1)), (by first | rfl | (simp; done) | (simp [*]; done)), H', ⟨by have := HK1.out; omega⟩, by repeat (first | exact Drawn0.refl _ | apply Drawn0.step)⟩
              · rw [if_neg c7] at H
                have c7b0 : ((rd l0 x5_1) == (rd l1 x5_1)) = false := beq_eq_false_iff_ne.mpr c7
                have c7b1 : ((rd l0 x5_1) != (rd l1 x5_1)) = true := bne_iff_ne.mpr c7
                obtain rfl := Option.some.inj H
                have p228 : 0 ≤ (x5_1 : Int) := of_decide_eq_true (by first | (with_reducible assumption) | assumption)
                have q228 : x5_1 < (l0.length : Int) := of_decide_eq_true (by first | (with_reducible assumption) | assumption)
                obtain ⟨ad228, e228, hx228_0⟩ := Kd.at_int HR0.out x5_1 p228 q228
                cases e228
                replace p228 := eq_true p228
                replace q228 := eq_true q228
                have p229 : 0 ≤ (x5_1 : Int) := of_decide_eq_true (by first | (with_reducible assumption) | assumption)
                have q229 : x5_1 < (l1.length : Int) := of_decide_eq_true (by first | (with_reducible assumption) | assumption)
                obtain ⟨ad229, e229, hx229_0⟩ := Kd.at_int HR1.out x5_1 p229 q229
                cases e229
                replace p229 := eq_true p229
                replace q229 := eq_true q229
                go_wp2
                repeat (go_quiet (fail); try go_wp2)
                go_ret
                exact ⟨by first | rfl | (simp; done) | (simp [*]; done), by repeat (first | exact Drawn0.refl _ | apply Drawn0.step)⟩
            · rw [if_neg c6] at H
              exact absurd H (by simp)
          · rw [if_neg c5] at H
            exact absurd H (by simp)
        · rw [if_neg c4] at H
          have c4b0 : decide (x5_1 < (l0.length : Int)) = false := decide_eq_false c4
          clear c4
          obtain rfl := Option.some.inj H
          go_wp2
          repeat (go_quiet (fail); try go_wp2)
          go_ret
          exact ⟨by first | rfl | (simp; done) | (simp [*]; done), by repeat (first | exact Drawn0.refl _ | apply Drawn0.step)⟩
  · rw [if_neg c3] at H
    have c3b0 : ((l0.length : Int) == (l1.length : Int)) = false := beq_eq_false_iff_ne.mpr c3
    have c3b1 : ((l0.length : Int) != (l1.length : Int)) = true := bne_iff_ne.mpr c3
    have c3b2 : (l0.length == l1.length) = false := by first | simpa using c3 | (simp at c3 ⊢; omega)
    obtain rfl := Option.some.inj H
    go_enter Tryz.func34, Tryz.ntmps34
    go_wp2
    repeat (go_quiet (fail); try go_wp2)
    go_ret
    exact ⟨by first | rfl | (simp; done) | (simp [*]; done), by repeat (first | exact Drawn0.refl _ | apply Drawn0.step)⟩

def concordatlaw01_SameChanges.l0 : Nat → List (S116) → List (S116) → Int → Option (Bool)
  | 0, _, _, _ => none
  | k + 1, x0, x1, x5 => if x5 < (x0.length : Int) then (if 0 ≤ x5 then (if x5 < (x1.length : Int) then (if (!((((rd_T116 x0 x5).f0).toList) == (((rd_T116 x1 x5).f0).toList)) || (!(((rd_T116 x0 x5).f1) == ((rd_T116 x1 x5).f1)) || (!(((rd_T116 x0 x5).f2) == ((rd_T116 x1 x5).f2))))) = true then (some false) else (concordatlaw01_SameChanges.l0 k x0 x1 (wrap64 (x5 + 1)))) else (none)) else (none)) else (some true)
def concordatlaw01_SameChanges.f (k : Nat) (l0 : List (S116)) (l1 : List (S116)) : Option (Bool) := if (l0.length : Int) = (l1.length : Int) then (concordatlaw01_SameChanges.l0 k l0 l1 0) else (some false)
set_option maxHeartbeats 8000000 in
set_option maxRecDepth 100000 in
theorem concordatlaw01_SameChanges.calls (k : Nat) (A0 : Option Addr) (c0 : Nat) (l0 : List (S116)) (A1 : Option Addr) (c1 : Nat) (l1 : List (S116)) (r : Bool) (w : World) (hr0 : Kd.C k116 w A0 l0.length l0) (hc0 : l0.length ≤ c0) (hr1 : Kd.C k116 w A1 l1.length l1) (hc1 : l1.length ≤ c1) (h : concordatlaw01_SameChanges.f k l0 l1 = some r) :
    Calls Tryz.prog 35 #[.slice A0 l0.length c0, .slice A1 l1.length c1] w fun e w' => e = .returned (.bool r) ∧ Drawn0 w w' := by
  have hu116 := Tryz.underlying116
  have HR0 := Aside0.mk hr0
  have HC0 := Aside0.mk hc0
  clear hr0 hc0
  have HR1 := Aside0.mk hr1
  have HC1 := Aside0.mk hc1
  clear hr1 hc1
  have H : (if (l0.length : Int) = (l1.length : Int) then (concordatlaw01_SameChanges.l0 k l0 l1 0) else (some false)) = some r := h
  clear h
  by_cases c3 : (l0.length : Int) = (l1.length : Int)
  · rw [if_pos c3] at H
    have c3b0 : ((l0.length : Int) == (l1.length : Int)) = true := beq_iff_eq.mpr c3
    have c3b1 : ((l0.length : Int) != (l1.length : Int)) = false := bne_eq_false_iff_eq.mpr c3
    have c3b2 : (l0.length == l1.length) = true := by first | simpa using c3 | (simp at c3 ⊢; omega)
    clear c3
    have H' := Aside0.mk H
    clear H
    go_enter Tryz.func35, Tryz.ntmps35
    go_wp2
    repeat (go_quiet (fail); try go_wp2)
    go_loopg [5] k (fun kq v5 w' => ∃ (x5_1 : Int), v5 = .int .i64 x5_1 ∧ Aside0 (concordatlaw01_SameChanges.l0 kq l0 l1 x5_1 = some r) ∧ Aside0 (kq ≤ k) ∧ Drawn0 w w')
    case atStart => exact ⟨(0), (by first | rfl | (simp; done) | (simp [*]; done)), H', ⟨Nat.le_refl _⟩, by repeat (first | exact Drawn0.refl _ | apply Drawn0.step)⟩
    case round =>
      clear H'
      try clear c1
      try clear p2
      try clear c3
      try clear c3b0
      try clear c3b1
      try clear c3b2
      obtain ⟨x5_1, rfl, HA, HK1, ⟨m1, rfl⟩⟩ := hrel
      cases gk with
      | zero => exact absurd HA.out (by simp [concordatlaw01_SameChanges.l0])
      | succ k1 =>
        have H := HA.out
        clear HA
        simp only [concordatlaw01_SameChanges.l0] at H
        by_cases c4 : x5_1 < (l0.length : Int)
        · rw [if_pos c4] at H
          have c4b0 : decide (x5_1 < (l0.length : Int)) = true := decide_eq_true c4
          clear c4
          by_cases c5 : 0 ≤ x5_1
          · rw [if_pos c5] at H
            have c5b0 : decide (0 ≤ x5_1) = true := decide_eq_true c5
            clear c5
            by_cases c6 : x5_1 < (l1.length : Int)
            · rw [if_pos c6] at H
              have c6b0 : decide (x5_1 < (l1.length : Int)) = true := decide_eq_true c6
              clear c6
              by_cases c7 : (!((((rd_T116 l0 x5_1).f0).toList) == (((rd_T116 l1 x5_1).f0).toList)) || (!(((rd_T116 l0 x5_1).f1) == ((rd_T116 l1 x5_1).f1)) || (!(((rd_T116 l0 x5_1).f2) == ((rd_T116 l1 x5_1).f2))))) = true
              · rw [if_pos c7] at H
                have c7b0 : (!((((rd_T116 l0 x5_1).f0).toList) == (((rd_T116 l1 x5_1).f0).toList)) || (!(((rd_T116 l0 x5_1).f1) == ((rd_T116 l1 x5_1).f1)) || (!(((rd_T116 l0 x5_1).f2) == ((rd_T116 l1 x5_1).f2))))) = true := c7
                clear c7
                obtain rfl := Option.some.inj H
                have p232 : 0 ≤ (x5_1 : Int) := of_decide_eq_true (by first | (with_reducible assumption) | assumption)
                have q232 : x5_1 < (l0.length : Int) := of_decide_eq_true (by first | (with_reducible assumption) | assumption)
                obtain ⟨ad232, e232, hx232_0, hx232_1, hx232_2⟩ := at_T116 HR0.out x5_1 p232 q232
                cases e232
                replace p232 := eq_true p232
                replace q232 := eq_true q232
                have p233 : 0 ≤ (x5_1 : Int) := of_decide_eq_true (by first | (with_reducible assumption) | assumption)
                have q233 : x5_1 < (l1.length : Int) := of_decide_eq_true (by first | (with_reducible assumption) | assumption)
                obtain ⟨ad233, e233, hx233_0, hx233_1, hx233_2⟩ := at_T116 HR1.out x5_1 p233 q233
                cases e233
                replace p233 := eq_true p233
                replace q233 := eq_true q233
                go_wp2
                repeat (go_quiet (fail); try go_wp2)
                go_ret
                exact ⟨by first | rfl | (simp; done) | (simp [*]; done), by repeat (first | exact Drawn0.refl _ | apply Drawn0.step)⟩
              · rw [if_neg c7] at H
                have c7b0 : (!((((rd_T116 l0 x5_1).f0).toList) == (((rd_T116 l1 x5_1).f0).toList)) || (!(((rd_T116 l0 x5_1).f1) == ((rd_T116 l1 x5_1).f1)) || (!(((rd_T116 l0 x5_1).f2) == ((rd_T116 l1 x5_1).f2))))) = false := by simpa using c7
                clear c7
                have H' := Aside0.mk H
                clear H
                have p232 : 0 ≤ (x5_1 : Int) := of_decide_eq_true (by first | (with_reducible assumption) | assumption)
                have q232 : x5_1 < (l0.length : Int) := of_decide_eq_true (by first | (with_reducible assumption) | assumption)
                obtain ⟨ad232, e232, hx232_0, hx232_1, hx232_2⟩ := at_T116 HR0.out x5_1 p232 q232
                cases e232
                replace p232 := eq_true p232
                replace q232 := eq_true q232
                have p233 : 0 ≤ (x5_1 : Int) := of_decide_eq_true (by first | (with_reducible assumption) | assumption)
                have q233 : x5_1 < (l1.length : Int) := of_decide_eq_true (by first | (with_reducible assumption) | assumption)
                obtain ⟨ad233, e233, hx233_0, hx233_1, hx233_2⟩ := at_T116 HR1.out x5_1 p233 q233
                cases e233
                replace p233 := eq_true p233
                replace q233 := eq_true q233
                go_wp2
                repeat (go_quiet (fail); try go_wp2)
                go_roundg k1
                case measure => have := HK1.out; omega
                case rel => exact ⟨(wrap64 (x5_1 + 1)), (by first | rfl | (simp; done) | (simp [*]; done)), H', ⟨by have := HK1.out; omega⟩, by repeat (first | exact Drawn0.refl _ | apply Drawn0.step)⟩
            · rw [if_neg c6] at H
              exact absurd H (by simp)
          · rw [if_neg c5] at H
            exact absurd H (by simp)
        · rw [if_neg c4] at H
          have c4b0 : decide (x5_1 < (l0.length : Int)) = false := decide_eq_false c4
          clear c4
          obtain rfl := Option.some.inj H
          go_wp2
          repeat (go_quiet (fail); try go_wp2)
          go_ret
          exact ⟨by first | rfl | (simp; done) | (simp [*]; done), by repeat (first | exact Drawn0.refl _ | apply Drawn0.step)⟩
  · rw [if_neg c3] at H
    have c3b0 : ((l0.length : Int) == (l1.length : Int)) = false := beq_eq_false_iff_ne.mpr c3
    have c3b1 : ((l0.length : Int) != (l1.length : Int)) = true := bne_iff_ne.mpr c3
    have c3b2 : (l0.length == l1.length) = false := by first | simpa using c3 | (simp at c3 ⊢; omega)
    obtain rfl := Option.some.inj H
    go_enter Tryz.func35, Tryz.ntmps35
    go_wp2
    repeat (go_quiet (fail); try go_wp2)
    go_ret
    exact ⟨by first | rfl | (simp; done) | (simp [*]; done), by repeat (first | exact Drawn0.refl _ | apply Drawn0.step)⟩

def bytes_Equal.f (l0 : List Int) (l1 : List Int) : Option (Bool) := some ((strOfNums l0).toList == (strOfNums l1).toList)
set_option maxHeartbeats 8000000 in
set_option maxRecDepth 100000 in
theorem bytes_Equal.calls (A0 : Option Addr) (c0 : Nat) (l0 : List Int) (A1 : Option Addr) (c1 : Nat) (l1 : List Int) (r : Bool) (w : World) (hr0 : Kd.C (Kd.int .u8) w A0 l0.length l0) (hc0 : l0.length ≤ c0) (hr1 : Kd.C (Kd.int .u8) w A1 l1.length l1) (hc1 : l1.length ≤ c1) (h : bytes_Equal.f l0 l1 = some r) :
    Calls Tryz.prog 192 #[.slice A0 l0.length c0, .slice A1 l1.length c1] w fun e w' => e = .returned (.bool r) ∧ Drawn0 w w' := by
  have HR0 := Aside0.mk hr0
  have HC0 := Aside0.mk hc0
  clear hr0 hc0
  have HR1 := Aside0.mk hr1
  have HC1 := Aside0.mk hc1
  clear hr1 hc1
  have H : (some ((strOfNums l0).toList == (strOfNums l1).toList)) = some r := h
  clear h
  obtain rfl := Option.some.inj H
  have hcv3 := Kd.C_string (P := Tryz.prog) (A := A0) (c := c0) Tryz.underlying67 Tryz.underlying5 Tryz.underlying9 HR0.out
  have hcv4 := Kd.C_string (P := Tryz.prog) (A := A1) (c := c1) Tryz.underlying67 Tryz.underlying5 Tryz.underlying9 HR1.out
  go_enter Tryz.func192, Tryz.ntmps192
  go_wp2
  go_ret
  exact ⟨by first | rfl | (simp; done) | (simp [*]; done), by repeat (first | exact Drawn0.refl _ | apply Drawn0.step)⟩

end Go.Proofs.YtcohodkpppmaoaaGreatDoor.Q
namespace Go.Proofs.YtcohodkpppmaoaaGreatDoor.Q
open Go.RowKit Go.Proofs.YtcohodkpppmaoaaGreatDoorW.PrintWords Go.Proofs.YtcohodkpppmaoaaGreatDoorW.PrintLast Go.Proofs.YtcohodkpppmaoaaGreatDoorW.PrintMore
set_option linter.unusedVariables false

/-- Outside the blocks F the world w' is as w was. -/
structure Keeps (F : List Nat) (w w' : World) : Prop where
  os : w'.os = w.os
  tape : w'.tape = w.tape
  output : w'.output = w.output
  size : w.heap.size ≤ w'.heap.size
  block : ∀ k, k < w.heap.size → k ∉ F → w'.heap[k]? = w.heap[k]?

namespace Keeps
variable {F G : List Nat} {a b c : World} {B : Nat}
theorem refl (F : List Nat) (w : World) : Keeps F w w := ⟨rfl, rfl, rfl, Nat.le_refl _, fun _ _ _ => rfl⟩
theorem of_below (h : Below a.heap.size a b) (F : List Nat) : Keeps F a b := ⟨h.os, h.tape, h.output, h.size, fun k hk _ => h.block k hk⟩
theorem of_grown {row : Option Nat} (h : a.grownBy b row) (hr : ∀ k, row = some k → k ∈ F) : Keeps F a b :=
  ⟨h.os, h.tape, h.output, h.size, fun k hk hF => h.block k hk (fun e => hF (hr k e.symm))⟩
theorem trans (h : Keeps F a b) (k : Keeps G b c) (hG : ∀ x ∈ G, x ∈ F ∨ a.heap.size ≤ x) : Keeps F a c :=
  ⟨k.os.trans h.os, k.tape.trans h.tape, k.output.trans h.output, Nat.le_trans h.size k.size, fun i hi hF => (k.block i (Nat.lt_of_lt_of_le hi h.size) (fun hx => by
    rcases hG i hx with h1 | h1
    · exact hF h1
    · omega)).trans (h.block i hi hF)⟩
theorem mono (h : Keeps F a b) (hF : ∀ x ∈ F, x ∈ G ∨ a.heap.size ≤ x) : Keeps G a b :=
  ⟨h.os, h.tape, h.output, h.size, fun k hk hG => h.block k hk (fun hx => by
    rcases hF k hx with h1 | h1
    · exact hG h1
    · omega)⟩
theorem below (h : Keeps F a b) (hF : ∀ x ∈ F, B ≤ x) (hB : B ≤ a.heap.size) : Below B a b :=
  ⟨h.os, h.tape, h.output, h.size, fun k hk => h.block k (by omega) (fun hx => by have := hF k hx; omega)⟩
theorem setCell (h : Keeps F a b) {p : Addr} (hp : p.block ∈ F ∨ a.heap.size ≤ p.block) (u : Value) : Keeps F a (b.setCell p u) :=
  ⟨h.os, h.tape, h.output, by simpa [World.setCell] using h.size, fun k hk hF => (Below.heap_setCell b p u k (fun e => by
    rcases hp with h1 | h1
    · exact hF (e ▸ h1)
    · omega)).trans (h.block k hk hF)⟩
theorem alloc (h : Keeps F a b) (o : Obj) : Keeps F a (b.alloc o) := h.trans (G := []) (of_below (Below.alloc (Below.refl _ _) (Nat.le_refl _) o) []) (fun _ hx => by cases hx)
theorem drew (h : Keeps F a b) : Keeps F a b.drew := ⟨h.os, h.tape, h.output, h.size, h.block⟩
theorem drewN (h : Keeps F a b) (n : Nat) : Keeps F a (b.drewN n) := h.trans (G := []) (of_below (pw_below_drewN (Below.refl _ _) n) []) (fun _ hx => by cases hx)
/-- A block that is not among them stays. -/
theorem blk (h : Keeps F a b) {g : Nat} {o : Obj} (hb : a.heap[g]? = some o) (hg : g ∉ F) : b.heap[g]? = some o := (h.block g (blk_lt hb) hg).trans hb
end Keeps

/-- A kind whose values own blocks: M w F x cs: the cells cs are x in w, and the blocks F are x's. -/
structure Fd (α : Type) where
  k : Kd α
  M : World → List Nat → α → List Value → Prop
  read : ∀ {w F x cs}, M w F x cs → k.K w x cs
  move : ∀ {w w1 F x cs}, (∀ b ∈ F, w1.heap[b]? = w.heap[b]?) → M w F x cs → M w1 F x cs
  lt : ∀ {w F x cs}, M w F x cs → ∀ b ∈ F, b < w.heap.size

namespace Fd
theorem keeps {α : Type} {d : Fd α} {F G : List Nat} {w w1 : World} {x : α} {cs : List Value} (h : d.M w F x cs) (hk : Keeps G w w1) (hd : ∀ b ∈ F, b ∉ G) : d.M w1 F x cs :=
  d.move (fun b hb => hk.block b (d.lt h b hb) (hd b hb)) h
/-- What owns nothing, as it is read: for kinds without slices. -/
def flat {α : Type} (k : Kd α) (hk : ∀ {w w1 : World} {x cs}, k.K w x cs → k.K w1 x cs) : Fd α where
  k := k
  M := fun w F x cs => F = [] ∧ k.K w x cs
  read := fun h => h.2
  move := fun _ h => ⟨h.1, hk h.2⟩
  lt := fun h b hb => by rw [h.1] at hb; cases hb

section
variable {α : Type} {d : Fd α} {w w1 W : World} {F F0 F1 G : List Nat} {x p : α} {xs ys : List α} {cs ds c : List Value} {e : Nat} {v v1 : Value}
/-- Elements one behind the other, and their blocks. -/
def Els (d : Fd α) (w : World) : List α → List Value → List Nat → Prop
  | [], cs, F => cs = [] ∧ F = []
  | x :: xs, cs, F => ∃ c r F0 F1, cs = c ++ r ∧ F = F0 ++ F1 ∧ d.M w F0 x c ∧ Els d w xs r F1

theorem els_one (h : d.M w F x c) : Els d w [x] c F := ⟨c, [], F, [], by simp, by simp, h, rfl, rfl⟩
theorem els_append : ∀ {xs : List α} {cs : List Value} {F : List Nat}, Els d w xs cs F → Els d w ys ds G → Els d w (xs ++ ys) (cs ++ ds) (F ++ G)
  | [], _, _, h, k => by
    obtain ⟨rfl, rfl⟩ := h
    exact k
  | x :: xs, _, _, h, k => by
    obtain ⟨c, r, F0, F1, rfl, rfl, h1, h2⟩ := h
    exact ⟨c, r ++ ds, F0, F1 ++ G, by rw [List.append_assoc], by rw [List.append_assoc], h1, els_append h2 k⟩
theorem els_split : ∀ {xs : List α} {cs : List Value} {F : List Nat}, Els d w (xs ++ ys) cs F → ∃ c0 c1 F0 F1, cs = c0 ++ c1 ∧ F = F0 ++ F1 ∧ Els d w xs c0 F0 ∧ Els d w ys c1 F1
  | [], cs, F, h => ⟨[], cs, [], F, rfl, rfl, ⟨rfl, rfl⟩, h⟩
  | x :: xs, _, _, h => by
    obtain ⟨c, r, F0, F1, rfl, rfl, h1, h2⟩ := h
    obtain ⟨c0, c1, G0, G1, rfl, rfl, h3, h4⟩ := els_split h2
    exact ⟨c ++ c0, c1, F0 ++ G0, G1, by rw [List.append_assoc], by rw [List.append_assoc], ⟨c, c0, F0, G0, rfl, rfl, h1, h3⟩, h4⟩
theorem els_move : ∀ {xs : List α} {cs : List Value} {F : List Nat}, (∀ b ∈ F, w1.heap[b]? = w.heap[b]?) → Els d w xs cs F → Els d w1 xs cs F
  | [], _, _, _, h => h
  | x :: xs, _, _, hm, h => by
    obtain ⟨c, r, F0, F1, rfl, rfl, h1, h2⟩ := h
    exact ⟨c, r, F0, F1, rfl, rfl, d.move (fun b hb => hm b (List.mem_append_left _ hb)) h1, els_move (fun b hb => hm b (List.mem_append_right _ hb)) h2⟩
theorem els_lt : ∀ {xs : List α} {cs : List Value} {F : List Nat}, Els d w xs cs F → ∀ b ∈ F, b < w.heap.size
  | [], _, _, h, b, hb => by
    rw [h.2] at hb
    cases hb
  | x :: xs, _, _, h, b, hb => by
    obtain ⟨c, r, F0, F1, rfl, rfl, h1, h2⟩ := h
    rcases List.mem_append.1 hb with hb | hb
    · exact d.lt h1 b hb
    · exact els_lt h2 b hb
theorem els_len : ∀ {xs : List α} {cs : List Value} {F : List Nat}, Els d w xs cs F → cs.length = xs.length * d.k.sz
  | [], _, _, h => by
    rw [h.1]
    simp
  | x :: xs, _, _, h => by
    obtain ⟨c, r, F0, F1, rfl, rfl, h1, h2⟩ := h
    rw [List.length_append, d.k.K_len (d.read h1), els_len h2, List.length_cons, Nat.succ_mul, Nat.add_comm]
theorem els_reps : ∀ {xs : List α} {cs : List Value} {F : List Nat}, Els d w xs cs F → Reps (d.k.K w) d.k.sz xs cs
  | [], _, _, h => by
    rw [h.1]
    exact Reps.none _ _
  | x :: xs, cs, F, h => by
    have hl := els_len h
    obtain ⟨c, r, F0, F1, rfl, rfl, h1, h2⟩ := h
    have hc := d.k.K_len (d.read h1)
    refine ⟨hl, fun j p hj => ?_⟩
    cases j with
    | zero =>
      simp at hj
      subst hj
      rw [Nat.zero_mul, List.drop_zero, List.take_left' hc]
      exact d.read h1
    | succ j =>
      have := (els_reps h2).2 j p (by simpa using hj)
      rwa [show (j + 1) * d.k.sz = c.length + j * d.k.sz by rw [hc, Nat.succ_mul, Nat.add_comm], List.drop_append, List.drop_of_length_le (by omega), List.nil_append, Nat.add_sub_cancel_left]
/-- Element i, and what lies ahead of it and behind it. -/
theorem els_at {i : Nat} (hi : i < xs.length) (h : Els d w xs cs F) : ∃ c0 c c1 F0 F' F1, cs = c0 ++ (c ++ c1) ∧ c0.length = i * d.k.sz ∧ F = F0 ++ (F' ++ F1) ∧ Els d w (xs.take i) c0 F0 ∧ d.M w F' (xs[i]) c ∧ Els d w (xs.drop (i + 1)) c1 F1 := by
  have e : xs = xs.take i ++ (xs[i] :: xs.drop (i + 1)) := by rw [← List.drop_eq_getElem_cons hi, List.take_append_drop]
  rw [e] at h
  obtain ⟨c0, c1, F0, F1, rfl, rfl, h1, h2⟩ := els_split h
  obtain ⟨c, r, G0, G1, rfl, rfl, h3, h4⟩ := h2
  refine ⟨c0, c, r, F0, G0, G1, rfl, ?_, rfl, h1, h3, h4⟩
  rw [els_len h1, List.length_take, Nat.min_eq_left (by omega)]

/-- A row of one's own: its block (none if it is nil), and those of its elements. -/
def Row (d : Fd α) (e : Nat) (w : World) (F : List Nat) (v : Value) (xs : List α) : Prop :=
  ∃ inner G, w.ownsRow 0 e d.k.sz v xs.length inner ∧ Els d w xs inner G ∧ F = v.ownBlock.toList ++ G
theorem row_nil (d : Fd α) (e : Nat) (w : World) : Row d e w [] (.slice none 0 0) [] := ⟨[], [], own_nil w 0 e _, ⟨rfl, rfl⟩, rfl⟩
theorem row_lt (h : Row d e w F v xs) : ∀ b ∈ F, b < w.heap.size := by
  obtain ⟨inner, G, ho, he, rfl⟩ := h
  intro b hb
  rcases List.mem_append.1 hb with hb | hb
  · exact own_lt ho b (by simpa using hb)
  · exact els_lt he b hb
theorem row_move (hm : ∀ b ∈ F, w1.heap[b]? = w.heap[b]?) (h : Row d e w F v xs) : Row d e w1 F v xs := by
  obtain ⟨inner, G, ho, he, rfl⟩ := h
  exact ⟨inner, G, own_move ho (fun k hk => hm k (by rw [hk]; simp)), els_move (fun b hb => hm b (List.mem_append_right _ hb)) he, rfl⟩
theorem row_keeps (h : Row d e w F v xs) (hk : Keeps G w w1) (hd : ∀ b ∈ F, b ∉ G) : Row d e w1 F v xs :=
  row_move (fun b hb => hk.block b (row_lt h b hb) (hd b hb)) h
theorem row_below (h : Row d e w F v xs) (hb : Below w.heap.size w w1) : Row d e w1 F v xs := row_keeps h (Keeps.of_below hb []) (fun _ _ hx => by cases hx)
theorem row_reads (h : Row d e w F v xs) : ∃ A c, v = .slice A xs.length c ∧ xs.length ≤ c ∧ d.k.C w A xs.length xs := by
  obtain ⟨inner, G, ho, he, rfl⟩ := h
  exact OwnRow.reads (R := d.k.K w) ⟨inner, ho, els_reps he⟩
end

def slice {α : Type} (e : Nat) (d : Fd α) : Fd (List α) where
  k := Kd.slice e d.k
  M := fun w F xs cs => ∃ v, cs = [v] ∧ Row d e w F v xs
  read := by
    rintro w F xs cs ⟨v, rfl, h⟩
    obtain ⟨A, c, rfl, hl, hC⟩ := row_reads h
    exact ⟨A, c, rfl, hl, hC⟩
  move := by
    rintro w w1 F xs cs hm ⟨v, rfl, h⟩
    exact ⟨v, rfl, row_move hm h⟩
  lt := by
    rintro w F xs cs ⟨v, rfl, h⟩
    exact row_lt h

section
variable {α : Type} {d : Fd α} {w W w1 : World} {F G : List Nat} {p : α} {xs : List α} {cs inner : List Value} {e : Nat} {v v1 : Value}
/-- What an append of one element leaves. -/
theorem row_appended (ho : W.ownsRow 0 e d.k.sz v xs.length inner) (he : Els d W xs inner G) (hp : d.M W F p cs) (hd : ∀ b ∈ G ++ F, some b ≠ v.ownBlock)
    (ho1 : w1.ownsRow 0 e d.k.sz v1 (xs.length + 1) (inner ++ cs)) (hg : W.grownBy w1 v.ownBlock) : Row d e w1 (v1.ownBlock.toList ++ (G ++ F)) v1 (xs ++ [p]) := by
  have hm : ∀ b ∈ G ++ F, w1.heap[b]? = W.heap[b]? := by
    intro b hb
    have hlt : b < W.heap.size := by
      rcases List.mem_append.1 hb with hb | hb
      · exact els_lt he b hb
      · exact d.lt hp b hb
    exact hg.block b hlt (hd b hb)
  refine ⟨inner ++ cs, G ++ F, ?_, els_append (els_move (fun b hb => hm b (List.mem_append_left _ hb)) he) (els_one (d.move (fun b hb => hm b (List.mem_append_right _ hb)) hp)), rfl⟩
  rw [List.length_append]
  exact ho1
end
section
variable {P : Program} {ops : Array Oper} {rest : List Oper} {o : Oper} {a : Act} {Q : Exit → Act → World → Prop} {α : Type}
/-- What follows of an append of one element: the new row and its blocks. -/
theorem row_after {α : Type} {d : Fd α} {W w1 : World} {e : Nat} {v v1 : Value} {xs : List α} {p : α} {cs inner : List Value} {G0 G : List Nat} (hp : d.M W G p cs) (hown : W.ownsRow 0 e d.k.sz v xs.length inner) (he : Els d W xs inner G0) (hnd : ((v.ownBlock.toList ++ G0) ++ G).Nodup)
    (hown1 : w1.ownsRow 0 e d.k.sz v1 (xs.length + 1) (inner ++ cs)) (hg1 : W.grownBy w1 v.ownBlock) (hat1 : v1.ownBlock = v.ownBlock ∨ ∃ b, v1.ownBlock = some b ∧ W.heap.size ≤ b) :
    ∃ F1, Row d e w1 F1 v1 (xs ++ [p]) ∧ F1.Nodup ∧ Keeps (v.ownBlock.toList ++ G0) W w1 ∧ ∀ b ∈ F1, b ∈ v.ownBlock.toList ++ G0 ∨ b ∈ G ∨ W.heap.size ≤ b := by
  have hd : ∀ b ∈ G0 ++ G, some b ≠ v.ownBlock := by
    intro b hb e1
    rw [← e1, List.append_assoc] at hnd
    exact (List.nodup_append.1 hnd).2.2 b (by simp) b hb rfl
  refine ⟨_, row_appended hown he hp hd hown1 hg1, ?_, Keeps.of_grown hg1 (fun k hk => by rw [hk]; simp), ?_⟩
  · rw [List.append_assoc] at hnd
    obtain ⟨_, h2, h3⟩ := List.nodup_append.1 hnd
    rcases hat1 with hat | ⟨b, hat, hb⟩
    · rw [hat]; exact hnd
    · rw [hat]
      refine List.nodup_append.2 ⟨by simp, h2, ?_⟩
      intro x hx y hy exy
      have hxb : x = b := by simpa using hx
      have : y < W.heap.size := by
        rcases List.mem_append.1 hy with hy | hy
        · exact els_lt he y hy
        · exact d.lt hp y hy
      omega
  · intro b hb
    rcases List.mem_append.1 hb with hb | hb
    · rcases hat1 with hat | ⟨b', hat, hb'⟩
      · rw [hat] at hb; exact .inl (List.mem_append_left _ hb)
      · rw [hat] at hb; simp at hb; subst hb; exact .inr (.inr hb')
    · rcases List.mem_append.1 hb with hb | hb
      · exact .inl (List.mem_append_right _ hb)
      · exact .inr (.inl hb)
/-- append(v, x) behind 'at_builtin'; the goal's world is 'W.alloc' of the variadic's box; x's cells are cs, its blocks G. -/
theorem R_append (d : Fd α) {W : World} (hgd : o.guard = none) (s x : Operand) (t e : TypeId) (z : Value) (bytes : Nat)
    (ho : o.op = .call { callee := .builtin .append, args := #[s, x], argTypes := #[t, t] })
    (ht : P.underlying t = some (.slice e)) (hinfo : (P.info? e).map (fun i => (i.zero, i.size, i.bytes)) = some (some z, d.k.sz, bytes)) (hz : z.cells.size = d.k.sz) (hs0 : 0 < d.k.sz) (hb0 : 0 < bytes)
    (v : Value) (xs : List α) (p : α) (cs : List Value) (F G : List Nat) (hs : a.eval s = v) (hx : a.eval x = .slice (some ⟨W.heap.size, 0, none⟩) 1 1) (hp : d.M W G p cs)
    (HO : Row d e W F v xs) (hnd : (F ++ G).Nodup) (hl : (xs.length + 1) * bytes ≤ 140737488355328)
    (h : ∀ v1 w1 F1, Row d e w1 F1 v1 (xs ++ [p]) → F1.Nodup → Keeps F W w1 → (∀ b ∈ F1, b ∈ F ∨ b ∈ G ∨ W.heap.size ≤ b) → wpList P ops Q rest (a.put o.dst v1) w1) :
    wpList P ops Q (o :: rest) a (W.alloc (.cells cs.toArray e)) := by
  obtain ⟨inner, G0, hown, he, rfl⟩ := HO
  refine print_append_cells (w0 := W) 0 hgd s x t e z d.k.sz bytes ho ht hinfo hz hs0 hb0 v xs.length inner cs hs hx (d.k.K_len (d.read hp)) (d.k.K_one (d.read hp)) hown (Below.refl _ _) (Nat.zero_le _) hl ?_
  intro v1 w1 hown1 _ hg1 hat1
  obtain ⟨F1, h1, h2, h3, h4⟩ := row_after hp hown he hnd hown1 hg1 hat1
  exact h v1 w1 F1 h1 h2 h3 h4
end
section
variable {P : Program} {ops : Array Oper} {o : Oper} {a : Act} {Q : Exit → Act → World → Prop} {K : Act → World → Prop} {α : Type}
/-- The same as a step of a region that draws its order (for go_region_law). -/
theorem R_append_step (d : Fd α) {W : World} (hgd : o.guard = none) (s x : Operand) (t e : TypeId) (z : Value) (bytes : Nat)
    (ho : o.op = .call { callee := .builtin .append, args := #[s, x], argTypes := #[t, t] })
    (ht : P.underlying t = some (.slice e)) (hinfo : (P.info? e).map (fun i => (i.zero, i.size, i.bytes)) = some (some z, d.k.sz, bytes)) (hz : z.cells.size = d.k.sz) (hs0 : 0 < d.k.sz) (hb0 : 0 < bytes)
    (v : Value) (xs : List α) (p : α) (cs : List Value) (F G : List Nat) (hs : a.eval s = v) (hx : a.eval x = .slice (some ⟨W.heap.size, 0, none⟩) 1 1) (hp : d.M W G p cs)
    (HO : Row d e W F v xs) (hnd : (F ++ G).Nodup) (hl : (xs.length + 1) * bytes ≤ 140737488355328)
    (h : ∀ v1 w1 F1, Row d e w1 F1 v1 (xs ++ [p]) → F1.Nodup → Keeps F W w1 → (∀ b ∈ F1, b ∈ F ∨ b ∈ G ∨ W.heap.size ≤ b) → K (a.put o.dst v1) w1) :
    if Region.wanted o (yielded ops a.tmps) = true then Oper.wp P o a (W.alloc (.cells cs.toArray e)) K Q else K (a.put o.dst undef) (W.alloc (.cells cs.toArray e)) := by
  obtain ⟨inner, G0, hown, he, rfl⟩ := HO
  refine step_append_cells (w0 := W) 0 (by simp [Region.wanted, hgd]) s x t e z d.k.sz bytes ho ht hinfo hz hs0 hb0 v xs.length inner cs hs hx (d.k.K_len (d.read hp)) (d.k.K_one (d.read hp)) hown (Below.refl _ _) (Nat.zero_le _) hl ?_
  intro v1 w1 hown1 _ hg1 hat1
  obtain ⟨F1, h1, h2, h3, h4⟩ := row_after hp hown he hnd hown1 hg1 hat1
  exact h v1 w1 F1 h1 h2 h3 h4
end
end Fd
end Go.Proofs.YtcohodkpppmaoaaGreatDoor.Q
