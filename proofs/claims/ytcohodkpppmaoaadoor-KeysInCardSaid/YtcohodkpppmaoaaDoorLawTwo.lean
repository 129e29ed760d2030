/-
  concordatlaw01.KeysTwo, walked: it answers true for every text and every two spans.
-/
import Derived.Test.YtcohodkpppmaoaaDoorQK1
import Derived.Test.YtcohodkpppmaoaaDoorPureOrder
import Derived.Test.YtcohodkpppmaoaaDoorMarker
import Derived.WalkLawsBesides
import Derived.WalkSpells
import Derived.Outline
namespace Go.Proofs.YtcohodkpppmaoaaDoor.Q
open Go.RowKit Go.Proofs.YtcohodkpppmaoaaDoorW.PrintWords Go.Proofs.YtcohodkpppmaoaaDoorW.PrintLast Go.Proofs.YtcohodkpppmaoaaDoorW.PrintMore
set_option linter.unusedVariables false

theorem bless_self : ∀ a : List UInt8, Op.bytesLess a a = false
  | [] => rfl
  | x :: a => by
    show (decide (x < x) || (x == x && Op.bytesLess a a)) = false
    rw [bless_self a]
    simp
theorem bless_sle (a b : ByteArray) : Op.bytesLess a.toList b.toList = !(sle b a) := by
  cases h : sle b a with
  | true =>
    cases k : Op.bytesLess a.toList b.toList with
    | false => rfl
    | true =>
      have h1 : sle a b = true := by unfold sle; rw [k]; rfl
      have := sle_anti h1 h
      subst this
      rw [bless_self] at k
      cases k
  | false =>
    rcases sle_total a b with h1 | h1
    · unfold sle at h1
      rw [Bool.or_eq_true] at h1
      rcases h1 with h1 | h1
      · rw [h1]; rfl
      · rw [toList_beq] at h1
        have : a = b := of_decide_eq_true h1
        subst this
        rw [sle_refl] at h
        cases h
    · rw [h1] at h
      cases h
def smax (x y : ByteArray) : ByteArray := if sle y x = true then x else y
def smin (x y : ByteArray) : ByteArray := if sle x y = true then x else y
section
variable {P : Program} {w : World}
theorem run_max_str (ts : Array TypeId) (t : TypeId) (x y : ByteArray) : (Builtin.max_ ts t #[.string x, .string y]).run P w = .ok (.string (smax x y)) w := by
  have h : (Op.stringOp .geq x y).run P w = .ok (.bool (sle y x)) w := by
    simp [Op.stringOp, bless_sle]
  simp [Builtin.max_, Builtin.max2, h, smax]
  rfl
theorem run_min_str (ts : Array TypeId) (t : TypeId) (x y : ByteArray) : (Builtin.min_ ts t #[.string x, .string y]).run P w = .ok (.string (smin x y)) w := by
  have h : (Op.stringOp .leq x y).run P w = .ok (.bool (sle x y)) w := by
    simp [Op.stringOp, sle]
  simp [Builtin.min_, Builtin.min2, h, smin]
  rfl
end
theorem two_spans (k a0 a1 b0 b1 : ByteArray) : (sle (smax a0 b0) k && sle k (smin a1 b1)) = ((sle a0 k && sle k a1) && (sle b0 k && sle k b1)) := by
  have h1 : sle (smax a0 b0) k = (sle a0 k && sle b0 k) := by
    unfold smax
    cases h : sle b0 a0 with
    | true =>
      rw [if_pos rfl]
      cases h2 : sle a0 k with
      | false => rfl
      | true => rw [sle_trans h h2]; rfl
    | false =>
      rw [if_neg (by decide)]
      have h3 : sle a0 b0 = true := (sle_total a0 b0).resolve_right (by rw [h]; decide)
      cases h2 : sle b0 k with
      | false => rw [Bool.and_false]
      | true => rw [sle_trans h3 h2]; rfl
  have h2 : sle k (smin a1 b1) = (sle k a1 && sle k b1) := by
    unfold smin
    cases h : sle a1 b1 with
    | true =>
      rw [if_pos rfl]
      cases h2 : sle k a1 with
      | false => rfl
      | true => rw [sle_trans h2 h]; rfl
    | false =>
      rw [if_neg (by decide)]
      have h3 : sle b1 a1 = true := (sle_total a1 b1).resolve_left (by rw [h]; decide)
      cases h2 : sle k b1 with
      | false => rw [Bool.and_false]
      | true => rw [sle_trans h2 h3]; rfl
  rw [h1, h2]
  cases sle a0 k <;> cases sle b0 k <;> cases sle k a1 <;> cases sle k b1 <;> rfl
theorem in_calls (a0 a1 a2 : ByteArray) (w : World) : Calls Tryd.prog 21 #[.string a0, .string a1, .string a2] w fun e w' => e = .returned (.bool (sle a1 a0 && sle a0 a2)) ∧ Below w.heap.size w w' := keys_In.calls a0 a1 a2 _ w rfl
theorem alive1_calls (w : World) (hT : TabOk w) : Calls Tryd.prog 25 #[] w fun e w' => e = .returned (.bool true) ∧ Below w.heap.size w w' := concordatlaw01_alive.calls true w alive_true hT

set_option maxHeartbeats 3200000 in
set_option maxRecDepth 100000 in
theorem KeysTwo_calls (w : World) (k a0 a1 b0 b1 : ByteArray) (hk : k.size ≤ 140737488351232) (h0 : a0.size ≤ 140737488351232) (h1 : a1.size ≤ 140737488351232) (h2 : b0.size ≤ 140737488351232) (h3 : b1.size ≤ 140737488351232) (hT : TabOk w) :
    Calls Tryd.prog 11 #[.string k, .agg #[.string a0, .string a1], .agg #[.string b0, .string b1]] w fun e w' => e = .returned (.bool true) ∧ Below w.heap.size w w' := by
  have HT := Aside0.mk hT
  have hmx : ∀ (x y : ByteArray) (w : World), (Builtin.max_ #[9, 9] 9 #[.string x, .string y]).run Tryd.prog w = .ok (.string (smax x y)) w := fun x y w => run_max_str _ _ x y
  have hmn : ∀ (x y : ByteArray) (w : World), (Builtin.min_ #[9, 9] 9 #[.string x, .string y]).run Tryd.prog w = .ok (.string (smin x y)) w := fun x y w => run_min_str _ _ x y
  have hS := two_spans k a0 a1 b0 b1
  have HS := Aside0.mk hS
  clear hS hT
  go_enter Tryd.func11, Tryd.ntmps11
  go_wp2_with fail
  have hbw := below_alloc (below_alloc (Below.refl w.heap.size w) (.cells #[.string a0, .string a1] 37)) (.cells #[.string b0, .string b1] 37)
  refine (alive1_calls _ (HT.out.below hbw)).mono ?_
  rintro e w1 ⟨rfl, hb1⟩
  have B1 := Aside0.mk (below_step hbw hb1)
  have ba := blk_below (blk_alloc (blk_new w (.cells #[.string a0, .string a1] 37)) (.cells #[.string b0, .string b1] 37)) hb1
  have bb := blk_new (w.alloc (.cells #[.string a0, .string a1] 37)) (.cells #[.string b0, .string b1] 37)
  have hsz : (w.alloc (.cells #[.string a0, .string a1] 37)).heap.size = w.heap.size + 1 := by show (w.heap.push _).size = _; simp
  rw [hsz] at bb
  replace bb := blk_below bb hb1
  have p0 := blk_cell ba 0
  have p1 := blk_cell ba 1
  have q0 := blk_cell bb 0
  have q1 := blk_cell bb 1
  clear hb1 hbw hsz ba bb
  by_cases hbig : 10000 < (k.size : Int) + (a0.size : Int) + (a1.size : Int) + (b0.size : Int) + (b1.size : Int)
  · have hbig' := decide_eq_true hbig
    go_wp2_with fail
    refine (alive1_calls _ (HT.out.below B1.out)).mono ?_
    rintro e w2 ⟨rfl, hb2⟩
    have B2 := Aside0.mk (below_step B1.out hb2)
    clear hb2
    go_wp2
    go_ret
    exact ⟨rfl, B2.out⟩
  · have hbig' := decide_eq_false hbig
    go_wp2_with fail
    refine (in_calls k a0 a1 _).mono ?_
    rintro e w2 ⟨rfl, hb2⟩
    have B2 := Aside0.mk (below_step B1.out hb2)
    replace p0 := cell_later hb2 p0
    replace p1 := cell_later hb2 p1
    replace q0 := cell_later hb2 q0
    replace q1 := cell_later hb2 q1
    clear hb2
    obtain ⟨c, hc⟩ : ∃ c, c = (sle a0 k && sle k a1) := ⟨_, rfl⟩
    have HC := Aside0.mk hc
    rw [← hc]
    clear hc
    cases c with
    | true =>
      go_wp2_with fail
      refine (in_calls k b0 b1 _).mono ?_
      rintro e w3 ⟨rfl, hb3⟩
      have B3 := Aside0.mk (below_step B2.out hb3)
      replace p0 := cell_later hb3 p0
      replace p1 := cell_later hb3 p1
      replace q0 := cell_later hb3 q0
      replace q1 := cell_later hb3 q1
      clear hb3
      go_wp2_with fail
      refine (in_calls k (smax a0 b0) (smin a1 b1) _).mono ?_
      rintro e w4 ⟨rfl, hb4⟩
      have B4 := Aside0.mk (below_step B3.out hb4)
      clear hb4
      rw [HS.out, ← HC.out, Bool.true_and]
      go_wp2
      go_ret
      exact ⟨by simp, B4.out⟩
    | false =>
      go_wp2_with fail
      refine (in_calls k (smax a0 b0) (smin a1 b1) _).mono ?_
      rintro e w4 ⟨rfl, hb4⟩
      have B4 := Aside0.mk (below_step B2.out hb4)
      clear hb4
      rw [HS.out, ← HC.out, Bool.false_and]
      go_wp2
      go_ret
      exact ⟨by simp, B4.out⟩
end Go.Proofs.YtcohodkpppmaoaaDoor.Q
