/-
  concordatlaw01.KeysJoined, walked: it answers true for every text and every byte.
-/
import Derived.Test.YtcohodkpppmaoaaDoorJoin1
import Derived.Test.YtcohodkpppmaoaaDoorJoin2
import Derived.Test.YtcohodkpppmaoaaDoorJoin3
import Derived.Test.YtcohodkpppmaoaaDoorJoin4
import Derived.Test.YtcohodkpppmaoaaDoorJoin5
import Derived.Test.YtcohodkpppmaoaaDoorJoin6
import Derived.Test.YtcohodkpppmaoaaDoorJoin7
import Derived.Test.YtcohodkpppmaoaaDoorJoin8
namespace Go.Proofs.YtcohodkpppmaoaaDoor.Q
open Go.RowKit Go.Proofs.YtcohodkpppmaoaaDoorW.PrintWords Go.Proofs.YtcohodkpppmaoaaDoorW.PrintLast Go.Proofs.YtcohodkpppmaoaaDoorW.PrintMore
set_option linter.unusedVariables false

theorem empty_size (k : ByteArray) : k.toList.isEmpty = decide (k.size = 0) := by
  by_cases h : k.size = 0
  · rw [size_toList k h]
    simp [h]
  · have : k.toList ≠ [] := fun e => h (toList_size k e)
    rw [decide_eq_false h]
    cases e : k.toList with
    | nil => exact absurd e this
    | cons a l => rfl
set_option maxRecDepth 100000 in
theorem joined_big (w : World) (k : ByteArray) (c : Int) (hk : k.size ≤ 140737488351232) (hb : 1048576 < k.size) (hT : TabOk w) :
    Calls Tryd.prog 8 #[.string k, .int .u8 c] w fun e w' => e = .returned (.bool true) ∧ Below w.heap.size w w' := by
  have HT := Aside0.mk hT
  have HBIG := Aside0.mk hb
  clear hT hb
  go_enter Tryd.func8, Tryd.ntmps8
  go_wp2_with fail
  refine (alive1_calls _ HT.out).mono ?_
  rintro e w1 ⟨rfl, hb1⟩
  have B1 := Aside0.mk hb1
  clear hb1
  go_wp2_with fail
  refine (beyond1 _ k.size hk w1.heap.size 1 (c_lit .i64 [(k.size : Int)] (blk_new w1 _) rfl (by simp)) (by decide)).mono ?_
  rintro e w2 ⟨rfl, hb2⟩
  have B2 := Aside0.mk (below_step (below_step B1.out (below_alloc (Below.refl w1.heap.size w1) _)) hb2)
  clear hb2
  rw [decide_eq_true (by have := HBIG.out; omega)]
  go_wp2_with fail
  refine (alive1_calls _ (HT.out.below B2.out)).mono ?_
  rintro e w3 ⟨rfl, hb3⟩
  have B3 := Aside0.mk (below_step B2.out hb3)
  clear hb3
  go_wp2
  go_ret
  exact ⟨rfl, B3.out⟩
theorem KeysJoined_calls (w : World) (k : ByteArray) (c : Int) (hk : k.size ≤ 140737488351232) (h0 : 0 ≤ c) (h1 : c ≤ 255) (hT : TabOk w) :
    Calls Tryd.prog 8 #[.string k, .int .u8 c] w fun e w' => e = .returned (.bool true) ∧ Below w.heap.size w w' := by
  by_cases hb : 1048576 < k.size
  · exact joined_big w k c hk hb hT
  have hk' : k.size ≤ 1048576 := by omega
  have hM := isKey_more k c h0 h1
  unfold more at hM
  have hE := empty_size k
  have mk : ∀ m z l q x : Bool, mayC c = m → decide (k.size = 0) = z → decide ((k.size : Int) < 16) = l → isKey k = q → x = (m && l && (z || q)) → JCase k (strOfNums [c]) c m z l q x := by
    intro m z l q x e1 e2 e3 e4 e5
    refine ⟨e1, hE.trans e2, e3, e4, ?_, e5⟩
    have e6 : decide (k.size < 16) = l := by rw [← e3]; exact decide_eq_decide.2 (by omega)
    rw [hM, e1, e2, e4, e6, e5]
  cases hm : mayC c with
  | true =>
    by_cases hz : k.size = 0
    · exact joined_tt w k c hk' h0 h1 hT _ rfl (mk _ _ _ _ _ hm (decide_eq_true hz) (decide_eq_true (by omega)) (isKey_empty k hz) rfl)
    · by_cases hl : (k.size : Int) < 16
      · cases hq : isKey k with
        | true => exact joined_tftt w k c hk' h0 h1 hT _ rfl (mk _ _ _ _ _ hm (decide_eq_false hz) (decide_eq_true hl) hq rfl)
        | false => exact joined_tftf w k c hk' h0 h1 hT _ rfl (mk _ _ _ _ _ hm (decide_eq_false hz) (decide_eq_true hl) hq rfl)
      · cases hq : isKey k with
        | true => exact joined_tfft w k c hk' h0 h1 hT _ rfl (mk _ _ _ _ _ hm (decide_eq_false hz) (decide_eq_false hl) hq rfl)
        | false => exact joined_tfff w k c hk' h0 h1 hT _ rfl (mk _ _ _ _ _ hm (decide_eq_false hz) (decide_eq_false hl) hq rfl)
  | false =>
    by_cases hz : k.size = 0
    · exact joined_ft w k c hk' h0 h1 hT _ rfl _ (mk _ _ _ _ _ hm (decide_eq_true hz) rfl (isKey_empty k hz) (by simp))
    · cases hq : isKey k with
      | true => exact joined_fft w k c hk' h0 h1 hT _ rfl _ (mk _ _ _ _ _ hm (decide_eq_false hz) rfl hq (by simp))
      | false => exact joined_fff w k c hk' h0 h1 hT _ rfl _ (mk _ _ _ _ _ hm (decide_eq_false hz) rfl hq (by simp))
end Go.Proofs.YtcohodkpppmaoaaDoor.Q
