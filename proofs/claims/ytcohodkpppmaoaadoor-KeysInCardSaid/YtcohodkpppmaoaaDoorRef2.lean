/-
  concordatref01.Less and In, walked: the order of texts.
-/
import Derived.Test.YtcohodkpppmaoaaDoorPureOrder
import Derived.Test.YtcohodkpppmaoaaDoorRef1
namespace Go.Proofs.YtcohodkpppmaoaaDoor.Q
open Go.RowKit Go.Proofs.YtcohodkpppmaoaaDoorW.PrintWords Go.Proofs.YtcohodkpppmaoaaDoorW.PrintLast Go.Proofs.YtcohodkpppmaoaaDoorW.PrintMore
set_option linter.unusedVariables false

theorem lle_same : ∀ (p x y : List UInt8), lle (p ++ x) (p ++ y) = lle x y
  | [], x, y => rfl
  | c :: p, x, y => by
    rw [Bool.eq_iff_iff]
    show lle (c :: (p ++ x)) (c :: (p ++ y)) = true ↔ _
    rw [lle_cons, lle_same p x y]
    simp
theorem lle_take {a b : List UInt8} {i : Nat} (h : a.take i = b.take i) : lle b a = lle (b.drop i) (a.drop i) := by
  have e1 := List.take_append_drop i a
  have e2 := List.take_append_drop i b
  rw [← e1, ← e2, h, lle_same]
  rw [← h, e1, h, e2]
theorem less_at {a b : List UInt8} {i : Nat} (h : a.take i = b.take i) (ha : i < a.length) (hb : i < b.length) (hne : (a[i]).toNat ≠ (b[i]).toNat) : lle b a = !decide ((a[i]).toNat < (b[i]).toNat) := by
  rw [lle_take h, List.drop_eq_getElem_cons ha, List.drop_eq_getElem_cons hb, Bool.eq_iff_iff, lle_cons]
  simp
  omega
theorem less_end {a b : List UInt8} {i : Nat} (h : a.take i = b.take i) (ha : i ≤ a.length) (hb : i ≤ b.length) (he : ¬ (i < a.length ∧ i < b.length)) : lle b a = !decide (a.length < b.length) := by
  rw [lle_take h]
  by_cases hb' : i < b.length
  · have : a.drop i = [] := List.drop_of_length_le (by omega)
    rw [this, List.drop_eq_getElem_cons hb', lle_cons_nil, decide_eq_true (by omega)]
    rfl
  · have : b.drop i = [] := List.drop_of_length_le (by omega)
    rw [this, lle_nil, decide_eq_false (by omega)]
    rfl
theorem bt_get {a : ByteArray} {i : Nat} (h : i < a.size) : bt a (i : Int) = ((a.data.toList[i]'(by simpa using h)).toNat : Int) := by
  unfold bt
  rw [dif_pos (by simpa using h)]
  simp
  rfl
set_option maxHeartbeats 3200000 in
set_option maxRecDepth 100000 in
theorem less_calls (a b : ByteArray) (sa : a.size ≤ 140737488351232) (sb : b.size ≤ 140737488351232) (w : World) :
    Calls Tryd.prog 41 #[.string a, .string b] w fun e w' => e = .returned (.bool (!sle b a)) ∧ Below w.heap.size w w' := by
  go_enter Tryd.func41, Tryd.ntmps41
  go_wp2
  go_loopw [5] (fun i wr => ∃ (k : Nat), k ≤ a.size ∧ k ≤ b.size ∧ i = .int .i64 k ∧ Aside0 (a.data.toList.take k = b.data.toList.take k ∧ Below w.heap.size w wr)) (fun i _ => a.size - (intOf i).toNat)
  case atStart => exact ⟨0, Nat.zero_le _, Nat.zero_le _, rfl, ⟨by simp, Below.refl _ _⟩⟩
  case round =>
    obtain ⟨k, ka, kb, rfl, HF⟩ := hrel
    have hk0 : (0 : Int) ≤ (k : Int) := by omega
    by_cases ha : k < a.size
    · have ha' : (k : Int) < (a.size : Int) := by omega
      by_cases hb : k < b.size
      · have hb' : (k : Int) < (b.size : Int) := by omega
        have ta := bt_at a (k : Int) (by rw [Int.toNat_natCast]; exact ha)
        have tb := bt_at b (k : Int) (by rw [Int.toNat_natCast]; exact hb)
        simp only [Int.toNat_natCast] at ta tb
        have ga := bt_get ha
        have gb := bt_get hb
        have GA := Aside0.mk ga
        have GB := Aside0.mk gb
        have BD := Aside0.mk (below_drew1 HF.out.2)
        clear ga gb
        by_cases he : bt a (k : Int) = bt b (k : Int)
        · have he' : (bt a (k : Int) != bt b (k : Int)) = false := by rw [he]; simp
          have HE := Aside0.mk he
          clear he
          go_wp2_with fail
          first | (go_region_held3 (fun _ : World => True) (exact trivial) (fail)) | fail "held3"
          all_goals
            go_wp2
            go_roundw
            case rel => exact ⟨k + 1, by omega, by omega, by go_num, ⟨by
              rw [List.take_succ_eq_append_getElem (by simpa using ha), List.take_succ_eq_append_getElem (by simpa using hb), HF.out.1]
              congr 2
              have := HE.out
              rw [GA.out, GB.out] at this
              exact u8_inj (by omega), BD.out⟩⟩
            case measure => simp [intOf]; omega
        · have he' : (bt a (k : Int) != bt b (k : Int)) = true := by simpa using he
          have HR := Aside0.mk (less_at HF.out.1 (by simpa using ha) (by simpa using hb) (fun e => he (by rw [GA.out, GB.out, e])))
          clear he
          go_wp2_with fail
          first | (go_region_held3 (fun _ : World => True) (exact trivial) (fail)) | fail "held3"
          all_goals
            go_wp2_with fail
            first | (go_region_held3 (fun _ : World => True) (exact trivial) (fail)) | fail "held3"
          all_goals
            go_wp2
            go_ret
            refine ⟨ret_bool ?_, below_drew1 BD.out⟩
            rw [sle_l, HR.out, Bool.not_not, GA.out, GB.out]
            exact decide_eq_decide.2 (by omega)
      · have hb' : ¬ (k : Int) < (b.size : Int) := by omega
        have HR := Aside0.mk (less_end HF.out.1 (by simpa using ka) (by simpa using kb) (fun h => hb (by simpa using h.2)))
        go_wp2
        go_ret
        refine ⟨ret_bool ?_, HF.out.2⟩
        rw [sle_l, HR.out, Bool.not_not]
        exact decide_eq_decide.2 (by rw [Array.length_toList, Array.length_toList]; exact Iff.rfl)
    · have ha' : ¬ (k : Int) < (a.size : Int) := by omega
      have HR := Aside0.mk (less_end HF.out.1 (by simpa using ka) (by simpa using kb) (fun h => ha (by simpa using h.1)))
      go_wp2
      go_ret
      refine ⟨ret_bool ?_, HF.out.2⟩
      rw [sle_l, HR.out, Bool.not_not]
      exact decide_eq_decide.2 (by rw [Array.length_toList, Array.length_toList]; exact Iff.rfl)
set_option maxRecDepth 100000 in
theorem refIn_calls (k f t : ByteArray) (sk : k.size ≤ 140737488351232) (sf : f.size ≤ 140737488351232) (st : t.size ≤ 140737488351232) (w : World) :
    Calls Tryd.prog 22 #[.string k, .string f, .string t] w fun e w' => e = .returned (.bool (sle f k && sle k t)) ∧ Below w.heap.size w w' := by
  go_enter Tryd.func22, Tryd.ntmps22
  go_wp2_with fail
  refine (less_calls k f sk sf _).mono ?_
  rintro e w1 ⟨rfl, hb1⟩
  have B1 := Aside0.mk hb1
  clear hb1
  cases h1 : sle f k with
  | false =>
    go_wp2
    go_ret
    exact ⟨by rw [h1]; rfl, B1.out⟩
  | true =>
    go_wp2_with fail
    refine (less_calls t k st sk _).mono ?_
    rintro e w2 ⟨rfl, hb2⟩
    have B2 := Aside0.mk (below_step B1.out hb2)
    clear hb2
    cases h2 : sle k t with
    | false =>
      go_wp2
      go_ret
      exact ⟨by rw [h1, h2]; rfl, B2.out⟩
    | true =>
      go_wp2
      go_ret
      exact ⟨by rw [h1, h2]; rfl, B2.out⟩
end Go.Proofs.YtcohodkpppmaoaaDoor.Q
