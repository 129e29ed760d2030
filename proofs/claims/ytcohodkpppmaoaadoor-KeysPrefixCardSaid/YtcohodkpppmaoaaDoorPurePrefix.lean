/-
  The pure statement of KeysPrefix.
-/
import Derived.Test.YtcohodkpppmaoaaDoorQLkeysprefix1
import Derived.Test.YtcohodkpppmaoaaDoorPureMarkers
namespace Go.Proofs.YtcohodkpppmaoaaDoor.Q
open Go.RowKit Go.Proofs.YtcohodkpppmaoaaDoorW.PrintWords Go.Proofs.YtcohodkpppmaoaaDoorW.PrintLast Go.Proofs.YtcohodkpppmaoaaDoorW.PrintMore
set_option linter.unusedVariables false

theorem isKey_list (s : ByteArray) : isKey s = (decide (1 ≤ s.data.toList.length) && decide (s.data.toList.length ≤ 16) && keyChars s.data.toList) := by
  unfold isKey
  rw [Array.length_toList]
  rfl
theorem lle_take : ∀ (l : List UInt8) (n : Nat), lle (l.take n) l = true
  | [], n => by rw [List.take_nil]; exact lle_refl _
  | x :: l, 0 => lle_nil _
  | x :: l, n + 1 => by rw [List.take_succ_cons, lle_cons]; exact .inr ⟨rfl, lle_take l n⟩
theorem extract_list (s : ByteArray) (a b : Nat) : (s.extract a b).data.toList = (s.data.toList.take b).drop a := by
  rw [ByteArray.data_extract, Array.toList_extract, List.extract_eq_take_drop, List.take_drop]
  by_cases h : a ≤ b
  · rw [Nat.add_sub_cancel' h]
  · have e : b - a = 0 := by omega
    rw [e, Nat.add_zero, List.drop_eq_nil_of_le (by rw [List.length_take]; omega), List.drop_eq_nil_of_le (by rw [List.length_take]; omega)]
theorem append_list (a b : ByteArray) : (a ++ b).data.toList = a.data.toList ++ b.data.toList := by
  rw [ByteArray.data_append, Array.toList_append]

theorem prefix_j2 (k : Nat) (s h : ByteArray) (n : Nat) (hn : n < s.size) (hh : h.data.toList = s.data.toList.take (n + 1)) : concordatlaw01_KeysPrefix.j2 (k + 1) s h false = some true := by
  have hl : s.data.toList.length = s.size := by rw [Array.length_toList]; rfl
  have hhl : h.size = n + 1 := by
    show h.data.size = _
    rw [← Array.length_toList, hh, List.length_take]
    omega
  rw [concordatlaw01_KeysPrefix.j2, if_neg (by decide)]
  unfold keys_Check.f keys_In.f keys_Reserved.f keys_Check.f
  rw [Option.bind_some]
  cases hk : isKey s with
  | false => rfl
  | true =>
    have hk2 : isKey h = true := by
      rw [isKey_list] at hk ⊢
      simp only [Bool.and_eq_true, decide_eq_true_eq] at hk ⊢
      rw [hh, List.length_take]
      refine ⟨⟨by omega, by omega⟩, ?_⟩
      unfold keyChars at hk ⊢
      rw [List.all_eq_true] at hk ⊢
      exact fun x hx => hk.2 x (List.mem_of_mem_take hx)
    have hle : sle h s = true := by rw [sle_l, hh]; exact lle_take _ _
    obtain ⟨c, hc⟩ : ∃ c, s.data.toList[0]? = some c := ⟨s.data.toList[0]'(by omega), List.getElem?_eq_getElem (by omega)⟩
    have b1 : bt s ((0 : Nat) : Int) = (c.toNat : Int) := bt_list s 0 c hc
    have b2 : bt h ((0 : Nat) : Int) = (c.toNat : Int) := bt_list h 0 c (by rw [hh, List.getElem?_take, if_pos (by omega)]; exact hc)
    have b1' : bt s 0 = (c.toNat : Int) := b1
    have b2' : bt h 0 = (c.toNat : Int) := b2
    rw [if_pos rfl, hk2, Option.bind_some, if_pos rfl, Option.bind_some, sle_nil, hle]
    simp only [Option.bind_some, if_true, Bool.true_and, Bool.and_true]
    rw [if_pos (show 0 < (h.size : Int) by omega), if_pos (show 0 < (s.size : Int) by omega), b1', b2']
    simp
theorem prefix_j1 (k : Nat) (s h o : ByteArray) (n : Nat) (hn : n < s.size) (hh : h.data.toList = s.data.toList.take (n + 1)) (c : UInt8) (ho : o.data.toList = s.data.toList.take n ++ c :: s.data.toList.drop (n + 1)) :
    concordatlaw01_KeysPrefix.j1 (k + 2) s h o (keyByte c) = some true := by
  have hl : s.data.toList.length = s.size := by rw [Array.length_toList]; rfl
  have hol : o.data.toList.length = s.data.toList.length := by rw [ho]; simp; omega
  have hks : keyChars s.data.toList = (keyChars (s.data.toList.take n) && keyByte (s.data.toList[n]'(by omega)) && keyChars (s.data.toList.drop (n + 1))) := by
    conv => lhs; rw [← List.take_append_drop n s.data.toList, List.drop_eq_getElem_cons (by omega)]
    unfold keyChars
    rw [List.all_append, List.all_cons, Bool.and_assoc]
  have hko : keyChars o.data.toList = (keyChars (s.data.toList.take n) && keyByte c && keyChars (s.data.toList.drop (n + 1))) := by
    rw [ho]
    unfold keyChars
    rw [List.all_append, List.all_cons, Bool.and_assoc]
  have e1 := isKey_list s
  have e2 := isKey_list o
  rw [hks] at e1
  rw [hko, hol] at e2
  rw [concordatlaw01_KeysPrefix.j1]
  unfold keys_Check.f
  simp only [Option.bind_some]
  cases hc : keyByte c with
  | true =>
    rw [if_pos rfl]
    cases hk : isKey s with
    | false => rw [if_neg (by decide)]; exact prefix_j2 k s h n hn hh
    | true =>
      have : isKey o = true := by
        rw [hk] at e1
        rw [e2, hc]
        have e1 := e1.symm
        simp only [Bool.and_eq_true] at e1 ⊢
        exact ⟨e1.1, ⟨e1.2.1.1, trivial⟩, e1.2.2⟩
      rw [if_pos rfl, this]
      exact prefix_j2 k s h n hn hh
  | false =>
    have : isKey o = false := by rw [e2, hc]; simp
    rw [if_neg (by decide), this, if_neg (by decide)]
    exact prefix_j2 k s h n hn hh

theorem prefix_j0 (k : Nat) (s : ByteArray) (a c : Int) (ha : 0 ≤ a ∧ a ≤ 255) (hc : 0 ≤ c ∧ c ≤ 255) (hs : s.size ≤ few) (h1 : 1 ≤ s.size) : concordatlaw01_KeysPrefix.j0 (k + 3) s a c false = some true := by
  unfold few at hs
  have hl : s.data.toList.length = s.size := by rw [Array.length_toList]; rfl
  have hm : Int.tmod (wrap64 a) (s.size : Int) = ((a.toNat % s.size : Nat) : Int) := by
    obtain ⟨m, rfl⟩ : ∃ m : Nat, a = m := ⟨a.toNat, by omega⟩
    rw [wrap_in _ (by omega) (by omega), Int.tmod_eq_emod_of_nonneg ha.1, Int.toNat_natCast, Int.natCast_emod]
  have hlt : a.toNat % s.size < s.size := Nat.mod_lt _ (by omega)
  rw [concordatlaw01_KeysPrefix.j0, if_neg (by decide), hm]
  generalize a.toNat % s.size = n at *
  have hw : wrap64 ((n : Int) + 1) = ((n + 1 : Nat) : Int) := by rw [wrap_in _ (by omega) (by omega)]; rfl
  have hcs : (strOfNums [c]).size = 1 := by rw [strOfNums_size]; rfl
  have hz1 : (s.extract 0 n).size = n := by rw [ByteArray.size_extract]; omega
  have hz2 : (s.extract (n + 1) s.size).size = s.size - (n + 1) := by rw [ByteArray.size_extract]; omega
  rw [if_neg (by omega), hw, if_pos (by omega), if_pos (by omega), if_pos (by omega), if_pos (by omega), Option.bind_some, Int.toNat_natCast, Int.toNat_natCast, hz1, hcs, if_pos (by omega), ByteArray.size_append, hz1, hcs, hz2, if_pos (by omega)]
  have hcc : (strOfNums [c]).data.toList = [UInt8.ofNat c.toNat] := rfl
  have hcn : (UInt8.ofNat c.toNat).toNat = c.toNat := by rw [UInt8.toNat_ofNat']; omega
  have hh : (s.extract 0 (n + 1)).data.toList = s.data.toList.take (n + 1) := by rw [extract_list, List.drop_zero]
  have ho : (s.extract 0 n ++ strOfNums [c] ++ s.extract (n + 1) s.size).data.toList = s.data.toList.take n ++ UInt8.ofNat c.toNat :: s.data.toList.drop (n + 1) := by
    rw [append_list, append_list, extract_list, extract_list, List.drop_zero, hcc, List.append_assoc, ← hl, List.take_length]
    rfl
  have hj := prefix_j1 k s _ _ n hlt hh (UInt8.ofNat c.toNat) ho
  have hkb : keyByte (UInt8.ofNat c.toNat) = ((decide (97 ≤ c) && decide (c ≤ 122)) || (decide (48 ≤ c) && decide (c ≤ 57)) || (c == 95)) := by
    unfold keyByte
    rw [hcn, Bool.eq_iff_iff]
    simp only [Bool.or_eq_true, Bool.and_eq_true, decide_eq_true_eq, beq_iff_eq]
    omega
  rw [hkb] at hj
  generalize s.extract 0 (n + 1) = H at *
  generalize s.extract 0 n ++ strOfNums [c] ++ s.extract (n + 1) s.size = O at *
  by_cases c1 : c ≥ 97
  · rw [if_pos c1]
    rw [decide_eq_true (show 97 ≤ c from c1)] at hj
    by_cases c2 : c ≤ 122
    · rw [if_pos c2]
      rw [decide_eq_true c2] at hj
      exact hj
    · rw [if_neg c2]
      rw [decide_eq_false c2] at hj
      by_cases c3 : c ≥ 48
      · rw [if_pos c3]
        rw [decide_eq_true (show 48 ≤ c from c3)] at hj
        by_cases c4 : c ≤ 57
        · omega
        · rw [if_neg c4]
          rw [decide_eq_false c4] at hj
          simpa using hj
      · omega
  · rw [if_neg c1]
    rw [decide_eq_false (show ¬ 97 ≤ c from c1)] at hj
    by_cases c3 : c ≥ 48
    · rw [if_pos c3]
      rw [decide_eq_true (show 48 ≤ c from c3)] at hj
      by_cases c4 : c ≤ 57
      · rw [if_pos c4]
        rw [decide_eq_true c4] at hj
        simpa using hj
      · rw [if_neg c4]
        rw [decide_eq_false c4] at hj
        simpa using hj
    · rw [if_neg c3]
      rw [decide_eq_false (show ¬ 48 ≤ c from c3)] at hj
      simpa using hj

theorem KeysPrefix_ev (s : ByteArray) (a c : Int) (hs : s.size ≤ few) (ha : 0 ≤ a ∧ a ≤ 255) (hc : 0 ≤ c ∧ c ≤ 255) : ∃ k, concordatlaw01_KeysPrefix.f k s a c = some true := by
  refine Ev.rounds (g := fun k => concordatlaw01_KeysPrefix.f k s a c) ?_
  have hs' := hs
  unfold few at hs'
  have e : ∀ k, concordatlaw01_KeysPrefix.f k s a c = ((concordatlaw01_Beyond.f k [(s.size : Int)]).bind fun t144 => (if t144 = true then (concordatlaw01_KeysPrefix.j0 k s a c true) else (concordatlaw01_KeysPrefix.j0 k s a c (s.toList == ([] : List UInt8))))) := fun k => by
    unfold concordatlaw01_KeysPrefix.f
    rw [alive_true, Option.bind_some, if_pos rfl]
  have ht : Ev (fun k => concordatlaw01_KeysPrefix.j0 k s a c true) true := by
    refine Ev.step (f := fun _ => some true) (fun k => ?_) (Ev.now _)
    rw [concordatlaw01_KeysPrefix.j0, if_pos rfl, alive_true]
    rfl
  refine Ev.congr e (Ev.bind (ev_Beyond1 _ (by omega) (by omega)) ?_)
  by_cases hb : 1048576 < (s.size : Int)
  · rw [decide_eq_true hb]
    simp only [if_true]
    exact ht
  · rw [decide_eq_false hb]
    simp only [Bool.false_eq_true, if_false]
    by_cases hz : s.size = 0
    · have : (s.toList == ([] : List UInt8)) = true := by rw [size_toList s hz]; rfl
      rw [this]
      exact ht
    · have : (s.toList == ([] : List UInt8)) = false := by
        cases h : (s.toList == ([] : List UInt8)) with
        | false => rfl
        | true => exact absurd (toList_size s (by simpa using h)) hz
      rw [this]
      refine ⟨3, fun k hk => ?_⟩
      obtain ⟨k, rfl⟩ : ∃ m, k = m + 3 := ⟨k - 3, by omega⟩
      exact prefix_j0 k s a c ha hc hs (by omega)

end Go.Proofs.YtcohodkpppmaoaaDoor.Q
