/-
  The marker's digits; the pure statement of KeysMarkers.
-/
import Derived.Test.YtcohodkpppmaoaaDoorQK1
import Derived.Test.YtcohodkpppmaoaaDoorQLkeysmarkers1
import Derived.Test.YtcohodkpppmaoaaDoorPureOrder
namespace Go.Proofs.YtcohodkpppmaoaaDoor.Q
open Go.RowKit Go.Proofs.YtcohodkpppmaoaaDoorW.PrintWords Go.Proofs.YtcohodkpppmaoaaDoorW.PrintLast Go.Proofs.YtcohodkpppmaoaaDoorW.PrintMore
set_option linter.unusedVariables false

/-! ### decimal digits -/
def dval (l : List UInt8) : Nat := l.foldl (fun n c => 10 * n + (c.toNat - 48)) 0
theorem dval_snoc (l : List UInt8) (c : UInt8) : dval (l ++ [c]) = 10 * dval l + (c.toNat - 48) := by unfold dval; rw [List.foldl_append]; rfl
theorem dd_small {u : Nat} (h : u < 10) : Lib.decDigits u = [UInt8.ofNat (48 + u)] := by rw [Lib.decDigits, dif_pos h]
theorem dd_big {u : Nat} (h : ¬ u < 10) : Lib.decDigits u = Lib.decDigits (u / 10) ++ [UInt8.ofNat (48 + u % 10)] := by rw [Lib.decDigits, dif_neg h]
theorem dig_nat {d : Nat} (h : d < 10) : (UInt8.ofNat (48 + d)).toNat = 48 + d := by
  rw [UInt8.toNat_ofNat']
  omega
theorem dval_dd (u : Nat) : dval (Lib.decDigits u) = u := by
  induction u using Nat.strongRecOn with
  | ind u ih =>
    by_cases h : u < 10
    · rw [dd_small h]
      show 10 * 0 + ((UInt8.ofNat (48 + u)).toNat - 48) = u
      rw [dig_nat h]
      omega
    · rw [dd_big h, dval_snoc, ih (u / 10) (by omega), dig_nat (by omega)]
      omega
theorem dd_digits (u : Nat) : ∀ c ∈ Lib.decDigits u, 48 ≤ c.toNat ∧ c.toNat ≤ 57 := by
  induction u using Nat.strongRecOn with
  | ind u ih =>
    intro c hc
    by_cases h : u < 10
    · rw [dd_small h] at hc
      obtain rfl := List.mem_singleton.1 hc
      rw [dig_nat h]
      omega
    · rw [dd_big h] at hc
      rcases List.mem_append.1 hc with hc | hc
      · exact ih (u / 10) (by omega) c hc
      · obtain rfl := List.mem_singleton.1 hc
        rw [dig_nat (by omega)]
        omega
theorem dd_len (n : Nat) : ∀ u : Nat, u < 10 ^ (n + 1) → (Lib.decDigits u).length ≤ n + 1 := by
  induction n with
  | zero =>
    intro u h
    rw [dd_small (by simpa using h)]
    simp
  | succ n ih =>
    intro u h
    by_cases h10 : u < 10
    · rw [dd_small h10]; simp
    · rw [dd_big h10, List.length_append, List.length_singleton]
      have := ih (u / 10) (by rw [Nat.div_lt_iff_lt_mul (by decide)]; rw [Nat.pow_succ] at h; exact h)
      omega
theorem dd_pos (u : Nat) : 1 ≤ (Lib.decDigits u).length := by
  by_cases h : u < 10
  · rw [dd_small h]; simp
  · rw [dd_big h]; simp
/-- The first digit is no zero, but of 0 alone. -/
theorem dd_head (u : Nat) (h : 1 ≤ u) : ∃ c l, Lib.decDigits u = c :: l ∧ c.toNat ≠ 48 := by
  induction u using Nat.strongRecOn with
  | ind u ih =>
    by_cases h10 : u < 10
    · exact ⟨_, [], dd_small h10, by rw [dig_nat h10]; omega⟩
    · obtain ⟨c, l, e, hc⟩ := ih (u / 10) (by omega) (by omega)
      exact ⟨c, l ++ [UInt8.ofNat (48 + u % 10)], by rw [dd_big h10, e]; rfl, hc⟩
theorem dval_lt (l : List UInt8) (h : ∀ c ∈ l, 48 ≤ c.toNat ∧ c.toNat ≤ 57) : dval l < 10 ^ l.length := by
  have key : ∀ (l : List UInt8) (a : Nat), (∀ c ∈ l, 48 ≤ c.toNat ∧ c.toNat ≤ 57) → l.foldl (fun n c => 10 * n + (c.toNat - 48)) a < (a + 1) * 10 ^ l.length := by
    intro l
    induction l with
    | nil => intro a _; simp
    | cons c l ih =>
      intro a hl
      have hc := hl c List.mem_cons_self
      have h1 := ih (10 * a + (c.toNat - 48)) (fun x hx => hl x (List.mem_cons_of_mem _ hx))
      have h2 : (10 * a + (c.toNat - 48) + 1) * 10 ^ l.length ≤ (a + 1) * 10 ^ (l.length + 1) := by
        rw [Nat.pow_succ, ← Nat.mul_assoc, Nat.mul_right_comm]
        exact Nat.mul_le_mul_right _ (by omega)
      exact Nat.lt_of_lt_of_le h1 h2
  have := key l 0 h
  simpa [dval] using this

/-! ### the marker -/
theorem marker_list (g : Int) : (markerOf g).data.toList = 95 :: 109 :: Lib.decDigits g.toNat := by
  unfold markerOf
  rfl
theorem marker_size (g : Int) : (markerOf g).size = 2 + (Lib.decDigits g.toNat).length := by
  show (markerOf g).data.size = _
  rw [← Array.length_toList, marker_list]
  simp
  omega

theorem marker_len (g : Int) (h : g ≤ 4294967295) : (Lib.decDigits g.toNat).length ≤ 10 := by
  refine dd_len 9 g.toNat ?_
  have h1 : (10 : Nat) ^ (9 + 1) = 10000000000 := by decide
  rw [h1]
  omega
theorem marker_key (g : Int) (h : g ≤ 4294967295) : isKey (markerOf g) = true := by
  have h1 := marker_len g h
  have h2 := marker_size g
  have h3 : keyChars (markerOf g).data.toList = true := by
    rw [marker_list]
    unfold keyChars
    rw [List.all_eq_true]
    intro c hc
    rcases List.mem_cons.1 hc with rfl | hc
    · decide
    · rcases List.mem_cons.1 hc with rfl | hc
      · decide
      · have := dd_digits _ c hc
        unfold keyByte
        simp only [Bool.or_eq_true, Bool.and_eq_true, decide_eq_true_eq, beq_iff_eq]
        omega
  unfold isKey
  rw [h3, decide_eq_true (show 1 ≤ (markerOf g).size by omega), decide_eq_true (show (markerOf g).size ≤ 16 by omega)]
  rfl
theorem marker_inj {g h : Int} (g0 : 0 ≤ g) (h0 : 0 ≤ h) (e : markerOf g = markerOf h) : g = h := by
  have h1 : (markerOf g).data.toList = (markerOf h).data.toList := by rw [e]
  rw [marker_list, marker_list] at h1
  injection h1 with _ h1
  injection h1 with _ h1
  have h2 := dval_dd g.toNat
  rw [h1, dval_dd] at h2
  omega
theorem bt_list (s : ByteArray) (i : Nat) (c : UInt8) (h : s.data.toList[i]? = some c) : bt s (i : Int) = (c.toNat : Int) := by
  obtain ⟨hl, he⟩ := List.getElem?_eq_some_iff.1 h
  have hs : i < s.size := by rw [Array.length_toList] at hl; exact hl
  unfold bt
  rw [Int.toNat_natCast, dif_pos hs]
  have : s[i]'hs = c := by rw [← he]; rfl
  rw [this]
theorem marker_reserved (g : Int) (h : g ≤ 4294967295) : keys_Reserved.f (markerOf g) = some true := by
  have h2 := marker_size g
  have hb : bt (markerOf g) ((0 : Nat) : Int) = ((95 : UInt8).toNat : Int) := bt_list _ 0 95 (by rw [marker_list]; rfl)
  unfold keys_Reserved.f keys_Check.f
  rw [marker_key g h, Option.bind_some, if_pos rfl, if_pos (by omega)]
  have hb' : bt (markerOf g) 0 = 95 := hb
  rw [hb']
  rfl

theorem markers_l0 (g : Int) (g0 : 0 ≤ g) (g1 : g ≤ 4294967295) (d : Nat) : ∀ (i : Nat), i ≤ (Lib.decDigits g.toNat).length → (Lib.decDigits g.toNat).length - i = d →
    Ev (fun k => concordatlaw01_KeysMarkers.l0 k g (markerOf g) (dval ((Lib.decDigits g.toNat).take i) : Int) ((i + 2 : Nat) : Int)) true := by
  have hsz := marker_size g
  have hln := marker_len g g1
  have hdg := dd_digits g.toNat
  have hvl := dval_dd g.toNat
  have hml := marker_list g
  generalize Lib.decDigits g.toNat = l at *
  induction d with
  | zero =>
    intro i h0 h1
    have e : l.take i = l := List.take_of_length_le (by omega)
    refine Ev.step (f := fun _ => some true) (fun k => ?_) (Ev.now _)
    rw [concordatlaw01_KeysMarkers.l0, if_neg (by omega), e, hvl]
    have : IntKind.u64.wrap g = g := by rw [show IntKind.u64.wrap g = g % 18446744073709551616 by simp [IntKind.wrap, IntKind.bits, IntKind.signed]]; omega
    rw [this, Int.toNat_of_nonneg g0]
    simp
  | succ d ih =>
    intro i h0 h1
    have hi : i < l.length := by omega
    have hc := hdg l[i] (List.getElem_mem hi)
    have hb : bt (markerOf g) ((i + 2 : Nat) : Int) = (l[i].toNat : Int) := bt_list _ (i + 2) l[i] (by rw [hml]; simp [hi])
    have hv : dval (l.take (i + 1)) = 10 * dval (l.take i) + (l[i].toNat - 48) := by rw [List.take_succ_eq_append_getElem hi, dval_snoc]
    have hlt : dval (l.take i) < 10000000000 := by
      have h1 := dval_lt (l.take i) (fun c hc => hdg c (List.mem_of_mem_take hc))
      have h2 : (10 : Nat) ^ (l.take i).length ≤ 10 ^ 10 := Nat.pow_le_pow_right (by decide) (by rw [List.length_take]; omega)
      have h3 : (10 : Nat) ^ 10 = 10000000000 := by decide
      omega
    have wr : ∀ x : Int, IntKind.u64.wrap x = x % 18446744073709551616 := fun x => by simp [IntKind.wrap, IntKind.bits, IntKind.signed]
    refine Ev.step (f := fun k => concordatlaw01_KeysMarkers.l0 k g (markerOf g) (dval (l.take (i + 1)) : Int) ((i + 1 + 2 : Nat) : Int)) (fun k => ?_) (ih (i + 1) (by omega) (by omega))
    rw [concordatlaw01_KeysMarkers.l0, if_pos (by omega), if_pos (by omega), hb, if_neg (by omega), if_neg (by omega), wrap_in _ (by omega) (by omega), wr, wr, hv]
    generalize dval (l.take i) = v at *
    generalize l[i].toNat = c at *
    have e1 : ((10 * (v : Int)) % 18446744073709551616 + (((c : Int) - 48) % 256)) % 18446744073709551616 = ((10 * v + (c - 48) : Nat) : Int) := by omega
    rw [e1]
    rfl

theorem KeysMarkers_ev (g h : Int) (g0 : 0 ≤ g) (g1 : g ≤ 4294967295) (h0 : 0 ≤ h) (h1 : h ≤ 4294967295) : ∃ k, concordatlaw01_KeysMarkers.f k g h = some true := by
  refine Ev.rounds (g := fun k => concordatlaw01_KeysMarkers.f k g h) ?_
  have hsz := marker_size g
  have hpos := dd_pos g.toNat
  have e1 : ((markerOf g).toList == (markerOf h).toList) = decide (g = h) := by
    rw [toList_beq]
    by_cases e : g = h
    · subst e; simp
    · have : ¬ markerOf g = markerOf h := fun k => e (marker_inj g0 h0 k)
      rw [decide_eq_false this, decide_eq_false e]
  have e2 : ((g == h) : Bool) = decide (g = h) := by
    by_cases e : g = h
    · subst e; simp
    · rw [decide_eq_false e]; simpa using e
  have e3 : ((markerOf g).extract 0 2).toList = ([95, 109] : List UInt8) := by
    rw [ByteArray.toList_eq]
    have : ((markerOf g).extract 0 2).data.toList = ((markerOf g).data.toList.drop 0).take 2 := by simp [ByteArray.data_extract]
    rw [this, marker_list]
    rfl
  have e4 : (markerOf g).size > 3 → (bt (markerOf g) 2 == 48) = false := by
    intro hs
    obtain ⟨c, l, hl, hc⟩ := dd_head g.toNat (by
      rcases Nat.eq_zero_or_pos g.toNat with hz | hz
      · rw [hsz, hz, dd_small (by decide)] at hs; simp at hs
      · exact hz)
    have hb : bt (markerOf g) ((2 : Nat) : Int) = (c.toNat : Int) := bt_list _ 2 c (by rw [marker_list, hl]; rfl)
    have hb' : bt (markerOf g) 2 = (c.toNat : Int) := hb
    rw [hb']
    simp only [beq_eq_false_iff_ne, ne_eq]
    omega
  have hj : Ev (fun k => concordatlaw01_KeysMarkers.j0 k g (markerOf g) false) true := by
    refine Ev.step (f := fun k => concordatlaw01_KeysMarkers.l0 k g (markerOf g) 0 2) (fun k => ?_) ?_
    · rw [concordatlaw01_KeysMarkers.j0, if_neg (by decide)]
    · exact markers_l0 g g0 g1 (Lib.decDigits g.toNat).length 0 (by omega) (by omega)
  refine Ev.congr (fun k => ?_) hj
  unfold concordatlaw01_KeysMarkers.f keys_Marker.f keys_Check.f
  rw [if_pos ⟨g0, g1⟩, if_pos ⟨h0, h1⟩, Option.bind_some, alive_true, Option.bind_some, if_pos rfl, marker_key g g1, Option.bind_some, if_pos rfl, marker_reserved g g1, Option.bind_some, if_pos rfl, Option.bind_some, e1, e2]
  rw [if_neg (by simp), if_neg (by omega), if_pos (by omega), if_pos e3]
  by_cases c3 : ((markerOf g).size : Int) > 3
  · rw [if_pos c3, if_pos (by omega), e4 (by omega)]
  · rw [if_neg c3]

end Go.Proofs.YtcohodkpppmaoaaDoor.Q
