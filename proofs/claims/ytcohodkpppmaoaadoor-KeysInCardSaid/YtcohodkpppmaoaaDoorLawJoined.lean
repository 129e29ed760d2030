/-
  concordatlaw01.KeysJoined, walked: it answers true for every text and every byte.
-/
import Derived.Test.YtcohodkpppmaoaaDoorQK1
import Derived.Test.YtcohodkpppmaoaaDoorLawTwo
import Derived.Deep.RegionHeld3
import Derived.Deep.DeepCutAuto
namespace Go.Proofs.YtcohodkpppmaoaaDoor.Q
open Go.RowKit Go.Proofs.YtcohodkpppmaoaaDoorW.PrintWords Go.Proofs.YtcohodkpppmaoaaDoorW.PrintLast Go.Proofs.YtcohodkpppmaoaaDoorW.PrintMore
set_option linter.unusedVariables false

theorem c_lit {w : World} {g t : Nat} {fr : Nat × Nat} (k : IntKind) (xs : List Int) {cells : Array Value} (hb : w.heap[g]? = some (.cells cells t fr)) (hc : cells = (nums k xs).toArray) (hn : xs.length ≤ 9223372036854775807) : (Kd.int k).C w (some ⟨g, 0, none⟩) xs.length xs := by
  subst hc
  refine ⟨rfl, hn, fun _ => ⟨_, rfl, fun j p hj => ⟨[.int k p], rfl, rfl, fun i u hu => ?_⟩⟩⟩
  match i with
  | 0 =>
    simp at hu
    subst hu
    have h1 : (Kd.int k).sz = 1 := rfl
    rw [h1, Nat.mul_one, Nat.add_zero, add_plain]
    simp [World.cell?, hb, nums, List.getElem?_map, hj]
  | i + 1 => simp at hu

/-! ### plain -/
def mayC (c : Int) : Bool := (decide (97 ≤ c) && decide (c ≤ 122)) || (decide (48 ≤ c) && decide (c ≤ 57)) || decide (c = 95)
def more (k : ByteArray) (c : Int) : ByteArray := k ++ strOfNums [c]
theorem more_data (k : ByteArray) (c : Int) : (more k c).data.toList = k.data.toList ++ [UInt8.ofNat c.toNat] := by
  unfold more
  rw [ByteArray.data_append, Array.toList_append, strOfNums_data]
  rfl
theorem byte_nat (c : Int) (h0 : 0 ≤ c) (h1 : c ≤ 255) : (UInt8.ofNat c.toNat).toNat = c.toNat := by
  rw [UInt8.toNat_ofNat']
  omega
theorem keyByte_may (c : Int) (h0 : 0 ≤ c) (h1 : c ≤ 255) : keyByte (UInt8.ofNat c.toNat) = mayC c := by
  unfold keyByte mayC
  rw [byte_nat c h0 h1, Bool.eq_iff_iff]
  simp
  omega
theorem isKey_more (k : ByteArray) (c : Int) (h0 : 0 ≤ c) (h1 : c ≤ 255) : isKey (more k c) = (mayC c && decide (k.size < 16) && (decide (k.size = 0) || isKey k)) := by
  have hs : (more k c).size = k.size + 1 := by
    unfold more
    rw [ByteArray.size_append, strOfNums_size]
    rfl
  have hk : keyChars (more k c).data.toList = (keyChars k.data.toList && mayC c) := by
    unfold keyChars
    rw [more_data, List.all_append, List.all_cons, List.all_nil, Bool.and_true, keyByte_may c h0 h1]
  unfold isKey
  rw [hs, hk]
  by_cases hz : k.size = 0
  · have hd : k.data.toList = [] := List.eq_nil_of_length_eq_zero (by rw [Array.length_toList]; exact hz)
    rw [hd, hz]
    simp [keyChars]
  · have h16 : decide (k.size + 1 ≤ 16) = decide (k.size < 16) := by rw [Bool.eq_iff_iff]; simp; omega
    have h1' : decide (1 ≤ k.size + 1) = true := by simp
    have h1k : decide (1 ≤ k.size) = true := by simp; omega
    rw [h16, h1', h1k, decide_eq_false hz]
    by_cases hl : k.size < 16
    · rw [decide_eq_true hl, decide_eq_true (show k.size ≤ 16 by omega)]
      cases mayC c <;> cases keyChars k.data.toList <;> rfl
    · rw [decide_eq_false hl]
      cases mayC c <;> cases keyChars k.data.toList <;> simp
theorem lle_self_app : ∀ a b : List UInt8, lle a (a ++ b) = true
  | [], b => lle_nil _
  | x :: a, b => by
    show lle (x :: a) (x :: (a ++ b)) = true
    rw [lle_cons]
    exact .inr ⟨rfl, lle_self_app a b⟩
theorem lle_app_app : ∀ a b c : List UInt8, lle b c = true → lle (a ++ b) (a ++ c) = true
  | [], b, c, h => h
  | x :: a, b, c, h => by
    show lle (x :: (a ++ b)) (x :: (a ++ c)) = true
    rw [lle_cons]
    exact .inr ⟨rfl, lle_app_app a b c h⟩
theorem more_above (k : ByteArray) (c : Int) (h0 : 0 ≤ c) (h1 : c ≤ 255) : (sle k (more k c) && sle (more k c) (k ++ (⟨#[255, 255]⟩ : ByteArray))) = true := by
  rw [Bool.and_eq_true, sle_l, sle_l, more_data, ByteArray.data_append, Array.toList_append]
  refine ⟨lle_self_app _ _, lle_app_app _ _ _ ?_⟩
  show lle [UInt8.ofNat c.toNat] [255, 255] = true
  rw [lle_cons, byte_nat c h0 h1]
  have h255 : (255 : UInt8).toNat = 255 := rfl
  rw [h255]
  by_cases e : c.toNat = 255
  · exact .inr ⟨e, lle_nil _⟩
  · exact .inl (by omega)
theorem more_greater (k : ByteArray) (c : Int) : sle (more k c) k = false := by
  cases h : sle (more k c) k with
  | false => rfl
  | true =>
    have h2 : sle k (more k c) = true := by
      rw [sle_l, more_data]
      exact lle_self_app _ _
    have h3 := congrArg (fun b : ByteArray => b.data.toList.length) (sle_anti h h2)
    simp only [more_data, List.length_append, List.length_singleton] at h3
    omega
theorem isKey_sizes (k : ByteArray) (h : isKey k = true) : 1 ≤ k.size ∧ k.size ≤ 16 := by
  unfold isKey at h
  simp only [Bool.and_eq_true, decide_eq_true_eq] at h
  exact ⟨h.1.1, h.1.2⟩
theorem reserved_calls (k : ByteArray) (w : World) (h : isKey k = true) : Calls Tryd.prog 27 #[.string k] w fun e w' => e = .returned (.bool (bt k 0 == 95)) ∧ Below w.heap.size w w' := by
  refine keys_Reserved.calls k _ w ?_
  have := isKey_sizes k h
  unfold keys_Reserved.f keys_Check.f
  rw [Option.bind_some, if_pos h, if_pos (by omega)]
theorem beyond1 (w : World) (n : Nat) (hn : n ≤ 140737488351232) (g c : Nat) (hC : (Kd.int .i64).C w (some ⟨g, 0, none⟩) 1 [(n : Int)]) (hc : 1 ≤ c) :
    Calls Tryd.prog 20 #[.slice (some ⟨g, 0, none⟩) 1 c] w fun e w' => e = .returned (.bool (decide ((1048576 : Int) < n))) ∧ Below w.heap.size w w' := by
  obtain ⟨K, hK⟩ := (ev_Beyond1 (n : Int) (by omega) (by omega)).rounds
  refine (concordatlaw01_Beyond.calls K (some ⟨g, 0, none⟩) c [(n : Int)] _ w hC hc hK).mono ?_
  rintro e w' ⟨rfl, hd⟩
  exact ⟨rfl, hd.below⟩

/-- What the walk is told of the case at hand: m: may the byte be; z: is the text empty; l: is it short enough; q: is it a key; x: is the longer one. -/
structure JCase (k s : ByteArray) (c : Int) (m z l q x : Bool) : Prop where
  may : mayC c = m
  emp : k.toList.isEmpty = z
  lt : decide ((k.size : Int) < 16) = l
  key : isKey k = q
  mor : isKey (k ++ s) = x
  fit : x = (m && l && (z || q))
end Go.Proofs.YtcohodkpppmaoaaDoor.Q
