/-
  Contracts of layer 1 (keys.Check$1, keys.all, keys.Check, keys.Reserved): what they answer, for every text; nothing that was there changes.
-/
import Derived.Test.YtcohodkpppmaoaaDoorProg
import Derived.WalkKit
import Derived.KernelRfl
import Derived.Lib.Hide
namespace Go.Proofs.YtcohodkpppmaoaaDoor
open Go.RowKit

/-! ### plain -/
def keyByte (c : UInt8) : Bool := (97 ≤ c.toNat && c.toNat ≤ 122) || (48 ≤ c.toNat && c.toNat ≤ 57) || c.toNat == 95
def keyRune (c : Int) : Bool := (decide (97 ≤ c) && decide (c ≤ 122)) || (decide (48 ≤ c) && decide (c ≤ 57)) || (c == 95)
def keyChars (l : List UInt8) : Bool := l.all keyByte
def isKey (s : ByteArray) : Bool := decide (1 ≤ s.size) && decide (s.size ≤ 16) && keyChars s.data.toList
def isReserved (s : ByteArray) : Bool := isKey s && s.data.toList.head? == some 95

theorem keyRune_byte (c : UInt8) : keyRune (c.toNat : Int) = keyByte c := by
  unfold keyRune keyByte
  rw [Bool.eq_iff_iff]
  simp
  omega
theorem keyRune_high (c : Int) (h : 128 ≤ c) : keyRune c = false := by
  unfold keyRune
  rw [Bool.eq_false_iff]
  simp
  omega


/-! ### the walks -/
theorem ret_bool {a b : Bool} (h : a = b) : Ending.returned (.bool a) = Ending.returned (.bool b) := by rw [h]
theorem below_iter {B : Nat} {a w : World} (h : Below B a w) (hB : B ≤ w.heap.size) (s : ByteArray) (p : Nat) : Below B a (w.iter s p) := h.alloc hB _

theorem keyRune_calls (c : Int) (w : World) :
    Calls Tryd.prog 44 #[.int .i32 c] w fun e w' => e = .returned (.bool (keyRune c)) ∧ w = w' := by
  go_enter Tryd.func44, Tryd.ntmps44
  go_wp2
  all_goals
    go_ret
    refine ⟨ret_bool ?_, rfl⟩
    unfold keyRune
    rw [Bool.eq_iff_iff]
    simp
    omega


theorem keyChars_take_succ (s : ByteArray) (p : Nat) (h : p < s.size) : keyChars (s.data.toList.take (p + 1)) = (keyChars (s.data.toList.take p) && keyByte (s[p]'h)) := by
  have e : s.data.toList.take (p + 1) = s.data.toList.take p ++ [s[p]'h] := by
    rw [List.take_succ_eq_append_getElem (by simpa using h)]; rfl
  rw [e]
  simp [keyChars]
theorem keyChars_no (s : ByteArray) (p : Nat) (h : p < s.size) (hk : keyByte (s[p]'h) = false) : keyChars s.data.toList = false := by
  rw [Bool.eq_false_iff]
  intro ha
  unfold keyChars at ha
  rw [List.all_eq_true] at ha
  have := ha (s[p]'h) (by
    have : s[p]'h = s.data.toList[p]'(by simpa using h) := rfl
    rw [this]; exact List.getElem_mem _)
  rw [hk] at this
  cases this

set_option maxRecDepth 100000 in
theorem all_calls (s : ByteArray) (w : World) (hs : s.size ≤ maxLen) :
    Calls Tryd.prog 43 #[.string s, .func (.func 44) #[] #[]] w fun e w' => e = .returned (.bool (keyChars s.data.toList)) ∧ Below w.heap.size w w' := by
  unfold maxLen at hs
  go_enter Tryd.func43, Tryd.ntmps43
  go_wp2
  go_loopw [4] (fun n wr => ∃ pos : Nat, wr = w.iter s pos ∧ n = .bool false ∧ pos ≤ s.size ∧ keyChars (s.data.toList.take pos) = true) (fun _ wr => s.size - wr.iterPos w.heap.size)
  case atStart => exact ⟨0, rfl, rfl, by omega, rfl⟩
  case round =>
    obtain ⟨pos, rfl, rfl, hp, hk⟩ := hrel
    have HK := Lib.hid hk; clear hk
    by_cases hlt : pos < s.size
    · by_cases ha : (s[pos]'hlt).toNat < 128
      · have hnx : ∀ ty, (Instr.next (.pointer (some ⟨w.heap.size, 0, none⟩)) true ty).run Tryd.prog (w.iter s pos) = _ := fun ty => run_next_ascii w s pos ty hlt ha
        obtain ⟨c, hc⟩ : ∃ c : Int, c = ((s[pos]'hlt).toNat : Int) := ⟨_, rfl⟩
        rw [← hc] at hnx
        have HC := Lib.hid hc; clear hc
        cases hb : keyRune c with
        | true =>
          have HB := Lib.hid hb; clear hb
          go_wp2_with fail
          refine (keyRune_calls c _).mono ?_
          rintro e w' ⟨rfl, rfl⟩
          rw [HB.out]
          go_wp2
          go_roundw
          case rel => exact ⟨pos + 1, rfl, rfl, by omega, by rw [keyChars_take_succ s pos hlt, HK.out, ← keyRune_byte, ← HC.out, HB.out]; rfl⟩
          case measure => simp; omega
        | false =>
          have HB := Lib.hid hb; clear hb
          go_wp2_with fail
          refine (keyRune_calls c _).mono ?_
          rintro e w' ⟨rfl, rfl⟩
          rw [HB.out]
          go_wp2
          go_ret
          exact ⟨ret_bool (by rw [keyChars_no s pos hlt (by rw [← keyRune_byte, ← HC.out, HB.out])]), below_iter (Below.refl _ _) (Nat.le_refl _) _ _⟩
      · have hnx : ∀ ty, (Instr.next (.pointer (some ⟨w.heap.size, 0, none⟩)) true ty).run Tryd.prog (w.iter s pos) = _ := fun ty => run_next_any w s pos ty hlt
        have hh := decode_high s pos hlt (by omega)
        have hno : keyChars s.data.toList = false := keyChars_no s pos hlt (by rw [← keyRune_byte]; exact keyRune_high _ (by omega))
        obtain ⟨c, hc⟩ : ∃ c : Nat, c = (Utf8.decode s pos).1 := ⟨_, rfl⟩
        rw [← hc] at hnx hh
        have HC := Lib.hid hc; clear hc
        have HN := Lib.hid hno; clear hno
        have HR := Lib.hid (keyRune_high (c : Int) (by omega))
        go_wp2_with fail
        refine (keyRune_calls (c : Int) _).mono ?_
        rintro e w' ⟨rfl, rfl⟩
        rw [HR.out]
        go_wp2
        go_ret
        exact ⟨ret_bool (by rw [HN.out]), below_iter (Below.refl _ _) (Nat.le_refl _) _ _⟩
    · have hnx : ∀ ty, (Instr.next (.pointer (some ⟨w.heap.size, 0, none⟩)) true ty).run Tryd.prog (w.iter s pos) = _ := fun ty => run_next_end w s pos ty hlt
      go_wp2
      go_ret
      have e1 : s.data.toList.take pos = s.data.toList := List.take_of_length_le (by simp; omega)
      have hk := HK.out
      rw [e1] at hk
      exact ⟨ret_bool hk.symm, below_iter (Below.refl _ _) (Nat.le_refl _) _ _⟩


theorem isKey_empty (s : ByteArray) (h : s.size = 0) : isKey s = false := by unfold isKey; simp [h]


theorem toList_size (s : ByteArray) (h : s.toList = []) : s.size = 0 := by
  rw [ByteArray.toList_eq] at h
  have h2 := congrArg List.length h
  rw [Array.length_toList] at h2
  exact h2
theorem size_toList (s : ByteArray) (h : s.size = 0) : s.toList = [] := by
  rw [ByteArray.toList_eq]
  exact List.eq_nil_of_length_eq_zero (by rw [Array.length_toList]; exact h)

set_option maxRecDepth 100000 in
theorem check_calls (s : ByteArray) (w : World) :
    Calls Tryd.prog 26 #[.string s] w fun e w' => e = .returned (.bool (isKey s)) ∧ Below w.heap.size w w' := by
  by_cases h0 : s.toList = []
  · have H := Lib.hid (isKey_empty s (toList_size s h0))
    go_enter Tryd.func26, Tryd.ntmps26
    go_wp2
    go_ret
    exact ⟨ret_bool H.out.symm, Below.refl _ _⟩
  · have h0' : !s.toList.isEmpty := by simpa using h0
    by_cases h1 : (s.size : Int) ≤ 16
    · have hs : s.size ≤ maxLen := by unfold maxLen; omega
      have hz : 1 ≤ s.size := by
        rcases Nat.eq_zero_or_pos s.size with h | h
        · exact absurd (size_toList s h) h0
        · exact h
      have H := Lib.hid (show keyChars s.data.toList = isKey s by unfold isKey; simp [hz, show s.size ≤ 16 by omega])
      clear hz
      go_enter Tryd.func26, Tryd.ntmps26
      go_wp2_with fail
      refine (all_calls s _ hs).mono ?_
      rintro e w' ⟨rfl, hb⟩
      rw [H.out]
      go_wp2
      go_ret
      exact ⟨rfl, hb⟩
    · have H := Lib.hid (show isKey s = false by unfold isKey; simp [show ¬ s.size ≤ 16 by omega])
      go_enter Tryd.func26, Tryd.ntmps26
      go_wp2
      go_ret
      exact ⟨ret_bool H.out.symm, Below.refl _ _⟩

namespace Q
/-- keys.Check, as the printed texts call it. -/
def keys_Check.f (a0 : ByteArray) : Option Bool := some (isKey a0)
theorem keys_Check.calls (a0 : ByteArray) (r : Bool) (w : World) (h : keys_Check.f a0 = some r) :
    Calls Tryd.prog 26 #[.string a0] w fun e w' => e = .returned (.bool r) ∧ Below w.heap.size w w' := by
  have e : isKey a0 = r := Option.some.inj h
  subst e
  exact check_calls a0 w
end Q
end Go.Proofs.YtcohodkpppmaoaaDoor
