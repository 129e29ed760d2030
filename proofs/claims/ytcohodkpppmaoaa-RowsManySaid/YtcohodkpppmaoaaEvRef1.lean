/-
  The reference's Check of keys, as printed: whether the text is a key.
-/
import Derived.Test.YtcohodkpppmaoaaQR1
import Derived.Test.YtcohodkpppmaoaaKeys
namespace Go.Proofs.Ytcohodkpppmaoaa.Q
open Go.RowKit Go.Proofs.YtcohodkpppmaoaaW.PrintWords Go.Proofs.YtcohodkpppmaoaaW.PrintLast

theorem wrap_in (x : Int) (h0 : -9223372036854775808 ≤ x) (h1 : x ≤ 9223372036854775807) : wrap64 x = x := by
  unfold wrap64
  omega
theorem bt_byte (s : ByteArray) (i : Nat) (h : i < s.size) : bt s (i : Int) = ((s[i]'h).toNat : Int) := by
  simp [bt, h]

theorem refCheck_from (s : ByteArray) (hs : s.size ≤ 140737488351232) (d : Nat) : ∀ (k i : Nat), i ≤ s.size → s.size - i = d → d < k → keyChars (s.data.toList.take i) = true →
    concordatref01_Check.l0 k s (i : Int) = some (isKey s) := by
  induction d with
  | zero =>
    intro k i h0 h1 hk hp
    obtain ⟨k, rfl⟩ : ∃ m, k = m + 1 := ⟨k - 1, by omega⟩
    simp only [concordatref01_Check.l0]
    rw [if_neg (by omega)]
    have e : s.data.toList.take i = s.data.toList := List.take_of_length_le (by rw [Array.length_toList]; show s.size ≤ i; omega)
    rw [e] at hp
    unfold isKey
    rw [hp]
    by_cases h1 : (s.size : Int) ≥ 1
    · rw [if_pos h1]
      have h2 : 1 ≤ s.size := by omega
      simp [h2]
      omega
    · rw [if_neg h1]
      have h2 : ¬ 1 ≤ s.size := by omega
      simp [h2]
  | succ d ih =>
    intro k i h0 h1 hk hp
    obtain ⟨k, rfl⟩ : ∃ m, k = m + 1 := ⟨k - 1, by omega⟩
    have hi : i < s.size := by omega
    simp only [concordatref01_Check.l0]
    rw [if_pos (by omega), if_pos (by omega), bt_byte s i hi, wrap_in _ (by omega) (by omega)]
    have hb := keyRune_byte (s[i]'hi)
    have hn := keyChars_no s i hi
    have ht := keyChars_take_succ s i hi
    have hgo : keyByte (s[i]'hi) = true → concordatref01_Check.l0 k s ((i : Int) + 1) = some (isKey s) := by
      intro hy
      have := ih k (i + 1) (by omega) (by omega) (by omega) (by rw [ht, hp, hy]; rfl)
      rw [← this]; rfl
    have hno : keyByte (s[i]'hi) = false → some false = some (isKey s) := by
      intro hy
      unfold isKey
      rw [hn hy]
      simp
    generalize ((s[i]'hi).toNat : Int) = c at *
    unfold keyRune at hb
    by_cases c1 : c < 97
    · rw [if_pos c1]
      by_cases c2 : c < 48
      · rw [if_pos c2]
        by_cases c3 : c = 95
        · omega
        · rw [if_neg c3]
          exact hno (by rw [← hb, Bool.eq_false_iff]; simp; omega)
      · rw [if_neg c2]
        by_cases c4 : c > 57
        · rw [if_pos c4]
          by_cases c3 : c = 95
          · rw [if_pos c3]; exact hgo (by rw [← hb]; simp; omega)
          · rw [if_neg c3]
            exact hno (by rw [← hb, Bool.eq_false_iff]; simp; omega)
        · rw [if_neg c4]; exact hgo (by rw [← hb]; simp; omega)
    · rw [if_neg c1]
      by_cases c5 : c > 122
      · rw [if_pos c5, if_neg (by omega), if_pos (by omega), if_neg (by omega)]
        exact hno (by rw [← hb, Bool.eq_false_iff]; simp; omega)
      · rw [if_neg c5]
        exact hgo (by rw [← hb]; simp; omega)

theorem ev_refCheck (s : ByteArray) (hs : s.size ≤ 140737488351232) : Ev (fun k => concordatref01_Check.f k s) (isKey s) :=
  ⟨s.size + 1, fun k hk => refCheck_from s hs s.size k 0 (by omega) (by omega) (by omega) (by simp [keyChars])⟩


end Go.Proofs.Ytcohodkpppmaoaa.Q
