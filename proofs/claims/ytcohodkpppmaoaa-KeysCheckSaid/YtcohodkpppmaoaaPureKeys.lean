/-
  Plain laws of layer 1: what the printed functions of the reference come to; the pure statement of KeysCheck.
-/
import Derived.Test.YtcohodkpppmaoaaQA4
import Derived.Test.YtcohodkpppmaoaaKeys
namespace Go.Proofs.Ytcohodkpppmaoaa.Q
open Go.RowKit Go.Proofs.YtcohodkpppmaoaaW.PrintWords Go.Proofs.YtcohodkpppmaoaaW.PrintLast

theorem wrap_in (x : Int) (h0 : -9223372036854775808 ≤ x) (h1 : x ≤ 9223372036854775807) : wrap64 x = x := by
  unfold wrap64
  omega

theorem ev_Beyond1 (x : Int) (h0 : 0 ≤ x) (h1 : x ≤ 1000000000000000000) : Ev (fun k => concordatlaw01_Beyond.f k [x]) (decide (1048576 < x)) := by
  refine Ev.step (f := fun k => concordatlaw01_Beyond.f (k + 1) [x]) (fun _ => rfl) ?_
  unfold concordatlaw01_Beyond.f
  by_cases hx : 1048576 < x
  · refine ⟨0, fun k _ => ?_⟩
    simp only [concordatlaw01_Beyond.l0]
    have e : rd [x] 0 = x := rfl
    rw [if_pos (by simp), if_pos (by omega), e, Int.zero_add, wrap_in x (by omega) (by omega), if_pos hx]
    simp [hx]
  · refine ⟨1, fun k hk => ?_⟩
    obtain ⟨k, rfl⟩ : ∃ m, k = m + 1 := ⟨k - 1, by omega⟩
    simp only [concordatlaw01_Beyond.l0]
    have e : rd [x] 0 = x := rfl
    have e1 : wrap64 (0 + 1) = 1 := by unfold wrap64; omega
    rw [if_pos (by simp), if_pos (by omega), e, Int.zero_add, wrap_in x (by omega) (by omega), if_neg (by omega), e1, if_neg (by simp)]
    simp [hx]

theorem bt_byte (s : ByteArray) (i : Nat) (h : i < s.size) : bt s (i : Int) = ((s[i]'h).toNat : Int) := by
  simp [bt, h]

theorem refCheck_from (s : ByteArray) (hs : s.size ≤ 140737488351232) (d : Nat) : ∀ (k i : Nat), i ≤ s.size → s.size - i = d → d < k → keyChars (s.data.toList.take i) = true →
    concordatref01_Check.l0 k s (i : Int) = some (isKey s) := by
  induction d with
  | zero =>
    intro k i h0 h1 hk hp
    obtain ⟨k, rfl⟩ : ∃ m, k = m + 1 := ⟨k - 1, by omega⟩
    simp only [concordatref01_Check.l0]
    rw [if_neg (by omega)]
    have e : s.data.toList.take i = s.data.toList := List.take_of_length_le (by rw [Array.length_toList]; show s.size ≤ i; omega)
    rw [e] at hp
    unfold isKey
    rw [hp]
    by_cases h1 : (s.size : Int) ≥ 1
    · rw [if_pos h1]
      have h2 : 1 ≤ s.size := by omega
      simp [h2]
      omega
    · rw [if_neg h1]
      have h2 : ¬ 1 ≤ s.size := by omega
      simp [h2]
  | succ d ih =>
    intro k i h0 h1 hk hp
    obtain ⟨k, rfl⟩ : ∃ m, k = m + 1 := ⟨k - 1, by omega⟩
    have hi : i < s.size := by omega
    simp only [concordatref01_Check.l0]
    rw [if_pos (by omega), if_pos (by omega), bt_byte s i hi, wrap_in _ (by omega) (by omega)]
    have hb := keyRune_byte (s[i]'hi)
    have hn := keyChars_no s i hi
    have ht := keyChars_take_succ s i hi
    have hgo : keyByte (s[i]'hi) = true → concordatref01_Check.l0 k s ((i : Int) + 1) = some (isKey s) := by
      intro hy
      have := ih k (i + 1) (by omega) (by omega) (by omega) (by rw [ht, hp, hy]; rfl)
      rw [← this]; rfl
    have hno : keyByte (s[i]'hi) = false → some false = some (isKey s) := by
      intro hy
      unfold isKey
      rw [hn hy]
      simp
    generalize ((s[i]'hi).toNat : Int) = c at *
    unfold keyRune at hb
    by_cases c1 : c < 97
    · rw [if_pos c1]
      by_cases c2 : c < 48
      · rw [if_pos c2]
        by_cases c3 : c = 95
        · omega
        · rw [if_neg c3]
          exact hno (by rw [← hb, Bool.eq_false_iff]; simp; omega)
      · rw [if_neg c2]
        by_cases c4 : c > 57
        · rw [if_pos c4]
          by_cases c3 : c = 95
          · rw [if_pos c3]; exact hgo (by rw [← hb]; simp; omega)
          · rw [if_neg c3]
            exact hno (by rw [← hb, Bool.eq_false_iff]; simp; omega)
        · rw [if_neg c4]; exact hgo (by rw [← hb]; simp; omega)
    · rw [if_neg c1]
      by_cases c5 : c > 122
      · rw [if_pos c5, if_neg (by omega), if_pos (by omega), if_neg (by omega)]
        exact hno (by rw [← hb, Bool.eq_false_iff]; simp; omega)
      · rw [if_neg c5]
        exact hgo (by rw [← hb]; simp; omega)

theorem ev_refCheck (s : ByteArray) (hs : s.size ≤ 140737488351232) : Ev (fun k => concordatref01_Check.f k s) (isKey s) :=
  ⟨s.size + 1, fun k hk => refCheck_from s hs s.size k 0 (by omega) (by omega) (by omega) (by simp [keyChars])⟩

theorem isKey_pos (s : ByteArray) (h : isKey s = true) : 1 ≤ s.size ∧ s.size ≤ 16 := by
  unfold isKey at h
  simp at h
  exact h.1

theorem KeysCheck : concordatlaw01_KeysCheck.Pure := by
  intro s hs
  refine Ev.rounds (g := fun k => concordatlaw01_KeysCheck.f k s) ?_
  unfold concordatlaw01_KeysCheck.f
  refine Ev.bind (ev_Beyond1 _ (by omega) (by omega)) ?_
  by_cases hb : 1048576 < (s.size : Int)
  · simp only [hb, decide_true, if_true]
    exact Ev.now _
  · simp only [hb, decide_false, Bool.false_eq_true, if_false, keys_Check.f, Option.bind_some]
    refine Ev.bind (ev_refCheck s hs) ?_
    simp only [beq_self_eq_true, if_true]
    unfold keys_Reserved.f concordatref01_Reserved.f
    simp only [keys_Check.f, Option.bind_some]
    cases hk : isKey s with
    | true =>
      have := isKey_pos s hk
      have h0 : 0 < (s.size : Int) := by omega
      simp only [if_true, if_pos h0, Option.bind_some]
      refine Ev.bind (a := (bt s 0 == 95)) ?_ (by simp only [beq_self_eq_true]; exact Ev.now _)
      refine Ev.bind (a := true) (by rw [← hk]; exact ev_refCheck s hs) ?_
      simp only [if_true]
      exact Ev.now _
    | false =>
      simp only [Bool.false_eq_true, if_false, Option.bind_some]
      refine Ev.bind (a := false) ?_ (by simp only [beq_self_eq_true]; exact Ev.now _)
      refine Ev.bind (a := false) (by rw [← hk]; exact ev_refCheck s hs) ?_
      simp only [Bool.false_eq_true, if_false]
      exact Ev.now _

end Go.Proofs.Ytcohodkpppmaoaa.Q
