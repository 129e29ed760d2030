/-
  Texts in their order; the pure statements of KeysBetween and KeysOrder.
-/
import Derived.Test.YtcohodkpppmaoaaDoorQK1
import Derived.Test.YtcohodkpppmaoaaDoorQLkeysbetween1
import Derived.Test.YtcohodkpppmaoaaDoorQLkeysorder1
import Derived.Test.YtcohodkpppmaoaaDoorIn
import Derived.Test.YtcohodkpppmaoaaDoorMarker
namespace Go.Proofs.YtcohodkpppmaoaaDoor.Q
open Go.RowKit Go.Proofs.YtcohodkpppmaoaaDoorW.PrintWords Go.Proofs.YtcohodkpppmaoaaDoorW.PrintLast Go.Proofs.YtcohodkpppmaoaaDoorW.PrintMore
set_option linter.unusedVariables false

/-! ### the order of texts -/
def lle (a b : List UInt8) : Bool := Op.bytesLess a b || a == b
theorem u8_inj {x y : UInt8} (h : x.toNat = y.toNat) : x = y := UInt8.toNat.inj h
theorem lle_cons (x y : UInt8) (a b : List UInt8) : lle (x :: a) (y :: b) = true ↔ x.toNat < y.toNat ∨ (x.toNat = y.toNat ∧ lle a b = true) := by
  have e : Op.bytesLess (x :: a) (y :: b) = (decide (x < y) || (x == y && Op.bytesLess a b)) := rfl
  unfold lle
  rw [e]
  by_cases h : x = y
  · subst h
    have : ¬ x < x := fun h => Nat.lt_irrefl _ (show x.toNat < x.toNat from h)
    simp [this]
  · have hn : x.toNat ≠ y.toNat := fun k => h (u8_inj k)
    have hb : (x == y) = false := by simpa using h
    have hl : (x :: a == y :: b) = false := by simp [h]
    rw [hb, hl]
    simp only [Bool.false_and, Bool.or_false, decide_eq_true_eq]
    constructor
    · intro k; exact .inl k
    · rintro (k | ⟨k, _⟩)
      · exact k
      · exact absurd k hn
theorem lle_nil (b : List UInt8) : lle [] b = true := by
  unfold lle
  cases b <;> simp [Op.bytesLess]
theorem lle_cons_nil (x : UInt8) (a : List UInt8) : lle (x :: a) [] = false := by
  unfold lle
  simp [Op.bytesLess]
theorem lle_refl (a : List UInt8) : lle a a = true := by unfold lle; simp
theorem lle_total : ∀ a b : List UInt8, lle a b = true ∨ lle b a = true
  | [], b => .inl (lle_nil b)
  | x :: a, [] => .inr (lle_nil _)
  | x :: a, y :: b => by
    rw [lle_cons, lle_cons]
    rcases Nat.lt_trichotomy x.toNat y.toNat with h | h | h
    · exact .inl (.inl h)
    · rcases lle_total a b with k | k
      · exact .inl (.inr ⟨h, k⟩)
      · exact .inr (.inr ⟨h.symm, k⟩)
    · exact .inr (.inl h)
theorem lle_anti : ∀ a b : List UInt8, lle a b = true → lle b a = true → a = b
  | [], [], _, _ => rfl
  | [], y :: b, _, h => by rw [lle_cons_nil] at h; cases h
  | x :: a, [], h, _ => by rw [lle_cons_nil] at h; cases h
  | x :: a, y :: b, h, k => by
    rw [lle_cons] at h k
    rcases h with h | ⟨h, h'⟩
    · rcases k with k | ⟨k, k'⟩ <;> omega
    · rcases k with k | ⟨k, k'⟩
      · omega
      · rw [u8_inj h, lle_anti a b h' k']
theorem lle_trans : ∀ a b c : List UInt8, lle a b = true → lle b c = true → lle a c = true
  | [], _, c, _, _ => lle_nil c
  | x :: a, [], _, h, _ => by rw [lle_cons_nil] at h; cases h
  | x :: a, y :: b, [], _, h => by rw [lle_cons_nil] at h; cases h
  | x :: a, y :: b, z :: c, h, k => by
    rw [lle_cons] at h k ⊢
    rcases h with h | ⟨h, h'⟩
    · rcases k with k | ⟨k, k'⟩
      · exact .inl (by omega)
      · exact .inl (by omega)
    · rcases k with k | ⟨k, k'⟩
      · exact .inl (by omega)
      · exact .inr ⟨by omega, lle_trans a b c h' k'⟩
/-- No text of at most n bytes is behind n bytes 255. -/
theorem lle_top : ∀ (a : List UInt8) (n : Nat), a.length ≤ n → lle a (List.replicate n 255) = true
  | [], n, _ => lle_nil _
  | x :: a, 0, h => by simp at h
  | x :: a, n + 1, h => by
    rw [List.replicate_succ, lle_cons]
    have hx := x.toNat_lt
    have e : (255 : UInt8).toNat = 255 := rfl
    by_cases k : x.toNat = 255
    · exact .inr ⟨by rw [e]; exact k, lle_top a n (by simpa using h)⟩
    · exact .inl (by rw [e]; omega)
theorem sle_l (a b : ByteArray) : sle a b = lle a.data.toList b.data.toList := by unfold sle lle; rw [ByteArray.toList_eq, ByteArray.toList_eq]
theorem ba_eq {a b : ByteArray} (h : a.data.toList = b.data.toList) : a = b := by
  cases a; cases b
  simp at h
  rw [h]
theorem sle_refl (a : ByteArray) : sle a a = true := by rw [sle_l]; exact lle_refl _
theorem sle_nil (b : ByteArray) : sle (⟨#[]⟩ : ByteArray) b = true := by rw [sle_l]; exact lle_nil _
theorem sle_total (a b : ByteArray) : sle a b = true ∨ sle b a = true := by rw [sle_l, sle_l]; exact lle_total _ _
theorem sle_anti {a b : ByteArray} (h : sle a b = true) (k : sle b a = true) : a = b := by rw [sle_l] at h k; exact ba_eq (lle_anti _ _ h k)
theorem sle_trans {a b c : ByteArray} (h : sle a b = true) (k : sle b c = true) : sle a c = true := by rw [sle_l] at h k ⊢; exact lle_trans _ _ _ h k

/-! ### the laws' helpers -/
theorem alive_true : concordatlaw01_alive.f = some true := by kernel_rfl
theorem wrap_in (x : Int) (h0 : -9223372036854775808 ≤ x) (h1 : x ≤ 9223372036854775807) : wrap64 x = x := by
  unfold wrap64
  omega
theorem ev_Beyond1 (x : Int) (h0 : 0 ≤ x) (h1 : x ≤ 1000000000000000000) : Ev (fun k => concordatlaw01_Beyond.f k [x]) (decide (1048576 < x)) := by
  refine Ev.step (f := fun k => concordatlaw01_Beyond.f (k + 1) [x]) (fun _ => rfl) ?_
  unfold concordatlaw01_Beyond.f
  by_cases hx : 1048576 < x
  · refine ⟨0, fun k _ => ?_⟩
    simp only [concordatlaw01_Beyond.l0]
    have e : rd [x] 0 = x := rfl
    rw [if_pos (by simp), if_pos (by omega), e, Int.zero_add, wrap_in x (by omega) (by omega), if_pos hx]
    simp [hx]
  · refine ⟨1, fun k hk => ?_⟩
    obtain ⟨k, rfl⟩ : ∃ m, k = m + 1 := ⟨k - 1, by omega⟩
    simp only [concordatlaw01_Beyond.l0]
    have e : rd [x] 0 = x := rfl
    have e1 : wrap64 (0 + 1) = 1 := by unfold wrap64; omega
    rw [if_pos (by simp), if_pos (by omega), e, Int.zero_add, wrap_in x (by omega) (by omega), if_neg (by omega), e1, if_neg (by simp)]
    simp [hx]

theorem toList_beq (a b : ByteArray) : (a.toList == b.toList) = decide (a = b) := by
  rw [ByteArray.toList_eq, ByteArray.toList_eq]
  by_cases h : a = b
  · subst h; simp
  · have : ¬ a.data.toList = b.data.toList := fun k => h (ba_eq k)
    rw [decide_eq_false h]
    simpa using this

/-! ### KeysBetween -/
theorem between_j2 (k : Nat) (fr tt x : ByteArray) : concordatlaw01_KeysBetween.j2 (k + 1) fr tt x false = some true := by
  rw [concordatlaw01_KeysBetween.j2, if_neg (by decide)]
  unfold keys_In.f
  simp only [Option.bind_some]
  have e : (sle fr x && sle x fr) = decide (x = fr) := by
    by_cases h : x = fr
    · subst h; rw [sle_refl, decide_eq_true rfl]; rfl
    · rw [decide_eq_false h]
      cases h1 : sle fr x with
      | false => rfl
      | true =>
        cases h2 : sle x fr with
        | false => rfl
        | true => exact absurd (sle_anti h2 h1) h
  rw [toList_beq, e, beq_self_eq_true, if_pos rfl]
  cases h1 : sle fr x with
  | false => rfl
  | true =>
    cases h2 : sle x tt with
    | false => rfl
    | true =>
      have h3 : sle fr tt = true := sle_trans h1 h2
      rw [h3, sle_refl, sle_refl]
      rfl
theorem between_j1 (k : Nat) (fr tt x l1 l2 : ByteArray) (wide : Bool) (hw : wide = true → sle l1 fr = true ∧ sle tt l2 = true) (l0 : ByteArray) : concordatlaw01_KeysBetween.j1 (k + 2) fr tt x wide l0 l1 l2 = some true := by
  rw [concordatlaw01_KeysBetween.j1]
  unfold keys_In.f
  simp only [Option.bind_some]
  cases h1 : sle fr x with
  | false => rw [Bool.false_and, if_neg (by decide)]; exact between_j2 k fr tt x
  | true =>
    cases h2 : sle x tt with
    | false => rw [Bool.and_false, if_neg (by decide)]; exact between_j2 k fr tt x
    | true =>
      rw [Bool.and_true, if_pos rfl]
      cases wide with
      | false => rw [if_neg (by decide)]; exact between_j2 k fr tt x
      | true =>
        obtain ⟨h3, h4⟩ := hw rfl
        rw [if_pos rfl, sle_trans h3 h1, sle_trans h2 h4]
        exact between_j2 k fr tt x
theorem between_j0 (k : Nat) (fr tt l0 l1 l2 : ByteArray) (d : Bool) : concordatlaw01_KeysBetween.j0 (k + 3) fr tt d l0 l1 l2 = some true := by
  rw [concordatlaw01_KeysBetween.j0]
  cases d with
  | true => rw [if_pos rfl, alive_true]; rfl
  | false =>
    rw [if_neg (by decide)]
    unfold keys_In.f
    simp only [Option.bind_some, sle_nil, Bool.true_and]
    cases h1 : sle l1 fr with
    | false => rw [if_neg (by decide)]; exact between_j1 k fr tt l0 l1 l2 false (fun h => by cases h) l0
    | true =>
      rw [if_pos rfl]
      exact between_j1 k fr tt l0 l1 l2 _ (fun h => ⟨h1, h⟩) l0
def few : Nat := 140737488351232
theorem KeysBetween_ev (l0 l1 l2 fr tt : ByteArray) (h0 : l0.size ≤ few) (h1 : l1.size ≤ few) (h2 : l2.size ≤ few) (h3 : fr.size ≤ few) (h4 : tt.size ≤ few) : ∃ k, concordatlaw01_KeysBetween.f k l0 l1 l2 fr tt = some true := by
  unfold few at *
  refine Ev.rounds (g := fun k => concordatlaw01_KeysBetween.f k l0 l1 l2 fr tt) ?_
  have e : ∀ k, concordatlaw01_KeysBetween.f k l0 l1 l2 fr tt = ((concordatlaw01_Beyond.f k [(l0.size : Int) + l1.size + l2.size + fr.size + tt.size]).bind fun t145 => (concordatlaw01_KeysBetween.j0 k fr tt t145 l0 l1 l2)) := fun k => by
    unfold concordatlaw01_KeysBetween.f
    rw [alive_true, Option.bind_some, if_pos rfl, wrap_in ((l0.size : Int) + l1.size) (by omega) (by omega), wrap_in ((l0.size : Int) + l1.size + l2.size) (by omega) (by omega), wrap_in ((l0.size : Int) + l1.size + l2.size + fr.size) (by omega) (by omega), wrap_in _ (by omega) (by omega)]
  refine Ev.congr e (Ev.bind (ev_Beyond1 _ (by omega) (by omega)) ⟨3, fun k hk => ?_⟩)
  obtain ⟨k, rfl⟩ : ∃ m, k = m + 3 := ⟨k - 3, by omega⟩
  exact between_j0 k fr tt l0 l1 l2 _

/-! ### KeysOrder -/
theorem order_j2 (k : Nat) (a b c top : ByteArray) (x : Bool) (hx : x = true → sle a b = true) : concordatlaw01_KeysOrder.j2 (k + 1) a b c top x false = some true := by
  rw [concordatlaw01_KeysOrder.j2, if_neg (by decide)]
  cases x with
  | false => rfl
  | true =>
    rw [if_pos rfl]
    unfold keys_In.f
    simp only [Option.bind_some]
    cases h1 : sle b c with
    | false => rfl
    | true =>
      rw [sle_trans (hx rfl) h1]
      cases sle c top with
      | false => rfl
      | true => rfl

theorem sle_top (x : ByteArray) (n : Nat) (h : x.size ≤ n) : sle x (strOfNums (List.replicate n 255)) = true := by
  rw [sle_l, strOfNums_data, List.map_replicate]
  exact lle_top _ n (by rw [Array.length_toList]; exact h)
theorem order_end (k : Nat) (a b c : ByteArray) (n : Nat) (ha : a.size ≤ n) (hb : b.size ≤ n) (i : Int) (hi : (n : Int) ≤ i) : concordatlaw01_KeysOrder.l0 (k + 2) a b c (List.replicate n 255) i = some true := by
  have hta := sle_top a n ha
  have htb := sle_top b n hb
  rw [concordatlaw01_KeysOrder.l0, if_neg (by rw [List.length_replicate]; omega)]
  generalize strOfNums (List.replicate n 255) = top at *
  unfold keys_In.f
  simp only [Option.bind_some, hta, htb, Bool.and_true, sle_nil, Bool.true_and, sle_refl, toList_beq]
  cases h1 : sle a b with
  | true =>
    rw [if_pos rfl]
    have e : (sle b a != decide (a = b)) = false := by
      by_cases h : a = b
      · subst h; rw [sle_refl, decide_eq_true rfl]; rfl
      · rw [decide_eq_false h]
        cases h2 : sle b a with
        | false => rfl
        | true => exact absurd (sle_anti h1 h2) h
    rw [e, if_neg (by decide), if_pos rfl]
    exact order_j2 k a b c top true (fun _ => h1)
  | false =>
    have h2 : sle b a = true := by
      rcases sle_total a b with h | h
      · rw [h] at h1; cases h1
      · exact h
    have h3 : decide (a = b) = false := decide_eq_false (fun h => by subst h; rw [sle_refl] at h1; cases h1)
    rw [if_neg (by decide), h2, if_pos rfl, h3, if_neg (by decide)]
    exact order_j2 k a b c top false (fun h => by cases h)
theorem order_l0 (a b c : ByteArray) (n : Nat) (hn : n ≤ 2000000) (ha : a.size ≤ n) (hb : b.size ≤ n) (d : Nat) : ∀ (i : Nat), i ≤ n → n - i = d → Ev (fun k => concordatlaw01_KeysOrder.l0 k a b c (List.replicate i 255 ++ List.replicate (n - i) 0) (i : Int)) true := by
  induction d with
  | zero =>
    intro i h0 h1
    obtain rfl : i = n := by omega
    have e : List.replicate i (255 : Int) ++ List.replicate (i - i) 0 = List.replicate i 255 := by simp
    rw [e]
    refine ⟨2, fun k hk => ?_⟩
    obtain ⟨k, rfl⟩ : ∃ m, k = m + 2 := ⟨k - 2, by omega⟩
    exact order_end k a b c i ha hb i (by omega)
  | succ d ih =>
    intro i h0 h1
    have hl : (List.replicate i (255 : Int) ++ List.replicate (n - i) 0).length = n := by simp; omega
    refine Ev.step (f := fun k => concordatlaw01_KeysOrder.l0 k a b c (List.replicate (i + 1) 255 ++ List.replicate (n - (i + 1)) 0) ((i + 1 : Nat) : Int)) (fun k => ?_) (ih (i + 1) (by omega) (by omega))
    rw [concordatlaw01_KeysOrder.l0, if_pos (by rw [hl]; omega), if_pos (by omega), wrap_in _ (by omega) (by omega), Int.toNat_natCast, List.set_append_right _ _ (by simp), List.length_replicate, Nat.sub_self]
    obtain ⟨r, hr⟩ : ∃ r, n - i = r + 1 := ⟨n - i - 1, by omega⟩
    have hr2 : n - (i + 1) = r := by omega
    rw [hr, hr2, List.replicate_succ, List.set_cons_zero, List.replicate_succ', List.append_assoc]
    rfl
theorem KeysOrder_ev (a b c : ByteArray) (h0 : a.size ≤ few) (h1 : b.size ≤ few) (h2 : c.size ≤ few) : ∃ k, concordatlaw01_KeysOrder.f k a b c = some true := by
  unfold few at *
  refine Ev.rounds (g := fun k => concordatlaw01_KeysOrder.f k a b c) ?_
  have e : ∀ k, concordatlaw01_KeysOrder.f k a b c = ((concordatlaw01_Beyond.f k [(a.size : Int) + b.size + c.size]).bind fun t144 => (concordatlaw01_KeysOrder.j0 k a b c t144)) := fun k => by
    unfold concordatlaw01_KeysOrder.f
    rw [alive_true, Option.bind_some, if_pos rfl, wrap_in ((a.size : Int) + b.size) (by omega) (by omega), wrap_in _ (by omega) (by omega)]
  refine Ev.congr e (Ev.bind (ev_Beyond1 _ (by omega) (by omega)) ?_)
  by_cases hs : 1048576 < (a.size : Int) + b.size + c.size
  · rw [decide_eq_true hs]
    refine Ev.step (f := fun _ => some true) (fun k => ?_) (Ev.now _)
    rw [concordatlaw01_KeysOrder.j0, if_pos rfl, alive_true]
    rfl
  · rw [decide_eq_false hs]
    have es : wrap64 (wrap64 (wrap64 ((a.size : Int) + b.size) + c.size) + 1) = ((a.size + b.size + c.size + 1 : Nat) : Int) := by
      rw [wrap_in ((a.size : Int) + b.size) (by omega) (by omega), wrap_in ((a.size : Int) + b.size + c.size) (by omega) (by omega), wrap_in _ (by omega) (by omega)]
      omega
    refine Ev.step (f := fun k => concordatlaw01_KeysOrder.l0 k a b c (List.replicate (a.size + b.size + c.size + 1) 0) ((0 : Nat) : Int)) (fun k => ?_) ?_
    · rw [concordatlaw01_KeysOrder.j0, if_neg (by decide), es, if_pos (by omega), Int.toNat_natCast, if_pos (by omega)]
      rfl
    · have := order_l0 a b c (a.size + b.size + c.size + 1) (by omega) (by omega) (by omega) (a.size + b.size + c.size + 1) 0 (by omega) (by omega)
      simpa using this

end Go.Proofs.YtcohodkpppmaoaaDoor.Q
