/-
  PacketsLines, pure: unlike messages have unlike lines.
-/
import Derived.Test.YtcohodkpppmaoaaDoorQLpacketslines1
import Derived.Test.YtcohodkpppmaoaaDoorPurePS
namespace Go.Proofs.YtcohodkpppmaoaaDoor.Q
open Go.RowKit Go.Proofs.YtcohodkpppmaoaaDoorW.PrintWords Go.Proofs.YtcohodkpppmaoaaDoorW.PrintLast Go.Proofs.YtcohodkpppmaoaaDoorW.PrintMore
set_option linter.unusedVariables false
def dval (l : List UInt8) : Nat := l.foldl (fun n c => 10 * n + (c.toNat - 48)) 0
theorem dval_snoc (l : List UInt8) (c : UInt8) : dval (l ++ [c]) = 10 * dval l + (c.toNat - 48) := by unfold dval; rw [List.foldl_append]; rfl
theorem dd_small {u : Nat} (h : u < 10) : Lib.decDigits u = [UInt8.ofNat (48 + u)] := by rw [Lib.decDigits, dif_pos h]
theorem dd_big {u : Nat} (h : ¬ u < 10) : Lib.decDigits u = Lib.decDigits (u / 10) ++ [UInt8.ofNat (48 + u % 10)] := by rw [Lib.decDigits, dif_neg h]
theorem dig_nat {d : Nat} (h : d < 10) : (UInt8.ofNat (48 + d)).toNat = 48 + d := by
  rw [UInt8.toNat_ofNat']
  omega
theorem dval_dd (u : Nat) : dval (Lib.decDigits u) = u := by
  induction u using Nat.strongRecOn with
  | ind u ih =>
    by_cases h : u < 10
    · rw [dd_small h]
      show 10 * 0 + ((UInt8.ofNat (48 + u)).toNat - 48) = u
      rw [dig_nat h]
      omega
    · rw [dd_big h, dval_snoc, ih (u / 10) (by omega), dig_nat (by omega)]
      omega
theorem dd_digits (u : Nat) : ∀ c ∈ Lib.decDigits u, 48 ≤ c.toNat ∧ c.toNat ≤ 57 := by
  induction u using Nat.strongRecOn with
  | ind u ih =>
    intro c hc
    by_cases h : u < 10
    · rw [dd_small h] at hc
      obtain rfl := List.mem_singleton.1 hc
      rw [dig_nat h]
      omega
    · rw [dd_big h] at hc
      rcases List.mem_append.1 hc with hc | hc
      · exact ih (u / 10) (by omega) c hc
      · obtain rfl := List.mem_singleton.1 hc
        rw [dig_nat (by omega)]
        omega
theorem dig_inj {a b : Int} (h0 : 0 ≤ a) (h1 : 0 ≤ b) (h : digN a = digN b) : a = b := by
  have := congrArg dval h
  unfold digN at this
  rw [dval_dd, dval_dd] at this
  omega
theorem dig_32 (a : Int) : ∀ c ∈ digN a, c ≠ 32 := by
  rintro c hc rfl
  have := dd_digits a.toNat 32 hc
  simp at this
theorem split32 : ∀ {A B X Y : List UInt8}, (∀ c ∈ A, c ≠ 32) → (∀ c ∈ B, c ≠ 32) → A ++ 32 :: X = B ++ 32 :: Y → A = B ∧ X = Y
  | [], [], X, Y, _, _, h => by simpa using h
  | [], b :: B, X, Y, _, hb, h => by
    simp at h
    exact absurd h.1.symm (hb b (by simp))
  | a :: A, [], X, Y, ha, _, h => by
    simp at h
    exact absurd h.1 (ha a (by simp))
  | a :: A, b :: B, X, Y, ha, hb, h => by
    simp at h
    obtain ⟨h1, h2⟩ := split32 (fun c hc => ha c (by simp [hc])) (fun c hc => hb c (by simp [hc])) h.2
    exact ⟨by rw [h.1, h1], h2⟩
theorem text_inj {s f t g s' f' t' g' : Int} (h : textOk s f t g) (h' : textOk s' f' t' g') : textP s f t g = textP s' f' t' g' ↔ (s = s' ∧ f = f' ∧ t = t' ∧ g = g') := by
  constructor
  · intro e
    have e1 : textL s f t g = textL s' f' t' g' := by
      have := congrArg (fun b : ByteArray => b.data.toList) e
      simpa [textP] using this
    unfold textL at e1
    obtain ⟨k1, e2⟩ := split32 (dig_32 s) (dig_32 s') e1
    obtain ⟨k2, e3⟩ := split32 (dig_32 f) (dig_32 f') e2
    obtain ⟨k3, k4⟩ := split32 (dig_32 t) (dig_32 t') e3
    exact ⟨dig_inj h.1.1 h'.1.1 k1, dig_inj h.2.1.1 h'.2.1.1 k2, dig_inj h.2.2.1.1 h'.2.2.1.1 k3, dig_inj h.2.2.2.1 h'.2.2.2.1 k4⟩
  · rintro ⟨rfl, rfl, rfl, rfl⟩
    rfl
theorem lines_j1 (k : Nat) (x : Bool) (s f t g s' f' t' g' : Int) (l4 m4 : List OpT) (l5 m5 : List ResultT) (h : textOk s f t g) (h' : textOk s' f' t' g') (hx : x = true ↔ (s = s' ∧ f = f' ∧ t = t' ∧ g = g')) :
    concordatlaw07_PacketsLines.j1 (k + 1) x s f t g l4 l5 s' f' t' g' m4 m5 s f t g = some true := by
  rw [concordatlaw07_PacketsLines.j1, text_f h, text_f h, text_f h']
  simp only [Option.bind_some, if_true]
  have e : ((textP s f t g).toList == (textP s' f' t' g').toList) = x := by
    rw [str_beq, Bool.eq_iff_iff, decide_eq_true_eq, text_inj h h', hx]
  rw [e]
  simp
theorem PacketsLines_ev (s f t g s' f' t' g' : Int) (l4 m4 : List OpT) (l5 m5 : List ResultT) (h : textOk s f t g) (h' : textOk s' f' t' g') (hl : listsOk l4 l5) (hl' : listsOk m4 m5) : ∃ k, concordatlaw07_PacketsLines.f k s f t g l4 l5 s' f' t' g' m4 m5 = some true := by
  refine Ev.rounds (g := fun k => concordatlaw07_PacketsLines.f k s f t g l4 l5 s' f' t' g' m4 m5) ?_
  obtain ⟨n, hn, n0, n1, _⟩ := msgSize7 s f t g l4 l5 hl
  obtain ⟨n', hn', n0', n1', _⟩ := msgSize7 s' f' t' g' m4 m5 hl'
  unfold concordatlaw07_PacketsLines.f concordatlaw07_alive.f
  simp only [Option.bind_some, if_true]
  refine Ev.bind hn (Ev.bind hn' ?_)
  refine Ev.step (f := fun k => if (decide ((wrap64 (n + n')) > 5000)) = true then some true else (concordatlaw07_PacketsLines.j1 k (decide (s = s' ∧ f = f' ∧ t = t' ∧ g = g')) s f t g l4 l5 s' f' t' g' m4 m5 s f t g)) (fun k => ?_) ?_
  · rw [concordatlaw07_PacketsLines.j0]
    by_cases c : (decide ((wrap64 (n + n')) > 5000)) = true
    · rw [if_pos c, if_pos c]
      rfl
    · rw [if_neg c, if_neg c]
      by_cases c0 : s = s'
      · rw [if_pos c0]
        by_cases c1 : f = f'
        · rw [if_pos c1]
          by_cases c2 : t = t'
          · rw [if_pos c2]
            have : (g == g') = decide (s = s' ∧ f = f' ∧ t = t' ∧ g = g') := by
              rw [Bool.eq_iff_iff]
              simp [c0, c1, c2]
            rw [this]
          · rw [if_neg c2, decide_eq_false (fun e => c2 e.2.2.1)]
        · rw [if_neg c1, decide_eq_false (fun e => c1 e.2.1)]
      · rw [if_neg c0, decide_eq_false (fun e => c0 e.1)]
  · by_cases c : (decide ((wrap64 (n + n')) > 5000)) = true
    · simp only [if_pos c]
      exact Ev.now _
    · simp only [if_neg c]
      exact Ev.step (f := fun _ => some true) (fun k => lines_j1 k _ s f t g s' f' t' g' l4 m4 l5 m5 h h' (by rw [decide_eq_true_eq])) (Ev.now _)
end Go.Proofs.YtcohodkpppmaoaaDoor.Q
