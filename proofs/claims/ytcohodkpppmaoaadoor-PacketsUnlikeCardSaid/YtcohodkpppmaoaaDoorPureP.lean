/-
  The pure side of layer 7: what is put is got; what is got was put so; messages that are compared.
-/
import Derived.Test.YtcohodkpppmaoaaDoorPureGet
import Derived.Test.YtcohodkpppmaoaaDoorSame2
import Derived.Test.YtcohodkpppmaoaaDoorPPut
import Derived.Test.YtcohodkpppmaoaaDoorPText
namespace Go.Proofs.YtcohodkpppmaoaaDoor.Q
open Go.RowKit Go.Proofs.YtcohodkpppmaoaaDoorW.PrintWords Go.Proofs.YtcohodkpppmaoaaDoorW.PrintLast Go.Proofs.YtcohodkpppmaoaaDoorW.PrintMore
set_option linter.unusedVariables false

/-! ### how long what is put may be -/
theorem opB_len7 (x : OpT) (h : opE x = 0) : (opB x).length ≤ 39 := by
  have := op_sizes x h
  simp only [opB, List.length_append, List.length_cons, List.length_nil, textB_length, num4_length]
  omega
theorem rowB_len7 (x : RowT) (h : isKey x.f0 = true) : (rowB x).length ≤ 21 := by
  have := (isKey_size _ h).2
  simp only [rowB, List.length_append, textB_length, num4_length]
  omega
theorem resE_zero (x : ResultT) (h : resultE x = 0) : x.f0.length ≤ 256 ∧ ∀ r ∈ x.f0, isKey r.f0 = true := by
  unfold resultE at h
  by_cases c : mayRows x.f0 = true
  · rw [if_pos c] at h
    by_cases d : x.f0.length ≤ 256
    · exact ⟨d, fun r hr => by unfold mayRows at c; exact List.all_eq_true.1 c r hr⟩
    · rw [if_neg d] at h
      cases h
  · rw [if_neg c] at h
    cases h
theorem resB_len7 (x : ResultT) (h : resultE x = 0) : (resultB x).length ≤ 5378 := by
  obtain ⟨h1, h2⟩ := resE_zero x h
  have h3 := flatMap_len_le rowB 21 x.f0 (fun r hr => rowB_len7 r (h2 r hr))
  simp only [resultB, rowsB, List.length_append, num2_length]
  omega
theorem putOps_len (l : List OpT) : (putOps l).1.length ≤ 1000 := by
  by_cases h : (putOps l).2 = 0
  · obtain ⟨h1, h2, h3⟩ := putList_ok opE_cases h
    have e : (putOps l).1 = num2 l.length ++ l.flatMap opB := h3
    have h4 := flatMap_len_le opB 39 l (fun x hx => opB_len7 x (h1 x hx))
    rw [e, List.length_append, num2_length]
    omega
  · have e : (putOps l).1 = [] := putList_err h
    rw [e]
    simp
theorem putResults_len (l : List ResultT) : (putResults l).1.length ≤ 100000 := by
  by_cases h : (putResults l).2 = 0
  · obtain ⟨h1, h2, h3⟩ := putList_ok resultE_cases h
    have e : (putResults l).1 = num2 l.length ++ l.flatMap resultB := h3
    have h4 := flatMap_len_le resultB 5378 l (fun x hx => resB_len7 x (h1 x hx))
    rw [e, List.length_append, num2_length]
    omega
  · have e : (putResults l).1 = [] := putList_err h
    rw [e]
    simp
theorem room_of (l4 : List OpT) (l5 : List ResultT) (h4 : l4.length ≤ 1000000000) (h5 : l5.length ≤ 1000000000) (hr : ∀ x ∈ l5, x.f0.length ≤ 9223372036854775807) : roomP l4 l5 :=
  ⟨h4, h5, hr, by have := putOps_len l4; omega, by have := putResults_len l5; omega⟩
theorem put_f {s f t g : Int} {l4 : List OpT} {l5 : List ResultT} (h : roomP l4 l5) : packets_Put.f s f t g l4 l5 = some (putP s f t g l4 l5) := if_pos h
theorem get_f {b : List Int} (h : inB b) : packets_Get.f b = some (getP b) := if_pos h
theorem text_f {s f t g : Int} {l4 : List OpT} {l5 : List ResultT} (h : textOk s f t g) : packets_Text.f s f t g l4 l5 = some (textP s f t g) := if_pos h

/-! ### what is put is got -/
theorem mayH_iff {s f t : Int} : mayH s f t = true ↔ 1 ≤ s ∧ s ≤ 7 ∧ f < 4 ∧ t < 4 := by
  unfold mayH
  simp
  omega
theorem bytesP_cons (s f t g : Int) (o r : List Int) : bytesP s f t g o r = s :: f :: t :: (num4 g ++ (num4 o.length ++ (o ++ r))) := by
  unfold bytesP headP
  simp
theorem drop_app {α : Type} (a b : List α) (n : Nat) (h : a.length = n) : (a ++ b).drop n = b := by
  subst h
  simp
theorem take_app {α : Type} (a b : List α) (n : Nat) (h : a.length = n) : (a ++ b).take n = a := by
  subst h
  simp
theorem bytesP_parts (s f t g : Int) (o r : List Int) : (bytesP s f t g o r).drop 3 = num4 g ++ (num4 o.length ++ (o ++ r)) ∧ (bytesP s f t g o r).drop 7 = num4 o.length ++ (o ++ r) ∧ (bytesP s f t g o r).drop 11 = o ++ r := by
  rw [bytesP_cons]
  exact ⟨rfl, rfl, rfl⟩
theorem bytesP_len (s f t g : Int) (o r : List Int) : (bytesP s f t g o r).length = 11 + o.length + r.length := by
  rw [bytesP_cons]
  simp only [List.length_cons, List.length_append, num4_length]
  omega
theorem get_bytes (s f t g : Int) (o r : List Int) (hm : mayH s f t = true) (hg : 0 ≤ g ∧ g ≤ 4294967295) (ho : o.length ≤ 1000) (l4 : List OpT) (l5 : List ResultT)
    (h4 : getR opR opS putOps o = (l4, 0)) (h5 : getR resR resS putResults r = (l5, 0)) : getP (bytesP s f t g o r) = (s, f, t, g, l4, l5, 0) := by
  obtain ⟨d3, d7, d11⟩ := bytesP_parts s f t g o r
  have hl := bytesP_len s f t g o r
  have hn : lenP (bytesP s f t g o r) = o.length := by
    unfold lenP
    rw [d7, take_app _ _ 4 (num4_length _), fold_num4 _ (by omega) (by omega)]
  have hg4 : foldN (((bytesP s f t g o r).drop 3).take 4) = g := by rw [d3, take_app _ _ 4 (num4_length _), fold_num4 _ hg.1 hg.2]
  have e0 : (bytesP s f t g o r).getD 0 0 = s := by rw [bytesP_cons]; rfl
  have e1 : (bytesP s f t g o r).getD 1 0 = f := by rw [bytesP_cons]; rfl
  have e2 : (bytesP s f t g o r).getD 2 0 = t := by rw [bytesP_cons]; rfl
  have ho' : opsP (bytesP s f t g o r) = (l4, 0) := by unfold opsP; rw [d11, hn, Int.toNat_natCast, take_app _ _ _ rfl, h4]
  have hr' : resP (bytesP s f t g o r) = (l5, 0) := by unfold resP; rw [d11, hn, Int.toNat_natCast, drop_app _ _ _ rfl, h5]
  unfold getP
  rw [if_neg (by omega), e0, e1, e2, hm, hn, if_pos (by simp; omega), ho', if_pos rfl, hr', if_pos rfl, hg4]
theorem put_zero {s f t g : Int} {l4 : List OpT} {l5 : List ResultT} (h : (putP s f t g l4 l5).2 = 0) : mayH s f t = true ∧ (putOps l4).2 = 0 ∧ (putResults l5).2 = 0 ∧ (putP s f t g l4 l5).1 = bytesP s f t g (putOps l4).1 (putResults l5).1 := by
  unfold putP at h ⊢
  by_cases hm : mayH s f t = true
  · rw [if_pos hm] at h ⊢
    by_cases he : errP (putOps l4).2 (putResults l5).2 = 0
    · rw [if_pos he]
      unfold errP at he
      split at he
      · cases he
      · split at he
        · exact ⟨hm, by assumption, he, rfl⟩
        · contradiction
    · rw [if_neg he] at h
      exact absurd h he
  · rw [if_neg hm] at h
    cases h
/-- A message that is put is got. -/
theorem get_put {s f t g : Int} {l4 : List OpT} {l5 : List ResultT} (hg : 0 ≤ g ∧ g ≤ 4294967295) (h4 : ∀ x ∈ l4, opOk x) (h5 : ∀ x ∈ l5, resultOk x) (h : (putP s f t g l4 l5).2 = 0) : getP (putP s f t g l4 l5).1 = (s, f, t, g, l4, l5, 0) := by
  obtain ⟨hm, ho, hr, e⟩ := put_zero h
  rw [e]
  exact get_bytes s f t g _ _ hm hg (putOps_len _) l4 l5 (getOps_put l4 h4 ho) (getResults_put l5 h5 hr)
theorem put_inP {s f t g : Int} {l4 : List OpT} {l5 : List ResultT} (hs : 0 ≤ s) (hf : 0 ≤ f) (ht : 0 ≤ t) (h4 : ∀ x ∈ l4, opOk x) (h5 : ∀ x ∈ l5, resultOk x) (h : (putP s f t g l4 l5).2 = 0) : inB (putP s f t g l4 l5).1 := by
  obtain ⟨hm, ho, hr, e⟩ := put_zero h
  have hm' := mayH_iff.1 hm
  rw [e]
  unfold bytesP headP
  refine inB_app (inB_app (inB_app ?_ (inB_num4 _)) (inB_app (inB_num4 _) (put_inB opE_cases ho (fun x hx => inB_op x (h4 x hx))))) (put_inB resultE_cases hr (fun x _ => inB_result x))
  intro x hx
  simp at hx
  omega

/-! ### what is got was put so -/
theorem num4_fold {x : List Int} (h : x.length = 4) (hb : inB x) : num4 (foldN x) = x := by
  match x, h with
  | [a, b, c, d], _ =>
    have ha := hb a (by simp)
    have hb' := hb b (by simp)
    have hc := hb c (by simp)
    have hd := hb d (by simp)
    simp only [foldN, num4, List.foldl_cons, List.foldl_nil, List.cons.injEq, and_true]
    omega
theorem split11 (b : List Int) (hl : 11 ≤ b.length) (n : Nat) : b = b.getD 0 0 :: b.getD 1 0 :: b.getD 2 0 :: ((b.drop 3).take 4 ++ ((b.drop 7).take 4 ++ ((b.drop 11).take n ++ (b.drop 11).drop n))) := by
  match b, hl with
  | x0 :: x1 :: x2 :: x3 :: x4 :: x5 :: x6 :: x7 :: x8 :: x9 :: x10 :: r, _ => simp
theorem inB_drop {b : List Int} (h : inB b) (n : Nat) : inB (b.drop n) := fun x hx => h x (List.mem_of_mem_drop hx)
theorem inB_take {b : List Int} (h : inB b) (n : Nat) : inB (b.take n) := fun x hx => h x (List.mem_of_mem_take hx)
theorem got_put {b : List Int} (hb : inB b) {s f t g : Int} {l4 : List OpT} {l5 : List ResultT} {e : Int} (h : getP b = (s, f, t, g, l4, l5, e)) :
    (e = 4 ∧ s = 0 ∧ l4 = [] ∧ l5 = []) ∨ (e = 0 ∧ putP s f t g l4 l5 = (b, 0) ∧ roomP l4 l5) := by
  have no : ∀ {c : Int}, noMsg c = (s, f, t, g, l4, l5, e) → c = 4 → (e = 4 ∧ s = 0 ∧ l4 = [] ∧ l5 = []) := by
    intro c hc h4
    unfold noMsg at hc
    simp only [Prod.mk.injEq] at hc
    obtain ⟨h1, h2, h3, h5, h6, h7, h8⟩ := hc
    exact ⟨by omega, h1.symm, h6.symm, h7.symm⟩
  unfold getP at h
  by_cases hl : b.length < 11
  · rw [if_pos hl] at h
    exact .inl (no h rfl)
  rw [if_neg hl] at h
  by_cases hm : (mayH (b.getD 0 0) (b.getD 1 0) (b.getD 2 0) && decide (lenP b ≤ (b.length : Int) - 11)) = true
  · rw [if_pos hm] at h
    obtain ⟨hm1, hm2⟩ := Bool.and_eq_true_iff.1 hm
    have hn := of_decide_eq_true hm2
    have hn0 : 0 ≤ lenP b := (foldN_range _).1
    obtain ⟨o1, o2, ho⟩ : ∃ o1 o2, opsP b = (o1, o2) := ⟨_, _, rfl⟩
    obtain ⟨r1, r2, hr⟩ : ∃ r1 r2, resP b = (r1, r2) := ⟨_, _, rfl⟩
    have go := gotOps (show getR opR opS putOps ((b.drop 11).take (lenP b).toNat) = (o1, o2) from ho) (inB_take (inB_drop hb _) _)
    have gr := gotResults (show getR resR resS putResults ((b.drop 11).drop (lenP b).toNat) = (r1, r2) from hr) (inB_drop (inB_drop hb _) _)
    rw [ho, hr] at h
    dsimp only at h
    by_cases c1 : o2 = 0
    · rw [if_pos c1] at h
      by_cases c2 : r2 = 0
      · rw [if_pos c2] at h
        simp only [Prod.mk.injEq] at h
        obtain ⟨rfl, rfl, rfl, rfl, rfl, rfl, rfl⟩ := h
        rcases go with ⟨k, _⟩ | ⟨_, go1, go2, go3⟩
        · omega
        rcases gr with ⟨k, _⟩ | ⟨_, gr1, gr2, gr3, gr4⟩
        · omega
        refine .inr ⟨rfl, ?_, room_of _ _ (by omega) (by omega) gr4⟩
        unfold putP
        rw [if_pos hm1, go2, gr2, show errP 0 0 = 0 from rfl, if_pos rfl, go3, gr3, bytesP_cons]
        have e1 : ((b.drop 11).take (lenP b).toNat).length = (lenP b).toNat := by
          rw [List.length_take, List.length_drop]
          omega
        have e2 : ((((b.drop 11).take (lenP b).toNat).length : Nat) : Int) = foldN ((b.drop 7).take 4) := by
          rw [e1]
          unfold lenP at hn0 ⊢
          omega
        have l3 : ((b.drop 3).take 4).length = 4 := by rw [List.length_take, List.length_drop]; omega
        have l7 : ((b.drop 7).take 4).length = 4 := by rw [List.length_take, List.length_drop]; omega
        rw [e2, num4_fold l3 (inB_take (inB_drop hb _) _), num4_fold l7 (inB_take (inB_drop hb _) _), ← split11 b (by omega)]
      · rw [if_neg c2] at h
        rcases gr with ⟨k, _⟩ | ⟨k, _⟩
        · exact .inl (no h k)
        · exact absurd k c2
    · rw [if_neg c1] at h
      rcases go with ⟨k, _⟩ | ⟨k, _⟩
      · exact .inl (no h k)
      · exact absurd k c1
  · rw [if_neg hm] at h
    exact .inl (no h rfl)
theorem put_len {s f t g : Int} {l4 : List OpT} {l5 : List ResultT} (h : (putP s f t g l4 l5).2 = 0) : (putP s f t g l4 l5).1.length ≤ 200000 := by
  obtain ⟨_, _, _, e⟩ := put_zero h
  rw [e, bytesP_len]
  have h1 := putOps_len l4
  have h2 := putResults_len l5
  omega
end Go.Proofs.YtcohodkpppmaoaaDoor.Q
