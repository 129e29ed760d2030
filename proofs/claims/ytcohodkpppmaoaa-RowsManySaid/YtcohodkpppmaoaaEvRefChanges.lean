/-
  The reference's PutChanges, and the comparison of two rows of bytes, as printed: the plain words of XSpec.
-/
import Derived.Test.YtcohodkpppmaoaaQC5
import Derived.Test.YtcohodkpppmaoaaQR1
import Derived.Test.YtcohodkpppmaoaaQR2
import Derived.Test.YtcohodkpppmaoaaEvRef1
import Derived.Test.YtcohodkpppmaoaaEvPut
namespace Go.Proofs.Ytcohodkpppmaoaa.Q
open Go.RowKit Go.Proofs.YtcohodkpppmaoaaW.PrintWords Go.Proofs.YtcohodkpppmaoaaW.PrintLast Go.Proofs.YtcohodkpppmaoaaW.PrintMore

theorem refCount_eq (n : Int) (h0 : 0 ≤ n) (h1 : n ≤ 1000000000) : concordatref02_Count.f n = some (num2 n) := by
  unfold concordatref02_Count.f num2
  rw [Int.tdiv_eq_ediv_of_nonneg h0, wrap_id _ (by omega) (by omega)]
theorem refNumber_eq (n : Int) (h : u32Ok n) : concordatref02_Number.f n = some (num4 n) := by
  obtain ⟨h0, h1⟩ := h
  unfold concordatref02_Number.f num4
  rw [Int.tdiv_eq_ediv_of_nonneg h0, Int.tdiv_eq_ediv_of_nonneg h0, Int.tdiv_eq_ediv_of_nonneg h0]
  rw [Int.emod_eq_of_lt (a := n / 16777216) (by omega) (by omega), Int.emod_eq_of_lt (a := n / 65536) (by omega) (by omega), Int.emod_eq_of_lt (a := n / 256) (by omega) (by omega)]
theorem refText_eq (s : ByteArray) (h : s.size ≤ 1000000000) : concordatref02_text.f s = some (textB s) := by
  unfold concordatref02_text.f textB
  simp only [Option.bind_some, List.length_singleton]
  rw [if_pos (by omega)]
  simp

theorem sameBytes_from (a b : List Int) (hab : a.length = b.length) (hl : a.length ≤ 9223372036854775807) (d : Nat) : ∀ (i : Nat), i ≤ a.length → a.length - i = d → a.take i = b.take i →
    Ev (fun k => concordatlaw01_SameBytes.l0 k a b (i : Int)) (decide (a = b)) := by
  induction d with
  | zero =>
    intro i h0 h1 hp
    rw [List.take_of_length_le (by omega), List.take_of_length_le (by omega)] at hp
    refine Ev.step (f := fun _ => some true) (fun k => ?_) (ev_const (by simp [hp]))
    simp only [concordatlaw01_SameBytes.l0]
    rw [if_neg (by omega)]
  | succ d ih =>
    intro i h0 h1 hp
    have hi : i < a.length := by omega
    have hj : i < b.length := by omega
    have ha : rd a (i : Int) = a[i] := by simp [rd, hi]
    have hb : rd b (i : Int) = b[i] := by simp [rd, hj]
    by_cases c : a[i] = b[i]
    · refine Ev.step (f := fun k => concordatlaw01_SameBytes.l0 k a b (wrap64 ((i : Int) + 1))) (fun k => ?_) ?_
      · simp only [concordatlaw01_SameBytes.l0]
        rw [if_pos (by omega), if_pos (by omega), if_pos (by omega), ha, hb, if_pos c]
      · rw [wrap_id _ (by omega) (by omega)]
        exact ih (i + 1) (by omega) (by omega) (by rw [List.take_succ_eq_append_getElem hi, List.take_succ_eq_append_getElem hj, hp, c])
    · refine Ev.step (f := fun _ => some false) (fun k => ?_) (ev_const ?_)
      · simp only [concordatlaw01_SameBytes.l0]
        rw [if_pos (by omega), if_pos (by omega), if_pos (by omega), ha, hb, if_neg c]
      · have : ¬ a = b := fun e => c (by subst e; rfl)
        simp [this]
theorem ev_SameBytes (a b : List Int) (hl : a.length ≤ 9223372036854775807) : Ev (fun k => concordatlaw01_SameBytes.f k a b) (decide (a = b)) := by
  unfold concordatlaw01_SameBytes.f
  by_cases c : (a.length : Int) = (b.length : Int)
  · simp only [if_pos c]
    exact sameBytes_from a b (by omega) hl a.length 0 (by omega) (by omega) (by simp)
  · simp only [if_neg c]
    refine ev_const ?_
    have : ¬ a = b := fun e => c (by subst e; rfl)
    simp [this]

theorem refChanges_scan (l : List ChangeT) (hl : l.length ≤ 1000000000) (hs : ∀ x ∈ l, x.f0.size ≤ 140737488351232) (d : Nat) : ∀ (i : Nat), i ≤ l.length → l.length - i = d → (∀ x ∈ l.take i, changeE x ≠ 1) → ∀ (r : List Int × Int),
    (l.any (fun x => changeE x == 1) = true → r = ([], 1)) →
    (l.any (fun x => changeE x == 1) = false → Ev (fun k => if (l.length : Int) > 4096 then (some (([] : List Int), 3)) else ((concordatref02_Count.f (l.length : Int)).bind fun t => (concordatref02_PutChanges.l1 k l t 0))) r) →
    Ev (fun k => concordatref02_PutChanges.l0 k l (i : Int)) r := by
  induction d with
  | zero =>
    intro i h0 h1 hp r hr1 hr2
    have e : l.take i = l := List.take_of_length_le (by omega)
    rw [e] at hp
    have hno : l.any (fun x => changeE x == 1) = false := by
      rw [List.any_eq_false]
      intro x hx
      simpa using hp x hx
    refine Ev.step (fun k => ?_) (hr2 hno)
    simp only [concordatref02_PutChanges.l0]
    rw [if_neg (by omega)]
  | succ d ih =>
    intro i h0 h1 hp r hr1 hr2
    have hi : i < l.length := by omega
    have hrd : rd_T26 l (i : Int) = l[i] := by simp [rd_T26, hi]
    have htk : l.take (i + 1) = l.take i ++ [l[i]] := List.take_succ_eq_append_getElem hi
    have hbad : changeE l[i] = 1 → some (([] : List Int), (1 : Int)) = some r := by
      intro h
      rw [hr1 (by rw [List.any_eq_true]; exact ⟨l[i], List.getElem_mem _, by simp [h]⟩)]
    have hgo : changeE l[i] ≠ 1 → Ev (fun k => concordatref02_PutChanges.l0 k l (wrap64 ((i : Int) + 1))) r := by
      intro h
      rw [wrap_id _ (by omega) (by omega)]
      refine ih (i + 1) (by omega) (by omega) ?_ r hr1 hr2
      rw [htk]
      intro x hx
      rcases List.mem_append.1 hx with hx | hx
      · exact hp x hx
      · rw [List.mem_singleton.1 hx]; exact h
    refine Ev.step (f := fun k => (concordatref01_Check.f k l[i].f0).bind fun t => (if t = true then (if l[i].f2 = true then (if l[i].f1 = 0 then (concordatref02_PutChanges.l0 k l (wrap64 ((i : Int) + 1))) else (some (([] : List Int), 1))) else (concordatref02_PutChanges.l0 k l (wrap64 ((i : Int) + 1)))) else (some (([] : List Int), 1)))) (fun k => ?_) ?_
    · simp only [concordatref02_PutChanges.l0]
      rw [if_pos (by omega), if_pos (by omega), hrd]
    · refine Ev.bind (ev_refCheck _ (hs _ (List.getElem_mem _))) ?_
      cases hk : isKey l[i].f0 with
      | false =>
        simp only [Bool.false_eq_true, if_false]
        exact ev_const (hbad (by simp [changeE, mayChange, hk]))
      | true =>
        simp only [if_true]
        cases hg : l[i].f2 with
        | false =>
          simp only [Bool.false_eq_true, if_false]
          exact hgo (by simp [changeE, mayChange, hk, hg])
        | true =>
          simp only [if_true]
          by_cases c : l[i].f1 = 0
          · simp only [if_pos c]
            exact hgo (by simp [changeE, mayChange, hk, hg, c])
          · simp only [if_neg c]
            exact ev_const (hbad (by simp [changeE, mayChange, hk, hg, c]))

theorem refChanges_put (l : List ChangeT) (hl : l.length ≤ 1000000) (hw : ∀ x ∈ l, changeOk x) (hok : ∀ x ∈ l, changeE x = 0) (d : Nat) : ∀ (b : List Int) (i : Nat), i ≤ l.length → l.length - i = d → b.length + 64 * (l.length - i) + 64 < 140737488355328 →
    Ev (fun k => concordatref02_PutChanges.l1 k l b (i : Int)) (b ++ (l.drop i).flatMap changeB, 0) := by
  induction d with
  | zero =>
    intro b i h0 h1 hb
    refine Ev.step (f := fun _ => some (b, 0)) (fun k => ?_) ?_
    · simp only [concordatref02_PutChanges.l1]
      rw [if_neg (by omega)]
    · refine ev_const ?_
      rw [List.drop_eq_nil_of_le (by omega)]
      simp
  | succ d ih =>
    intro b i h0 h1 hb
    have hi : i < l.length := by omega
    have hrd : rd_T26 l (i : Int) = l[i] := by simp [rd_T26, hi]
    have hoi := hok l[i] (List.getElem_mem _)
    have hlen := change_len l[i] hoi
    have hlb : (changeB l[i]).length = l[i].f0.size + 6 := by simp [changeB, textB_length, num4_length]
    refine Ev.step (f := fun k => concordatref02_PutChanges.l1 k l (b ++ changeB l[i]) (wrap64 ((i : Int) + 1))) (fun k => ?_) ?_
    · simp only [concordatref02_PutChanges.l1]
      rw [if_pos (by omega), if_pos (by omega), hrd, refText_eq _ (by omega), refNumber_eq _ (hw _ (List.getElem_mem _))]
      simp only [Option.bind_some]
      rw [if_pos (by rw [textB_length]; omega)]
      cases hg : l[i].f2 with
      | true =>
        simp only [if_true]
        rw [if_pos (by simp [textB_length]; omega), if_pos (by simp [textB_length, num4_length]; omega)]
        simp [changeB, hg]
      | false =>
        simp only [Bool.false_eq_true, if_false]
        rw [if_pos (by simp [textB_length]; omega), if_pos (by simp [textB_length, num4_length]; omega)]
        simp [changeB, hg]
    · rw [wrap_id _ (by omega) (by omega)]
      refine ev_eq ?_ (ih (b ++ changeB l[i]) (i + 1) (by omega) (by omega) (by rw [List.length_append]; omega))
      rw [List.drop_eq_getElem_cons hi, List.flatMap_cons]
      simp only [List.append_assoc]

theorem ev_refPutChanges (l : List ChangeT) (hl : l.length ≤ 1000000) (hs : ∀ x ∈ l, x.f0.size ≤ 140737488351232) (hw : ∀ x ∈ l, changeOk x) : Ev (fun k => concordatref02_PutChanges.f k l) (putChanges l) := by
  unfold concordatref02_PutChanges.f
  refine refChanges_scan l (by omega) hs l.length 0 (by omega) (by omega) (by simp) _ ?_ ?_
  · intro h
    unfold putChanges putList
    rw [if_pos h]
  · intro h
    have h3 : l.any (fun x => changeE x == 3) = false := by
      rw [List.any_eq_false]
      intro x _
      unfold changeE
      split <;> simp
    unfold putChanges putList
    rw [h, h3]
    by_cases hm : (l.length : Int) > 4096
    · have hm' : 4096 < l.length := by omega
      simp only [if_pos hm]
      refine ev_const ?_
      simp [hm']
    · have hm' : ¬ 4096 < l.length := by omega
      simp only [if_neg hm]
      rw [refCount_eq _ (by omega) (by omega)]
      simp only [Option.bind_some]
      have hok : ∀ x ∈ l, changeE x = 0 := by
        intro x hx
        rw [List.any_eq_false] at h
        have a1 := h x hx
        simp at a1
        unfold changeE at *; split at a1 <;> simp_all
      refine ev_eq ?_ (refChanges_put l hl hw hok l.length (num2 l.length) 0 (by omega) (by omega) (by simp [num2_length]; omega))
      simp [hm']

end Go.Proofs.Ytcohodkpppmaoaa.Q
