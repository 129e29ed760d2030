/-
  What the printed rows.put.. functions come to: the plain words of XSpec.
  The reader of bytes (rows.reader): where it stands; take, number, text.
  One op, one change, one row off the reader.
  As many as their count tells: ops, changes, rows, results.
  rows.get: a list that is put as it was.
  Results: copies with a mark behind each list, and whether they are as they were.
-/
import Derived.Test.YtcohodkpppmaoaaGreatDoorMR1
import Derived.Test.YtcohodkpppmaoaaGreatDoorMR2
import Derived.Test.YtcohodkpppmaoaaGreatDoorMR3
import Derived.Test.YtcohodkpppmaoaaGreatDoorMR5
import Derived.BigRegion
import Derived.Test.YtcohodkpppmaoaaGreatDoorMR7
import Derived.BigQuiet
import Derived.WalkSpells
set_option linter.unusedSimpArgs false
set_option linter.unusedVariables false
namespace Go.Proofs.YtcohodkpppmaoaaGreatDoor.Q
open Go.RowKit Go.Proofs.YtcohodkpppmaoaaGreatDoorW.PrintWords Go.Proofs.YtcohodkpppmaoaaGreatDoorW.PrintLast Go.Proofs.YtcohodkpppmaoaaGreatDoorW.PrintMore

theorem wrap_id (x : Int) (h0 : -9223372036854775808 ≤ x) (h1 : x ≤ 9223372036854775807) : wrap64 x = x := by
  unfold wrap64
  omega
theorem ev_eq {α : Type} {g : Nat → Option α} {a b : α} (h : a = b) (k : Ev g a) : Ev g b := h ▸ k
theorem ev_const {α : Type} {o : Option α} {a : α} (h : o = some a) : Ev (fun _ => o) a := ⟨0, fun _ _ => h⟩

theorem number_step (k : Nat) (b : List Int) (n : Int) (j : Nat) (hj : j ≤ 3) (hb : b.length < 140737488355328) :
    rows_number.l0 (k + 1) b n (j : Int) = rows_number.l0 k (b ++ [n / 2 ^ (8 * j) % 256]) n ((j : Int) - 1) := by
  have e1 : wrap64 (8 * (j : Int)) = ((8 * j : Nat) : Int) := by rw [wrap_id _ (by omega) (by omega)]; omega
  have e2 : wrap64 ((j : Int) - 1) = (j : Int) - 1 := wrap_id _ (by omega) (by omega)
  have e3 : shr .u32 n ((8 * j : Nat) : Int) = n / 2 ^ (8 * j) := by
    unfold shr
    have : min (((8 * j : Nat) : Int).toNat) IntKind.u32.bits = 8 * j := by
      rw [Int.toNat_natCast]
      show min (8 * j) 32 = 8 * j
      omega
    rw [this]
  simp only [rows_number.l0]
  rw [if_pos (by omega), e1, if_pos (by omega), if_pos hb, e2, e3]
theorem number_end (k : Nat) (b : List Int) (n : Int) : rows_number.l0 (k + 1) b n (-1) = some b := by
  simp only [rows_number.l0]
  rw [if_neg (by omega)]
theorem ev_number4 (b : List Int) (n : Int) (hb : b.length + 4 < 140737488355328) : Ev (fun k => rows_number.f k b n 4) (b ++ num4 n) := by
  refine ⟨5, fun k hk => ?_⟩
  obtain ⟨k, rfl⟩ : ∃ m, k = m + 5 := ⟨k - 5, by omega⟩
  show rows_number.l0 (k + 5) b n (wrap64 (4 - 1)) = some (b ++ num4 n)
  rw [show wrap64 (4 - 1) = ((3 : Nat) : Int) from by unfold wrap64; omega, show k + 5 = (k + 4) + 1 from rfl, number_step _ _ _ 3 (by omega) (by omega)]
  rw [show ((3 : Nat) : Int) - 1 = ((2 : Nat) : Int) from rfl, show k + 4 = (k + 3) + 1 from rfl, number_step _ _ _ 2 (by omega) (by simp; omega)]
  rw [show ((2 : Nat) : Int) - 1 = ((1 : Nat) : Int) from rfl, show k + 3 = (k + 2) + 1 from rfl, number_step _ _ _ 1 (by omega) (by simp; omega)]
  rw [show ((1 : Nat) : Int) - 1 = ((0 : Nat) : Int) from rfl, show k + 2 = (k + 1) + 1 from rfl, number_step _ _ _ 0 (by omega) (by simp; omega)]
  rw [show ((0 : Nat) : Int) - 1 = -1 from rfl, number_end]
  simp [num4]
theorem ev_number2 (b : List Int) (n : Int) (hb : b.length + 2 < 140737488355328) : Ev (fun k => rows_number.f k b n 2) (b ++ num2 n) := by
  refine ⟨3, fun k hk => ?_⟩
  obtain ⟨k, rfl⟩ : ∃ m, k = m + 3 := ⟨k - 3, by omega⟩
  show rows_number.l0 (k + 3) b n (wrap64 (2 - 1)) = some (b ++ num2 n)
  rw [show wrap64 (2 - 1) = ((1 : Nat) : Int) from by unfold wrap64; omega, show k + 3 = (k + 2) + 1 from rfl, number_step _ _ _ 1 (by omega) (by omega)]
  rw [show ((1 : Nat) : Int) - 1 = ((0 : Nat) : Int) from rfl, show k + 2 = (k + 1) + 1 from rfl, number_step _ _ _ 0 (by omega) (by simp; omega)]
  rw [show ((0 : Nat) : Int) - 1 = -1 from rfl, number_end]
  simp [num2]
theorem num2_mod (n : Int) (h0 : 0 ≤ n) (h1 : n ≤ 4294967295) : num2 (n % 4294967296) = num2 n := by
  rw [Int.emod_eq_of_lt h0 (by omega)]
theorem text_eq (b : List Int) (s : ByteArray) (h : b.length + 1 + s.size < 140737488355328) : rows_text.f b s = some (b ++ textB s) := by
  unfold rows_text.f
  rw [if_pos h]
  simp [textB]
theorem isKey_size (s : ByteArray) (h : isKey s = true) : 1 ≤ s.size ∧ s.size ≤ 16 := by
  unfold isKey at h
  simp at h
  exact h.1

theorem fine_from (l : List RowT) (hl : l.length ≤ 9223372036854775807) (d : Nat) : ∀ i : Nat, i ≤ l.length → l.length - i = d → mayRows (l.take i) = true →
    Ev (fun k => rows_fine.l0 k l (l.length : Int) (i : Int) l) (if mayRows l then (if l.length ≤ 256 then 0 else 3) else 1) := by
  induction d with
  | zero =>
    intro i h0 h1 hp
    have e : l.take i = l := List.take_of_length_le (by omega)
    rw [e] at hp
    refine Ev.step (f := fun _ => (rows_asks.f (decide ((l.length : Int) ≤ 256)) 3).bind fun t => some t) (fun k => ?_) ?_
    · simp only [rows_fine.l0]
      rw [if_neg (by omega)]
    · refine ev_const ?_
      rw [hp]
      unfold rows_asks.f
      by_cases c : l.length ≤ 256
      · have c' : (l.length : Int) ≤ 256 := by omega
        simp [c, c']
      · have c' : ¬ (l.length : Int) ≤ 256 := by omega
        simp [c, c']
  | succ d ih =>
    intro i h0 h1 hp
    have hi : i < l.length := by omega
    have hrd : rd_T148 l (i : Int) = l[i] := by simp [rd_T148, hi]
    have ht : mayRows (l.take (i + 1)) = (mayRows (l.take i) && isKey (l[i].f0)) := by
      unfold mayRows
      rw [List.take_succ_eq_append_getElem hi]
      simp only [List.all_append, List.all_cons, List.all_nil, Bool.and_true]
    cases hk : isKey (l[i].f0) with
    | true =>
      refine Ev.step (f := fun k => rows_fine.l0 k l (l.length : Int) (wrap64 ((i : Int) + 1)) l) (fun k => ?_) ?_
      · simp only [rows_fine.l0]
        rw [if_pos (by omega), if_pos (by omega), if_pos (by omega), hrd]
        simp only [keys_Check.f, hk, Option.bind_some, if_true]
      · rw [wrap_id _ (by omega) (by omega)]
        exact ih (i + 1) (by omega) (by omega) (by rw [ht, hp, hk]; rfl)
    | false =>
      refine Ev.step (f := fun _ => some 1) (fun k => ?_) ?_
      · simp only [rows_fine.l0]
        rw [if_pos (by omega), if_pos (by omega), if_pos (by omega), hrd]
        simp only [keys_Check.f, hk, Option.bind_some, Bool.false_eq_true, if_false]
      · refine ev_const ?_
        have : mayRows l = false := by
          unfold mayRows
          rw [List.all_eq_false]
          exact ⟨l[i], List.getElem_mem _, by simp [hk]⟩
        simp [this]
theorem ev_result_may (x : ResultT) (hl : x.f0.length ≤ 9223372036854775807) : Ev (fun k => rows_fine.f k x.f0) (resultE x) := fine_from x.f0 hl x.f0.length 0 (by omega) (by omega) (by simp [mayRows])
theorem rows_from (l : List RowT) (hl : l.length ≤ 256) (hk : mayRows l = true) (d : Nat) : ∀ (b : List Int) (i : Nat), i ≤ l.length → l.length - i = d → b.length + 64 * (l.length - i) < 140737488355328 →
    Ev (fun k => rows_PutResults_1.l0 k b l (l.length : Int) (i : Int)) (b ++ (l.drop i).flatMap rowB) := by
  induction d with
  | zero =>
    intro b i h0 h1 hb
    refine Ev.step (f := fun _ => some b) (fun k => ?_) ?_
    · simp only [rows_PutResults_1.l0]
      rw [if_neg (by omega)]
    · refine ev_const ?_
      rw [List.drop_eq_nil_of_le (by omega)]
      simp
  | succ d ih =>
    intro b i h0 h1 hb
    have hi : i < l.length := by omega
    have hrd : rd_T148 l (i : Int) = l[i] := by simp [rd_T148, hi]
    have hki : isKey (l[i].f0) = true := by
      unfold mayRows at hk
      rw [List.all_eq_true] at hk
      exact hk _ (List.getElem_mem _)
    have hs := isKey_size _ hki
    refine Ev.step (f := fun k => (rows_number.f k (b ++ textB l[i].f0) l[i].f1 4).bind fun t => rows_PutResults_1.l0 k t l (l.length : Int) (wrap64 ((i : Int) + 1))) (fun k => ?_) ?_
    · simp only [rows_PutResults_1.l0]
      rw [if_pos (by omega), if_pos (by omega), if_pos (by omega), hrd, text_eq _ _ (by omega)]
      simp only [Option.bind_some]
    · refine Ev.bind (ev_number4 _ _ (by rw [List.length_append, textB_length]; omega)) ?_
      rw [wrap_id _ (by omega) (by omega)]
      refine ev_eq ?_ (ih (b ++ textB l[i].f0 ++ num4 l[i].f1) (i + 1) (by omega) (by omega) (by simp [textB_length, num4_length]; omega))
      rw [List.drop_eq_getElem_cons hi, List.flatMap_cons, rowB]
      simp only [List.append_assoc]
theorem result_ok (x : ResultT) (h : resultE x = 0) : mayRows x.f0 = true ∧ x.f0.length ≤ 256 := by
  unfold resultE at h
  cases hm : mayRows x.f0 with
  | false => rw [hm] at h; simp at h
  | true =>
    rw [hm] at h
    by_cases c : x.f0.length ≤ 256
    · exact ⟨rfl, c⟩
    · simp [c] at h
theorem ev_result_one (b : List Int) (x : ResultT) (hb : b.length + 20000 < 140737488355328) (h : resultE x = 0) : Ev (fun k => rows_PutResults_1.f k b x.f0) (b ++ resultB x) := by
  obtain ⟨hm, hl⟩ := result_ok x h
  unfold rows_PutResults_1.f resultB rowsB
  refine Ev.bind (ev_number2 _ _ (by omega)) ?_
  rw [num2_mod _ (by omega) (by omega)]
  refine ev_eq ?_ (rows_from x.f0 hl hm x.f0.length (b ++ num2 x.f0.length) 0 (by omega) (by omega) (by simp [num2_length]; omega))
  simp
theorem rowB_len (x : RowT) (h : isKey x.f0 = true) : (rowB x).length ≤ 21 := by
  have hs := isKey_size _ h
  simp [rowB, textB_length, num4_length]
  omega
theorem result_len (x : ResultT) (h : resultE x = 0) : (resultB x).length ≤ 20000 := by
  obtain ⟨hm, hl⟩ := result_ok x h
  unfold mayRows at hm
  rw [List.all_eq_true] at hm
  have := flatMap_len_le rowB 21 x.f0 (fun r hr => rowB_len r (hm r hr))
  simp only [resultB, rowsB, List.length_append, num2_length]
  omega

theorem result_scan (l : List ResultT) (hl : l.length ≤ 1000000000) (hrl : ∀ x ∈ l, x.f0.length ≤ 9223372036854775807) (most : Int) (d : Nat) : ∀ (i : Nat) (wst : Int), i ≤ l.length → l.length - i = d →
    (∀ x ∈ l.take i, resultE x ≠ 1) → (wst = 0 ∨ wst = 3) → (wst = 3 ↔ (l.take i).any (fun x => resultE x == 3) = true) → ∀ (r : List Int × Int),
    (l.any (fun x => resultE x == 1) = true → r = ([], 1)) →
    (l.any (fun x => resultE x == 1) = false → Ev (fun k => if (if l.any (fun x => resultE x == 3) then (3 : Int) else 0) = 0 then rows_put_Result.j1 k l (decide ((l.length : Int) > most)) else rows_put_Result.j1 k l true) r) →
    Ev (fun k => rows_put_Result.l0 k l most wst l (l.length : Int) (i : Int)) r := by
  induction d with
  | zero =>
    intro i wst h0 h1 hp hw hw3 r hr1 hr2
    have e : l.take i = l := List.take_of_length_le (by omega)
    rw [e] at hp hw3
    have hno : l.any (fun x => resultE x == 1) = false := by
      rw [List.any_eq_false]
      intro x hx
      simpa using hp x hx
    have h2 := hr2 hno
    refine Ev.step (f := fun k => if wst = 0 then rows_put_Result.j1 k l (decide ((l.length : Int) > most)) else rows_put_Result.j1 k l true) (fun k => ?_) ?_
    · simp only [rows_put_Result.l0]
      rw [if_neg (by omega)]
    · rcases hw with rfl | rfl
      · have : l.any (fun x => resultE x == 3) = false := by
          rw [Bool.eq_false_iff]
          intro h
          exact absurd (hw3.2 h) (by omega)
        rw [this] at h2
        exact h2
      · have : l.any (fun x => resultE x == 3) = true := hw3.1 rfl
        rw [this] at h2
        exact h2
  | succ d ih =>
    intro i wst h0 h1 hp hw hw3 r hr1 hr2
    have hi : i < l.length := by omega
    have hrd : rd_T145 l (i : Int) = l[i] := by simp [rd_T145, hi]
    have htk : l.take (i + 1) = l.take i ++ [l[i]] := List.take_succ_eq_append_getElem hi
    have hstep : ∀ t : Int, resultE l[i] = t → Ev (fun k => if t = 1 then (some (([] : List Int), (1 : Int))) else (if t = 3 then (rows_put_Result.l0 k l most 3 l (l.length : Int) (wrap64 ((i : Int) + 1))) else (rows_put_Result.l0 k l most wst l (l.length : Int) (wrap64 ((i : Int) + 1))))) r := by
      intro t ht
      by_cases c1 : t = 1
      · simp only [if_pos c1]
        refine ev_const ?_
        rw [hr1 (by rw [List.any_eq_true]; exact ⟨l[i], List.getElem_mem _, by simp [ht, c1]⟩)]
      · simp only [if_neg c1]
        rw [wrap_id _ (by omega) (by omega)]
        have hp' : ∀ x ∈ l.take (i + 1), resultE x ≠ 1 := by
          rw [htk]
          intro x hx
          rcases List.mem_append.1 hx with hx | hx
          · exact hp x hx
          · rw [List.mem_singleton.1 hx, ht]; exact c1
        by_cases c3 : t = 3
        · simp only [if_pos c3]
          exact ih (i + 1) 3 (by omega) (by omega) hp' (.inr rfl) (by rw [htk, List.any_append]; simp [ht, c3]) r hr1 hr2
        · simp only [if_neg c3]
          exact ih (i + 1) wst (by omega) (by omega) hp' hw (by rw [htk, hw3, List.any_append]; simp [ht, c3]) r hr1 hr2
    refine Ev.step (f := fun k => (rows_fine.f k l[i].f0).bind fun t => if t = 1 then (some (([] : List Int), (1 : Int))) else (if t = 3 then (rows_put_Result.l0 k l most 3 l (l.length : Int) (wrap64 ((i : Int) + 1))) else (rows_put_Result.l0 k l most wst l (l.length : Int) (wrap64 ((i : Int) + 1))))) (fun k => ?_) ?_
    · simp only [rows_put_Result.l0]
      rw [if_pos (by omega), if_pos (by omega), if_pos (by omega), hrd]
    · exact Ev.bind (ev_result_may l[i] (hrl _ (List.getElem_mem _))) (hstep _ rfl)
theorem result_put (l : List ResultT) (hl : l.length ≤ 1000000) (hok : ∀ x ∈ l, resultE x = 0) (d : Nat) : ∀ (b : List Int) (i : Nat), i ≤ l.length → l.length - i = d → b.length + 20000 * (l.length - i) + 20000 < 140737488355328 →
    Ev (fun k => rows_put_Result.l1 k b l (l.length : Int) (i : Int)) (b ++ (l.drop i).flatMap resultB, 0) := by
  induction d with
  | zero =>
    intro b i h0 h1 hb
    refine Ev.step (f := fun _ => some (b, 0)) (fun k => ?_) ?_
    · simp only [rows_put_Result.l1]
      rw [if_neg (by omega)]
    · refine ev_const ?_
      rw [List.drop_eq_nil_of_le (by omega)]
      simp
  | succ d ih =>
    intro b i h0 h1 hb
    have hi : i < l.length := by omega
    have hrd : rd_T145 l (i : Int) = l[i] := by simp [rd_T145, hi]
    have hoi := hok l[i] (List.getElem_mem _)
    refine Ev.step (f := fun k => (rows_PutResults_1.f k b l[i].f0).bind fun t => rows_put_Result.l1 k t l (l.length : Int) (wrap64 ((i : Int) + 1))) (fun k => ?_) ?_
    · simp only [rows_put_Result.l1]
      rw [if_pos (by omega), if_pos (by omega), if_pos (by omega), hrd]
    · refine Ev.bind (ev_result_one b l[i] (by omega) hoi) ?_
      rw [wrap_id _ (by omega) (by omega)]
      have hlen := result_len l[i] hoi
      refine ev_eq ?_ (ih (b ++ resultB l[i]) (i + 1) (by omega) (by omega) (by rw [List.length_append]; omega))
      rw [List.drop_eq_getElem_cons hi, List.flatMap_cons]
      simp only [List.append_assoc]
theorem ev_putResults (l : List ResultT) (hl : l.length ≤ 1000000000) (hrl : ∀ x ∈ l, x.f0.length ≤ 9223372036854775807) : Ev (fun k => rows_PutResults.f k l) (putResults l) := by
  unfold rows_PutResults.f
  refine Ev.bind (a := putResults l) ?_ (ev_const rfl)
  unfold rows_put_Result.f
  refine result_scan l hl hrl 16 l.length 0 0 (by omega) (by omega) (by simp) (.inl rfl) (by simp) _ ?_ ?_
  · intro h
    unfold putResults putList
    rw [if_pos h]
  · intro h
    have hfail : putResults l = ([], 3) → Ev (fun k => rows_put_Result.j1 k l true) (putResults l) := by
      intro e
      rw [e]
      exact Ev.step (f := fun _ => some ([], 3)) (fun k => by simp only [rows_put_Result.j1, if_true]) (ev_const rfl)
    cases h3 : l.any (fun x => resultE x == 3) with
    | true =>
      simp only [if_true, show ¬ ((3 : Int) = 0) from by omega, if_false]
      refine hfail ?_
      unfold putResults putList
      rw [h, h3]
      simp
    | false =>
      simp only [Bool.false_eq_true, if_false, if_true]
      by_cases hm : (l.length : Int) > 16
      · simp only [hm, decide_true]
        refine hfail ?_
        unfold putResults putList
        have : 16 < l.length := by omega
        rw [h, h3]
        simp [this]
      · simp only [hm, decide_false]
        have hm' : ¬ 16 < l.length := by omega
        have hok : ∀ x ∈ l, resultE x = 0 := by
          intro x hx
          rw [List.any_eq_false] at h h3
          have a1 := h x hx
          have a3 := h3 x hx
          simp at a1 a3
          unfold resultE at *; split at a1 <;> simp_all
        refine Ev.step (f := fun k => (rows_number.f k ([] : List Int) (((l.length : Int)) % 4294967296) 2).bind fun t => rows_put_Result.l1 k t l (l.length : Int) 0) (fun k => by simp only [rows_put_Result.j1, Bool.false_eq_true, if_false]) ?_
        refine Ev.bind (ev_number2 _ _ (by simp)) ?_
        rw [num2_mod _ (by omega) (by omega)]
        refine ev_eq ?_ (result_put l (by omega) hok l.length ([] ++ num2 l.length) 0 (by omega) (by omega) (by simp [num2_length]; omega))
        unfold putResults putList
        rw [h, h3]
        simp [hm']

theorem sameBytes_from (a b : List Int) (hab : a.length = b.length) (hl : a.length ≤ 9223372036854775807) (d : Nat) : ∀ (i : Nat), i ≤ a.length → a.length - i = d → a.take i = b.take i →
    Ev (fun k => concordatlaw01_SameBytes.l0 k a b (i : Int)) (decide (a = b)) := by
  induction d with
  | zero =>
    intro i h0 h1 hp
    rw [List.take_of_length_le (by omega), List.take_of_length_le (by omega)] at hp
    refine Ev.step (f := fun _ => some true) (fun k => ?_) (ev_const (by simp [hp]))
    simp only [concordatlaw01_SameBytes.l0]
    rw [if_neg (by omega)]
  | succ d ih =>
    intro i h0 h1 hp
    have hi : i < a.length := by omega
    have hj : i < b.length := by omega
    have ha : rd a (i : Int) = a[i] := by simp [rd, hi]
    have hb : rd b (i : Int) = b[i] := by simp [rd, hj]
    by_cases c : a[i] = b[i]
    · refine Ev.step (f := fun k => concordatlaw01_SameBytes.l0 k a b (wrap64 ((i : Int) + 1))) (fun k => ?_) ?_
      · simp only [concordatlaw01_SameBytes.l0]
        rw [if_pos (by omega), if_pos (by omega), if_pos (by omega), ha, hb, if_pos c]
      · rw [wrap_id _ (by omega) (by omega)]
        exact ih (i + 1) (by omega) (by omega) (by rw [List.take_succ_eq_append_getElem hi, List.take_succ_eq_append_getElem hj, hp, c])
    · refine Ev.step (f := fun _ => some false) (fun k => ?_) (ev_const ?_)
      · simp only [concordatlaw01_SameBytes.l0]
        rw [if_pos (by omega), if_pos (by omega), if_pos (by omega), ha, hb, if_neg c]
      · have : ¬ a = b := fun e => c (by subst e; rfl)
        simp [this]
theorem ev_SameBytes (a b : List Int) (hl : a.length ≤ 9223372036854775807) : Ev (fun k => concordatlaw01_SameBytes.f k a b) (decide (a = b)) := by
  unfold concordatlaw01_SameBytes.f
  by_cases c : (a.length : Int) = (b.length : Int)
  · simp only [if_pos c]
    exact sameBytes_from a b (by omega) hl a.length 0 (by omega) (by omega) (by simp)
  · simp only [if_neg c]
    refine ev_const ?_
    have : ¬ a = b := fun e => c (by subst e; rfl)
    simp [this]

end Go.Proofs.YtcohodkpppmaoaaGreatDoor.Q
namespace Go.Proofs.YtcohodkpppmaoaaGreatDoor.Q
open Go.RowKit Go.Proofs.YtcohodkpppmaoaaGreatDoorW.PrintWords Go.Proofs.YtcohodkpppmaoaaGreatDoorW.PrintLast Go.Proofs.YtcohodkpppmaoaaGreatDoorW.PrintMore
set_option linter.unusedVariables false

abbrev RdS := List Int × Bool
def takeR (s : RdS) (n : Nat) : List Int := if s.1.length < n then List.replicate n 0 else s.1.take n
def takeS (s : RdS) (n : Nat) : RdS := if s.1.length < n then (s.1, true) else (s.1.drop n, s.2)
def foldN (l : List Int) : Int := l.foldl (fun n c => (n * 256 + c) % 4294967296) 0
def numR (s : RdS) (n : Nat) : Int := foldN (takeR s n)
def textR (s : RdS) : ByteArray := strOfNums (takeR (takeS s 1) (numR s 1).toNat)
def textS (s : RdS) : RdS := takeS (takeS s 1) (numR s 1).toNat

/-- A reader at block g that was made behind w0; the bytes that it has still to give lie in w0. -/
structure Rd (w0 w : World) (g : Nat) (s : RdS) : Prop where
  below : Below w0.heap.size w0 w
  far : w0.heap.size ≤ g
  row : ∃ A c, w.heap[g]? = some (.cells #[.slice A s.1.length c, .bool s.2] 229 (0, 0)) ∧ s.1.length ≤ c ∧ s.1.length ≤ maxLen ∧ Kd.C (Kd.int .u8) w0 A s.1.length s.1
  bytes : ∀ x ∈ s.1, 0 ≤ x ∧ x < 256

theorem Rd.drew {w0 w : World} {g : Nat} {s : RdS} (h : Rd w0 w g s) (n : Nat) : Rd w0 (w.drewN n) g s :=
  ⟨pw_below_drewN h.below n, h.far, h.row, h.bytes⟩
theorem drew_rd {w0 w : World} {g : Nat} {s : RdS} (h : Rd w0 w g s) : Rd w0 w.drew g s := h.drew 1
/-- What keeps all but g's block, and finds g's block as told. -/
theorem Rd.grown {w0 w w1 : World} {g : Nat} {s : RdS} (h : Rd w0 w g s) (hb : Below w.heap.size w w1) : Rd w0 w1 g s := by
  obtain ⟨A, c, hr, h1, h2, h3⟩ := h.row
  have hlt : g < w.heap.size := blk_lt hr
  exact ⟨h.below.trans (hb.mono (h.below.size)), h.far, ⟨A, c, (hb.block g hlt).trans hr, h1, h2, h3⟩, h.bytes⟩

theorem rd_uint8 : ∃ i, Tryz.prog.info? 5 = some i ∧ i.size = 1 := by
  have h := info5
  cases e : Tryz.prog.info? 5 with
  | none => rw [e] at h; simp at h
  | some i => rw [e] at h; simp at h; exact ⟨i, rfl, h.2.1⟩

set_option maxHeartbeats 1600000 in
set_option maxRecDepth 100000 in
theorem take_calls (w0 w : World) (g : Nat) (s : RdS) (n : Nat) (hn : n ≤ 256) (h : Rd w0 w g s) :
    Calls Tryz.prog 193 #[.pointer (some ⟨g, 0, none⟩), .int .i64 n] w fun e w' => ∃ A c, e = .returned (.slice A n c) ∧ n ≤ c ∧ Kd.C (Kd.int .u8) w' A n (takeR s n) ∧ Rd w0 w' g (takeS s n) ∧ KeepBut w w' g none := by
  obtain ⟨A, c, hb, hc, hm, hC⟩ := h.row
  have c0 : w.cell? ⟨g, 0, none⟩ = some (.slice A s.1.length c) := by simp [World.cell?, hb]
  have c1 : w.cell? ⟨g, 1, none⟩ = some (.bool s.2) := by simp [World.cell?, hb]
  have f0 : w.frozen? ⟨g, 0, none⟩ = false := blk_frozen hb _
  have f1 : w.frozen? ⟨g, 1, none⟩ = false := blk_frozen hb _
  unfold maxLen at hm
  have HC := Aside0.mk hC
  have H := Aside0.mk h
  have HBK := Aside0.mk hb
  clear hC h hb
  by_cases hlt : s.1.length < n
  · have hlt' : (s.1.length : Int) < (n : Int) := by omega
    have er : takeR s n = List.replicate n 0 := if_pos hlt
    have es : takeS s n = (s.1, true) := if_pos hlt
    rw [er, es]
    go_enter Tryz.func193, Tryz.ntmps193
    go_wp2_with (first | (refine Kd.R_make (Kd.int .u8) (w0 := w.setCell ⟨g, 1, none⟩ (.bool true)) (w.setCell ⟨g, 1, none⟩ (.bool true)).heap.size 5 rfl rfl 67 (.tmp 15) (.tmp 15) rfl (n : Int) rfl rfl Tryz.underlying67 (.int .u8 0) 1 info5 rfl (by decide) (by decide) 0 (ok := fun _ => True) (okp := fun _ => False) rfl (fun _ _ => trivial) trivial (by omega) (by omega) (Below.refl _ _) (Nat.le_refl _) ?_; intro v1 w1 hR hB hG hO; have HR := Aside0.mk hR; have HB := Aside0.mk hB; clear hR hB hG hO))
    go_ret
    obtain ⟨A1, c1, rfl, hc1, hC1⟩ := Kd.R_reads HR.out
    rw [show (List.replicate (n : Int).toNat (0 : Int)).length = n by simp] at *
    rw [show (n : Int).toNat = n by simp] at hC1
    have hb1 := blk_put HBK.out 1 (.bool true) (cs' := #[.slice A s.1.length c, .bool true]) rfl
    have hst : Rd w0 (w.setCell ⟨g, 1, none⟩ (.bool true)) g (s.1, true) :=
      ⟨H.out.below.setCell H.out.far _, H.out.far, ⟨A, c, hb1, hc, hm, HC.out⟩, H.out.bytes⟩
    exact ⟨A1, c1, rfl, hc1, hC1, hst.grown HB.out, ((KeepBut.refl w g none).set_ 1 _).trans (KeepBut.of_below HB.out g none) (.inl rfl)⟩
  · have hlt' : ¬ (s.1.length : Int) < (n : Int) := by omega
    have er : takeR s n = s.1.take n := if_neg hlt
    have es : takeS s n = (s.1.drop n, s.2) := if_neg hlt
    rw [er, es]
    obtain ⟨iu, hiu, hsz⟩ := rd_uint8
    have hs1 := cut_to (P := Tryz.prog) 67 5 .i64 Tryz.underlying67 hiu A s.1.length c (n : Int) (by omega) (by omega) hc
    have hs2 := cut_from (P := Tryz.prog) 67 5 .i64 Tryz.underlying67 hiu 1 hsz A s.1.length c (n : Int) (by omega) (by omega)
    obtain ⟨A1, hA1⟩ : ∃ A1, A1 = if c = n then A else Option.map (fun x => x.add n) A := ⟨_, rfl⟩
    simp only [Int.toNat_natCast, Nat.mul_one] at hs2
    rw [← hA1] at hs2
    have HA1 := Aside0.mk hA1
    clear hA1
    go_enter Tryz.func193, Tryz.ntmps193
    go_wp2_with fail
    go_region
    go_wp2
    go_ret
    have hl1 : (s.1.take n).length = n := by rw [List.length_take]; omega
    have hl2 : (s.1.drop n).length = s.1.length - n := List.length_drop
    have hC1 := Kd.C_take HC.out (m := n) (by omega)
    have hC2 := Kd.C_drop HC.out (m := n) (by omega) hc
    rw [hl1] at hC1
    rw [show n * (Kd.int .u8).sz = n from Nat.mul_one n, ← HA1.out] at hC2
    have hb1 := blk_put HBK.out 0 (.slice A1 (s.1.length - n) (c - n)) (cs' := #[.slice A1 (s.1.length - n) (c - n), .bool s.2]) rfl
    have hst : Rd w0 (w.setCell ⟨g, 0, none⟩ (.slice A1 (s.1.length - n) (c - n))) g (s.1.drop n, s.2) :=
      ⟨H.out.below.setCell H.out.far _, H.out.far, ⟨_, c - n, by rw [hl2]; exact hb1, by rw [hl2]; omega, by rw [hl2]; unfold maxLen; omega, hC2⟩, fun x hx => H.out.bytes x (List.mem_of_mem_drop hx)⟩
    exact ⟨A, c, rfl, by omega, Kd.C_below hC1 (drew_rd hst).below, drew_rd hst, keep_drew ((KeepBut.refl w g none).set_ 0 _)⟩

theorem u32_join (x y : Int) (h0 : 0 ≤ y) (h1 : y < 256) : bits .or .u32 (x * 256 % 4294967296) y = (x * 256 + y) % 4294967296 := by
  have h := bits_join .u32 32 (by decide) (fun n a b => by rw [IntKind.wrap_u32]; omega) 8 (x * 256 % 4294967296) y (by omega) (by omega) (by omega) h0 (by omega) (by omega)
  exact h.trans (by omega)

theorem takeR_bytes {s : RdS} (hs : ∀ x ∈ s.1, 0 ≤ x ∧ x < 256) (n : Nat) : ∀ x ∈ takeR s n, 0 ≤ x ∧ x < 256 := by
  intro x hx
  unfold takeR at hx
  split at hx
  · obtain ⟨_, rfl⟩ := List.mem_replicate.1 hx; omega
  · exact hs x (List.mem_of_mem_take hx)
theorem takeR_length (s : RdS) (n : Nat) : (takeR s n).length = n := by
  unfold takeR
  split
  · simp
  · rw [List.length_take]; omega

set_option maxHeartbeats 1600000 in
set_option maxRecDepth 100000 in
theorem number_calls (w0 w : World) (g : Nat) (s : RdS) (n : Nat) (hn : n ≤ 256) (h : Rd w0 w g s) :
    Calls Tryz.prog 120 #[.pointer (some ⟨g, 0, none⟩), .int .i64 n] w fun e w' => e = .returned (.int .u32 (numR s n)) ∧ Rd w0 w' g (takeS s n) ∧ KeepBut w w' g none := by
  have hby := takeR_bytes h.bytes n
  have hln := takeR_length s n
  unfold numR
  obtain ⟨l, hle⟩ : ∃ l, l = takeR s n := ⟨_, rfl⟩
  rw [← hle] at hby hln ⊢
  have HLE := Aside0.mk hle
  clear hle
  have H := Aside0.mk h
  clear h
  go_enter Tryz.func120, Tryz.ntmps120
  go_wp2_with fail
  refine (take_calls w0 _ g s n hn H.out).mono ?_
  rintro e w1 ⟨A, c, rfl, hc, hC, hR, hK⟩
  rw [← HLE.out] at hC
  have HC := Aside0.mk hC
  have HR := Aside0.mk hR
  have HK := Aside0.mk hK
  clear hC hR hK
  go_wp2
  go_loop [4, 11] (fun x i => ∃ k : Nat, k ≤ n ∧ x = .int .u32 (foldN (l.take k)) ∧ i = .int .i64 k) (fun _ i => n - (intOf i).toNat)
  case atStart => exact ⟨0, Nat.zero_le _, rfl, rfl⟩
  case round =>
    obtain ⟨k, hk, rfl, rfl⟩ := hrel
    by_cases hlt : k < n
    · have hlt' : (k : Int) < (n : Int) := by omega
      obtain ⟨ad, cs, rfl, hcl, hKc, hcell⟩ := Kd.C_get HC.out 0 (k : Int) (by omega) (by omega)
      have e1 : cs = [.int .u8 (l.getD k 0)] := hKc
      subst e1
      have hx := hcell 0 (.int .u8 (l.getD k 0)) rfl
      simp only [Int.toNat_natCast, Nat.mul_one, Nat.add_zero, show (Kd.int .u8).sz = 1 from rfl] at hx
      have hg : l.getD k 0 = l[k]'(by omega) := by rw [List.getD_eq_getElem?_getD, List.getElem?_eq_getElem (by omega)]; rfl
      have hb := hby (l[k]'(by omega)) (List.getElem_mem _)
      rw [← hg] at hb
      generalize l.getD k 0 = b at *
      have HG := Aside0.mk hg
      clear hg
      go_wp2
      go_round
      case rel =>
        refine ⟨k + 1, by omega, ?_, by go_num⟩
        rw [u32_join _ _ hb.1 hb.2, List.take_succ_eq_append_getElem (by omega), ← HG.out]
        unfold foldN
        rw [List.foldl_append]
        rfl
      case measure => simp [intOf]; omega
    · go_wp2
      have e2 : l.take k = l := List.take_of_length_le (by omega)
      rw [e2]
      go_ret
      exact ⟨rfl, HR.out, HK.out⟩

theorem foldN_range (l : List Int) : 0 ≤ foldN l ∧ foldN l < 4294967296 := by
  have h : ∀ (l : List Int) (a : Int), 0 ≤ a ∧ a < 4294967296 → 0 ≤ l.foldl (fun n c => (n * 256 + c) % 4294967296) a ∧ l.foldl (fun n c => (n * 256 + c) % 4294967296) a < 4294967296 := by
    intro l
    induction l with
    | nil => intro a h; exact h
    | cons x l ih => intro a h; exact ih ((a * 256 + x) % 4294967296) (by omega)
  exact h l 0 (by decide)
theorem numR_one {s : RdS} (hs : ∀ x ∈ s.1, 0 ≤ x ∧ x < 256) : 0 ≤ numR s 1 ∧ numR s 1 < 256 := by
  have h1 := takeR_length s 1
  have h2 := takeR_bytes hs 1
  unfold numR
  match h : takeR s 1 with
  | [] => rw [h] at h1; cases h1
  | [x] =>
    have := h2 x (by rw [h]; simp)
    simp [foldN]
    omega
  | x :: y :: l => rw [h] at h1; simp at h1
theorem numR_two {s : RdS} (hs : ∀ x ∈ s.1, 0 ≤ x ∧ x < 256) : 0 ≤ numR s 2 ∧ numR s 2 < 65536 := by
  have h1 := takeR_length s 2
  have h2 := takeR_bytes hs 2
  unfold numR
  match h : takeR s 2 with
  | [] => rw [h] at h1; cases h1
  | [x] => rw [h] at h1; simp at h1
  | [x, y] =>
    have := h2 x (by rw [h]; simp)
    have := h2 y (by rw [h]; simp)
    simp [foldN]
    omega
  | x :: y :: z :: l => rw [h] at h1; simp at h1
set_option maxHeartbeats 1600000 in
set_option maxRecDepth 100000 in
theorem text_calls (w0 w : World) (g : Nat) (s : RdS) (h : Rd w0 w g s) :
    Calls Tryz.prog 119 #[.pointer (some ⟨g, 0, none⟩)] w fun e w' => e = .returned (.string (textR s)) ∧ Rd w0 w' g (textS s) ∧ KeepBut w w' g none := by
  have hn := numR_one h.bytes
  obtain ⟨m, hm⟩ : ∃ m : Nat, numR s 1 = m := ⟨(numR s 1).toNat, by omega⟩
  have hm' : m < 256 := by omega
  unfold textR textS
  rw [hm, Int.toNat_natCast]
  clear hn
  have HM := Aside0.mk hm
  have H := Aside0.mk h
  clear h hm
  go_enter Tryz.func119, Tryz.ntmps119
  go_wp2_with fail
  refine (number_calls w0 _ g s 1 (by omega) H.out).mono ?_
  rintro e w1 ⟨rfl, hR, hK⟩
  rw [HM.out]
  have HR := Aside0.mk hR
  have HK := Aside0.mk hK
  clear hR hK
  go_wp2_with fail
  refine (take_calls w0 _ g (takeS s 1) m (by omega) HR.out).mono ?_
  rintro e w2 ⟨A, c, rfl, hc, hC, hR, hK⟩
  have hcv := Kd.C_string (P := Tryz.prog) (src := 67) (dst := 9) (c := c) Tryz.underlying67 Tryz.underlying5 Tryz.underlying9 hC
  have HR2 := Aside0.mk hR
  have HK2 := Aside0.mk hK
  clear hR hK hC
  go_wp2
  go_ret
  exact ⟨rfl, HR2.out, HK.out.trans HK2.out (.inl rfl)⟩

end Go.Proofs.YtcohodkpppmaoaaGreatDoor.Q
namespace Go.Proofs.YtcohodkpppmaoaaGreatDoor.Q
open Go.RowKit Go.Proofs.YtcohodkpppmaoaaGreatDoorW.PrintWords Go.Proofs.YtcohodkpppmaoaaGreatDoorW.PrintLast Go.Proofs.YtcohodkpppmaoaaGreatDoorW.PrintMore
set_option linter.unusedVariables false

def opS (s : RdS) : RdS := takeS (textS (textS (takeS s 1))) 4
def changeS (s : RdS) : RdS := takeS (takeS (textS s) 1) 4
def rowR (s : RdS) : S148 := ⟨textR s, numR (textS s) 4⟩
def rowS (s : RdS) : RdS := takeS (textS s) 4

/-- What was there, and is not the reader's block, stays: a cell. -/
theorem keep_cells {w w1 : World} {g b t : Nat} {cs : Array Value} (hb : w.heap[b]? = some (.cells cs t (0, 0))) (hne : b ≠ g) (hK : KeepBut w w1 g none) : w1.heap[b]? = some (.cells cs t (0, 0)) := hK.blk hb hne (by simp)

theorem Rd.alloc {w0 w : World} {g : Nat} {s : RdS} (h : Rd w0 w g s) (o : Obj) : Rd w0 (w.alloc o) g s := h.grown (below_alloc (Below.refl _ _) o)
theorem Rd.set {w0 w : World} {g b : Nat} {s : RdS} (h : Rd w0 w g s) (hb : g ≠ b) (h0 : w0.heap.size ≤ b) (j : Nat) (u : Value) : Rd w0 (w.setCell ⟨b, j, none⟩ u) g s := by
  obtain ⟨A, c, hr, h1, h2, h3⟩ := h.row
  exact ⟨h.below.setCell h0 _, h.far, ⟨A, c, blk_far hr hb u, h1, h2, h3⟩, h.bytes⟩
theorem Rd.lt {w0 w : World} {g : Nat} {s : RdS} (h : Rd w0 w g s) : g < w.heap.size := by
  obtain ⟨A, c, hr, _⟩ := h.row
  exact blk_lt hr
theorem keep_new {w W : World} {g b : Nat} (h : KeepBut w W g none) (hb : w.heap.size ≤ b) (j : Nat) (u : Value) : KeepBut w (W.setCell ⟨b, j, none⟩ u) g none := keep_far h (p := ⟨b, j, none⟩) hb u
theorem keep_then {w w1 w2 : World} {g : Nat} (h : KeepBut w w1 g none) (k : KeepBut w1 w2 g none) : KeepBut w w2 g none := h.trans k (.inl rfl)

theorem blk2 {w : World} {g t : Nat} {a b : Value} (h : w.heap[g]? = some (.cells #[a, b] t (0, 0))) : (w.cell? ⟨g, 0, none⟩ = some a ∧ w.cell? ⟨g, 1, none⟩ = some b) ∧ (w.frozen? ⟨g, 0, none⟩ = false ∧ w.frozen? ⟨g, 1, none⟩ = false) :=
  ⟨⟨blk_cell h 0, blk_cell h 1⟩, ⟨blk_frozen h 0, blk_frozen h 1⟩⟩

set_option maxHeartbeats 1600000 in
set_option maxRecDepth 100000 in
theorem oneRow_calls (w0 w : World) (g b : Nat) (s : RdS) (h : Rd w0 w g s) (hb : w.heap[b]? = some (.cells #[.pointer (some ⟨g, 0, none⟩)] 125 (0, 0))) (hne : b ≠ g) :
    Calls Tryz.prog 146 #[.pointer (some ⟨b, 0, none⟩)] w fun e w' => e = .returned (.agg #[.string (rowR s).f0, .int .u32 (rowR s).f1]) ∧ Rd w0 w' g (rowS s) ∧ KeepBut w w' g none := by
  unfold rowR rowS
  dsimp only
  have hu := Tryz.underlying148
  have H := Aside0.mk h
  have hlt : g < w.heap.size := h.lt
  have hlb : b < w.heap.size := blk_lt hb
  have h0 : w0.heap.size ≤ w.heap.size := h.below.size
  have hgb : g ≠ w.heap.size := by omega
  have hbb : b ≠ w.heap.size := by omega
  have hcb : w.cell? ⟨b, 0, none⟩ = some (.pointer (some ⟨g, 0, none⟩)) := blk_cell hb 0
  have HBB := Aside0.mk hb
  clear h hb
  go_enter Tryz.func146, Tryz.ntmps146
  go_wp2_with fail
  go_region_with (first
    | (go_at_call 119
       refine (text_calls w0 _ g s (drew_rd (H.out.alloc _))).mono ?_
       rintro e w1 ⟨rfl, hR, hK⟩
       have B1 := Aside0.mk (keep_cells (blk_drew (blk_new w (.cells #[.string ⟨#[]⟩, .int .u32 0] 148))) (Ne.symm hgb) hK)
       have K1 := Aside0.mk (keep_then (keep_drew (KeepBut.of_below (below_alloc (Below.refl w.heap.size w) (.cells #[.string ⟨#[]⟩, .int .u32 0] 148)) g none)) hK)
       have R1 := Aside0.mk hR
       have hcb1 : w1.cell? ⟨b, 0, none⟩ = some (.pointer (some ⟨g, 0, none⟩)) := blk_cell (keep_cells (blk_drew (blk_alloc HBB.out _)) hne hK) 0
       clear hR hK)
    | (go_at_call 120
       refine (number_calls w0 _ g _ 4 (by omega) R1.out).mono ?_
       rintro e w2 ⟨rfl, hR, hK⟩
       have K2 := Aside0.mk (keep_then K1.out hK)
       have R2 := Aside0.mk hR
       have B2 := keep_cells B1.out (Ne.symm hgb) hK
       obtain ⟨⟨c0, c1⟩, f0, f1⟩ := blk2 B2
       have B2' := Aside0.mk (blk_put (blk_put B2 0 (.string (textR s)) rfl) 1 (.int .u32 (numR (textS s) 4)) (cs' := #[.string (textR s), .int .u32 (numR (textS s) 4)]) rfl)
       clear hR hK B2))
  all_goals
    go_wp2
    try simp only [Exit.inBlock, Exit.then]
    refine bodyPost_ret (results_cell_row rfl _ _ w.heap.size 148 _ (0, 0) _ rfl (blk_put (cs' := #[.string (textR s), .int .u32 (numR (textS s) 4)]) (blk_put (cs' := #[.string (textR s), .int .u32 (numR (textS s) 4)]) B2'.out 0 _ rfl) 1 _ rfl) hu rfl (by kernel_rfl)) rfl ?_
    refine ⟨rfl, ?_, ?_⟩
    · repeat (first | exact R2.out | refine Rd.set ?_ hgb h0 _ _)
    · repeat (first | exact K2.out | refine keep_new ?_ (Nat.le_refl _) _ _)

end Go.Proofs.YtcohodkpppmaoaaGreatDoor.Q
namespace Go.Proofs.YtcohodkpppmaoaaGreatDoor.Q
open Go.RowKit Go.Proofs.YtcohodkpppmaoaaGreatDoorW.PrintWords Go.Proofs.YtcohodkpppmaoaaGreatDoorW.PrintLast Go.Proofs.YtcohodkpppmaoaaGreatDoorW.PrintMore
set_option linter.unusedVariables false

def sevN {α : Type} (r : RdS → α) (st : RdS → RdS) : Nat → RdS → List α
  | 0, _ => []
  | n + 1, s => if s.2 then [] else r s :: sevN r st n (st s)
def sevNS {α : Type} (r : RdS → α) (st : RdS → RdS) : Nat → RdS → RdS
  | 0, s => s
  | n + 1, s => if s.2 then s else sevNS r st n (st s)
def sevR {α : Type} (r : RdS → α) (st : RdS → RdS) (s : RdS) : List α := sevN r st (numR s 2).toNat (takeS s 2)
def sevS {α : Type} (r : RdS → α) (st : RdS → RdS) (s : RdS) : RdS := sevNS r st (numR s 2).toNat (takeS s 2)

/-- What is new, and not the reader's block, is not touched by the reader. -/
theorem R_rd {α : Type} {d : Kd α} {e base g : Nat} {w w1 : World} {v : Value} {xs : List α} (h : d.R e w base (fun k => k ≠ g) v xs) (hK : KeepBut w w1 g none) : d.R e w1 base (fun k => k ≠ g) v xs := Kd.R_keep h hK (fun _ hk => hk)
theorem keep_grown {w W w1 : World} {g : Nat} {row : Option Nat} (h : KeepBut w W g none) (hg : W.grownBy w1 row) (hr : ∀ k, row = some k → w.heap.size ≤ k) : KeepBut w w1 g none :=
  h.trans (KeepBut.of_grown hg g) (by
    cases row with
    | none => exact .inl rfl
    | some k => exact .inr ⟨k, rfl, hr k rfl⟩)
theorem Rd.grownBy {w0 w w1 : World} {g : Nat} {s : RdS} (h : Rd w0 w g s) (hb : Below w0.heap.size w0 w1) {row : Option Nat} (hg : w.grownBy w1 row) (hr : ∀ k, row = some k → k ≠ g) : Rd w0 w1 g s := by
  obtain ⟨A, c, hr0, h1, h2, h3⟩ := h.row
  exact ⟨hb, h.far, ⟨A, c, blk_grown hr0 hg (by intro e; exact hr g e.symm rfl), h1, h2, h3⟩, h.bytes⟩

set_option maxHeartbeats 1600000 in
set_option maxRecDepth 100000 in
theorem severalRow_calls (w0 w : World) (g : Nat) (br : Nat) (s : RdS) (h : Rd w0 w g s) (hbr : w.heap[br]? = some (.cells #[.pointer (some ⟨g, 0, none⟩)] 125 (0, 0))) (hr : br ≠ g) :
    Calls Tryz.prog 145 #[.pointer (some ⟨g, 0, none⟩), .func (.func 146) #[] #[.pointer (some ⟨br, 0, none⟩)]] w fun e w' => ∃ v, e = .returned v ∧ Kd.R k148 148 w' w.heap.size (fun _ => True) v (sevR rowR rowS s) ∧ Rd w0 w' g (sevS rowR rowS s) ∧ KeepBut w w' g none := by
  have hu := Tryz.underlying148
  have H := Aside0.mk h
  have hlt : g < w.heap.size := h.lt
  have h0 : w0.heap.size ≤ w.heap.size := h.below.size
  have hn := numR_two h.bytes
  obtain ⟨m, hm⟩ : ∃ m : Nat, numR s 2 = m := ⟨(numR s 2).toNat, by omega⟩
  have hm' : m < 65536 := by omega
  have HM := Aside0.mk hm
  have HBR := Aside0.mk hbr
  have e1 : sevR rowR rowS s = sevN rowR rowS m (takeS s 2) := by unfold sevR; rw [hm]; rfl
  have e2 : sevS rowR rowS s = sevNS rowR rowS m (takeS s 2) := by unfold sevS; rw [hm]; rfl
  rw [e1, e2]
  clear h hn hm hbr e1 e2
  go_enter Tryz.func145, Tryz.ntmps145
  go_wp2_with fail
  refine (number_calls w0 _ g s 2 (by omega) H.out).mono ?_
  rintro e w1 ⟨rfl, hR, hK⟩
  rw [HM.out]
  have R1 := Aside0.mk hR
  have K1 := Aside0.mk hK
  clear hR hK
  go_wp2
  go_loopw [4, 5] (fun v n wr => ∃ (j : Nat) (sj : RdS) (xs : List S148), n = .int .u32 j ∧ j ≤ m ∧ Aside0 (xs.length + j ≤ m) ∧ Aside0 (sevN rowR rowS m (takeS s 2) = xs ++ sevN rowR rowS j sj) ∧ Aside0 (sevNS rowR rowS m (takeS s 2) = sevNS rowR rowS j sj) ∧ Aside0 (Kd.R k148 148 wr w.heap.size (fun k => k ≠ g) v xs) ∧ Aside0 (Rd w0 wr g sj) ∧ Aside0 (KeepBut w wr g none)) (fun _ n _ => (intOf n).toNat)
  case atStart => exact ⟨m, _, [], rfl, Nat.le_refl _, ⟨by simp⟩, ⟨rfl⟩, ⟨rfl⟩, ⟨Kd.R_nil _ _ _ _ _⟩, R1, K1⟩
  case round =>
    obtain ⟨j, sj, xs, rfl, hj, HL, E1, E2, HO, HR, HK⟩ := hrel
    cases j with
    | zero =>
      go_wp2
      go_ret
      rw [E1.out, E2.out]
      exact ⟨_, rfl, by rw [show sevN rowR rowS 0 sj = [] from rfl, List.append_nil]; exact Kd.R_mono HO.out (fun _ _ => trivial), HR.out, HK.out⟩
    | succ i =>
      obtain ⟨A, c, hrow, _⟩ := HR.out.row
      have cs : wr.cell? ⟨g, 1, none⟩ = some (.bool sj.2) := blk_cell hrow 1
      clear hrow
      cases hsh : sj.2 with
      | true =>
        rw [hsh] at cs
        go_wp2
        go_ret
        rw [E1.out, E2.out]
        have q1 : sevN rowR rowS (i + 1) sj = [] := by unfold sevN; rw [if_pos hsh]
        have q2 : sevNS rowR rowS (i + 1) sj = sj := by unfold sevNS; rw [if_pos hsh]
        rw [q1, q2]
        exact ⟨_, rfl, by rw [List.append_nil]; exact Kd.R_mono HO.out (fun _ _ => trivial), HR.out, HK.out⟩
      | false =>
        rw [hsh] at cs
        have q1 : sevN rowR rowS (i + 1) sj = rowR sj :: sevN rowR rowS i (rowS sj) := by rw [sevN, if_neg (by rw [hsh]; decide)]
        have q2 : sevNS rowR rowS (i + 1) sj = sevNS rowR rowS i (rowS sj) := by rw [sevNS, if_neg (by rw [hsh]; decide)]
        rw [q1] at E1
        rw [q2] at E2
        clear q1 q2
        obtain ⟨Av, cv, rfl, hcv, _⟩ := Kd.R_reads HO.out
        have hjp : (0 : Int) < ((i + 1 : Nat) : Int) := by omega
        have hszw : w.heap.size ≤ wr.heap.size := HK.out.1
        have BR1 := Aside0.mk (HK.out.blk HBR.out hr (by simp))
        go_wp2_with fail
        refine (oneRow_calls w0 wr g br sj HR.out BR1.out hr).mono ?_
        rintro e w2 ⟨rfl, hR, hK⟩
        obtain ⟨x, hx⟩ : ∃ x, x = rowR sj := ⟨_, rfl⟩
        rw [← hx]
        have HX := Aside0.mk hx
        have HO2 := Aside0.mk (R_rd HO.out hK)
        have HK2 := Aside0.mk (keep_then HK.out hK)
        have HR2 := Aside0.mk hR
        have hs2 : w.heap.size ≤ w2.heap.size := HK2.out.1
        clear hx hR hK cs
        go_wp2_with (first | (at_builtin; refine Kd.R_append k148 (w0 := w2) w.heap.size rfl (.tmp 19) (.tmp 22) 143 148 (.agg #[.string ⟨#[]⟩, .int .u32 0]) 24 rfl Tryz.underlying143 (by kernel_rfl) rfl (by decide) (by decide) (.slice Av xs.length cv) xs x [.string x.f0, .int .u32 x.f1] (fun k => k ≠ g) (fun _ => False) rfl rfl (k148_mkM _ _ _ _) (fun _ hk => hk.elim) (fun k hk => by omega) HO2.out (Below.refl _ _) hs2 (by have := HL.out; omega) ?_; intro v1 w3 hO hB hG hat; have HO3 := Aside0.mk hO; have HB3 := Aside0.mk hB; have HG3 := Aside0.mk hG; clear hO hB hG hat))
        go_roundw
        case rel =>
          have hown : ∀ k, (Value.slice Av xs.length cv).ownBlock = some k → w.heap.size ≤ k := fun k hk => Kd.R_base HO2.out k hk
          refine ⟨i, rowS sj, xs ++ [x], by go_num, by omega, ⟨by have := HL.out; rw [List.length_append]; simp; omega⟩, ⟨by rw [E1.out, HX.out, List.append_assoc]; rfl⟩, E2, HO3, ⟨?_⟩, ⟨?_⟩⟩
          · exact HR2.out.grownBy (HR2.out.below.trans (HB3.out.mono h0)) HG3.out (fun k hk => by have := hown k hk; omega)
          · exact keep_grown HK2.out HG3.out hown
        case measure => simp [intOf]

def resR (s : RdS) : S145 := ⟨sevR rowR rowS s⟩
def resS (s : RdS) : RdS := sevS rowR rowS s

theorem R_from {α : Type} {d : Kd α} {e base : Nat} {ok : Nat → Prop} {w : World} {v : Value} {xs : List α} (h : d.R e w base ok v xs) : d.R e w base (fun k => base ≤ k) v xs := Kd.R_mono (Kd.R_bound h) (fun _ hk => hk.2.1)
theorem blk1 {w : World} {g t : Nat} {a : Value} (h : w.heap[g]? = some (.cells #[a] t (0, 0))) : w.cell? ⟨g, 0, none⟩ = some a ∧ w.frozen? ⟨g, 0, none⟩ = false := ⟨blk_cell h 0, blk_frozen h 0⟩

/-- The two blocks that one result needs. -/
def resWorld (w : World) (g : Nat) : World := (w.alloc (.cells #[.pointer (some ⟨g, 0, none⟩)] 125)).alloc (.cells #[.slice none 0 0] 145)
theorem resWorld_facts (w : World) (g : Nat) : Below w.heap.size w (resWorld w g) ∧ (resWorld w g).heap.size = w.heap.size + 1 + 1 ∧ (resWorld w g).heap[w.heap.size]? = some (.cells #[.pointer (some ⟨g, 0, none⟩)] 125 (0, 0)) ∧
    (resWorld w g).heap[w.heap.size + 1]? = some (.cells #[.slice none 0 0] 145 (0, 0)) := by
  have s1 : (w.alloc (.cells #[.pointer (some ⟨g, 0, none⟩)] 125)).heap.size = w.heap.size + 1 := by show (w.heap.push _).size = _; simp
  unfold resWorld
  refine ⟨((Below.refl w.heap.size w).alloc (Nat.le_refl _) _).alloc (by omega) _, ?_, ?_, ?_⟩
  · show ((w.alloc (.cells #[.pointer (some ⟨g, 0, none⟩)] 125)).heap.push _).size = _
    rw [Array.size_push, s1]
  · exact blk_alloc (blk_new w _) _
  · have := blk_new (w.alloc (.cells #[.pointer (some ⟨g, 0, none⟩)] 125)) (.cells #[.slice none 0 0] 145)
    rwa [s1] at this

set_option maxHeartbeats 1600000 in
set_option maxRecDepth 100000 in
theorem oneResult_calls (w0 w : World) (g : Nat) (s : RdS) (h : Rd w0 w g s) :
    Calls Tryz.prog 144 #[.pointer (some ⟨g, 0, none⟩)] w fun e w' => ∃ v, e = .returned (.agg #[v]) ∧ Kd.R k148 148 w' w.heap.size (fun k => w.heap.size ≤ k) v (resR s).f0 ∧ Rd w0 w' g (resS s) ∧ KeepBut w w' g none := by
  unfold resR resS
  dsimp only
  have hu := Tryz.underlying145
  have H := Aside0.mk h
  have hlt : g < w.heap.size := h.lt
  have h0 : w0.heap.size ≤ w.heap.size := h.below.size
  have hmf : ∀ (fn : Fn) (first cap : Array Value) (w : World), (Instr.makeFunc fn first cap).run Tryz.prog w = .ok (.func fn first cap) w := fun _ _ _ _ => rfl
  have HF := Aside0.mk (resWorld_facts w g)
  clear h
  go_enter Tryz.func144, Tryz.ntmps144
  go_wp2_with fail
  change Calls Tryz.prog 145 _ (resWorld w g) _
  obtain ⟨W, hW⟩ : ∃ W, W = resWorld w g := ⟨_, rfl⟩
  rw [← hW] at HF ⊢
  clear hW
  refine (severalRow_calls w0 W g w.heap.size s (H.out.grown HF.out.1) HF.out.2.2.1 (by omega)).mono ?_
  rintro e w1 ⟨v, rfl, hO, hR, hK⟩
  have B1 := keep_cells HF.out.2.2.2 (show w.heap.size + 1 ≠ g by omega) hK
  have HW : W.heap.size = w.heap.size + 1 + 1 := HF.out.2.1
  have HO := Aside0.mk (R_from hO)
  have HR := Aside0.mk hR
  have HK := Aside0.mk (keep_then (KeepBut.of_below HF.out.1 g none) hK)
  clear hO hR hK
  obtain ⟨cB, fB⟩ := blk1 B1
  have B1' := Aside0.mk B1
  clear B1
  obtain ⟨Av, cv, rfl, hcv, _⟩ := Kd.R_reads HO.out
  go_wp2
  try simp only [Exit.inBlock, Exit.then]
  refine bodyPost_ret (results_cell_row rfl _ _ (w.heap.size + 1) 145 _ (0, 0) _ rfl (blk_put (cs' := #[.slice Av (sevR rowR rowS s).length cv]) B1'.out 0 _ rfl) hu rfl (by kernel_rfl)) rfl ?_
  refine ⟨_, rfl, ?_, HR.out.set (by omega) (by omega) _ _, keep_new HK.out (Nat.le_succ _) _ _⟩
  exact Kd.R_mono (Kd.R_lower (Kd.R_far HO.out (p := ⟨w.heap.size + 1, 0, none⟩) (fun k hk => by show k ≠ w.heap.size + 1; omega) _) (by omega)) (fun k hk => by omega)

set_option maxHeartbeats 1600000 in
set_option maxRecDepth 100000 in
theorem getOneResult_calls (w0 w : World) (g bo br : Nat) (s : RdS) (h : Rd w0 w g s) (hbo : w.heap[bo]? = some (.cells #[.func (.func 144) #[] #[]] 155 (0, 0))) (hbr : w.heap[br]? = some (.cells #[.pointer (some ⟨g, 0, none⟩)] 125 (0, 0))) :
    Calls Tryz.prog 199 #[.pointer (some ⟨bo, 0, none⟩), .pointer (some ⟨br, 0, none⟩)] w fun e w' => ∃ v, e = .returned (.agg #[v]) ∧ Kd.R k148 148 w' w.heap.size (fun k => w.heap.size ≤ k) v (resR s).f0 ∧ Rd w0 w' g (resS s) ∧ KeepBut w w' g none := by
  obtain ⟨x, hx⟩ : ∃ x, x = resR s := ⟨_, rfl⟩
  rw [← hx]
  have HX := Aside0.mk hx
  clear hx
  have hu := Tryz.underlying145
  have H := Aside0.mk h
  have hlt : g < w.heap.size := h.lt
  have h0 : w0.heap.size ≤ w.heap.size := h.below.size
  have hgb : g ≠ w.heap.size := by omega
  have co : w.cell? ⟨bo, 0, none⟩ = some (.func (.func 144) #[] #[]) := blk_cell hbo 0
  have cr : w.cell? ⟨br, 0, none⟩ = some (.pointer (some ⟨g, 0, none⟩)) := blk_cell hbr 0
  have lo : bo < w.heap.size := blk_lt hbo
  have lr : br < w.heap.size := blk_lt hbr
  clear h hbo hbr
  go_enter Tryz.func199, Tryz.ntmps199
  go_wp2_with fail
  refine (oneResult_calls w0 _ g s (H.out.alloc _)).mono ?_
  rintro e w1 ⟨v, rfl, hO, hR, hK⟩
  rw [← HX.out] at hO
  rw [show (w.alloc (.cells #[.slice none 0 0] 145)).heap.size = w.heap.size + 1 from Array.size_push _] at hO
  have B1 := keep_cells (blk_new w (.cells #[.slice none 0 0] 145)) (Ne.symm hgb) hK
  have K1 := Aside0.mk (keep_then (KeepBut.of_below (below_alloc (Below.refl w.heap.size w) (.cells #[.slice none 0 0] 145)) g none) hK)
  have R1 := Aside0.mk hR
  have HO := Aside0.mk hO
  clear hR hK hO
  obtain ⟨Av, cv, rfl, hcv, _⟩ := Kd.R_reads HO.out
  obtain ⟨cB, fB⟩ := blk1 B1
  have B1' := Aside0.mk B1
  clear B1
  go_wp2
  try simp only [Exit.inBlock, Exit.then]
  refine bodyPost_ret (results_cell_row rfl _ _ w.heap.size 145 _ (0, 0) _ rfl (blk_put (cs' := #[.slice Av x.f0.length cv]) B1'.out 0 _ rfl) hu rfl (by kernel_rfl)) rfl ?_
  refine ⟨_, rfl, ?_, R1.out.set hgb h0 _ _, keep_new K1.out (Nat.le_refl _) _ _⟩
  exact Kd.R_mono (Kd.R_lower (Kd.R_far HO.out (p := ⟨w.heap.size, 0, none⟩) (fun k hk => by show k ≠ w.heap.size; omega) _) (by omega)) (fun k hk => by omega)

set_option maxHeartbeats 1600000 in
set_option maxRecDepth 100000 in
theorem severalResult_calls (w0 w : World) (g : Nat) (bo br : Nat) (s : RdS) (h : Rd w0 w g s) (hbo : w.heap[bo]? = some (.cells #[.func (.func 144) #[] #[]] 155 (0, 0))) (hbr : w.heap[br]? = some (.cells #[.pointer (some ⟨g, 0, none⟩)] 125 (0, 0))) (ho : bo ≠ g) (hr : br ≠ g) :
    Calls Tryz.prog 198 #[.pointer (some ⟨g, 0, none⟩), .func (.func 199) #[] #[.pointer (some ⟨bo, 0, none⟩), .pointer (some ⟨br, 0, none⟩)]] w fun e w' => ∃ v, e = .returned v ∧ Kd.S k145 145 w' w.heap.size (fun _ => True) v (sevR resR resS s) ∧ Rd w0 w' g (sevS resR resS s) ∧ KeepBut w w' g none := by
  have hu := Tryz.underlying145
  have H := Aside0.mk h
  have hlt : g < w.heap.size := h.lt
  have h0 : w0.heap.size ≤ w.heap.size := h.below.size
  have hn := numR_two h.bytes
  obtain ⟨m, hm⟩ : ∃ m : Nat, numR s 2 = m := ⟨(numR s 2).toNat, by omega⟩
  have hm' : m < 65536 := by omega
  have HM := Aside0.mk hm
  have HBO := Aside0.mk hbo
  have HBR := Aside0.mk hbr
  have e1 : sevR resR resS s = sevN resR resS m (takeS s 2) := by unfold sevR; rw [hm]; rfl
  have e2 : sevS resR resS s = sevNS resR resS m (takeS s 2) := by unfold sevS; rw [hm]; rfl
  rw [e1, e2]
  clear h hn hm hbo hbr e1 e2
  go_enter Tryz.func198, Tryz.ntmps198
  go_wp2_with fail
  refine (number_calls w0 _ g s 2 (by omega) H.out).mono ?_
  rintro e w1 ⟨rfl, hR, hK⟩
  rw [HM.out]
  have R1 := Aside0.mk hR
  have K1 := Aside0.mk hK
  clear hR hK
  go_wp2
  go_loopw [4, 5] (fun v n wr => ∃ (j : Nat) (sj : RdS) (xs : List S145), n = .int .u32 j ∧ j ≤ m ∧ Aside0 (xs.length + j ≤ m) ∧ Aside0 (sevN resR resS m (takeS s 2) = xs ++ sevN resR resS j sj) ∧ Aside0 (sevNS resR resS m (takeS s 2) = sevNS resR resS j sj) ∧ Aside0 (Kd.S k145 145 wr w.heap.size (fun k => k ≠ g) v xs) ∧ Aside0 (Rd w0 wr g sj) ∧ Aside0 (KeepBut w wr g none)) (fun _ n _ => (intOf n).toNat)
  case atStart => exact ⟨m, _, [], rfl, Nat.le_refl _, ⟨by simp⟩, ⟨rfl⟩, ⟨rfl⟩, ⟨Kd.S_nil _ _ _ _ _⟩, R1, K1⟩
  case round =>
    obtain ⟨j, sj, xs, rfl, hj, HL, E1, E2, HO, HR, HK⟩ := hrel
    cases j with
    | zero =>
      go_wp2
      go_ret
      rw [E1.out, E2.out]
      exact ⟨_, rfl, by rw [show sevN resR resS 0 sj = [] from rfl, List.append_nil]; exact Kd.S_mono HO.out (fun _ _ => trivial), HR.out, HK.out⟩
    | succ i =>
      obtain ⟨A, c, hrow, _⟩ := HR.out.row
      have cs : wr.cell? ⟨g, 1, none⟩ = some (.bool sj.2) := blk_cell hrow 1
      clear hrow
      cases hsh : sj.2 with
      | true =>
        rw [hsh] at cs
        go_wp2
        go_ret
        rw [E1.out, E2.out]
        have q1 : sevN resR resS (i + 1) sj = [] := by unfold sevN; rw [if_pos hsh]
        have q2 : sevNS resR resS (i + 1) sj = sj := by unfold sevNS; rw [if_pos hsh]
        rw [q1, q2]
        exact ⟨_, rfl, by rw [List.append_nil]; exact Kd.S_mono HO.out (fun _ _ => trivial), HR.out, HK.out⟩
      | false =>
        rw [hsh] at cs
        have q1 : sevN resR resS (i + 1) sj = resR sj :: sevN resR resS i (resS sj) := by rw [sevN, if_neg (by rw [hsh]; decide)]
        have q2 : sevNS resR resS (i + 1) sj = sevNS resR resS i (resS sj) := by rw [sevNS, if_neg (by rw [hsh]; decide)]
        rw [q1] at E1
        rw [q2] at E2
        clear q1 q2
        obtain ⟨Av, cv, rfl, hcv, _⟩ := Kd.S_reads HO.out
        have hjp : (0 : Int) < ((i + 1 : Nat) : Int) := by omega
        have hszw : w.heap.size ≤ wr.heap.size := HK.out.1
        have BO1 := Aside0.mk (HK.out.blk HBO.out ho (by simp))
        have BR1 := Aside0.mk (HK.out.blk HBR.out hr (by simp))
        go_wp2_with fail
        refine (getOneResult_calls w0 wr g bo br sj HR.out BO1.out BR1.out).mono ?_
        rintro e w2 ⟨vx, rfl, hX, hR, hK⟩
        obtain ⟨x, hx⟩ : ∃ x, x = resR sj := ⟨_, rfl⟩
        rw [← hx] at hX
        have HX := Aside0.mk hx
        have HXR := Aside0.mk hX
        have HO2 := Aside0.mk (Kd.S_keep (Kd.S_mono (Kd.S_bound HO.out) (fun k hk => (⟨hk.1, Nat.not_le.2 hk.2.2.1⟩ : k ≠ g ∧ ¬ wr.heap.size ≤ k))) hK (fun k hk => hk.1))
        have HK2 := Aside0.mk (keep_then HK.out hK)
        have HR2 := Aside0.mk hR
        have HLT := Aside0.mk (fun k hk => Kd.S_lt HO.out k hk)
        have hs2 : w.heap.size ≤ w2.heap.size := HK2.out.1
        have hs3 : wr.heap.size ≤ w2.heap.size := hK.1
        clear hx hR hK cs hX
        obtain ⟨Ax, cx, rfl, hcx, _⟩ := Kd.R_reads HXR.out
        go_wp2_with (first | (at_builtin; refine Kd.S_append k145 (w0 := w2) w.heap.size rfl (.tmp 19) (.tmp 22) 48 145 (.agg #[.slice none 0 0]) 24 rfl Tryz.underlying48 (by kernel_rfl) rfl (by decide) (by decide) (.slice Av xs.length cv) xs x [.slice Ax x.f0.length cx] (fun k => k ≠ g) (fun k => wr.heap.size ≤ k) rfl rfl (k145_mkM _ _ _ _ (Kd.R_lower HXR.out hszw)) (fun k hk => ⟨by omega, fun he => by have := HLT.out k he.symm; omega⟩) (fun k hk => by omega) HO2.out (Below.refl _ _) hs2 (by have := HL.out; omega) ?_; intro v1 w3 hO hB hG hat; have HO3 := Aside0.mk hO; have HB3 := Aside0.mk hB; have HG3 := Aside0.mk hG; clear hO hB hG hat))
        go_roundw
        case rel =>
          have hown : ∀ k, (Value.slice Av xs.length cv).ownBlock = some k → w.heap.size ≤ k := fun k hk => Kd.S_base HO2.out k hk
          refine ⟨i, resS sj, xs ++ [x], by go_num, by omega, ⟨by have := HL.out; rw [List.length_append]; simp; omega⟩, ⟨by rw [E1.out, HX.out, List.append_assoc]; rfl⟩, E2, HO3, ⟨?_⟩, ⟨?_⟩⟩
          · exact HR2.out.grownBy (HR2.out.below.trans (HB3.out.mono h0)) HG3.out (fun k hk => by have := hown k hk; omega)
          · exact keep_grown HK2.out HG3.out hown
        case measure => simp [intOf]

def Bts (s : RdS) : Prop := ∀ x ∈ s.1, 0 ≤ x ∧ x < 256
theorem Bts.take {s : RdS} (hs : Bts s) (n : Nat) : Bts (takeS s n) := by
  unfold takeS
  split
  · exact hs
  · exact fun x hx => hs x (List.mem_of_mem_drop hx)
theorem Bts.text {s : RdS} (hs : Bts s) : Bts (textS s) := (hs.take 1).take _
theorem Bts.row {s : RdS} (hs : Bts s) : Bts (rowS s) := hs.text.take 4
theorem Bts.op {s : RdS} (hs : Bts s) : Bts (opS s) := (hs.take 1).text.text.take 4
theorem Bts.change {s : RdS} (hs : Bts s) : Bts (changeS s) := (hs.text.take 1).take 4
theorem Bts.sevN {α : Type} {r : RdS → α} {st : RdS → RdS} (hst : ∀ s, Bts s → Bts (st s)) : ∀ (n : Nat) (s : RdS), Bts s → Bts (sevNS r st n s)
  | 0, _, h => h
  | n + 1, s, h => by
    unfold sevNS
    split
    · exact h
    · exact Bts.sevN hst n _ (hst s h)
theorem Bts.sev {α : Type} {r : RdS → α} {st : RdS → RdS} (hst : ∀ s, Bts s → Bts (st s)) {s : RdS} (h : Bts s) : Bts (sevS r st s) := Bts.sevN hst _ _ (h.take 2)
theorem Bts.res {s : RdS} (hs : Bts s) : Bts (resS s) := Bts.sev (fun _ h => h.row) hs
theorem sevN_all {α : Type} {r : RdS → α} {st : RdS → RdS} {p : α → Prop} (hst : ∀ s, Bts s → Bts (st s)) (hp : ∀ s, Bts s → p (r s)) : ∀ (n : Nat) (s : RdS), Bts s → ∀ x ∈ sevN r st n s, p x
  | 0, _, _, x, hx => by simp [sevN] at hx
  | n + 1, s, h, x, hx => by
    unfold sevN at hx
    split at hx
    · cases hx
    · rcases List.mem_cons.1 hx with rfl | hx
      · exact hp s h
      · exact sevN_all hst hp n _ (hst s h) x hx
theorem sevN_short {α : Type} (r : RdS → α) (st : RdS → RdS) : ∀ (n : Nat) (s : RdS), (sevN r st n s).length ≤ n
  | 0, _ => Nat.le_refl _
  | n + 1, s => by
    unfold sevN
    split
    · simp
    · have := sevN_short r st n (st s)
      simp
      omega
theorem sevRes_rows (s : RdS) (h : ∀ x ∈ s.1, 0 ≤ x ∧ x < 256) : ∀ x ∈ sevR resR resS s, x.f0.length ≤ 9223372036854775807 := by
  refine sevN_all (p := fun x : S145 => x.f0.length ≤ 9223372036854775807) (fun _ h => h.res) (fun s hs => ?_) _ _ (Bts.take (show Bts s from h) 2)
  have h1 := sevN_short rowR rowS (numR s 2).toNat (takeS s 2)
  have h2 := numR_two hs
  show (sevR rowR rowS s).length ≤ _
  unfold sevR
  omega

end Go.Proofs.YtcohodkpppmaoaaGreatDoor.Q
namespace Go.Proofs.YtcohodkpppmaoaaGreatDoor.Q
open Go.RowKit Go.Proofs.YtcohodkpppmaoaaGreatDoorW.PrintWords Go.Proofs.YtcohodkpppmaoaaGreatDoorW.PrintLast Go.Proofs.YtcohodkpppmaoaaGreatDoorW.PrintMore
set_option linter.unusedVariables false

def getR {α : Type} (r : RdS → α) (st : RdS → RdS) (put : List α → List Int × Int) (l0 : List Int) : List α × Int :=
  if (sevS r st (l0, false)).2 = true then ([], 4)
  else if (put (sevR r st (l0, false))).2 = 0 then
    (if ((strOfNums l0).toList == (strOfNums (put (sevR r st (l0, false))).1).toList) = true then (sevR r st (l0, false), 0) else ([], 4))
  else ([], 4)
theorem sevN_length {α : Type} (r : RdS → α) (st : RdS → RdS) : ∀ (n : Nat) (s : RdS), (sevN r st n s).length ≤ n
  | 0, _ => Nat.le_refl _
  | n + 1, s => by
    unfold sevN
    split
    · simp
    · have := sevN_length r st n (st s)
      simp
      omega
theorem sevR_length {α : Type} (r : RdS → α) (st : RdS → RdS) (s : RdS) (hs : ∀ x ∈ s.1, 0 ≤ x ∧ x < 256) : (sevR r st s).length < 65536 := by
  have h1 := sevN_length r st (numR s 2).toNat (takeS s 2)
  have h2 := numR_two hs
  unfold sevR
  omega

/-- The three blocks that 'get' makes. -/
def getWorld (w : World) (f v : Value) (tf : TypeId) : World :=
  (((w.alloc (.cells #[f] tf)).alloc (.cells #[v, .bool false] 229)).alloc (.cells #[.pointer (some ⟨w.heap.size + 1, 0, none⟩)] 125))
theorem alloc_size (w : World) (o : Obj) : (w.alloc o).heap.size = w.heap.size + 1 := by show (w.heap.push o).size = _; simp
theorem getWorld_facts (w : World) (f v : Value) (tf : TypeId) :
    Below w.heap.size w (getWorld w f v tf) ∧ (getWorld w f v tf).heap[w.heap.size]? = some (.cells #[f] tf (0, 0)) ∧ (getWorld w f v tf).heap[w.heap.size + 1]? = some (.cells #[v, .bool false] 229 (0, 0)) ∧
      (getWorld w f v tf).heap[w.heap.size + 1 + 1]? = some (.cells #[.pointer (some ⟨w.heap.size + 1, 0, none⟩)] 125 (0, 0)) := by
  have s1 := alloc_size w (.cells #[f] tf)
  have s2 := alloc_size (w.alloc (.cells #[f] tf)) (.cells #[v, .bool false] 229)
  have b0 : (w.alloc (.cells #[f] tf)).heap[w.heap.size]? = some (.cells #[f] tf (0, 0)) := blk_new w _
  have b1 : ((w.alloc (.cells #[f] tf)).alloc (.cells #[v, .bool false] 229)).heap[w.heap.size + 1]? = some (.cells #[v, .bool false] 229 (0, 0)) := by
    have := blk_new (w.alloc (.cells #[f] tf)) (.cells #[v, .bool false] 229)
    rwa [s1] at this
  have b2 : (((w.alloc (.cells #[f] tf)).alloc (.cells #[v, .bool false] 229)).alloc (.cells #[.pointer (some ⟨w.heap.size + 1, 0, none⟩)] 125)).heap[w.heap.size + 1 + 1]? = some (.cells #[.pointer (some ⟨w.heap.size + 1, 0, none⟩)] 125 (0, 0)) := by
    have := blk_new ((w.alloc (.cells #[f] tf)).alloc (.cells #[v, .bool false] 229)) (.cells #[.pointer (some ⟨w.heap.size + 1, 0, none⟩)] 125)
    rwa [s2, s1] at this
  unfold getWorld
  refine ⟨?_, ?_, ?_, ?_⟩
  · exact (((Below.refl w.heap.size w).alloc (Nat.le_refl _) _).alloc (by omega) _).alloc (by omega) _
  · exact blk_alloc (blk_alloc b0 _) _
  · exact blk_alloc b1 _
  · exact b2

def rows_GetResults.f (l0 : List Int) : Option (List S145 × Int) := if ∀ x ∈ l0, 0 ≤ x ∧ x < 256 then some (getR resR resS putResults l0) else none

set_option maxHeartbeats 3200000 in
set_option maxRecDepth 100000 in
theorem getResult_calls (A0 : Option Addr) (c0 : Nat) (l0 : List Int) (w : World) (hr0 : Kd.C (Kd.int .u8) w A0 l0.length l0) (hc0 : l0.length ≤ c0) (hby : ∀ x ∈ l0, 0 ≤ x ∧ x < 256) :
    Calls Tryz.prog 143 #[.slice A0 l0.length c0, .func (.func 144) #[] #[], .func (.func 53) #[] #[]] w fun e w' => ∃ v0_, e = .returned (.tuple #[v0_, .int .i64 (getR resR resS putResults l0).2]) ∧ Kd.S k145 145 w' w.heap.size (fun _ => True) v0_ (getR resR resS putResults l0).1 ∧ Below w.heap.size w w' := by
  obtain ⟨l, hl⟩ : ∃ l, l = sevR resR resS (l0, false) := ⟨_, rfl⟩
  obtain ⟨s', hs'⟩ : ∃ s', s' = sevS resR resS (l0, false) := ⟨_, rfl⟩
  have hlen : l.length < 65536 := hl ▸ sevR_length resR resS (l0, false) hby
  obtain ⟨k, hk⟩ := (ev_putResults l (by omega) (fun x hx => sevRes_rows (l0, false) hby x (hl ▸ hx))).rounds
  unfold getR
  rw [← hl, ← hs']
  generalize putResults l = q at *
  obtain ⟨p, r2⟩ := q
  dsimp only
  have HK := Aside0.mk hk
  have HBY := Aside0.mk hby
  have HC := Aside0.mk hr0
  have HL := Aside0.mk hl
  have HS := Aside0.mk hs'
  have HMX := Aside0.mk (show l0.length ≤ maxLen from Kd.C_max hr0)
  have hmf : ∀ (fn : Fn) (first cap : Array Value) (w : World), (Instr.makeFunc fn first cap).run Tryz.prog w = .ok (.func fn first cap) w := fun _ _ _ _ => rfl
  have HST := Aside0.mk (getWorld_facts w (.func (.func 144) #[] #[]) (.slice A0 l0.length c0) 155)
  clear hk hby hr0 hl hs'
  have hu := Tryz.underlying229
  go_enter Tryz.func143, Tryz.ntmps143
  go_wp2_with fail
  change Calls Tryz.prog 198 _ (getWorld w (.func (.func 144) #[] #[]) (.slice A0 l0.length c0) 155) _
  obtain ⟨W, hW⟩ : ∃ W, W = getWorld w (.func (.func 144) #[] #[]) (.slice A0 l0.length c0) 155 := ⟨_, rfl⟩
  rw [← hW] at HST ⊢
  clear hW
  have hRd : Rd w W (w.heap.size + 1) (l0, false) := ⟨HST.out.1, Nat.le_succ _, ⟨A0, c0, HST.out.2.2.1, hc0, HMX.out, HC.out⟩, HBY.out⟩
  refine (severalResult_calls w W (w.heap.size + 1) w.heap.size (w.heap.size + 1 + 1) (l0, false) hRd HST.out.2.1 HST.out.2.2.2 (by omega) (by omega)).mono ?_
  rintro e w3 ⟨v, rfl, hO, hR, hKp⟩
  rw [← HL.out] at hO
  rw [← HS.out] at hR
  obtain ⟨A, c, rfl, hcl, hCl⟩ := Kd.S_reads hO
  have hP3 := keep_cells HST.out.2.2.2 (show w.heap.size + 1 + 1 ≠ w.heap.size + 1 by omega) hKp
  have HO3 := Aside0.mk (Kd.S_lower hO HST.out.1.size)
  have HR3 := Aside0.mk hR
  have HP3 := Aside0.mk hP3
  have HCL := Aside0.mk hCl
  have hw3 : w.heap.size ≤ w3.heap.size := hR.below.size
  clear hO hR hKp hRd hP3 hCl
  go_wp2_with fail
  refine (rows_PutResults.calls k A c l p r2 w3 HCL.out hcl HK.out).mono ?_
  rintro e w4 ⟨v4, rfl, hO4, hB4⟩
  obtain ⟨A4, c4, rfl, hc4, hC4⟩ := Kd.R_reads hO4
  have HO4 := Aside0.mk (Kd.S_below HO3.out hB4)
  have HR4 := Aside0.mk (HR3.out.grown hB4)
  have HP4 := blk_below HP3.out hB4
  obtain ⟨Ar, cr, hrow, _⟩ := HR4.out.row
  have hcs : w4.cell? ⟨w.heap.size + 1, 1, none⟩ = some (.bool s'.2) := blk_cell hrow 1
  have hcp : w4.cell? ⟨w.heap.size + 1 + 1, 0, none⟩ = some (.pointer (some ⟨w.heap.size + 1, 0, none⟩)) := blk_cell HP4 0
  have HC4 := Aside0.mk hC4
  have HA := Aside0.mk (Kd.C_below HC.out HR4.out.below)
  clear hO4 hB4 hrow hC4 HP4 HP3 HR3 HO3 HCL
  have hbb : Below w.heap.size w w4 := HR4.out.below
  have HBB := Aside0.mk hbb
  clear hbb
  cases hsh : s'.2 with
  | true =>
    rw [hsh] at hcs
    go_wp2
    go_ret2
    exact ⟨_, rfl, Kd.S_nil _ _ _ _ _, HBB.out⟩
  | false =>
    rw [hsh] at hcs
    by_cases hr2 : r2 = 0
    · subst hr2
      go_wp2_with fail
      refine (bytes_Equal.calls A0 c0 l0 A4 c4 p _ w4 HA.out hc0 HC4.out hc4 rfl).mono ?_
      rintro e w5 ⟨rfl, ⟨n, rfl⟩⟩
      have HO5 := Aside0.mk (Kd.S_drewN HO4.out n)
      have HB5 := Aside0.mk (pw_below_drewN HBB.out n)
      clear HO4 HBB HA HC4
      cases heq : ((strOfNums l0).toList == (strOfNums p).toList) with
      | true =>
        go_wp2
        go_ret2
        exact ⟨_, rfl, HO5.out, HB5.out⟩
      | false =>
        go_wp2
        go_ret2
        exact ⟨_, rfl, Kd.S_nil _ _ _ _ _, HB5.out⟩
    · have hr2b : (r2 != 0) = true := by simpa using hr2
      go_wp2
      all_goals
        go_ret2
        exact ⟨_, rfl, Kd.S_nil _ _ _ _ _, HBB.out⟩

set_option maxHeartbeats 3200000 in
set_option maxRecDepth 100000 in
theorem rows_GetResults.calls (A0 : Option Addr) (c0 : Nat) (l0 : List Int) (r1 : List (S145)) (r2 : Int) (w : World) (hr0 : Kd.C (Kd.int .u8) w A0 l0.length l0) (hc0 : l0.length ≤ c0) (h : rows_GetResults.f l0 = some (r1, r2)) :
    Calls Tryz.prog 54 #[.slice A0 l0.length c0] w fun e w' => ∃ v0_ : Value, e = .returned (.tuple #[v0_, .int .i64 r2]) ∧ Kd.S k145 145 w' w.heap.size (fun _ => True) v0_ r1 ∧ Below w.heap.size w w' := by
  have hby : ∀ x ∈ l0, 0 ≤ x ∧ x < 256 := by
    unfold rows_GetResults.f at h
    split at h
    · assumption
    · cases h
  have hq : getR resR resS putResults l0 = (r1, r2) := by
    unfold rows_GetResults.f at h
    rw [if_pos hby] at h
    exact Option.some.inj h
  have HQ := Aside0.mk hq
  have HBY := Aside0.mk hby
  have HC := Aside0.mk hr0
  clear h hq hby hr0
  go_enter Tryz.func54, Tryz.ntmps54
  go_wp2_with fail
  refine (getResult_calls A0 c0 l0 w HC.out hc0 HBY.out).mono ?_
  rintro e w1 ⟨v, rfl, hO, hB⟩
  rw [HQ.out] at hO ⊢
  have HO := Aside0.mk hO
  have HB := Aside0.mk hB
  clear hO hB
  go_wp2
  go_ret2
  exact ⟨_, rfl, HO.out, HB.out⟩

end Go.Proofs.YtcohodkpppmaoaaGreatDoor.Q
namespace Go.Proofs.YtcohodkpppmaoaaGreatDoor.Q
open Go.RowKit Go.Proofs.YtcohodkpppmaoaaGreatDoorW.PrintWords Go.Proofs.YtcohodkpppmaoaaGreatDoorW.PrintLast Go.Proofs.YtcohodkpppmaoaaGreatDoorW.PrintMore
set_option linter.unusedVariables false
/-- A result, and what lies in the room behind its rows. -/
abbrev TRes := ResT' × List RowT'
def spareRow : RowT' := ⟨spareKey, 0⟩
def spareRes : TRes := (⟨[spareRow]⟩, [])
def twOf (x : ResT') : TRes := (x, [spareRow])
def fdTR : Fd TRes where
  k := Kd.iso k145 Prod.fst
  M := fun w F x cs => ∃ A c, cs = [.slice A x.1.f0.length c] ∧ x.1.f0.length + x.2.length ≤ c ∧ Fd.Row fdRow 148 w F (.slice A (x.1.f0.length + x.2.length) c) (x.1.f0 ++ x.2)
  read := by
    rintro w F x cs ⟨A, c, rfl, hl, h⟩
    obtain ⟨A', c', ev, hc, hC⟩ := Fd.row_reads h
    injection ev with e1 _ e3
    subst e1
    exact k145_mk w x.1 (by omega) (C_front hC)
  move := by
    rintro w w1 F x cs hm ⟨A, c, rfl, hl, h⟩
    exact ⟨A, c, rfl, hl, Fd.row_move hm h⟩
  lt := by
    rintro w F x cs ⟨A, c, rfl, hl, h⟩
    exact Fd.row_lt h
theorem C_iso {α β : Type} {k : Kd α} {f : β → α} {w : World} {A : Option Addr} {n : Nat} {ys : List β} (h : (Kd.iso k f).C w A n ys) : k.C w A n (ys.map f) :=
  ⟨by simpa using h.1, h.2.1, fun hn => by
    obtain ⟨ad, e, hc⟩ := h.2.2 hn
    refine ⟨ad, e, fun j p hj => ?_⟩
    rw [List.getElem?_map] at hj
    obtain ⟨q, hq, rfl⟩ := Option.map_eq_some_iff.1 hj
    exact hc j q hq⟩
section
variable {w : World} {F : List Nat} {A : Option Addr} {n m c : Nat} {l : List ResT'} {ys : List TRes} {e : Nat}
theorem twMap (l : List ResT') : (l.map twOf).map Prod.fst = l := by simp [twOf, Function.comp_def]
/-- As it is read. -/
theorem twinR_c (h : Twin fdTR e w F (.slice A n c) (l.map twOf) spareRes) : k145.C w A l.length l ∧ l.length + 1 ≤ c := by
  obtain ⟨h1, h2, h3⟩ := h.c
  have h4 := C_iso h1
  rw [List.length_map] at h3 h4
  rw [twMap] at h4
  exact ⟨h4, h3⟩
/-- Element i of a row of results: its rows, and what lies behind them. -/
theorem TRow_at (h : Fd.Row fdTR e w F (.slice A m c) ys) (i : Nat) (hi : i < ys.length) : ∃ g Ai ci, A = some ⟨g, 0, none⟩ ∧ w.cell? ⟨g, i, none⟩ = some (.slice Ai (ys[i]).1.f0.length ci) ∧ (ys[i]).1.f0.length + (ys[i]).2.length ≤ ci ∧ k148.C w Ai ((ys[i]).1.f0.length + (ys[i]).2.length) ((ys[i]).1.f0 ++ (ys[i]).2) := by
  obtain ⟨inner, G, ho, he, rfl⟩ := h
  obtain ⟨c0, c1, c2, F0, F', F1, rfl, hl0, rfl, _, hM, _⟩ := Fd.els_at hi he
  obtain ⟨g, cap, ev, _, _⟩ := ho.form (by omega)
  injection ev with e1 _ e3
  subst e1
  obtain ⟨Ai, ci, rfl, hci, hr⟩ := hM
  obtain ⟨A', c', ev', hc', hC⟩ := Fd.row_reads hr
  injection ev' with a1 _ a3
  subst a1
  rw [List.length_append] at hC
  have hl0' : c0.length = i := by rw [hl0]; exact Nat.mul_one i
  refine ⟨g, Ai, ci, rfl, ?_, hci, hC⟩
  have h := ho.cells (g := g) rfl i (.slice Ai (ys[i]).1.f0.length ci) (by rw [List.getElem?_append_right (by omega), hl0', Nat.sub_self]; rfl)
  rwa [add_plain] at h
end
theorem infoTwResults : (Tryz.prog.info? 145).map (fun i => (i.zero, i.size, i.bytes)) = some (some (.agg #[.slice none 0 0]), 1, 24) := by kernel_rfl
set_option maxRecDepth 100000 in
theorem twinResult_calls (w : World) (A0 : Option Addr) (c0 : Nat) (x : ResT') (hr : k148.C w A0 x.f0.length x.f0) (hc0 : x.f0.length ≤ c0) (hl : x.f0.length ≤ 1000000000) :
    Calls Tryz.prog 139 #[.agg #[.slice A0 x.f0.length c0]] w fun e w' => ∃ v, e = .returned (.agg #[v]) ∧ ∃ F, fdTR.M w' F (twOf x) [v] ∧ F.Nodup ∧ (∀ b ∈ F, w.heap.size ≤ b) ∧ Below w.heap.size w w' := by
  have hu := Tryz.underlying145
  have HC := Aside0.mk hr
  clear hr
  go_enter Tryz.func139, Tryz.ntmps139
  go_wp2_with fail
  obtain ⟨w1, hw1⟩ : ∃ w1, w1 = (w.alloc (.cells #[.slice A0 x.f0.length c0] 145)).alloc (.cells #[.slice none 0 0] 145) := ⟨_, rfl⟩
  have hb0 := below_alloc (Below.refl w.heap.size w) (.cells #[.slice A0 x.f0.length c0] 145)
  have hb1 : Below w.heap.size w w1 := by rw [hw1]; exact hb0.alloc hb0.size _
  have hbk : w1.heap[w.heap.size + 1]? = some (.cells #[.slice none 0 0] 145 (0, 0)) := by
    rw [hw1]
    have h := blk_new (w.alloc (.cells #[.slice A0 x.f0.length c0] 145)) (.cells #[.slice none 0 0] 145)
    rwa [alloc_size] at h
  rw [← hw1]
  clear hw1 hb0
  refine (twinRows_calls w1 A0 c0 x.f0 (Kd.C_below HC.out hb1) hc0 hl).mono ?_
  rintro e w2 ⟨v, rfl, F, hT, hN, hF, hb2⟩
  obtain ⟨A, c, rfl, hc, hR⟩ := hT
  have B2 := blk_below hbk hb2
  have BB := Aside0.mk (below_step hb1 hb2)
  have c0_ := blk_cell B2 0
  have f0_ := blk_frozen B2 0
  have hg2 := blk_lt B2
  have hs1 := hb1.size
  have hlt1 : w.heap.size + 1 < w1.heap.size := blk_lt hbk
  have HB2 := Aside0.mk B2
  have HR := Aside0.mk hR
  have HN := Aside0.mk hN
  have HF := Aside0.mk hF
  clear hb1 hb2 hbk B2 hR hN hF
  go_wp2
  try simp only [Exit.inBlock, Exit.then]
  refine bodyPost_ret (results_cell_row rfl _ _ (w.heap.size + 1) 145 #[.slice A x.f0.length c] (0, 0) _ rfl (blk_put (cs' := #[.slice A x.f0.length c]) HB2.out 0 (.slice A x.f0.length c) rfl) hu rfl (by kernel_rfl)) rfl ?_
  refine ⟨_, rfl, F, ⟨A, c, rfl, hc, Fd.row_keeps HR.out ((Keeps.refl [w.heap.size + 1] w2).setCell (p := ⟨w.heap.size + 1, 0, none⟩) (.inl (by simp)) _) (fun b hb hx => by have := HF.out b hb; simp at hx; omega)⟩, HN.out, fun b hb => by have := HF.out b hb; omega, BB.out.setCell (p := ⟨w.heap.size + 1, 0, none⟩) (Nat.le_succ _) _⟩
theorem readRes (l : List ResT') (k : Nat) (hk : k < l.length) : (l.take (k + 1)).map twOf = (l.take k).map twOf ++ [twOf (rd_T145 l (k : Int))] := by
  have e : rd_T145 l (k : Int) = l[k] := by simp [rd_T145, hk]
  rw [List.take_succ_eq_append_getElem hk, List.map_append, e]
  rfl
theorem rdRes_mem (l : List ResT') (k : Nat) (hk : k < l.length) : rd_T145 l (k : Int) ∈ l := by
  have e : rd_T145 l (k : Int) = l[k] := by simp [rd_T145, hk]
  rw [e]
  exact List.getElem_mem _
set_option maxHeartbeats 3200000 in
set_option maxRecDepth 100000 in
theorem twinResults_calls (w : World) (A0 : Option Addr) (c0 : Nat) (l : List ResT') (hr : Kd.C k145 w A0 l.length l) (hc0 : l.length ≤ c0) (hl : l.length ≤ 1000000000) (hlr : ∀ x ∈ l, x.f0.length ≤ 1000000000) :
    Calls Tryz.prog 52 #[.slice A0 l.length c0] w fun e w' => ∃ v, e = .returned v ∧ ∃ F, Twin fdTR 145 w' F v (l.map twOf) spareRes ∧ F.Nodup ∧ (∀ b ∈ F, w.heap.size ≤ b) ∧ Below w.heap.size w w' := by
  obtain ⟨MC, hMS, HMK⟩ : ∃ MC : Array Value, MC.size = (l.length + 1) * 1 ∧ ∀ W : World, (Instr.makeSlice 48 (.int .i64 0) (.int .i64 ((l.length : Int) + 1))).run Tryz.prog W = .ok (.slice (some ⟨W.heap.size, 0, none⟩) 0 (l.length + 1)) (W.alloc (.cells MC 145)) := ⟨madeCells (.agg #[.slice none 0 0] : Value).cells ((l.length + 1) * 1), madeCells_size _ _, fun W => by
    have h := run_make0 (P := Tryz.prog) 48 145 (.agg #[.slice none 0 0]) 1 24 Tryz.underlying48 infoTwResults (by decide) (l.length + 1) (by omega) W
    rwa [show ((l.length + 1 : Nat) : Int) = (l.length : Int) + 1 by omega] at h⟩
  have hw1 : IntKind.i64.wrap ((l.length : Int) + 1) = (l.length : Int) + 1 := IntWalk.i64_in _ (by omega)
  have HC := Aside0.mk hr
  have HLR := Aside0.mk hlr
  have hul := Tryz.underlying145
  have hulr := Tryz.underlying148
  clear hr hlr
  go_enter Tryz.func52, Tryz.ntmps52
  go_wp2
  obtain ⟨wo, hwo⟩ : ∃ wo, wo = w.alloc (.cells MC 145) := ⟨_, rfl⟩
  have HB0 := Aside0.mk (show Below w.heap.size w wo by rw [hwo]; exact below_alloc (Below.refl _ _) _)
  have HR0 := Aside0.mk (show Fd.Row fdTR 145 wo [w.heap.size] (.slice (some ⟨w.heap.size, 0, none⟩) 0 (l.length + 1)) [] by
    rw [hwo]; exact made0_row fdTR 145 w _ (l.length + 1) (by omega) hMS)
  rw [← hwo]
  clear hwo HMK
  go_loopw [3, 4] (fun v i wr => ∃ (k : Nat) (F : List Nat), k ≤ l.length ∧ i = .int .i64 k ∧ Aside0 (Fd.Row fdTR 145 wr F v ((l.take k).map twOf)) ∧ Aside0 F.Nodup ∧ Aside0 (∀ b ∈ F, w.heap.size ≤ b) ∧ Aside0 (Below w.heap.size w wr)) (fun _ i _ => l.length - (intOf i).toNat)
  case atStart => exact ⟨0, [w.heap.size], Nat.zero_le _, rfl, HR0, ⟨by simp⟩, ⟨by simp⟩, HB0⟩
  case round =>
    clear HR0 HB0
    obtain ⟨wq, hwq⟩ : ∃ wq, wq = wr := ⟨_, rfl⟩
    subst hwq
    obtain ⟨k, F, hk, rfl, HR, HN, HF, HB⟩ := hrel
    obtain ⟨Av, cv, ev, hcv, _⟩ := Fd.row_reads HR.out
    rw [List.length_map, List.length_take, Nat.min_eq_left hk] at ev hcv
    subst ev
    have hsz : w.heap.size ≤ wq.heap.size := HB.out.size
    by_cases hlt : k < l.length
    · have hlt' : (k : Int) < (l.length : Int) := by omega
      have hk0 : (0 : Int) ≤ (k : Int) := by omega
      obtain ⟨ad, Ai, ci, e1, hx0, hci, hCi⟩ := at_T145 (Kd.C_below HC.out HB.out) (k : Int) hk0 hlt'
      subst e1
      simp only [Int.toNat_natCast] at hx0
      have HTK := Aside0.mk (readRes l k hlt)
      have HXL := Aside0.mk (HLR.out _ (rdRes_mem l k hlt))
      generalize rd_T145 l (k : Int) = x at *
      have HCI := Aside0.mk hCi
      clear hCi
      go_wp2_with fail
      refine (twinResult_calls wq Ai ci x HCI.out hci HXL.out).mono ?_
      rintro e w5 ⟨vi, rfl, Fi, hM, hN, hFi, hb5⟩
      have HM := Aside0.mk hM
      have HNi := Aside0.mk hN
      have HFi := Aside0.mk hFi
      have HB5 := Aside0.mk hb5
      have HR5 := Aside0.mk (Fd.row_below HR.out hb5)
      have HLF := Aside0.mk (Fd.row_lt HR.out)
      have hs5 := hb5.size
      clear hM hN hFi hb5
      go_wp2_with (first | (at_builtin; (refine Fd.R_append (W := w5) fdTR rfl (.tmp 15) (.tmp 21) 48 145 (.agg #[.slice none 0 0]) 24 rfl Tryz.underlying48 infoTwResults rfl (show 0 < 1 from by decide) (by decide) (.slice Av k cv) ((l.take k).map twOf) (twOf x) [vi] F Fi rfl rfl HM.out HR5.out (List.nodup_append.2 ⟨HN.out, HNi.out, fun a ha b hb e => by have := HLF.out a ha; have := HFi.out b hb; omega⟩) (by rw [List.length_map, List.length_take]; omega) ?_); intro v1 w6 F6 h1 h2 h3 h4; have R6 := Aside0.mk h1; have N6 := Aside0.mk h2; have K6 := Aside0.mk h3; have L6 := Aside0.mk h4; clear h1 h2 h3 h4))
      go_roundw
      case rel =>
        refine ⟨k + 1, F6, by omega, by go_num, ⟨by rw [HTK.out]; exact R6.out⟩, N6, ⟨fun b hb => ?_⟩, ⟨(below_step HB.out HB5.out).trans (K6.out.below HF.out (by omega))⟩⟩
        rcases L6.out b hb with h | h | h
        · exact HF.out b h
        · have := HFi.out b h; omega
        · omega
      case measure => simp [intOf]; omega
    · obtain rfl : k = l.length := by omega
      have hlt' : ¬ ((l.length : Int) < (l.length : Int)) := by omega
      have etk : l.take l.length = l := List.take_of_length_le (Nat.le_refl _)
      rw [etk] at HR
      have hba := below_alloc (Below.refl wq.heap.size wq) (.cells #[.string ⟨#[115, 112, 97, 114, 101]⟩, .int .u32 0] 148)
      have HBA := Aside0.mk hba
      have HRA := Aside0.mk (Fd.row_below HR.out hba)
      have HLF := Aside0.mk (Fd.row_lt HR.out)
      have HM := Aside0.mk (show fdTR.M (wq.alloc (.cells #[.string ⟨#[115, 112, 97, 114, 101]⟩, .int .u32 0] 148)) [wq.heap.size] spareRes [.slice (some ⟨wq.heap.size, 0, none⟩) 1 1] from by
        refine ⟨_, 1, rfl, Nat.le_refl _, [.string ⟨#[115, 112, 97, 114, 101]⟩, .int .u32 0], [], ⟨rfl, .inr ⟨wq.heap.size, 1, #[.string ⟨#[115, 112, 97, 114, 101]⟩, .int .u32 0], rfl, Nat.zero_le _, blk_new wq _, Nat.le_refl _, by decide, rfl, rfl⟩⟩, ?_, rfl⟩
        exact Fd.els_one (F := []) ⟨rfl, k148_mk _ spareRow⟩)
      have HU := Aside0.mk infoTwResults
      clear hba
      go_wp2_with (first | (at_builtin; (refine Fd.R_append (W := wq.alloc (.cells #[.string ⟨#[115, 112, 97, 114, 101]⟩, .int .u32 0] 148)) fdTR rfl (.tmp 23) (.tmp 27) 48 145 (.agg #[.slice none 0 0]) 24 rfl Tryz.underlying48 infoTwResults rfl (show 0 < 1 from by decide) (by decide) (.slice Av l.length cv) (l.map twOf) spareRes [.slice (some ⟨wq.heap.size, 0, none⟩) 1 1] F [wq.heap.size] (by simp [Act.eval, Act.put]) (by simp [Act.eval, Act.put]) HM.out HRA.out (List.nodup_append.2 ⟨HN.out, by simp, fun a ha b hb e => by have := HLF.out a ha; simp at hb; omega⟩) (by rw [List.length_map]; omega) ?_); intro v1 w6 F6 h1 h2 h3 h4; obtain ⟨A2, c2, ev2, hc2, _⟩ := Fd.row_reads h1; rw [List.length_append, List.length_singleton, List.length_map] at ev2 hc2; subst ev2; have hcut := cut_up (P := Tryz.prog) 48 145 .i64 Tryz.underlying48 HU.out A2 (l.length + 1) c2 (l.length : Int) (by omega) (by omega); rw [Int.toNat_natCast] at hcut; have R6 := Aside0.mk h1; have N6 := Aside0.mk h2; have K6 := Aside0.mk h3; have L6 := Aside0.mk h4; clear h1 h2 h3 h4))
      go_ret
      refine ⟨_, rfl, F6, ⟨A2, c2, (show Value.slice A2 l.length c2 = .slice A2 (l.map twOf).length c2 by rw [List.length_map]), by rw [List.length_map]; exact hc2, by rw [List.length_map]; exact R6.out⟩, N6.out, fun b hb => ?_, (below_step HB.out HBA.out).trans (K6.out.below HF.out (by have := HBA.out.size; omega))⟩
      rcases L6.out b hb with h | h | h
      · exact HF.out b h
      · simp at h; omega
      · have := HBA.out.size; omega
set_option maxRecDepth 100000 in
theorem leftResult_calls (w : World) (At : Option Addr) (ct : Nat) (A0 : Option Addr) (c0 : Nat) (x : ResT') (ht : k148.C w At (x.f0.length + 1) (x.f0 ++ [spareRow])) (hct : x.f0.length + 1 ≤ ct) (hr : k148.C w A0 x.f0.length x.f0) (hc0 : x.f0.length ≤ c0) (hl : x.f0.length ≤ 1000000000) :
    Calls Tryz.prog 148 #[.agg #[.slice At x.f0.length ct], .agg #[.slice A0 x.f0.length c0]] w fun e w' => e = .returned (.bool true) ∧ Below w.heap.size w w' := by
  have hu := Tryz.underlying145
  have HT := Aside0.mk ht
  have HC := Aside0.mk hr
  clear ht hr
  have hb0 := below_alloc (Below.refl w.heap.size w) (.cells #[.slice At x.f0.length ct] 145)
  have HB := Aside0.mk (hb0.alloc hb0.size (.cells #[.slice A0 x.f0.length c0] 145))
  clear hb0
  go_enter Tryz.func148, Tryz.ntmps148
  go_wp2_with fail
  refine (leftRows_calls _ At ct A0 c0 x.f0 (Kd.C_below HT.out HB.out) hct (Kd.C_below HC.out HB.out) hc0 hl).mono ?_
  rintro e w2 ⟨rfl, hb2⟩
  have HB2 := Aside0.mk (below_step HB.out hb2)
  clear hb2
  go_wp2
  go_ret
  exact ⟨rfl, HB2.out⟩
theorem tw_at (l : List ResT') (k : Nat) (hk : k < l.length) : (l.map twOf ++ [spareRes])[k]'(by simp; omega) = twOf (rd_T145 l (k : Int)) := by
  have e : rd_T145 l (k : Int) = l[k] := by simp [rd_T145, hk]
  rw [e, List.getElem_append_left (by simpa using hk), List.getElem_map]
theorem tw_last (l : List ResT') : (l.map twOf ++ [spareRes])[l.length]'(by simp) = spareRes := by simp
set_option maxHeartbeats 3200000 in
set_option maxRecDepth 100000 in
theorem leftResults_calls (w : World) (At : Option Addr) (ct : Nat) (F : List Nat) (A0 : Option Addr) (c0 : Nat) (l : List ResT') (ht : Twin fdTR 145 w F (.slice At l.length ct) (l.map twOf) spareRes) (hr : Kd.C k145 w A0 l.length l) (hc0 : l.length ≤ c0) (hl : l.length ≤ 1000000000) (hlr : ∀ x ∈ l, x.f0.length ≤ 1000000000) :
    Calls Tryz.prog 58 #[.slice At l.length ct, .slice A0 l.length c0] w fun e w' => e = .returned (.bool true) ∧ Below w.heap.size w w' := by
  have hw1 : IntKind.i64.wrap ((l.length : Int) + 1) = (l.length : Int) + 1 := IntWalk.i64_in _ (by omega)
  have hct := (twinR_c ht).2
  have hcap : ¬ ((ct : Int) ≤ (l.length : Int)) := by omega
  have hcut := cut_up (P := Tryz.prog) 48 145 .i64 Tryz.underlying48 infoTwResults At l.length ct ((l.length : Int) + 1) (by omega) (by omega)
  rw [show ((l.length : Int) + 1).toNat = l.length + 1 by omega] at hcut
  have hul := Tryz.underlying145
  have hulr := Tryz.underlying148
  have hTR : Fd.Row fdTR 145 w F (.slice At (l.length + 1) ct) (l.map twOf ++ [spareRes]) := by
    obtain ⟨A', c', ev, _, h3⟩ := ht
    injection ev with e1 _ e3
    subst e1 e3
    rwa [List.length_map] at h3
  have HT := Aside0.mk hTR
  have HC := Aside0.mk hr
  have HLR := Aside0.mk hlr
  clear ht hr hlr hTR
  go_enter Tryz.func58, Tryz.ntmps58
  go_wp2
  go_loopw [5] (fun i wr => ∃ (k : Nat), k ≤ l.length ∧ i = .int .i64 k ∧ Aside0 (Below w.heap.size w wr)) (fun i _ => l.length - (intOf i).toNat)
  case atStart => exact ⟨0, Nat.zero_le _, rfl, ⟨Below.refl _ _⟩⟩
  case round =>
    obtain ⟨wq, hwq⟩ : ∃ wq, wq = wr := ⟨_, rfl⟩
    subst hwq
    obtain ⟨k, hk, rfl, HB⟩ := hrel
    have HTQ := Aside0.mk (Fd.row_below HT.out HB.out)
    by_cases hlt : k < l.length
    · have hlt' : (k : Int) < (l.length : Int) := by omega
      have hk0 : (0 : Int) ≤ (k : Int) := by omega
      obtain ⟨g, Ai, ci, e1, hy0, hyc, hyC⟩ := TRow_at HTQ.out k (by simp; omega)
      subst e1
      rw [tw_at l k hlt] at hy0 hyc hyC
      obtain ⟨ad, Al, cl, e1, hx0, hcl, hCl⟩ := at_T145 (Kd.C_below HC.out HB.out) (k : Int) hk0 hlt'
      subst e1
      simp only [Int.toNat_natCast] at hx0
      have HXL := Aside0.mk (HLR.out _ (rdRes_mem l k hlt))
      generalize rd_T145 l (k : Int) = x at *
      have HCT := Aside0.mk (show k148.C wq Ai (x.f0.length + 1) (x.f0 ++ [spareRow]) from hyC)
      have HCX := Aside0.mk hCl
      have hy0' : wq.cell? ⟨g, k, none⟩ = some (.slice Ai x.f0.length ci) := hy0
      have hci : x.f0.length + 1 ≤ ci := hyc
      have hd1 := below_drew (Below.refl wq.heap.size wq)
      have HD1 := Aside0.mk hd1
      have HS0 := Aside0.mk (show wq.drew.cell? ⟨g, k, none⟩ = some (.slice Ai x.f0.length ci) ∧ wq.drew.cell? (ad.add k) = some (.slice Al x.f0.length cl) from ⟨cell_on hd1 hy0', cell_on hd1 hx0⟩)
      have HF := Aside0.mk (show wq.cell? ⟨g, k, none⟩ = some (.slice Ai x.f0.length ci) ∧ wq.cell? (ad.add k) = some (.slice Al x.f0.length cl) from ⟨hy0', hx0⟩)
      have C1 := Aside0.mk (leftResult_calls wq.drew Ai ci Al cl x (Kd.C_below HCT.out hd1) hci (Kd.C_below HCX.out hd1) hcl HXL.out)
      clear hyC hCl hy0 hy0' hx0 hyc hd1
      go_wp2_with fail
      first | (go_region_held3 (fun w' : World => w'.cell? ⟨g, k, none⟩ = some (.slice Ai x.f0.length ci) ∧ w'.cell? (ad.add k) = some (.slice Al x.f0.length cl)) (first | with_reducible exact HS0.out | with_reducible exact HS1.out) (
          (go_at_call 148
           with_reducible refine C1.out.mono ?_
           rintro e w1 ⟨rfl, hb1⟩
           have HB1 := Aside0.mk (below_step HD1.out hb1)
           have HS1 := Aside0.mk (show w1.cell? ⟨g, k, none⟩ = some (.slice Ai x.f0.length ci) ∧ w1.cell? (ad.add k) = some (.slice Al x.f0.length cl) from ⟨cell_on hb1 HS0.out.1, cell_on hb1 HS0.out.2⟩)
           clear hb1))) | fail "held3"
      all_goals
        go_wp2
        refine ⟨⟨k + 1, by omega, by first | rfl | simp, Aside0.mk (below_step HB.out HB1.out)⟩, ?_⟩
        try simp only [intOf]
        omega
    · obtain rfl : k = l.length := by omega
      have hlt' : ¬ ((l.length : Int) < (l.length : Int)) := by omega
      obtain ⟨g, Ai, ci, e1, hy0, hyc, hyC⟩ := TRow_at HTQ.out l.length (by simp)
      subst e1
      rw [tw_last l] at hy0 hyc hyC
      have hy0' : wq.cell? ⟨g, l.length, none⟩ = some (.slice Ai 1 ci) := hy0
      have hyC' : k148.C wq Ai 1 [spareRow] := hyC
      obtain ⟨ad, e1, hz0, hz1⟩ := at_T148 hyC' 0 (by decide) (by decide)
      subst e1
      have hz0' : wq.cell? ad = some (.string ⟨#[115, 112, 97, 114, 101]⟩) := hz0
      have hadl : ad.block < wq.heap.size := World.block_lt_of_cell? wq _ hz0'
      have hza : (wq.alloc (.cells #[.slice (some ad) 1 ci] 145)).cell? ad = some (.string ⟨#[115, 112, 97, 114, 101]⟩) := cell_on (below_alloc (Below.refl _ _) _) hz0'
      clear hy0 hyC hz0 hz1 hyC' hyc
      go_wp2
      repeat (go_quiet (fail); try go_wp2)
      go_ret
      exact ⟨rfl, HB.out.alloc HB.out.size _⟩
end Go.Proofs.YtcohodkpppmaoaaGreatDoor.Q
