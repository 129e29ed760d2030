
/-
  What the printed rows.put.. functions come to: the plain words of XSpec.
-/
import Derived.Test.YtcohodkpppmaoaaDoorQB1
import Derived.Test.YtcohodkpppmaoaaDoorQC3
import Derived.Test.YtcohodkpppmaoaaDoorSpec
import Derived.Test.YtcohodkpppmaoaaDoorText
namespace Go.Proofs.YtcohodkpppmaoaaDoor.Q
open Go.RowKit Go.Proofs.YtcohodkpppmaoaaDoorW.PrintWords Go.Proofs.YtcohodkpppmaoaaDoorW.PrintLast Go.Proofs.YtcohodkpppmaoaaDoorW.PrintMore

theorem wrap_id (x : Int) (h0 : -9223372036854775808 ≤ x) (h1 : x ≤ 9223372036854775807) : wrap64 x = x := by
  unfold wrap64
  omega
theorem ev_eq {α : Type} {g : Nat → Option α} {a b : α} (h : a = b) (k : Ev g a) : Ev g b := h ▸ k
theorem ev_const {α : Type} {o : Option α} {a : α} (h : o = some a) : Ev (fun _ => o) a := ⟨0, fun _ _ => h⟩

/-! ### numbers -/
theorem number_step (k : Nat) (b : List Int) (n : Int) (j : Nat) (hj : j ≤ 3) (hb : b.length < 140737488355328) :
    rows_number.l0 (k + 1) b n (j : Int) = rows_number.l0 k (b ++ [n / 2 ^ (8 * j) % 256]) n ((j : Int) - 1) := by
  have e1 : wrap64 (8 * (j : Int)) = ((8 * j : Nat) : Int) := by rw [wrap_id _ (by omega) (by omega)]; omega
  have e2 : wrap64 ((j : Int) - 1) = (j : Int) - 1 := wrap_id _ (by omega) (by omega)
  have e3 : shr .u32 n ((8 * j : Nat) : Int) = n / 2 ^ (8 * j) := by
    unfold shr
    have : min (((8 * j : Nat) : Int).toNat) IntKind.u32.bits = 8 * j := by
      rw [Int.toNat_natCast]
      show min (8 * j) 32 = 8 * j
      omega
    rw [this]
  simp only [rows_number.l0]
  rw [if_pos (by omega), e1, if_pos (by omega), if_pos hb, e2, e3]
theorem number_end (k : Nat) (b : List Int) (n : Int) : rows_number.l0 (k + 1) b n (-1) = some b := by
  simp only [rows_number.l0]
  rw [if_neg (by omega)]
theorem ev_number4 (b : List Int) (n : Int) (hb : b.length + 4 < 140737488355328) : Ev (fun k => rows_number.f k b n 4) (b ++ num4 n) := by
  refine ⟨5, fun k hk => ?_⟩
  obtain ⟨k, rfl⟩ : ∃ m, k = m + 5 := ⟨k - 5, by omega⟩
  show rows_number.l0 (k + 5) b n (wrap64 (4 - 1)) = some (b ++ num4 n)
  rw [show wrap64 (4 - 1) = ((3 : Nat) : Int) from by unfold wrap64; omega, show k + 5 = (k + 4) + 1 from rfl, number_step _ _ _ 3 (by omega) (by omega)]
  rw [show ((3 : Nat) : Int) - 1 = ((2 : Nat) : Int) from rfl, show k + 4 = (k + 3) + 1 from rfl, number_step _ _ _ 2 (by omega) (by simp; omega)]
  rw [show ((2 : Nat) : Int) - 1 = ((1 : Nat) : Int) from rfl, show k + 3 = (k + 2) + 1 from rfl, number_step _ _ _ 1 (by omega) (by simp; omega)]
  rw [show ((1 : Nat) : Int) - 1 = ((0 : Nat) : Int) from rfl, show k + 2 = (k + 1) + 1 from rfl, number_step _ _ _ 0 (by omega) (by simp; omega)]
  rw [show ((0 : Nat) : Int) - 1 = -1 from rfl, number_end]
  simp [num4]
theorem ev_number2 (b : List Int) (n : Int) (hb : b.length + 2 < 140737488355328) : Ev (fun k => rows_number.f k b n 2) (b ++ num2 n) := by
  refine ⟨3, fun k hk => ?_⟩
  obtain ⟨k, rfl⟩ : ∃ m, k = m + 3 := ⟨k - 3, by omega⟩
  show rows_number.l0 (k + 3) b n (wrap64 (2 - 1)) = some (b ++ num2 n)
  rw [show wrap64 (2 - 1) = ((1 : Nat) : Int) from by unfold wrap64; omega, show k + 3 = (k + 2) + 1 from rfl, number_step _ _ _ 1 (by omega) (by omega)]
  rw [show ((1 : Nat) : Int) - 1 = ((0 : Nat) : Int) from rfl, show k + 2 = (k + 1) + 1 from rfl, number_step _ _ _ 0 (by omega) (by simp; omega)]
  rw [show ((0 : Nat) : Int) - 1 = -1 from rfl, number_end]
  simp [num2]
theorem num2_mod (n : Int) (h0 : 0 ≤ n) (h1 : n ≤ 4294967295) : num2 (n % 4294967296) = num2 n := by
  rw [Int.emod_eq_of_lt h0 (by omega)]
theorem text_eq (b : List Int) (s : ByteArray) (h : b.length + 1 + s.size < 140737488355328) : rows_text.f b s = some (b ++ textB s) := by
  unfold rows_text.f
  rw [if_pos h]
  simp [textB]
theorem isKey_size (s : ByteArray) (h : isKey s = true) : 1 ≤ s.size ∧ s.size ≤ 16 := by
  unfold isKey at h
  simp at h
  exact h.1

/-! ### what may be, and how one is put -/
theorem opCheck_eq (x : OpT) : rows_Check.f x.f0 x.f1 x.f2 x.f3 = some (mayOp x) := by
  unfold rows_Check.f mayOp keys_Check.f
  have h2 : x.f2.toList = ([] : List UInt8) ↔ x.f2.size = 0 := ⟨toList_size _, size_toList _⟩
  simp only [Option.bind_some, h2]
  by_cases c4 : x.f0 = 4
  · simp only [if_pos c4]
    cases isKey x.f1 <;> cases isKey x.f2 <;> simp [c4]
    split <;> simp_all
  · simp only [if_neg c4]
    by_cases c1 : x.f0 ≥ 1
    · by_cases c5 : x.f0 ≤ 4
      · simp only [if_pos c1, if_pos c5]
        have c1' : 1 ≤ x.f0 := c1
        cases isKey x.f1 with
        | false => simp
        | true =>
          by_cases c6 : x.f2.size = 0
          · by_cases c7 : x.f3 = 0 <;> simp [c6, c7, c1', c5]
          · simp [c6]
      · simp only [if_pos c1, if_neg c5]
        simp [c5]
    · have c1' : ¬ 1 ≤ x.f0 := c1
      simp only [if_neg c1]
      simp [c1']
theorem op_may (x : OpT) : rows_PutOps_1.f x.f0 x.f1 x.f2 x.f3 = some (opE x) := by
  unfold rows_PutOps_1.f
  rw [opCheck_eq]
  unfold rows_asks.f opE
  cases mayOp x <;> simp
theorem op_sizes (x : OpT) (h : opE x = 0) : x.f1.size ≤ 16 ∧ x.f2.size ≤ 16 := by
  have hm : mayOp x = true := by
    unfold opE at h
    cases hx : mayOp x <;> simp_all
  unfold mayOp at hm
  simp only [Bool.and_eq_true] at hm
  obtain ⟨⟨⟨⟨h1, _⟩, _⟩, h4⟩, _⟩ := hm
  refine ⟨(isKey_size _ h1).2, ?_⟩
  by_cases c4 : x.f0 = 4
  · rw [if_pos c4] at h4
    exact (isKey_size _ h4).2
  · rw [if_neg c4] at h4
    simp at h4
    simp [h4]
theorem ev_op_one (b : List Int) (x : OpT) (hb : b.length + 64 < 140737488355328) (h : opE x = 0) : Ev (fun k => rows_PutOps_2.f k b x.f0 x.f1 x.f2 x.f3) (b ++ opB x) := by
  have hs := op_sizes x h
  unfold rows_PutOps_2.f opB
  simp only [if_pos (show b.length < 140737488355328 by omega)]
  rw [text_eq (b ++ [x.f0]) x.f1 (by simp; omega)]
  simp only [Option.bind_some]
  rw [text_eq (b ++ [x.f0] ++ textB x.f1) x.f2 (by simp [textB_length]; omega)]
  simp only [Option.bind_some]
  refine Ev.bind (ev_number4 _ _ (by simp [textB_length]; omega)) ?_
  refine ev_const ?_
  simp
theorem op_len (x : OpT) (h : opE x = 0) : (opB x).length ≤ 64 := by
  have hs := op_sizes x h
  simp [opB, textB_length, num4_length]
  omega

/-! ### rows of a result -/
theorem fine_from (l : List RowT) (hl : l.length ≤ 9223372036854775807) (d : Nat) : ∀ i : Nat, i ≤ l.length → l.length - i = d → mayRows (l.take i) = true →
    Ev (fun k => rows_fine.l0 k l (l.length : Int) (i : Int) l) (if mayRows l then (if l.length ≤ 256 then 0 else 3) else 1) := by
  induction d with
  | zero =>
    intro i h0 h1 hp
    have e : l.take i = l := List.take_of_length_le (by omega)
    rw [e] at hp
    refine Ev.step (f := fun _ => (rows_asks.f (decide ((l.length : Int) ≤ 256)) 3).bind fun t => some t) (fun k => ?_) ?_
    · simp only [rows_fine.l0]
      rw [if_neg (by omega)]
    · refine ev_const ?_
      rw [hp]
      unfold rows_asks.f
      by_cases c : l.length ≤ 256
      · have c' : (l.length : Int) ≤ 256 := by omega
        simp [c, c']
      · have c' : ¬ (l.length : Int) ≤ 256 := by omega
        simp [c, c']
  | succ d ih =>
    intro i h0 h1 hp
    have hi : i < l.length := by omega
    have hrd : rd_T93 l (i : Int) = l[i] := by simp [rd_T93, hi]
    have ht : mayRows (l.take (i + 1)) = (mayRows (l.take i) && isKey (l[i].f0)) := by
      unfold mayRows
      rw [List.take_succ_eq_append_getElem hi]
      simp only [List.all_append, List.all_cons, List.all_nil, Bool.and_true]
    cases hk : isKey (l[i].f0) with
    | true =>
      refine Ev.step (f := fun k => rows_fine.l0 k l (l.length : Int) (wrap64 ((i : Int) + 1)) l) (fun k => ?_) ?_
      · simp only [rows_fine.l0]
        rw [if_pos (by omega), if_pos (by omega), if_pos (by omega), hrd]
        simp only [keys_Check.f, hk, Option.bind_some, if_true]
      · rw [wrap_id _ (by omega) (by omega)]
        exact ih (i + 1) (by omega) (by omega) (by rw [ht, hp, hk]; rfl)
    | false =>
      refine Ev.step (f := fun _ => some 1) (fun k => ?_) ?_
      · simp only [rows_fine.l0]
        rw [if_pos (by omega), if_pos (by omega), if_pos (by omega), hrd]
        simp only [keys_Check.f, hk, Option.bind_some, Bool.false_eq_true, if_false]
      · refine ev_const ?_
        have : mayRows l = false := by
          unfold mayRows
          rw [List.all_eq_false]
          exact ⟨l[i], List.getElem_mem _, by simp [hk]⟩
        simp [this]
theorem ev_result_may (x : ResultT) (hl : x.f0.length ≤ 9223372036854775807) : Ev (fun k => rows_fine.f k x.f0) (resultE x) := fine_from x.f0 hl x.f0.length 0 (by omega) (by omega) (by simp [mayRows])
theorem rows_from (l : List RowT) (hl : l.length ≤ 256) (hk : mayRows l = true) (d : Nat) : ∀ (b : List Int) (i : Nat), i ≤ l.length → l.length - i = d → b.length + 64 * (l.length - i) < 140737488355328 →
    Ev (fun k => rows_PutResults_1.l0 k b l (l.length : Int) (i : Int)) (b ++ (l.drop i).flatMap rowB) := by
  induction d with
  | zero =>
    intro b i h0 h1 hb
    refine Ev.step (f := fun _ => some b) (fun k => ?_) ?_
    · simp only [rows_PutResults_1.l0]
      rw [if_neg (by omega)]
    · refine ev_const ?_
      rw [List.drop_eq_nil_of_le (by omega)]
      simp
  | succ d ih =>
    intro b i h0 h1 hb
    have hi : i < l.length := by omega
    have hrd : rd_T93 l (i : Int) = l[i] := by simp [rd_T93, hi]
    have hki : isKey (l[i].f0) = true := by
      unfold mayRows at hk
      rw [List.all_eq_true] at hk
      exact hk _ (List.getElem_mem _)
    have hs := isKey_size _ hki
    refine Ev.step (f := fun k => (rows_number.f k (b ++ textB l[i].f0) l[i].f1 4).bind fun t => rows_PutResults_1.l0 k t l (l.length : Int) (wrap64 ((i : Int) + 1))) (fun k => ?_) ?_
    · simp only [rows_PutResults_1.l0]
      rw [if_pos (by omega), if_pos (by omega), if_pos (by omega), hrd, text_eq _ _ (by omega)]
      simp only [Option.bind_some]
    · refine Ev.bind (ev_number4 _ _ (by rw [List.length_append, textB_length]; omega)) ?_
      rw [wrap_id _ (by omega) (by omega)]
      refine ev_eq ?_ (ih (b ++ textB l[i].f0 ++ num4 l[i].f1) (i + 1) (by omega) (by omega) (by simp [textB_length, num4_length]; omega))
      rw [List.drop_eq_getElem_cons hi, List.flatMap_cons, rowB]
      simp only [List.append_assoc]
theorem result_ok (x : ResultT) (h : resultE x = 0) : mayRows x.f0 = true ∧ x.f0.length ≤ 256 := by
  unfold resultE at h
  cases hm : mayRows x.f0 with
  | false => rw [hm] at h; simp at h
  | true =>
    rw [hm] at h
    by_cases c : x.f0.length ≤ 256
    · exact ⟨rfl, c⟩
    · simp [c] at h
theorem ev_result_one (b : List Int) (x : ResultT) (hb : b.length + 20000 < 140737488355328) (h : resultE x = 0) : Ev (fun k => rows_PutResults_1.f k b x.f0) (b ++ resultB x) := by
  obtain ⟨hm, hl⟩ := result_ok x h
  unfold rows_PutResults_1.f resultB rowsB
  refine Ev.bind (ev_number2 _ _ (by omega)) ?_
  rw [num2_mod _ (by omega) (by omega)]
  refine ev_eq ?_ (rows_from x.f0 hl hm x.f0.length (b ++ num2 x.f0.length) 0 (by omega) (by omega) (by simp [num2_length]; omega))
  simp
theorem rowB_len (x : RowT) (h : isKey x.f0 = true) : (rowB x).length ≤ 21 := by
  have hs := isKey_size _ h
  simp [rowB, textB_length, num4_length]
  omega
theorem result_len (x : ResultT) (h : resultE x = 0) : (resultB x).length ≤ 20000 := by
  obtain ⟨hm, hl⟩ := result_ok x h
  unfold mayRows at hm
  rw [List.all_eq_true] at hm
  have := flatMap_len_le rowB 21 x.f0 (fun r hr => rowB_len r (hm r hr))
  simp only [resultB, rowsB, List.length_append, num2_length]
  omega

/-! ### Ops -/
theorem op_scan (l : List OpT) (hl : l.length ≤ 1000000000) (most : Int) (d : Nat) : ∀ (i : Nat) (wst : Int), i ≤ l.length → l.length - i = d →
    (∀ x ∈ l.take i, opE x ≠ 1) → (wst = 0 ∨ wst = 3) → (wst = 3 ↔ (l.take i).any (fun x => opE x == 3) = true) → ∀ (r : List Int × Int),
    (l.any (fun x => opE x == 1) = true → r = ([], 1)) →
    (l.any (fun x => opE x == 1) = false → Ev (fun k => if (if l.any (fun x => opE x == 3) then (3 : Int) else 0) = 0 then rows_put_Op.j1 k l (decide ((l.length : Int) > most)) else rows_put_Op.j1 k l true) r) →
    Ev (fun k => rows_put_Op.l0 k l most wst l (l.length : Int) (i : Int)) r := by
  induction d with
  | zero =>
    intro i wst h0 h1 hp hw hw3 r hr1 hr2
    have e : l.take i = l := List.take_of_length_le (by omega)
    rw [e] at hp hw3
    have hno : l.any (fun x => opE x == 1) = false := by
      rw [List.any_eq_false]
      intro x hx
      simpa using hp x hx
    have h2 := hr2 hno
    refine Ev.step (f := fun k => if wst = 0 then rows_put_Op.j1 k l (decide ((l.length : Int) > most)) else rows_put_Op.j1 k l true) (fun k => ?_) ?_
    · simp only [rows_put_Op.l0]
      rw [if_neg (by omega)]
    · rcases hw with rfl | rfl
      · have : l.any (fun x => opE x == 3) = false := by
          rw [Bool.eq_false_iff]
          intro h
          exact absurd (hw3.2 h) (by omega)
        rw [this] at h2
        exact h2
      · have : l.any (fun x => opE x == 3) = true := hw3.1 rfl
        rw [this] at h2
        exact h2
  | succ d ih =>
    intro i wst h0 h1 hp hw hw3 r hr1 hr2
    have hi : i < l.length := by omega
    have hrd : rd_T62 l (i : Int) = l[i] := by simp [rd_T62, hi]
    have htk : l.take (i + 1) = l.take i ++ [l[i]] := List.take_succ_eq_append_getElem hi
    have hstep : ∀ t : Int, opE l[i] = t → Ev (fun k => if t = 1 then (some (([] : List Int), (1 : Int))) else (if t = 3 then (rows_put_Op.l0 k l most 3 l (l.length : Int) (wrap64 ((i : Int) + 1))) else (rows_put_Op.l0 k l most wst l (l.length : Int) (wrap64 ((i : Int) + 1))))) r := by
      intro t ht
      by_cases c1 : t = 1
      · simp only [if_pos c1]
        refine ev_const ?_
        rw [hr1 (by rw [List.any_eq_true]; exact ⟨l[i], List.getElem_mem _, by simp [ht, c1]⟩)]
      · simp only [if_neg c1]
        rw [wrap_id _ (by omega) (by omega)]
        have hp' : ∀ x ∈ l.take (i + 1), opE x ≠ 1 := by
          rw [htk]
          intro x hx
          rcases List.mem_append.1 hx with hx | hx
          · exact hp x hx
          · rw [List.mem_singleton.1 hx, ht]; exact c1
        by_cases c3 : t = 3
        · simp only [if_pos c3]
          exact ih (i + 1) 3 (by omega) (by omega) hp' (.inr rfl) (by rw [htk, List.any_append]; simp [ht, c3]) r hr1 hr2
        · simp only [if_neg c3]
          exact ih (i + 1) wst (by omega) (by omega) hp' hw (by rw [htk, hw3, List.any_append]; simp [ht, c3]) r hr1 hr2
    refine Ev.step (g := fun k => rows_put_Op.l0 k l most wst l (l.length : Int) (i : Int)) (fun k => ?_) (hstep _ rfl)
    simp only [rows_put_Op.l0]
    rw [if_pos (by omega), if_pos (by omega), if_pos (by omega), hrd, op_may]
    simp only [Option.bind_some]
theorem op_put (l : List OpT) (hl : l.length ≤ 1000000) (hok : ∀ x ∈ l, opE x = 0) (d : Nat) : ∀ (b : List Int) (i : Nat), i ≤ l.length → l.length - i = d → b.length + 64 * (l.length - i) + 64 < 140737488355328 →
    Ev (fun k => rows_put_Op.l1 k b l (l.length : Int) (i : Int)) (b ++ (l.drop i).flatMap opB, 0) := by
  induction d with
  | zero =>
    intro b i h0 h1 hb
    refine Ev.step (f := fun _ => some (b, 0)) (fun k => ?_) ?_
    · simp only [rows_put_Op.l1]
      rw [if_neg (by omega)]
    · refine ev_const ?_
      rw [List.drop_eq_nil_of_le (by omega)]
      simp
  | succ d ih =>
    intro b i h0 h1 hb
    have hi : i < l.length := by omega
    have hrd : rd_T62 l (i : Int) = l[i] := by simp [rd_T62, hi]
    have hoi := hok l[i] (List.getElem_mem _)
    refine Ev.step (f := fun k => (rows_PutOps_2.f k b l[i].f0 l[i].f1 l[i].f2 l[i].f3).bind fun t => rows_put_Op.l1 k t l (l.length : Int) (wrap64 ((i : Int) + 1))) (fun k => ?_) ?_
    · simp only [rows_put_Op.l1]
      rw [if_pos (by omega), if_pos (by omega), if_pos (by omega), hrd]
    · refine Ev.bind (ev_op_one b l[i] (by omega) hoi) ?_
      rw [wrap_id _ (by omega) (by omega)]
      have hlen := op_len l[i] hoi
      refine ev_eq ?_ (ih (b ++ opB l[i]) (i + 1) (by omega) (by omega) (by rw [List.length_append]; omega))
      rw [List.drop_eq_getElem_cons hi, List.flatMap_cons]
      simp only [List.append_assoc]
theorem ev_putOps (l : List OpT) (hl : l.length ≤ 1000000000) : Ev (fun k => rows_PutOps.f k l) (putOps l) := by
  unfold rows_PutOps.f
  refine Ev.bind (a := putOps l) ?_ (ev_const rfl)
  unfold rows_put_Op.f
  refine op_scan l hl 16 l.length 0 0 (by omega) (by omega) (by simp) (.inl rfl) (by simp) _ ?_ ?_
  · intro h
    unfold putOps putList
    rw [if_pos h]
  · intro h
    have hfail : putOps l = ([], 3) → Ev (fun k => rows_put_Op.j1 k l true) (putOps l) := by
      intro e
      rw [e]
      exact Ev.step (f := fun _ => some ([], 3)) (fun k => by simp only [rows_put_Op.j1, if_true]) (ev_const rfl)
    cases h3 : l.any (fun x => opE x == 3) with
    | true =>
      simp only [if_true, show ¬ ((3 : Int) = 0) from by omega, if_false]
      refine hfail ?_
      unfold putOps putList
      rw [h, h3]
      simp
    | false =>
      simp only [Bool.false_eq_true, if_false, if_true]
      by_cases hm : (l.length : Int) > 16
      · simp only [hm, decide_true]
        refine hfail ?_
        unfold putOps putList
        have : 16 < l.length := by omega
        rw [h, h3]
        simp [this]
      · simp only [hm, decide_false]
        have hm' : ¬ 16 < l.length := by omega
        have hok : ∀ x ∈ l, opE x = 0 := by
          intro x hx
          rw [List.any_eq_false] at h h3
          have a1 := h x hx
          have a3 := h3 x hx
          simp at a1 a3
          unfold opE at *; split at a1 <;> simp_all
        refine Ev.step (f := fun k => (rows_number.f k ([] : List Int) (((l.length : Int)) % 4294967296) 2).bind fun t => rows_put_Op.l1 k t l (l.length : Int) 0) (fun k => by simp only [rows_put_Op.j1, Bool.false_eq_true, if_false]) ?_
        refine Ev.bind (ev_number2 _ _ (by simp)) ?_
        rw [num2_mod _ (by omega) (by omega)]
        refine ev_eq ?_ (op_put l (by omega) hok l.length ([] ++ num2 l.length) 0 (by omega) (by omega) (by simp [num2_length]; omega))
        unfold putOps putList
        rw [h, h3]
        simp [hm']

/-! ### Results -/
theorem result_scan (l : List ResultT) (hl : l.length ≤ 1000000000) (hrl : ∀ x ∈ l, x.f0.length ≤ 9223372036854775807) (most : Int) (d : Nat) : ∀ (i : Nat) (wst : Int), i ≤ l.length → l.length - i = d →
    (∀ x ∈ l.take i, resultE x ≠ 1) → (wst = 0 ∨ wst = 3) → (wst = 3 ↔ (l.take i).any (fun x => resultE x == 3) = true) → ∀ (r : List Int × Int),
    (l.any (fun x => resultE x == 1) = true → r = ([], 1)) →
    (l.any (fun x => resultE x == 1) = false → Ev (fun k => if (if l.any (fun x => resultE x == 3) then (3 : Int) else 0) = 0 then rows_put_Result.j1 k l (decide ((l.length : Int) > most)) else rows_put_Result.j1 k l true) r) →
    Ev (fun k => rows_put_Result.l0 k l most wst l (l.length : Int) (i : Int)) r := by
  induction d with
  | zero =>
    intro i wst h0 h1 hp hw hw3 r hr1 hr2
    have e : l.take i = l := List.take_of_length_le (by omega)
    rw [e] at hp hw3
    have hno : l.any (fun x => resultE x == 1) = false := by
      rw [List.any_eq_false]
      intro x hx
      simpa using hp x hx
    have h2 := hr2 hno
    refine Ev.step (f := fun k => if wst = 0 then rows_put_Result.j1 k l (decide ((l.length : Int) > most)) else rows_put_Result.j1 k l true) (fun k => ?_) ?_
    · simp only [rows_put_Result.l0]
      rw [if_neg (by omega)]
    · rcases hw with rfl | rfl
      · have : l.any (fun x => resultE x == 3) = false := by
          rw [Bool.eq_false_iff]
          intro h
          exact absurd (hw3.2 h) (by omega)
        rw [this] at h2
        exact h2
      · have : l.any (fun x => resultE x == 3) = true := hw3.1 rfl
        rw [this] at h2
        exact h2
  | succ d ih =>
    intro i wst h0 h1 hp hw hw3 r hr1 hr2
    have hi : i < l.length := by omega
    have hrd : rd_T59 l (i : Int) = l[i] := by simp [rd_T59, hi]
    have htk : l.take (i + 1) = l.take i ++ [l[i]] := List.take_succ_eq_append_getElem hi
    have hstep : ∀ t : Int, resultE l[i] = t → Ev (fun k => if t = 1 then (some (([] : List Int), (1 : Int))) else (if t = 3 then (rows_put_Result.l0 k l most 3 l (l.length : Int) (wrap64 ((i : Int) + 1))) else (rows_put_Result.l0 k l most wst l (l.length : Int) (wrap64 ((i : Int) + 1))))) r := by
      intro t ht
      by_cases c1 : t = 1
      · simp only [if_pos c1]
        refine ev_const ?_
        rw [hr1 (by rw [List.any_eq_true]; exact ⟨l[i], List.getElem_mem _, by simp [ht, c1]⟩)]
      · simp only [if_neg c1]
        rw [wrap_id _ (by omega) (by omega)]
        have hp' : ∀ x ∈ l.take (i + 1), resultE x ≠ 1 := by
          rw [htk]
          intro x hx
          rcases List.mem_append.1 hx with hx | hx
          · exact hp x hx
          · rw [List.mem_singleton.1 hx, ht]; exact c1
        by_cases c3 : t = 3
        · simp only [if_pos c3]
          exact ih (i + 1) 3 (by omega) (by omega) hp' (.inr rfl) (by rw [htk, List.any_append]; simp [ht, c3]) r hr1 hr2
        · simp only [if_neg c3]
          exact ih (i + 1) wst (by omega) (by omega) hp' hw (by rw [htk, hw3, List.any_append]; simp [ht, c3]) r hr1 hr2
    refine Ev.step (f := fun k => (rows_fine.f k l[i].f0).bind fun t => if t = 1 then (some (([] : List Int), (1 : Int))) else (if t = 3 then (rows_put_Result.l0 k l most 3 l (l.length : Int) (wrap64 ((i : Int) + 1))) else (rows_put_Result.l0 k l most wst l (l.length : Int) (wrap64 ((i : Int) + 1))))) (fun k => ?_) ?_
    · simp only [rows_put_Result.l0]
      rw [if_pos (by omega), if_pos (by omega), if_pos (by omega), hrd]
    · exact Ev.bind (ev_result_may l[i] (hrl _ (List.getElem_mem _))) (hstep _ rfl)
theorem result_put (l : List ResultT) (hl : l.length ≤ 1000000) (hok : ∀ x ∈ l, resultE x = 0) (d : Nat) : ∀ (b : List Int) (i : Nat), i ≤ l.length → l.length - i = d → b.length + 20000 * (l.length - i) + 20000 < 140737488355328 →
    Ev (fun k => rows_put_Result.l1 k b l (l.length : Int) (i : Int)) (b ++ (l.drop i).flatMap resultB, 0) := by
  induction d with
  | zero =>
    intro b i h0 h1 hb
    refine Ev.step (f := fun _ => some (b, 0)) (fun k => ?_) ?_
    · simp only [rows_put_Result.l1]
      rw [if_neg (by omega)]
    · refine ev_const ?_
      rw [List.drop_eq_nil_of_le (by omega)]
      simp
  | succ d ih =>
    intro b i h0 h1 hb
    have hi : i < l.length := by omega
    have hrd : rd_T59 l (i : Int) = l[i] := by simp [rd_T59, hi]
    have hoi := hok l[i] (List.getElem_mem _)
    refine Ev.step (f := fun k => (rows_PutResults_1.f k b l[i].f0).bind fun t => rows_put_Result.l1 k t l (l.length : Int) (wrap64 ((i : Int) + 1))) (fun k => ?_) ?_
    · simp only [rows_put_Result.l1]
      rw [if_pos (by omega), if_pos (by omega), if_pos (by omega), hrd]
    · refine Ev.bind (ev_result_one b l[i] (by omega) hoi) ?_
      rw [wrap_id _ (by omega) (by omega)]
      have hlen := result_len l[i] hoi
      refine ev_eq ?_ (ih (b ++ resultB l[i]) (i + 1) (by omega) (by omega) (by rw [List.length_append]; omega))
      rw [List.drop_eq_getElem_cons hi, List.flatMap_cons]
      simp only [List.append_assoc]
theorem ev_putResults (l : List ResultT) (hl : l.length ≤ 1000000000) (hrl : ∀ x ∈ l, x.f0.length ≤ 9223372036854775807) : Ev (fun k => rows_PutResults.f k l) (putResults l) := by
  unfold rows_PutResults.f
  refine Ev.bind (a := putResults l) ?_ (ev_const rfl)
  unfold rows_put_Result.f
  refine result_scan l hl hrl 16 l.length 0 0 (by omega) (by omega) (by simp) (.inl rfl) (by simp) _ ?_ ?_
  · intro h
    unfold putResults putList
    rw [if_pos h]
  · intro h
    have hfail : putResults l = ([], 3) → Ev (fun k => rows_put_Result.j1 k l true) (putResults l) := by
      intro e
      rw [e]
      exact Ev.step (f := fun _ => some ([], 3)) (fun k => by simp only [rows_put_Result.j1, if_true]) (ev_const rfl)
    cases h3 : l.any (fun x => resultE x == 3) with
    | true =>
      simp only [if_true, show ¬ ((3 : Int) = 0) from by omega, if_false]
      refine hfail ?_
      unfold putResults putList
      rw [h, h3]
      simp
    | false =>
      simp only [Bool.false_eq_true, if_false, if_true]
      by_cases hm : (l.length : Int) > 16
      · simp only [hm, decide_true]
        refine hfail ?_
        unfold putResults putList
        have : 16 < l.length := by omega
        rw [h, h3]
        simp [this]
      · simp only [hm, decide_false]
        have hm' : ¬ 16 < l.length := by omega
        have hok : ∀ x ∈ l, resultE x = 0 := by
          intro x hx
          rw [List.any_eq_false] at h h3
          have a1 := h x hx
          have a3 := h3 x hx
          simp at a1 a3
          unfold resultE at *; split at a1 <;> simp_all
        refine Ev.step (f := fun k => (rows_number.f k ([] : List Int) (((l.length : Int)) % 4294967296) 2).bind fun t => rows_put_Result.l1 k t l (l.length : Int) 0) (fun k => by simp only [rows_put_Result.j1, Bool.false_eq_true, if_false]) ?_
        refine Ev.bind (ev_number2 _ _ (by simp)) ?_
        rw [num2_mod _ (by omega) (by omega)]
        refine ev_eq ?_ (result_put l (by omega) hok l.length ([] ++ num2 l.length) 0 (by omega) (by omega) (by simp [num2_length]; omega))
        unfold putResults putList
        rw [h, h3]
        simp [hm']

theorem sameBytes_from (a b : List Int) (hab : a.length = b.length) (hl : a.length ≤ 9223372036854775807) (d : Nat) : ∀ (i : Nat), i ≤ a.length → a.length - i = d → a.take i = b.take i →
    Ev (fun k => concordatlaw01_SameBytes.l0 k a b (i : Int)) (decide (a = b)) := by
  induction d with
  | zero =>
    intro i h0 h1 hp
    rw [List.take_of_length_le (by omega), List.take_of_length_le (by omega)] at hp
    refine Ev.step (f := fun _ => some true) (fun k => ?_) (ev_const (by simp [hp]))
    simp only [concordatlaw01_SameBytes.l0]
    rw [if_neg (by omega)]
  | succ d ih =>
    intro i h0 h1 hp
    have hi : i < a.length := by omega
    have hj : i < b.length := by omega
    have ha : rd a (i : Int) = a[i] := by simp [rd, hi]
    have hb : rd b (i : Int) = b[i] := by simp [rd, hj]
    by_cases c : a[i] = b[i]
    · refine Ev.step (f := fun k => concordatlaw01_SameBytes.l0 k a b (wrap64 ((i : Int) + 1))) (fun k => ?_) ?_
      · simp only [concordatlaw01_SameBytes.l0]
        rw [if_pos (by omega), if_pos (by omega), if_pos (by omega), ha, hb, if_pos c]
      · rw [wrap_id _ (by omega) (by omega)]
        exact ih (i + 1) (by omega) (by omega) (by rw [List.take_succ_eq_append_getElem hi, List.take_succ_eq_append_getElem hj, hp, c])
    · refine Ev.step (f := fun _ => some false) (fun k => ?_) (ev_const ?_)
      · simp only [concordatlaw01_SameBytes.l0]
        rw [if_pos (by omega), if_pos (by omega), if_pos (by omega), ha, hb, if_neg c]
      · have : ¬ a = b := fun e => c (by subst e; rfl)
        simp [this]
theorem ev_SameBytes (a b : List Int) (hl : a.length ≤ 9223372036854775807) : Ev (fun k => concordatlaw01_SameBytes.f k a b) (decide (a = b)) := by
  unfold concordatlaw01_SameBytes.f
  by_cases c : (a.length : Int) = (b.length : Int)
  · simp only [if_pos c]
    exact sameBytes_from a b (by omega) hl a.length 0 (by omega) (by omega) (by simp)
  · simp only [if_neg c]
    refine ev_const ?_
    have : ¬ a = b := fun e => c (by subst e; rfl)
    simp [this]

end Go.Proofs.YtcohodkpppmaoaaDoor.Q
