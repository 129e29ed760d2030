/-
  What the printed rows.put.. functions come to: the plain words of XSpec.
  The reader of bytes (rows.reader): where it stands; take, number, text.
  One op, one change, one row off the reader.
  As many as their count tells: ops, changes, rows, results.
  rows.get: a list that is put as it was.
  Results: copies with a mark behind each list, and whether they are as they were.
  The book keeps results: each one's rows, and the list of them.
  The book keeps a message: its ops, its results.
  Ops: copies with a mark behind them, and whether they are as they were.
  packets.from and packets.Get: the message of some bytes, or why there is none.
  Messages: copies with a mark behind each list, and whether they are as they were.
  What the program's calls answer, as values that own their blocks: rows of plain things, and results with their rows.
  What is put is got, what is got was put: the plain laws of the reader. No program in sight.
  A list is the same as itself, and sizes come to an answer: ops, results, messages; ids.
-/
import Derived.Test.YtcohodkpppmaoaaGreatDoorMQ11
import Derived.Test.YtcohodkpppmaoaaGreatDoorMQ12
import Derived.Test.YtcohodkpppmaoaaGreatDoorMQ3
import Derived.Test.YtcohodkpppmaoaaGreatDoorMQ8
import Derived.Test.YtcohodkpppmaoaaGreatDoorMQ10
import Derived.BigRegion
import Derived.BigQuiet
import Derived.WalkSpells
import Derived.Test.YtcohodkpppmaoaaGreatDoorMQ7
set_option linter.unusedSimpArgs false
set_option linter.unusedVariables false
namespace Go.Proofs.YtcohodkpppmaoaaGreatDoor.Q
open Go.RowKit Go.Proofs.YtcohodkpppmaoaaGreatDoorW.PrintWords Go.Proofs.YtcohodkpppmaoaaGreatDoorW.PrintLast Go.Proofs.YtcohodkpppmaoaaGreatDoorW.PrintMore

theorem wrap_id (x : Int) (h0 : -9223372036854775808 ≤ x) (h1 : x ≤ 9223372036854775807) : wrap64 x = x := by
  unfold wrap64
  omega
theorem ev_eq {α : Type} {g : Nat → Option α} {a b : α} (h : a = b) (k : Ev g a) : Ev g b := h ▸ k
theorem ev_const {α : Type} {o : Option α} {a : α} (h : o = some a) : Ev (fun _ => o) a := ⟨0, fun _ _ => h⟩

theorem number_step (k : Nat) (b : List Int) (n : Int) (j : Nat) (hj : j ≤ 3) (hb : b.length < 140737488355328) :
    rows_number.l0 (k + 1) b n (j : Int) = rows_number.l0 k (b ++ [n / 2 ^ (8 * j) % 256]) n ((j : Int) - 1) := by
  have e1 : wrap64 (8 * (j : Int)) = ((8 * j : Nat) : Int) := by rw [wrap_id _ (by omega) (by omega)]; omega
  have e2 : wrap64 ((j : Int) - 1) = (j : Int) - 1 := wrap_id _ (by omega) (by omega)
  have e3 : shr .u32 n ((8 * j : Nat) : Int) = n / 2 ^ (8 * j) := by
    unfold shr
    have : min (((8 * j : Nat) : Int).toNat) IntKind.u32.bits = 8 * j := by
      rw [Int.toNat_natCast]
      show min (8 * j) 32 = 8 * j
      omega
    rw [this]
  simp only [rows_number.l0]
  rw [if_pos (by omega), e1, if_pos (by omega), if_pos hb, e2, e3]
theorem number_end (k : Nat) (b : List Int) (n : Int) : rows_number.l0 (k + 1) b n (-1) = some b := by
  simp only [rows_number.l0]
  rw [if_neg (by omega)]
theorem ev_number4 (b : List Int) (n : Int) (hb : b.length + 4 < 140737488355328) : Ev (fun k => rows_number.f k b n 4) (b ++ num4 n) := by
  refine ⟨5, fun k hk => ?_⟩
  obtain ⟨k, rfl⟩ : ∃ m, k = m + 5 := ⟨k - 5, by omega⟩
  show rows_number.l0 (k + 5) b n (wrap64 (4 - 1)) = some (b ++ num4 n)
  rw [show wrap64 (4 - 1) = ((3 : Nat) : Int) from by unfold wrap64; omega, show k + 5 = (k + 4) + 1 from rfl, number_step _ _ _ 3 (by omega) (by omega)]
  rw [show ((3 : Nat) : Int) - 1 = ((2 : Nat) : Int) from rfl, show k + 4 = (k + 3) + 1 from rfl, number_step _ _ _ 2 (by omega) (by simp; omega)]
  rw [show ((2 : Nat) : Int) - 1 = ((1 : Nat) : Int) from rfl, show k + 3 = (k + 2) + 1 from rfl, number_step _ _ _ 1 (by omega) (by simp; omega)]
  rw [show ((1 : Nat) : Int) - 1 = ((0 : Nat) : Int) from rfl, show k + 2 = (k + 1) + 1 from rfl, number_step _ _ _ 0 (by omega) (by simp; omega)]
  rw [show ((0 : Nat) : Int) - 1 = -1 from rfl, number_end]
  simp [num4]
theorem ev_number2 (b : List Int) (n : Int) (hb : b.length + 2 < 140737488355328) : Ev (fun k => rows_number.f k b n 2) (b ++ num2 n) := by
  refine ⟨3, fun k hk => ?_⟩
  obtain ⟨k, rfl⟩ : ∃ m, k = m + 3 := ⟨k - 3, by omega⟩
  show rows_number.l0 (k + 3) b n (wrap64 (2 - 1)) = some (b ++ num2 n)
  rw [show wrap64 (2 - 1) = ((1 : Nat) : Int) from by unfold wrap64; omega, show k + 3 = (k + 2) + 1 from rfl, number_step _ _ _ 1 (by omega) (by omega)]
  rw [show ((1 : Nat) : Int) - 1 = ((0 : Nat) : Int) from rfl, show k + 2 = (k + 1) + 1 from rfl, number_step _ _ _ 0 (by omega) (by simp; omega)]
  rw [show ((0 : Nat) : Int) - 1 = -1 from rfl, number_end]
  simp [num2]
theorem num2_mod (n : Int) (h0 : 0 ≤ n) (h1 : n ≤ 4294967295) : num2 (n % 4294967296) = num2 n := by
  rw [Int.emod_eq_of_lt h0 (by omega)]
theorem text_eq (b : List Int) (s : ByteArray) (h : b.length + 1 + s.size < 140737488355328) : rows_text.f b s = some (b ++ textB s) := by
  unfold rows_text.f
  rw [if_pos h]
  simp [textB]
theorem isKey_size (s : ByteArray) (h : isKey s = true) : 1 ≤ s.size ∧ s.size ≤ 16 := by
  unfold isKey at h
  simp at h
  exact h.1

theorem opCheck_eq (x : OpT) : rows_Check.f x.f0 x.f1 x.f2 x.f3 = some (mayOp x) := by
  unfold rows_Check.f mayOp keys_Check.f
  have h2 : x.f2.toList = ([] : List UInt8) ↔ x.f2.size = 0 := ⟨toList_size _, size_toList _⟩
  simp only [Option.bind_some, h2]
  by_cases c4 : x.f0 = 4
  · simp only [if_pos c4]
    cases isKey x.f1 <;> cases isKey x.f2 <;> simp [c4]
    split <;> simp_all
  · simp only [if_neg c4]
    by_cases c1 : x.f0 ≥ 1
    · by_cases c5 : x.f0 ≤ 4
      · simp only [if_pos c1, if_pos c5]
        have c1' : 1 ≤ x.f0 := c1
        cases isKey x.f1 with
        | false => simp
        | true =>
          by_cases c6 : x.f2.size = 0
          · by_cases c7 : x.f3 = 0 <;> simp [c6, c7, c1', c5]
          · simp [c6]
      · simp only [if_pos c1, if_neg c5]
        simp [c5]
    · have c1' : ¬ 1 ≤ x.f0 := c1
      simp only [if_neg c1]
      simp [c1']
theorem op_may (x : OpT) : rows_PutOps_1.f x.f0 x.f1 x.f2 x.f3 = some (opE x) := by
  unfold rows_PutOps_1.f
  rw [opCheck_eq]
  unfold rows_asks.f opE
  cases mayOp x <;> simp
theorem op_sizes (x : OpT) (h : opE x = 0) : x.f1.size ≤ 16 ∧ x.f2.size ≤ 16 := by
  have hm : mayOp x = true := by
    unfold opE at h
    cases hx : mayOp x <;> simp_all
  unfold mayOp at hm
  simp only [Bool.and_eq_true] at hm
  obtain ⟨⟨⟨⟨h1, _⟩, _⟩, h4⟩, _⟩ := hm
  refine ⟨(isKey_size _ h1).2, ?_⟩
  by_cases c4 : x.f0 = 4
  · rw [if_pos c4] at h4
    exact (isKey_size _ h4).2
  · rw [if_neg c4] at h4
    simp at h4
    simp [h4]
theorem ev_op_one (b : List Int) (x : OpT) (hb : b.length + 64 < 140737488355328) (h : opE x = 0) : Ev (fun k => rows_PutOps_2.f k b x.f0 x.f1 x.f2 x.f3) (b ++ opB x) := by
  have hs := op_sizes x h
  unfold rows_PutOps_2.f opB
  simp only [if_pos (show b.length < 140737488355328 by omega)]
  rw [text_eq (b ++ [x.f0]) x.f1 (by simp; omega)]
  simp only [Option.bind_some]
  rw [text_eq (b ++ [x.f0] ++ textB x.f1) x.f2 (by simp [textB_length]; omega)]
  simp only [Option.bind_some]
  refine Ev.bind (ev_number4 _ _ (by simp [textB_length]; omega)) ?_
  refine ev_const ?_
  simp
theorem op_len (x : OpT) (h : opE x = 0) : (opB x).length ≤ 64 := by
  have hs := op_sizes x h
  simp [opB, textB_length, num4_length]
  omega

theorem fine_from (l : List RowT) (hl : l.length ≤ 9223372036854775807) (d : Nat) : ∀ i : Nat, i ≤ l.length → l.length - i = d → mayRows (l.take i) = true →
    Ev (fun k => rows_fine.l0 k l (l.length : Int) (i : Int) l) (if mayRows l then (if l.length ≤ 256 then 0 else 3) else 1) := by
  induction d with
  | zero =>
    intro i h0 h1 hp
    have e : l.take i = l := List.take_of_length_le (by omega)
    rw [e] at hp
    refine Ev.step (f := fun _ => (rows_asks.f (decide ((l.length : Int) ≤ 256)) 3).bind fun t => some t) (fun k => ?_) ?_
    · simp only [rows_fine.l0]
      rw [if_neg (by omega)]
    · refine ev_const ?_
      rw [hp]
      unfold rows_asks.f
      by_cases c : l.length ≤ 256
      · have c' : (l.length : Int) ≤ 256 := by omega
        simp [c, c']
      · have c' : ¬ (l.length : Int) ≤ 256 := by omega
        simp [c, c']
  | succ d ih =>
    intro i h0 h1 hp
    have hi : i < l.length := by omega
    have hrd : rd_T148 l (i : Int) = l[i] := by simp [rd_T148, hi]
    have ht : mayRows (l.take (i + 1)) = (mayRows (l.take i) && isKey (l[i].f0)) := by
      unfold mayRows
      rw [List.take_succ_eq_append_getElem hi]
      simp only [List.all_append, List.all_cons, List.all_nil, Bool.and_true]
    cases hk : isKey (l[i].f0) with
    | true =>
      refine Ev.step (f := fun k => rows_fine.l0 k l (l.length : Int) (wrap64 ((i : Int) + 1)) l) (fun k => ?_) ?_
      · simp only [rows_fine.l0]
        rw [if_pos (by omega), if_pos (by omega), if_pos (by omega), hrd]
        simp only [keys_Check.f, hk, Option.bind_some, if_true]
      · rw [wrap_id _ (by omega) (by omega)]
        exact ih (i + 1) (by omega) (by omega) (by rw [ht, hp, hk]; rfl)
    | false =>
      refine Ev.step (f := fun _ => some 1) (fun k => ?_) ?_
      · simp only [rows_fine.l0]
        rw [if_pos (by omega), if_pos (by omega), if_pos (by omega), hrd]
        simp only [keys_Check.f, hk, Option.bind_some, Bool.false_eq_true, if_false]
      · refine ev_const ?_
        have : mayRows l = false := by
          unfold mayRows
          rw [List.all_eq_false]
          exact ⟨l[i], List.getElem_mem _, by simp [hk]⟩
        simp [this]
theorem ev_result_may (x : ResultT) (hl : x.f0.length ≤ 9223372036854775807) : Ev (fun k => rows_fine.f k x.f0) (resultE x) := fine_from x.f0 hl x.f0.length 0 (by omega) (by omega) (by simp [mayRows])
theorem rows_from (l : List RowT) (hl : l.length ≤ 256) (hk : mayRows l = true) (d : Nat) : ∀ (b : List Int) (i : Nat), i ≤ l.length → l.length - i = d → b.length + 64 * (l.length - i) < 140737488355328 →
    Ev (fun k => rows_PutResults_1.l0 k b l (l.length : Int) (i : Int)) (b ++ (l.drop i).flatMap rowB) := by
  induction d with
  | zero =>
    intro b i h0 h1 hb
    refine Ev.step (f := fun _ => some b) (fun k => ?_) ?_
    · simp only [rows_PutResults_1.l0]
      rw [if_neg (by omega)]
    · refine ev_const ?_
      rw [List.drop_eq_nil_of_le (by omega)]
      simp
  | succ d ih =>
    intro b i h0 h1 hb
    have hi : i < l.length := by omega
    have hrd : rd_T148 l (i : Int) = l[i] := by simp [rd_T148, hi]
    have hki : isKey (l[i].f0) = true := by
      unfold mayRows at hk
      rw [List.all_eq_true] at hk
      exact hk _ (List.getElem_mem _)
    have hs := isKey_size _ hki
    refine Ev.step (f := fun k => (rows_number.f k (b ++ textB l[i].f0) l[i].f1 4).bind fun t => rows_PutResults_1.l0 k t l (l.length : Int) (wrap64 ((i : Int) + 1))) (fun k => ?_) ?_
    · simp only [rows_PutResults_1.l0]
      rw [if_pos (by omega), if_pos (by omega), if_pos (by omega), hrd, text_eq _ _ (by omega)]
      simp only [Option.bind_some]
    · refine Ev.bind (ev_number4 _ _ (by rw [List.length_append, textB_length]; omega)) ?_
      rw [wrap_id _ (by omega) (by omega)]
      refine ev_eq ?_ (ih (b ++ textB l[i].f0 ++ num4 l[i].f1) (i + 1) (by omega) (by omega) (by simp [textB_length, num4_length]; omega))
      rw [List.drop_eq_getElem_cons hi, List.flatMap_cons, rowB]
      simp only [List.append_assoc]
theorem result_ok (x : ResultT) (h : resultE x = 0) : mayRows x.f0 = true ∧ x.f0.length ≤ 256 := by
  unfold resultE at h
  cases hm : mayRows x.f0 with
  | false => rw [hm] at h; simp at h
  | true =>
    rw [hm] at h
    by_cases c : x.f0.length ≤ 256
    · exact ⟨rfl, c⟩
    · simp [c] at h
theorem ev_result_one (b : List Int) (x : ResultT) (hb : b.length + 20000 < 140737488355328) (h : resultE x = 0) : Ev (fun k => rows_PutResults_1.f k b x.f0) (b ++ resultB x) := by
  obtain ⟨hm, hl⟩ := result_ok x h
  unfold rows_PutResults_1.f resultB rowsB
  refine Ev.bind (ev_number2 _ _ (by omega)) ?_
  rw [num2_mod _ (by omega) (by omega)]
  refine ev_eq ?_ (rows_from x.f0 hl hm x.f0.length (b ++ num2 x.f0.length) 0 (by omega) (by omega) (by simp [num2_length]; omega))
  simp
theorem rowB_len (x : RowT) (h : isKey x.f0 = true) : (rowB x).length ≤ 21 := by
  have hs := isKey_size _ h
  simp [rowB, textB_length, num4_length]
  omega
theorem result_len (x : ResultT) (h : resultE x = 0) : (resultB x).length ≤ 20000 := by
  obtain ⟨hm, hl⟩ := result_ok x h
  unfold mayRows at hm
  rw [List.all_eq_true] at hm
  have := flatMap_len_le rowB 21 x.f0 (fun r hr => rowB_len r (hm r hr))
  simp only [resultB, rowsB, List.length_append, num2_length]
  omega

theorem op_scan (l : List OpT) (hl : l.length ≤ 1000000000) (most : Int) (d : Nat) : ∀ (i : Nat) (wst : Int), i ≤ l.length → l.length - i = d →
    (∀ x ∈ l.take i, opE x ≠ 1) → (wst = 0 ∨ wst = 3) → (wst = 3 ↔ (l.take i).any (fun x => opE x == 3) = true) → ∀ (r : List Int × Int),
    (l.any (fun x => opE x == 1) = true → r = ([], 1)) →
    (l.any (fun x => opE x == 1) = false → Ev (fun k => if (if l.any (fun x => opE x == 3) then (3 : Int) else 0) = 0 then rows_put_Op.j1 k l (decide ((l.length : Int) > most)) else rows_put_Op.j1 k l true) r) →
    Ev (fun k => rows_put_Op.l0 k l most wst l (l.length : Int) (i : Int)) r := by
  induction d with
  | zero =>
    intro i wst h0 h1 hp hw hw3 r hr1 hr2
    have e : l.take i = l := List.take_of_length_le (by omega)
    rw [e] at hp hw3
    have hno : l.any (fun x => opE x == 1) = false := by
      rw [List.any_eq_false]
      intro x hx
      simpa using hp x hx
    have h2 := hr2 hno
    refine Ev.step (f := fun k => if wst = 0 then rows_put_Op.j1 k l (decide ((l.length : Int) > most)) else rows_put_Op.j1 k l true) (fun k => ?_) ?_
    · simp only [rows_put_Op.l0]
      rw [if_neg (by omega)]
    · rcases hw with rfl | rfl
      · have : l.any (fun x => opE x == 3) = false := by
          rw [Bool.eq_false_iff]
          intro h
          exact absurd (hw3.2 h) (by omega)
        rw [this] at h2
        exact h2
      · have : l.any (fun x => opE x == 3) = true := hw3.1 rfl
        rw [this] at h2
        exact h2
  | succ d ih =>
    intro i wst h0 h1 hp hw hw3 r hr1 hr2
    have hi : i < l.length := by omega
    have hrd : rd_T82 l (i : Int) = l[i] := by simp [rd_T82, hi]
    have htk : l.take (i + 1) = l.take i ++ [l[i]] := List.take_succ_eq_append_getElem hi
    have hstep : ∀ t : Int, opE l[i] = t → Ev (fun k => if t = 1 then (some (([] : List Int), (1 : Int))) else (if t = 3 then (rows_put_Op.l0 k l most 3 l (l.length : Int) (wrap64 ((i : Int) + 1))) else (rows_put_Op.l0 k l most wst l (l.length : Int) (wrap64 ((i : Int) + 1))))) r := by
      intro t ht
      by_cases c1 : t = 1
      · simp only [if_pos c1]
        refine ev_const ?_
        rw [hr1 (by rw [List.any_eq_true]; exact ⟨l[i], List.getElem_mem _, by simp [ht, c1]⟩)]
      · simp only [if_neg c1]
        rw [wrap_id _ (by omega) (by omega)]
        have hp' : ∀ x ∈ l.take (i + 1), opE x ≠ 1 := by
          rw [htk]
          intro x hx
          rcases List.mem_append.1 hx with hx | hx
          · exact hp x hx
          · rw [List.mem_singleton.1 hx, ht]; exact c1
        by_cases c3 : t = 3
        · simp only [if_pos c3]
          exact ih (i + 1) 3 (by omega) (by omega) hp' (.inr rfl) (by rw [htk, List.any_append]; simp [ht, c3]) r hr1 hr2
        · simp only [if_neg c3]
          exact ih (i + 1) wst (by omega) (by omega) hp' hw (by rw [htk, hw3, List.any_append]; simp [ht, c3]) r hr1 hr2
    refine Ev.step (g := fun k => rows_put_Op.l0 k l most wst l (l.length : Int) (i : Int)) (fun k => ?_) (hstep _ rfl)
    simp only [rows_put_Op.l0]
    rw [if_pos (by omega), if_pos (by omega), if_pos (by omega), hrd, op_may]
    simp only [Option.bind_some]
theorem op_put (l : List OpT) (hl : l.length ≤ 1000000) (hok : ∀ x ∈ l, opE x = 0) (d : Nat) : ∀ (b : List Int) (i : Nat), i ≤ l.length → l.length - i = d → b.length + 64 * (l.length - i) + 64 < 140737488355328 →
    Ev (fun k => rows_put_Op.l1 k b l (l.length : Int) (i : Int)) (b ++ (l.drop i).flatMap opB, 0) := by
  induction d with
  | zero =>
    intro b i h0 h1 hb
    refine Ev.step (f := fun _ => some (b, 0)) (fun k => ?_) ?_
    · simp only [rows_put_Op.l1]
      rw [if_neg (by omega)]
    · refine ev_const ?_
      rw [List.drop_eq_nil_of_le (by omega)]
      simp
  | succ d ih =>
    intro b i h0 h1 hb
    have hi : i < l.length := by omega
    have hrd : rd_T82 l (i : Int) = l[i] := by simp [rd_T82, hi]
    have hoi := hok l[i] (List.getElem_mem _)
    refine Ev.step (f := fun k => (rows_PutOps_2.f k b l[i].f0 l[i].f1 l[i].f2 l[i].f3).bind fun t => rows_put_Op.l1 k t l (l.length : Int) (wrap64 ((i : Int) + 1))) (fun k => ?_) ?_
    · simp only [rows_put_Op.l1]
      rw [if_pos (by omega), if_pos (by omega), if_pos (by omega), hrd]
    · refine Ev.bind (ev_op_one b l[i] (by omega) hoi) ?_
      rw [wrap_id _ (by omega) (by omega)]
      have hlen := op_len l[i] hoi
      refine ev_eq ?_ (ih (b ++ opB l[i]) (i + 1) (by omega) (by omega) (by rw [List.length_append]; omega))
      rw [List.drop_eq_getElem_cons hi, List.flatMap_cons]
      simp only [List.append_assoc]
theorem ev_putOps (l : List OpT) (hl : l.length ≤ 1000000000) : Ev (fun k => rows_PutOps.f k l) (putOps l) := by
  unfold rows_PutOps.f
  refine Ev.bind (a := putOps l) ?_ (ev_const rfl)
  unfold rows_put_Op.f
  refine op_scan l hl 16 l.length 0 0 (by omega) (by omega) (by simp) (.inl rfl) (by simp) _ ?_ ?_
  · intro h
    unfold putOps putList
    rw [if_pos h]
  · intro h
    have hfail : putOps l = ([], 3) → Ev (fun k => rows_put_Op.j1 k l true) (putOps l) := by
      intro e
      rw [e]
      exact Ev.step (f := fun _ => some ([], 3)) (fun k => by simp only [rows_put_Op.j1, if_true]) (ev_const rfl)
    cases h3 : l.any (fun x => opE x == 3) with
    | true =>
      simp only [if_true, show ¬ ((3 : Int) = 0) from by omega, if_false]
      refine hfail ?_
      unfold putOps putList
      rw [h, h3]
      simp
    | false =>
      simp only [Bool.false_eq_true, if_false, if_true]
      by_cases hm : (l.length : Int) > 16
      · simp only [hm, decide_true]
        refine hfail ?_
        unfold putOps putList
        have : 16 < l.length := by omega
        rw [h, h3]
        simp [this]
      · simp only [hm, decide_false]
        have hm' : ¬ 16 < l.length := by omega
        have hok : ∀ x ∈ l, opE x = 0 := by
          intro x hx
          rw [List.any_eq_false] at h h3
          have a1 := h x hx
          have a3 := h3 x hx
          simp at a1 a3
          unfold opE at *; split at a1 <;> simp_all
        refine Ev.step (f := fun k => (rows_number.f k ([] : List Int) (((l.length : Int)) % 4294967296) 2).bind fun t => rows_put_Op.l1 k t l (l.length : Int) 0) (fun k => by simp only [rows_put_Op.j1, Bool.false_eq_true, if_false]) ?_
        refine Ev.bind (ev_number2 _ _ (by simp)) ?_
        rw [num2_mod _ (by omega) (by omega)]
        refine ev_eq ?_ (op_put l (by omega) hok l.length ([] ++ num2 l.length) 0 (by omega) (by omega) (by simp [num2_length]; omega))
        unfold putOps putList
        rw [h, h3]
        simp [hm']

theorem result_scan (l : List ResultT) (hl : l.length ≤ 1000000000) (hrl : ∀ x ∈ l, x.f0.length ≤ 9223372036854775807) (most : Int) (d : Nat) : ∀ (i : Nat) (wst : Int), i ≤ l.length → l.length - i = d →
    (∀ x ∈ l.take i, resultE x ≠ 1) → (wst = 0 ∨ wst = 3) → (wst = 3 ↔ (l.take i).any (fun x => resultE x == 3) = true) → ∀ (r : List Int × Int),
    (l.any (fun x => resultE x == 1) = true → r = ([], 1)) →
    (l.any (fun x => resultE x == 1) = false → Ev (fun k => if (if l.any (fun x => resultE x == 3) then (3 : Int) else 0) = 0 then rows_put_Result.j1 k l (decide ((l.length : Int) > most)) else rows_put_Result.j1 k l true) r) →
    Ev (fun k => rows_put_Result.l0 k l most wst l (l.length : Int) (i : Int)) r := by
  induction d with
  | zero =>
    intro i wst h0 h1 hp hw hw3 r hr1 hr2
    have e : l.take i = l := List.take_of_length_le (by omega)
    rw [e] at hp hw3
    have hno : l.any (fun x => resultE x == 1) = false := by
      rw [List.any_eq_false]
      intro x hx
      simpa using hp x hx
    have h2 := hr2 hno
    refine Ev.step (f := fun k => if wst = 0 then rows_put_Result.j1 k l (decide ((l.length : Int) > most)) else rows_put_Result.j1 k l true) (fun k => ?_) ?_
    · simp only [rows_put_Result.l0]
      rw [if_neg (by omega)]
    · rcases hw with rfl | rfl
      · have : l.any (fun x => resultE x == 3) = false := by
          rw [Bool.eq_false_iff]
          intro h
          exact absurd (hw3.2 h) (by omega)
        rw [this] at h2
        exact h2
      · have : l.any (fun x => resultE x == 3) = true := hw3.1 rfl
        rw [this] at h2
        exact h2
  | succ d ih =>
    intro i wst h0 h1 hp hw hw3 r hr1 hr2
    have hi : i < l.length := by omega
    have hrd : rd_T145 l (i : Int) = l[i] := by simp [rd_T145, hi]
    have htk : l.take (i + 1) = l.take i ++ [l[i]] := List.take_succ_eq_append_getElem hi
    have hstep : ∀ t : Int, resultE l[i] = t → Ev (fun k => if t = 1 then (some (([] : List Int), (1 : Int))) else (if t = 3 then (rows_put_Result.l0 k l most 3 l (l.length : Int) (wrap64 ((i : Int) + 1))) else (rows_put_Result.l0 k l most wst l (l.length : Int) (wrap64 ((i : Int) + 1))))) r := by
      intro t ht
      by_cases c1 : t = 1
      · simp only [if_pos c1]
        refine ev_const ?_
        rw [hr1 (by rw [List.any_eq_true]; exact ⟨l[i], List.getElem_mem _, by simp [ht, c1]⟩)]
      · simp only [if_neg c1]
        rw [wrap_id _ (by omega) (by omega)]
        have hp' : ∀ x ∈ l.take (i + 1), resultE x ≠ 1 := by
          rw [htk]
          intro x hx
          rcases List.mem_append.1 hx with hx | hx
          · exact hp x hx
          · rw [List.mem_singleton.1 hx, ht]; exact c1
        by_cases c3 : t = 3
        · simp only [if_pos c3]
          exact ih (i + 1) 3 (by omega) (by omega) hp' (.inr rfl) (by rw [htk, List.any_append]; simp [ht, c3]) r hr1 hr2
        · simp only [if_neg c3]
          exact ih (i + 1) wst (by omega) (by omega) hp' hw (by rw [htk, hw3, List.any_append]; simp [ht, c3]) r hr1 hr2
    refine Ev.step (f := fun k => (rows_fine.f k l[i].f0).bind fun t => if t = 1 then (some (([] : List Int), (1 : Int))) else (if t = 3 then (rows_put_Result.l0 k l most 3 l (l.length : Int) (wrap64 ((i : Int) + 1))) else (rows_put_Result.l0 k l most wst l (l.length : Int) (wrap64 ((i : Int) + 1))))) (fun k => ?_) ?_
    · simp only [rows_put_Result.l0]
      rw [if_pos (by omega), if_pos (by omega), if_pos (by omega), hrd]
    · exact Ev.bind (ev_result_may l[i] (hrl _ (List.getElem_mem _))) (hstep _ rfl)
theorem result_put (l : List ResultT) (hl : l.length ≤ 1000000) (hok : ∀ x ∈ l, resultE x = 0) (d : Nat) : ∀ (b : List Int) (i : Nat), i ≤ l.length → l.length - i = d → b.length + 20000 * (l.length - i) + 20000 < 140737488355328 →
    Ev (fun k => rows_put_Result.l1 k b l (l.length : Int) (i : Int)) (b ++ (l.drop i).flatMap resultB, 0) := by
  induction d with
  | zero =>
    intro b i h0 h1 hb
    refine Ev.step (f := fun _ => some (b, 0)) (fun k => ?_) ?_
    · simp only [rows_put_Result.l1]
      rw [if_neg (by omega)]
    · refine ev_const ?_
      rw [List.drop_eq_nil_of_le (by omega)]
      simp
  | succ d ih =>
    intro b i h0 h1 hb
    have hi : i < l.length := by omega
    have hrd : rd_T145 l (i : Int) = l[i] := by simp [rd_T145, hi]
    have hoi := hok l[i] (List.getElem_mem _)
    refine Ev.step (f := fun k => (rows_PutResults_1.f k b l[i].f0).bind fun t => rows_put_Result.l1 k t l (l.length : Int) (wrap64 ((i : Int) + 1))) (fun k => ?_) ?_
    · simp only [rows_put_Result.l1]
      rw [if_pos (by omega), if_pos (by omega), if_pos (by omega), hrd]
    · refine Ev.bind (ev_result_one b l[i] (by omega) hoi) ?_
      rw [wrap_id _ (by omega) (by omega)]
      have hlen := result_len l[i] hoi
      refine ev_eq ?_ (ih (b ++ resultB l[i]) (i + 1) (by omega) (by omega) (by rw [List.length_append]; omega))
      rw [List.drop_eq_getElem_cons hi, List.flatMap_cons]
      simp only [List.append_assoc]
theorem ev_putResults (l : List ResultT) (hl : l.length ≤ 1000000000) (hrl : ∀ x ∈ l, x.f0.length ≤ 9223372036854775807) : Ev (fun k => rows_PutResults.f k l) (putResults l) := by
  unfold rows_PutResults.f
  refine Ev.bind (a := putResults l) ?_ (ev_const rfl)
  unfold rows_put_Result.f
  refine result_scan l hl hrl 16 l.length 0 0 (by omega) (by omega) (by simp) (.inl rfl) (by simp) _ ?_ ?_
  · intro h
    unfold putResults putList
    rw [if_pos h]
  · intro h
    have hfail : putResults l = ([], 3) → Ev (fun k => rows_put_Result.j1 k l true) (putResults l) := by
      intro e
      rw [e]
      exact Ev.step (f := fun _ => some ([], 3)) (fun k => by simp only [rows_put_Result.j1, if_true]) (ev_const rfl)
    cases h3 : l.any (fun x => resultE x == 3) with
    | true =>
      simp only [if_true, show ¬ ((3 : Int) = 0) from by omega, if_false]
      refine hfail ?_
      unfold putResults putList
      rw [h, h3]
      simp
    | false =>
      simp only [Bool.false_eq_true, if_false, if_true]
      by_cases hm : (l.length : Int) > 16
      · simp only [hm, decide_true]
        refine hfail ?_
        unfold putResults putList
        have : 16 < l.length := by omega
        rw [h, h3]
        simp [this]
      · simp only [hm, decide_false]
        have hm' : ¬ 16 < l.length := by omega
        have hok : ∀ x ∈ l, resultE x = 0 := by
          intro x hx
          rw [List.any_eq_false] at h h3
          have a1 := h x hx
          have a3 := h3 x hx
          simp at a1 a3
          unfold resultE at *; split at a1 <;> simp_all
        refine Ev.step (f := fun k => (rows_number.f k ([] : List Int) (((l.length : Int)) % 4294967296) 2).bind fun t => rows_put_Result.l1 k t l (l.length : Int) 0) (fun k => by simp only [rows_put_Result.j1, Bool.false_eq_true, if_false]) ?_
        refine Ev.bind (ev_number2 _ _ (by simp)) ?_
        rw [num2_mod _ (by omega) (by omega)]
        refine ev_eq ?_ (result_put l (by omega) hok l.length ([] ++ num2 l.length) 0 (by omega) (by omega) (by simp [num2_length]; omega))
        unfold putResults putList
        rw [h, h3]
        simp [hm']

theorem sameBytes_from (a b : List Int) (hab : a.length = b.length) (hl : a.length ≤ 9223372036854775807) (d : Nat) : ∀ (i : Nat), i ≤ a.length → a.length - i = d → a.take i = b.take i →
    Ev (fun k => concordatlaw01_SameBytes.l0 k a b (i : Int)) (decide (a = b)) := by
  induction d with
  | zero =>
    intro i h0 h1 hp
    rw [List.take_of_length_le (by omega), List.take_of_length_le (by omega)] at hp
    refine Ev.step (f := fun _ => some true) (fun k => ?_) (ev_const (by simp [hp]))
    simp only [concordatlaw01_SameBytes.l0]
    rw [if_neg (by omega)]
  | succ d ih =>
    intro i h0 h1 hp
    have hi : i < a.length := by omega
    have hj : i < b.length := by omega
    have ha : rd a (i : Int) = a[i] := by simp [rd, hi]
    have hb : rd b (i : Int) = b[i] := by simp [rd, hj]
    by_cases c : a[i] = b[i]
    · refine Ev.step (f := fun k => concordatlaw01_SameBytes.l0 k a b (wrap64 ((i : Int) + 1))) (fun k => ?_) ?_
      · simp only [concordatlaw01_SameBytes.l0]
        rw [if_pos (by omega), if_pos (by omega), if_pos (by omega), ha, hb, if_pos c]
      · rw [wrap_id _ (by omega) (by omega)]
        exact ih (i + 1) (by omega) (by omega) (by rw [List.take_succ_eq_append_getElem hi, List.take_succ_eq_append_getElem hj, hp, c])
    · refine Ev.step (f := fun _ => some false) (fun k => ?_) (ev_const ?_)
      · simp only [concordatlaw01_SameBytes.l0]
        rw [if_pos (by omega), if_pos (by omega), if_pos (by omega), ha, hb, if_neg c]
      · have : ¬ a = b := fun e => c (by subst e; rfl)
        simp [this]
theorem ev_SameBytes (a b : List Int) (hl : a.length ≤ 9223372036854775807) : Ev (fun k => concordatlaw01_SameBytes.f k a b) (decide (a = b)) := by
  unfold concordatlaw01_SameBytes.f
  by_cases c : (a.length : Int) = (b.length : Int)
  · simp only [if_pos c]
    exact sameBytes_from a b (by omega) hl a.length 0 (by omega) (by omega) (by simp)
  · simp only [if_neg c]
    refine ev_const ?_
    have : ¬ a = b := fun e => c (by subst e; rfl)
    simp [this]

end Go.Proofs.YtcohodkpppmaoaaGreatDoor.Q
namespace Go.Proofs.YtcohodkpppmaoaaGreatDoor.Q
open Go.RowKit Go.Proofs.YtcohodkpppmaoaaGreatDoorW.PrintWords Go.Proofs.YtcohodkpppmaoaaGreatDoorW.PrintLast Go.Proofs.YtcohodkpppmaoaaGreatDoorW.PrintMore
set_option linter.unusedVariables false

abbrev RdS := List Int × Bool
def takeR (s : RdS) (n : Nat) : List Int := if s.1.length < n then List.replicate n 0 else s.1.take n
def takeS (s : RdS) (n : Nat) : RdS := if s.1.length < n then (s.1, true) else (s.1.drop n, s.2)
def foldN (l : List Int) : Int := l.foldl (fun n c => (n * 256 + c) % 4294967296) 0
def numR (s : RdS) (n : Nat) : Int := foldN (takeR s n)
def textR (s : RdS) : ByteArray := strOfNums (takeR (takeS s 1) (numR s 1).toNat)
def textS (s : RdS) : RdS := takeS (takeS s 1) (numR s 1).toNat

/-- A reader at block g that was made behind w0; the bytes that it has still to give lie in w0. -/
structure Rd (w0 w : World) (g : Nat) (s : RdS) : Prop where
  below : Below w0.heap.size w0 w
  far : w0.heap.size ≤ g
  row : ∃ A c, w.heap[g]? = some (.cells #[.slice A s.1.length c, .bool s.2] 229 (0, 0)) ∧ s.1.length ≤ c ∧ s.1.length ≤ maxLen ∧ Kd.C (Kd.int .u8) w0 A s.1.length s.1
  bytes : ∀ x ∈ s.1, 0 ≤ x ∧ x < 256

theorem Rd.drew {w0 w : World} {g : Nat} {s : RdS} (h : Rd w0 w g s) (n : Nat) : Rd w0 (w.drewN n) g s :=
  ⟨pw_below_drewN h.below n, h.far, h.row, h.bytes⟩
/-- What keeps all but g's block, and finds g's block as told. -/
theorem Rd.grown {w0 w w1 : World} {g : Nat} {s : RdS} (h : Rd w0 w g s) (hb : Below w.heap.size w w1) : Rd w0 w1 g s := by
  obtain ⟨A, c, hr, h1, h2, h3⟩ := h.row
  have hlt : g < w.heap.size := blk_lt hr
  exact ⟨h.below.trans (hb.mono (h.below.size)), h.far, ⟨A, c, (hb.block g hlt).trans hr, h1, h2, h3⟩, h.bytes⟩

end Go.Proofs.YtcohodkpppmaoaaGreatDoor.Q
namespace Go.Proofs.YtcohodkpppmaoaaGreatDoor.Q
open Go.RowKit Go.Proofs.YtcohodkpppmaoaaGreatDoorW.PrintWords Go.Proofs.YtcohodkpppmaoaaGreatDoorW.PrintLast Go.Proofs.YtcohodkpppmaoaaGreatDoorW.PrintMore
set_option linter.unusedVariables false

def opS (s : RdS) : RdS := takeS (textS (textS (takeS s 1))) 4
def changeS (s : RdS) : RdS := takeS (takeS (textS s) 1) 4
def rowR (s : RdS) : S148 := ⟨textR s, numR (textS s) 4⟩
def rowS (s : RdS) : RdS := takeS (textS s) 4

theorem Rd.alloc {w0 w : World} {g : Nat} {s : RdS} (h : Rd w0 w g s) (o : Obj) : Rd w0 (w.alloc o) g s := h.grown (below_alloc (Below.refl _ _) o)
theorem Rd.set {w0 w : World} {g b : Nat} {s : RdS} (h : Rd w0 w g s) (hb : g ≠ b) (h0 : w0.heap.size ≤ b) (j : Nat) (u : Value) : Rd w0 (w.setCell ⟨b, j, none⟩ u) g s := by
  obtain ⟨A, c, hr, h1, h2, h3⟩ := h.row
  exact ⟨h.below.setCell h0 _, h.far, ⟨A, c, blk_far hr hb u, h1, h2, h3⟩, h.bytes⟩
theorem Rd.lt {w0 w : World} {g : Nat} {s : RdS} (h : Rd w0 w g s) : g < w.heap.size := by
  obtain ⟨A, c, hr, _⟩ := h.row
  exact blk_lt hr
end Go.Proofs.YtcohodkpppmaoaaGreatDoor.Q
namespace Go.Proofs.YtcohodkpppmaoaaGreatDoor.Q
open Go.RowKit Go.Proofs.YtcohodkpppmaoaaGreatDoorW.PrintWords Go.Proofs.YtcohodkpppmaoaaGreatDoorW.PrintLast Go.Proofs.YtcohodkpppmaoaaGreatDoorW.PrintMore
set_option linter.unusedVariables false

def sevN {α : Type} (r : RdS → α) (st : RdS → RdS) : Nat → RdS → List α
  | 0, _ => []
  | n + 1, s => if s.2 then [] else r s :: sevN r st n (st s)
def sevNS {α : Type} (r : RdS → α) (st : RdS → RdS) : Nat → RdS → RdS
  | 0, s => s
  | n + 1, s => if s.2 then s else sevNS r st n (st s)
def sevS {α : Type} (r : RdS → α) (st : RdS → RdS) (s : RdS) : RdS := sevNS r st (numR s 2).toNat (takeS s 2)

theorem Rd.grownBy {w0 w w1 : World} {g : Nat} {s : RdS} (h : Rd w0 w g s) (hb : Below w0.heap.size w0 w1) {row : Option Nat} (hg : w.grownBy w1 row) (hr : ∀ k, row = some k → k ≠ g) : Rd w0 w1 g s := by
  obtain ⟨A, c, hr0, h1, h2, h3⟩ := h.row
  exact ⟨hb, h.far, ⟨A, c, blk_grown hr0 hg (by intro e; exact hr g e.symm rfl), h1, h2, h3⟩, h.bytes⟩

def resS (s : RdS) : RdS := sevS rowR rowS s

def Bts (s : RdS) : Prop := ∀ x ∈ s.1, 0 ≤ x ∧ x < 256
theorem Bts.take {s : RdS} (hs : Bts s) (n : Nat) : Bts (takeS s n) := by
  unfold takeS
  split
  · exact hs
  · exact fun x hx => hs x (List.mem_of_mem_drop hx)
theorem Bts.text {s : RdS} (hs : Bts s) : Bts (textS s) := (hs.take 1).take _
theorem Bts.row {s : RdS} (hs : Bts s) : Bts (rowS s) := hs.text.take 4
theorem Bts.op {s : RdS} (hs : Bts s) : Bts (opS s) := (hs.take 1).text.text.take 4
theorem Bts.change {s : RdS} (hs : Bts s) : Bts (changeS s) := (hs.text.take 1).take 4
theorem Bts.sevN {α : Type} {r : RdS → α} {st : RdS → RdS} (hst : ∀ s, Bts s → Bts (st s)) : ∀ (n : Nat) (s : RdS), Bts s → Bts (sevNS r st n s)
  | 0, _, h => h
  | n + 1, s, h => by
    unfold sevNS
    split
    · exact h
    · exact Bts.sevN hst n _ (hst s h)
theorem Bts.sev {α : Type} {r : RdS → α} {st : RdS → RdS} (hst : ∀ s, Bts s → Bts (st s)) {s : RdS} (h : Bts s) : Bts (sevS r st s) := Bts.sevN hst _ _ (h.take 2)
theorem Bts.res {s : RdS} (hs : Bts s) : Bts (resS s) := Bts.sev (fun _ h => h.row) hs
end Go.Proofs.YtcohodkpppmaoaaGreatDoor.Q
namespace Go.Proofs.YtcohodkpppmaoaaGreatDoor.Q
open Go.RowKit Go.Proofs.YtcohodkpppmaoaaGreatDoorW.PrintWords Go.Proofs.YtcohodkpppmaoaaGreatDoorW.PrintLast Go.Proofs.YtcohodkpppmaoaaGreatDoorW.PrintMore
set_option linter.unusedVariables false

theorem alloc_size (w : World) (o : Obj) : (w.alloc o).heap.size = w.heap.size + 1 := by show (w.heap.push o).size = _; simp
end Go.Proofs.YtcohodkpppmaoaaGreatDoor.Q
namespace Go.Proofs.YtcohodkpppmaoaaGreatDoor.Q
open Go.RowKit Go.Proofs.YtcohodkpppmaoaaGreatDoorW.PrintWords Go.Proofs.YtcohodkpppmaoaaGreatDoorW.PrintLast Go.Proofs.YtcohodkpppmaoaaGreatDoorW.PrintMore
set_option linter.unusedVariables false
/-- A result, and what lies in the room behind its rows. -/
abbrev TRes := ResT' × List RowT'
def spareRow : RowT' := ⟨spareKey, 0⟩
def spareRes : TRes := (⟨[spareRow]⟩, [])
def twOf (x : ResT') : TRes := (x, [spareRow])
def fdTR : Fd TRes where
  k := Kd.iso k145 Prod.fst
  M := fun w F x cs => ∃ A c, cs = [.slice A x.1.f0.length c] ∧ x.1.f0.length + x.2.length ≤ c ∧ Fd.Row fdRow 148 w F (.slice A (x.1.f0.length + x.2.length) c) (x.1.f0 ++ x.2)
  read := by
    rintro w F x cs ⟨A, c, rfl, hl, h⟩
    obtain ⟨A', c', ev, hc, hC⟩ := Fd.row_reads h
    injection ev with e1 _ e3
    subst e1
    exact k145_mk w x.1 (by omega) (C_front hC)
  move := by
    rintro w w1 F x cs hm ⟨A, c, rfl, hl, h⟩
    exact ⟨A, c, rfl, hl, Fd.row_move hm h⟩
  lt := by
    rintro w F x cs ⟨A, c, rfl, hl, h⟩
    exact Fd.row_lt h
theorem C_iso {α β : Type} {k : Kd α} {f : β → α} {w : World} {A : Option Addr} {n : Nat} {ys : List β} (h : (Kd.iso k f).C w A n ys) : k.C w A n (ys.map f) :=
  ⟨by simpa using h.1, h.2.1, fun hn => by
    obtain ⟨ad, e, hc⟩ := h.2.2 hn
    refine ⟨ad, e, fun j p hj => ?_⟩
    rw [List.getElem?_map] at hj
    obtain ⟨q, hq, rfl⟩ := Option.map_eq_some_iff.1 hj
    exact hc j q hq⟩
section
variable {w : World} {F : List Nat} {A : Option Addr} {n m c : Nat} {l : List ResT'} {ys : List TRes} {e : Nat}
theorem twMap (l : List ResT') : (l.map twOf).map Prod.fst = l := by simp [twOf, Function.comp_def]
/-- As it is read. -/
theorem twinR_c (h : Twin fdTR e w F (.slice A n c) (l.map twOf) spareRes) : k145.C w A l.length l ∧ l.length + 1 ≤ c := by
  obtain ⟨h1, h2, h3⟩ := h.c
  have h4 := C_iso h1
  rw [List.length_map] at h3 h4
  rw [twMap] at h4
  exact ⟨h4, h3⟩
/-- Element i of a row of results: its rows, and what lies behind them. -/
theorem TRow_at (h : Fd.Row fdTR e w F (.slice A m c) ys) (i : Nat) (hi : i < ys.length) : ∃ g Ai ci, A = some ⟨g, 0, none⟩ ∧ w.cell? ⟨g, i, none⟩ = some (.slice Ai (ys[i]).1.f0.length ci) ∧ (ys[i]).1.f0.length + (ys[i]).2.length ≤ ci ∧ k148.C w Ai ((ys[i]).1.f0.length + (ys[i]).2.length) ((ys[i]).1.f0 ++ (ys[i]).2) := by
  obtain ⟨inner, G, ho, he, rfl⟩ := h
  obtain ⟨c0, c1, c2, F0, F', F1, rfl, hl0, rfl, _, hM, _⟩ := Fd.els_at hi he
  obtain ⟨g, cap, ev, _, _⟩ := ho.form (by omega)
  injection ev with e1 _ e3
  subst e1
  obtain ⟨Ai, ci, rfl, hci, hr⟩ := hM
  obtain ⟨A', c', ev', hc', hC⟩ := Fd.row_reads hr
  injection ev' with a1 _ a3
  subst a1
  rw [List.length_append] at hC
  have hl0' : c0.length = i := by rw [hl0]; exact Nat.mul_one i
  refine ⟨g, Ai, ci, rfl, ?_, hci, hC⟩
  have h := ho.cells (g := g) rfl i (.slice Ai (ys[i]).1.f0.length ci) (by rw [List.getElem?_append_right (by omega), hl0', Nat.sub_self]; rfl)
  rwa [add_plain] at h
end
theorem infoTwResults : (Tryz.prog.info? 145).map (fun i => (i.zero, i.size, i.bytes)) = some (some (.agg #[.slice none 0 0]), 1, 24) := by kernel_rfl
set_option maxRecDepth 100000 in
theorem twinResult_calls (w : World) (A0 : Option Addr) (c0 : Nat) (x : ResT') (hr : k148.C w A0 x.f0.length x.f0) (hc0 : x.f0.length ≤ c0) (hl : x.f0.length ≤ 1000000000) :
    Calls Tryz.prog 139 #[.agg #[.slice A0 x.f0.length c0]] w fun e w' => ∃ v, e = .returned (.agg #[v]) ∧ ∃ F, fdTR.M w' F (twOf x) [v] ∧ F.Nodup ∧ (∀ b ∈ F, w.heap.size ≤ b) ∧ Below w.heap.size w w' := by
  have hu := Tryz.underlying145
  have HC := Aside0.mk hr
  clear hr
  go_enter Tryz.func139, Tryz.ntmps139
  go_wp2_with fail
  obtain ⟨w1, hw1⟩ : ∃ w1, w1 = (w.alloc (.cells #[.slice A0 x.f0.length c0] 145)).alloc (.cells #[.slice none 0 0] 145) := ⟨_, rfl⟩
  have hb0 := below_alloc (Below.refl w.heap.size w) (.cells #[.slice A0 x.f0.length c0] 145)
  have hb1 : Below w.heap.size w w1 := by rw [hw1]; exact hb0.alloc hb0.size _
  have hbk : w1.heap[w.heap.size + 1]? = some (.cells #[.slice none 0 0] 145 (0, 0)) := by
    rw [hw1]
    have h := blk_new (w.alloc (.cells #[.slice A0 x.f0.length c0] 145)) (.cells #[.slice none 0 0] 145)
    rwa [alloc_size] at h
  rw [← hw1]
  clear hw1 hb0
  refine (twinRows_calls w1 A0 c0 x.f0 (Kd.C_below HC.out hb1) hc0 hl).mono ?_
  rintro e w2 ⟨v, rfl, F, hT, hN, hF, hb2⟩
  obtain ⟨A, c, rfl, hc, hR⟩ := hT
  have B2 := blk_below hbk hb2
  have BB := Aside0.mk (below_step hb1 hb2)
  have c0_ := blk_cell B2 0
  have f0_ := blk_frozen B2 0
  have hg2 := blk_lt B2
  have hs1 := hb1.size
  have hlt1 : w.heap.size + 1 < w1.heap.size := blk_lt hbk
  have HB2 := Aside0.mk B2
  have HR := Aside0.mk hR
  have HN := Aside0.mk hN
  have HF := Aside0.mk hF
  clear hb1 hb2 hbk B2 hR hN hF
  go_wp2
  try simp only [Exit.inBlock, Exit.then]
  refine bodyPost_ret (results_cell_row rfl _ _ (w.heap.size + 1) 145 #[.slice A x.f0.length c] (0, 0) _ rfl (blk_put (cs' := #[.slice A x.f0.length c]) HB2.out 0 (.slice A x.f0.length c) rfl) hu rfl (by kernel_rfl)) rfl ?_
  refine ⟨_, rfl, F, ⟨A, c, rfl, hc, Fd.row_keeps HR.out ((Keeps.refl [w.heap.size + 1] w2).setCell (p := ⟨w.heap.size + 1, 0, none⟩) (.inl (by simp)) _) (fun b hb hx => by have := HF.out b hb; simp at hx; omega)⟩, HN.out, fun b hb => by have := HF.out b hb; omega, BB.out.setCell (p := ⟨w.heap.size + 1, 0, none⟩) (Nat.le_succ _) _⟩
theorem readRes (l : List ResT') (k : Nat) (hk : k < l.length) : (l.take (k + 1)).map twOf = (l.take k).map twOf ++ [twOf (rd_T145 l (k : Int))] := by
  have e : rd_T145 l (k : Int) = l[k] := by simp [rd_T145, hk]
  rw [List.take_succ_eq_append_getElem hk, List.map_append, e]
  rfl
theorem rdRes_mem (l : List ResT') (k : Nat) (hk : k < l.length) : rd_T145 l (k : Int) ∈ l := by
  have e : rd_T145 l (k : Int) = l[k] := by simp [rd_T145, hk]
  rw [e]
  exact List.getElem_mem _
set_option maxHeartbeats 3200000 in
set_option maxRecDepth 100000 in
theorem twinResults_calls (w : World) (A0 : Option Addr) (c0 : Nat) (l : List ResT') (hr : Kd.C k145 w A0 l.length l) (hc0 : l.length ≤ c0) (hl : l.length ≤ 1000000000) (hlr : ∀ x ∈ l, x.f0.length ≤ 1000000000) :
    Calls Tryz.prog 52 #[.slice A0 l.length c0] w fun e w' => ∃ v, e = .returned v ∧ ∃ F, Twin fdTR 145 w' F v (l.map twOf) spareRes ∧ F.Nodup ∧ (∀ b ∈ F, w.heap.size ≤ b) ∧ Below w.heap.size w w' := by
  obtain ⟨MC, hMS, HMK⟩ : ∃ MC : Array Value, MC.size = (l.length + 1) * 1 ∧ ∀ W : World, (Instr.makeSlice 48 (.int .i64 0) (.int .i64 ((l.length : Int) + 1))).run Tryz.prog W = .ok (.slice (some ⟨W.heap.size, 0, none⟩) 0 (l.length + 1)) (W.alloc (.cells MC 145)) := ⟨madeCells (.agg #[.slice none 0 0] : Value).cells ((l.length + 1) * 1), madeCells_size _ _, fun W => by
    have h := run_make0 (P := Tryz.prog) 48 145 (.agg #[.slice none 0 0]) 1 24 Tryz.underlying48 infoTwResults (by decide) (l.length + 1) (by omega) W
    rwa [show ((l.length + 1 : Nat) : Int) = (l.length : Int) + 1 by omega] at h⟩
  have hw1 : IntKind.i64.wrap ((l.length : Int) + 1) = (l.length : Int) + 1 := IntWalk.i64_in _ (by omega)
  have HC := Aside0.mk hr
  have HLR := Aside0.mk hlr
  have hul := Tryz.underlying145
  have hulr := Tryz.underlying148
  clear hr hlr
  go_enter Tryz.func52, Tryz.ntmps52
  go_wp2
  obtain ⟨wo, hwo⟩ : ∃ wo, wo = w.alloc (.cells MC 145) := ⟨_, rfl⟩
  have HB0 := Aside0.mk (show Below w.heap.size w wo by rw [hwo]; exact below_alloc (Below.refl _ _) _)
  have HR0 := Aside0.mk (show Fd.Row fdTR 145 wo [w.heap.size] (.slice (some ⟨w.heap.size, 0, none⟩) 0 (l.length + 1)) [] by
    rw [hwo]; exact made0_row fdTR 145 w _ (l.length + 1) (by omega) hMS)
  rw [← hwo]
  clear hwo HMK
  go_loopw [3, 4] (fun v i wr => ∃ (k : Nat) (F : List Nat), k ≤ l.length ∧ i = .int .i64 k ∧ Aside0 (Fd.Row fdTR 145 wr F v ((l.take k).map twOf)) ∧ Aside0 F.Nodup ∧ Aside0 (∀ b ∈ F, w.heap.size ≤ b) ∧ Aside0 (Below w.heap.size w wr)) (fun _ i _ => l.length - (intOf i).toNat)
  case atStart => exact ⟨0, [w.heap.size], Nat.zero_le _, rfl, HR0, ⟨by simp⟩, ⟨by simp⟩, HB0⟩
  case round =>
    clear HR0 HB0
    obtain ⟨wq, hwq⟩ : ∃ wq, wq = wr := ⟨_, rfl⟩
    subst hwq
    obtain ⟨k, F, hk, rfl, HR, HN, HF, HB⟩ := hrel
    obtain ⟨Av, cv, ev, hcv, _⟩ := Fd.row_reads HR.out
    rw [List.length_map, List.length_take, Nat.min_eq_left hk] at ev hcv
    subst ev
    have hsz : w.heap.size ≤ wq.heap.size := HB.out.size
    by_cases hlt : k < l.length
    · have hlt' : (k : Int) < (l.length : Int) := by omega
      have hk0 : (0 : Int) ≤ (k : Int) := by omega
      obtain ⟨ad, Ai, ci, e1, hx0, hci, hCi⟩ := at_T145 (Kd.C_below HC.out HB.out) (k : Int) hk0 hlt'
      subst e1
      simp only [Int.toNat_natCast] at hx0
      have HTK := Aside0.mk (readRes l k hlt)
      have HXL := Aside0.mk (HLR.out _ (rdRes_mem l k hlt))
      generalize rd_T145 l (k : Int) = x at *
      have HCI := Aside0.mk hCi
      clear hCi
      go_wp2_with fail
      refine (twinResult_calls wq Ai ci x HCI.out hci HXL.out).mono ?_
      rintro e w5 ⟨vi, rfl, Fi, hM, hN, hFi, hb5⟩
      have HM := Aside0.mk hM
      have HNi := Aside0.mk hN
      have HFi := Aside0.mk hFi
      have HB5 := Aside0.mk hb5
      have HR5 := Aside0.mk (Fd.row_below HR.out hb5)
      have HLF := Aside0.mk (Fd.row_lt HR.out)
      have hs5 := hb5.size
      clear hM hN hFi hb5
      go_wp2_with (first | (at_builtin; (refine Fd.R_append (W := w5) fdTR rfl (.tmp 15) (.tmp 21) 48 145 (.agg #[.slice none 0 0]) 24 rfl Tryz.underlying48 infoTwResults rfl (show 0 < 1 from by decide) (by decide) (.slice Av k cv) ((l.take k).map twOf) (twOf x) [vi] F Fi rfl rfl HM.out HR5.out (List.nodup_append.2 ⟨HN.out, HNi.out, fun a ha b hb e => by have := HLF.out a ha; have := HFi.out b hb; omega⟩) (by rw [List.length_map, List.length_take]; omega) ?_); intro v1 w6 F6 h1 h2 h3 h4; have R6 := Aside0.mk h1; have N6 := Aside0.mk h2; have K6 := Aside0.mk h3; have L6 := Aside0.mk h4; clear h1 h2 h3 h4))
      go_roundw
      case rel =>
        refine ⟨k + 1, F6, by omega, by go_num, ⟨by rw [HTK.out]; exact R6.out⟩, N6, ⟨fun b hb => ?_⟩, ⟨(below_step HB.out HB5.out).trans (K6.out.below HF.out (by omega))⟩⟩
        rcases L6.out b hb with h | h | h
        · exact HF.out b h
        · have := HFi.out b h; omega
        · omega
      case measure => simp [intOf]; omega
    · obtain rfl : k = l.length := by omega
      have hlt' : ¬ ((l.length : Int) < (l.length : Int)) := by omega
      have etk : l.take l.length = l := List.take_of_length_le (Nat.le_refl _)
      rw [etk] at HR
      have hba := below_alloc (Below.refl wq.heap.size wq) (.cells #[.string ⟨#[115, 112, 97, 114, 101]⟩, .int .u32 0] 148)
      have HBA := Aside0.mk hba
      have HRA := Aside0.mk (Fd.row_below HR.out hba)
      have HLF := Aside0.mk (Fd.row_lt HR.out)
      have HM := Aside0.mk (show fdTR.M (wq.alloc (.cells #[.string ⟨#[115, 112, 97, 114, 101]⟩, .int .u32 0] 148)) [wq.heap.size] spareRes [.slice (some ⟨wq.heap.size, 0, none⟩) 1 1] from by
        refine ⟨_, 1, rfl, Nat.le_refl _, [.string ⟨#[115, 112, 97, 114, 101]⟩, .int .u32 0], [], ⟨rfl, .inr ⟨wq.heap.size, 1, #[.string ⟨#[115, 112, 97, 114, 101]⟩, .int .u32 0], rfl, Nat.zero_le _, blk_new wq _, Nat.le_refl _, by decide, rfl, rfl⟩⟩, ?_, rfl⟩
        exact Fd.els_one (F := []) ⟨rfl, k148_mk _ spareRow⟩)
      have HU := Aside0.mk infoTwResults
      clear hba
      go_wp2_with (first | (at_builtin; (refine Fd.R_append (W := wq.alloc (.cells #[.string ⟨#[115, 112, 97, 114, 101]⟩, .int .u32 0] 148)) fdTR rfl (.tmp 23) (.tmp 27) 48 145 (.agg #[.slice none 0 0]) 24 rfl Tryz.underlying48 infoTwResults rfl (show 0 < 1 from by decide) (by decide) (.slice Av l.length cv) (l.map twOf) spareRes [.slice (some ⟨wq.heap.size, 0, none⟩) 1 1] F [wq.heap.size] (by simp [Act.eval, Act.put]) (by simp [Act.eval, Act.put]) HM.out HRA.out (List.nodup_append.2 ⟨HN.out, by simp, fun a ha b hb e => by have := HLF.out a ha; simp at hb; omega⟩) (by rw [List.length_map]; omega) ?_); intro v1 w6 F6 h1 h2 h3 h4; obtain ⟨A2, c2, ev2, hc2, _⟩ := Fd.row_reads h1; rw [List.length_append, List.length_singleton, List.length_map] at ev2 hc2; subst ev2; have hcut := cut_up (P := Tryz.prog) 48 145 .i64 Tryz.underlying48 HU.out A2 (l.length + 1) c2 (l.length : Int) (by omega) (by omega); rw [Int.toNat_natCast] at hcut; have R6 := Aside0.mk h1; have N6 := Aside0.mk h2; have K6 := Aside0.mk h3; have L6 := Aside0.mk h4; clear h1 h2 h3 h4))
      go_ret
      refine ⟨_, rfl, F6, ⟨A2, c2, (show Value.slice A2 l.length c2 = .slice A2 (l.map twOf).length c2 by rw [List.length_map]), by rw [List.length_map]; exact hc2, by rw [List.length_map]; exact R6.out⟩, N6.out, fun b hb => ?_, (below_step HB.out HBA.out).trans (K6.out.below HF.out (by have := HBA.out.size; omega))⟩
      rcases L6.out b hb with h | h | h
      · exact HF.out b h
      · simp at h; omega
      · have := HBA.out.size; omega
set_option maxRecDepth 100000 in
theorem leftResult_calls (w : World) (At : Option Addr) (ct : Nat) (A0 : Option Addr) (c0 : Nat) (x : ResT') (ht : k148.C w At (x.f0.length + 1) (x.f0 ++ [spareRow])) (hct : x.f0.length + 1 ≤ ct) (hr : k148.C w A0 x.f0.length x.f0) (hc0 : x.f0.length ≤ c0) (hl : x.f0.length ≤ 1000000000) :
    Calls Tryz.prog 148 #[.agg #[.slice At x.f0.length ct], .agg #[.slice A0 x.f0.length c0]] w fun e w' => e = .returned (.bool true) ∧ Below w.heap.size w w' := by
  have hu := Tryz.underlying145
  have HT := Aside0.mk ht
  have HC := Aside0.mk hr
  clear ht hr
  have hb0 := below_alloc (Below.refl w.heap.size w) (.cells #[.slice At x.f0.length ct] 145)
  have HB := Aside0.mk (hb0.alloc hb0.size (.cells #[.slice A0 x.f0.length c0] 145))
  clear hb0
  go_enter Tryz.func148, Tryz.ntmps148
  go_wp2_with fail
  refine (leftRows_calls _ At ct A0 c0 x.f0 (Kd.C_below HT.out HB.out) hct (Kd.C_below HC.out HB.out) hc0 hl).mono ?_
  rintro e w2 ⟨rfl, hb2⟩
  have HB2 := Aside0.mk (below_step HB.out hb2)
  clear hb2
  go_wp2
  go_ret
  exact ⟨rfl, HB2.out⟩
theorem tw_at (l : List ResT') (k : Nat) (hk : k < l.length) : (l.map twOf ++ [spareRes])[k]'(by simp; omega) = twOf (rd_T145 l (k : Int)) := by
  have e : rd_T145 l (k : Int) = l[k] := by simp [rd_T145, hk]
  rw [e, List.getElem_append_left (by simpa using hk), List.getElem_map]
theorem tw_last (l : List ResT') : (l.map twOf ++ [spareRes])[l.length]'(by simp) = spareRes := by simp
set_option maxHeartbeats 3200000 in
set_option maxRecDepth 100000 in
theorem leftResults_calls (w : World) (At : Option Addr) (ct : Nat) (F : List Nat) (A0 : Option Addr) (c0 : Nat) (l : List ResT') (ht : Twin fdTR 145 w F (.slice At l.length ct) (l.map twOf) spareRes) (hr : Kd.C k145 w A0 l.length l) (hc0 : l.length ≤ c0) (hl : l.length ≤ 1000000000) (hlr : ∀ x ∈ l, x.f0.length ≤ 1000000000) :
    Calls Tryz.prog 58 #[.slice At l.length ct, .slice A0 l.length c0] w fun e w' => e = .returned (.bool true) ∧ Below w.heap.size w w' := by
  have hw1 : IntKind.i64.wrap ((l.length : Int) + 1) = (l.length : Int) + 1 := IntWalk.i64_in _ (by omega)
  have hct := (twinR_c ht).2
  have hcap : ¬ ((ct : Int) ≤ (l.length : Int)) := by omega
  have hcut := cut_up (P := Tryz.prog) 48 145 .i64 Tryz.underlying48 infoTwResults At l.length ct ((l.length : Int) + 1) (by omega) (by omega)
  rw [show ((l.length : Int) + 1).toNat = l.length + 1 by omega] at hcut
  have hul := Tryz.underlying145
  have hulr := Tryz.underlying148
  have hTR : Fd.Row fdTR 145 w F (.slice At (l.length + 1) ct) (l.map twOf ++ [spareRes]) := by
    obtain ⟨A', c', ev, _, h3⟩ := ht
    injection ev with e1 _ e3
    subst e1 e3
    rwa [List.length_map] at h3
  have HT := Aside0.mk hTR
  have HC := Aside0.mk hr
  have HLR := Aside0.mk hlr
  clear ht hr hlr hTR
  go_enter Tryz.func58, Tryz.ntmps58
  go_wp2
  go_loopw [5] (fun i wr => ∃ (k : Nat), k ≤ l.length ∧ i = .int .i64 k ∧ Aside0 (Below w.heap.size w wr)) (fun i _ => l.length - (intOf i).toNat)
  case atStart => exact ⟨0, Nat.zero_le _, rfl, ⟨Below.refl _ _⟩⟩
  case round =>
    obtain ⟨wq, hwq⟩ : ∃ wq, wq = wr := ⟨_, rfl⟩
    subst hwq
    obtain ⟨k, hk, rfl, HB⟩ := hrel
    have HTQ := Aside0.mk (Fd.row_below HT.out HB.out)
    by_cases hlt : k < l.length
    · have hlt' : (k : Int) < (l.length : Int) := by omega
      have hk0 : (0 : Int) ≤ (k : Int) := by omega
      obtain ⟨g, Ai, ci, e1, hy0, hyc, hyC⟩ := TRow_at HTQ.out k (by simp; omega)
      subst e1
      rw [tw_at l k hlt] at hy0 hyc hyC
      obtain ⟨ad, Al, cl, e1, hx0, hcl, hCl⟩ := at_T145 (Kd.C_below HC.out HB.out) (k : Int) hk0 hlt'
      subst e1
      simp only [Int.toNat_natCast] at hx0
      have HXL := Aside0.mk (HLR.out _ (rdRes_mem l k hlt))
      generalize rd_T145 l (k : Int) = x at *
      have HCT := Aside0.mk (show k148.C wq Ai (x.f0.length + 1) (x.f0 ++ [spareRow]) from hyC)
      have HCX := Aside0.mk hCl
      have hy0' : wq.cell? ⟨g, k, none⟩ = some (.slice Ai x.f0.length ci) := hy0
      have hci : x.f0.length + 1 ≤ ci := hyc
      have hd1 := below_drew (Below.refl wq.heap.size wq)
      have HD1 := Aside0.mk hd1
      have HS0 := Aside0.mk (show wq.drew.cell? ⟨g, k, none⟩ = some (.slice Ai x.f0.length ci) ∧ wq.drew.cell? (ad.add k) = some (.slice Al x.f0.length cl) from ⟨cell_on hd1 hy0', cell_on hd1 hx0⟩)
      have HF := Aside0.mk (show wq.cell? ⟨g, k, none⟩ = some (.slice Ai x.f0.length ci) ∧ wq.cell? (ad.add k) = some (.slice Al x.f0.length cl) from ⟨hy0', hx0⟩)
      have C1 := Aside0.mk (leftResult_calls wq.drew Ai ci Al cl x (Kd.C_below HCT.out hd1) hci (Kd.C_below HCX.out hd1) hcl HXL.out)
      clear hyC hCl hy0 hy0' hx0 hyc hd1
      go_wp2_with fail
      first | (go_region_held3 (fun w' : World => w'.cell? ⟨g, k, none⟩ = some (.slice Ai x.f0.length ci) ∧ w'.cell? (ad.add k) = some (.slice Al x.f0.length cl)) (first | with_reducible exact HS0.out | with_reducible exact HS1.out) (
          (go_at_call 148
           with_reducible refine C1.out.mono ?_
           rintro e w1 ⟨rfl, hb1⟩
           have HB1 := Aside0.mk (below_step HD1.out hb1)
           have HS1 := Aside0.mk (show w1.cell? ⟨g, k, none⟩ = some (.slice Ai x.f0.length ci) ∧ w1.cell? (ad.add k) = some (.slice Al x.f0.length cl) from ⟨cell_on hb1 HS0.out.1, cell_on hb1 HS0.out.2⟩)
           clear hb1))) | fail "held3"
      all_goals
        go_wp2
        refine ⟨⟨k + 1, by omega, by first | rfl | simp, Aside0.mk (below_step HB.out HB1.out)⟩, ?_⟩
        try simp only [intOf]
        omega
    · obtain rfl : k = l.length := by omega
      have hlt' : ¬ ((l.length : Int) < (l.length : Int)) := by omega
      obtain ⟨g, Ai, ci, e1, hy0, hyc, hyC⟩ := TRow_at HTQ.out l.length (by simp)
      subst e1
      rw [tw_last l] at hy0 hyc hyC
      have hy0' : wq.cell? ⟨g, l.length, none⟩ = some (.slice Ai 1 ci) := hy0
      have hyC' : k148.C wq Ai 1 [spareRow] := hyC
      obtain ⟨ad, e1, hz0, hz1⟩ := at_T148 hyC' 0 (by decide) (by decide)
      subst e1
      have hz0' : wq.cell? ad = some (.string ⟨#[115, 112, 97, 114, 101]⟩) := hz0
      have hadl : ad.block < wq.heap.size := World.block_lt_of_cell? wq _ hz0'
      have hza : (wq.alloc (.cells #[.slice (some ad) 1 ci] 145)).cell? ad = some (.string ⟨#[115, 112, 97, 114, 101]⟩) := cell_on (below_alloc (Below.refl _ _) _) hz0'
      clear hy0 hyC hz0 hz1 hyC' hyc
      go_wp2
      repeat (go_quiet (fail); try go_wp2)
      go_ret
      exact ⟨rfl, HB.out.alloc HB.out.size _⟩
end Go.Proofs.YtcohodkpppmaoaaGreatDoor.Q
namespace Go.Proofs.YtcohodkpppmaoaaGreatDoor.Q
open Go.RowKit Go.Proofs.YtcohodkpppmaoaaGreatDoorW.PrintWords Go.Proofs.YtcohodkpppmaoaaGreatDoorW.PrintLast Go.Proofs.YtcohodkpppmaoaaGreatDoorW.PrintMore
set_option linter.unusedVariables false
/-- A slice of so many, of which no more is told. -/
def kLoose : Kd Nat where
  sz := 1
  E := []
  K := fun _ n cs => ∃ A c, cs = [.slice A n c]
  M := fun _ _ _ n cs => ∃ A c, cs = [.slice A n c]
  K_len := by
    rintro w n cs ⟨A, c, rfl⟩
    rfl
  K_one := by
    rintro w n cs ⟨A, c, rfl⟩ u hu
    simp only [List.mem_cons, List.not_mem_nil, or_false] at hu
    subst hu
    rfl
  K_below := fun _ h => h
  K_of_M := fun h => h
  M_mono := fun _ h => h
  M_bound := fun h => h
  M_move := fun _ h => h
  M_lower := fun _ h => h
/-- A row (elements of type e, sz cells each) of which the length alone is told. -/
def fdLoose (e : TypeId) (sz : Nat) : Fd Nat where
  k := kLoose
  M := fun w F n cs => ∃ A c inner, cs = [.slice A n c] ∧ w.ownsRow 0 e sz (.slice A n c) n inner ∧ F = (Value.slice A n c).ownBlock.toList
  read := by
    rintro w F n cs ⟨A, c, inner, rfl, _⟩
    exact ⟨A, c, rfl⟩
  move := by
    rintro w w1 F n cs hm ⟨A, c, inner, rfl, h, rfl⟩
    exact ⟨A, c, inner, rfl, own_move h (fun k hk => hm k (by simp [hk])), rfl⟩
  lt := by
    rintro w F n cs ⟨A, c, inner, rfl, h, rfl⟩ b hb
    exact own_lt h b (by simpa using hb)
section
variable {α β : Type} {d : Fd α} {d' : Fd β} {f : α → β} {w : World} {e : Nat} {v : Value} {F : List Nat}
theorem els_map (hM : ∀ {F x cs}, d.M w F x cs → d'.M w F (f x) cs) : ∀ {xs : List α} {cs : List Value} {F : List Nat}, Fd.Els d w xs cs F → Fd.Els d' w (xs.map f) cs F
  | [], _, _, h => h
  | x :: xs, _, _, h => by
    obtain ⟨c, r, F0, F1, rfl, rfl, h1, h2⟩ := h
    exact ⟨c, r, F0, F1, rfl, rfl, hM h1, els_map hM h2⟩
theorem els_none {k : Kd α} {hk : ∀ {w w1 : World} {x cs}, k.K w x cs → k.K w1 x cs} : ∀ {xs : List α} {cs : List Value} {F : List Nat}, Fd.Els (Fd.flat k hk) w xs cs F → F = []
  | [], _, _, h => h.2
  | x :: xs, _, _, h => by
    obtain ⟨c, r, F0, F1, rfl, rfl, h1, h2⟩ := h
    rw [h1.1, els_none h2]
    rfl
end
theorem els_row {w : World} {xs : List RowT'} {cs : List Value} {F : List Nat} (h : Fd.Els fdRow w xs cs F) : F = [] := els_none (hk := fun {w w1 x cs} h => by rw [k148_open h]; exact k148_mk w1 x) h
theorem loose_twin {w : World} {F : List Nat} {x : TRes} {cs : List Value} (h : fdTR.M w F x cs) : (fdLoose 148 2).M w F x.1.f0.length cs := by
  obtain ⟨A, c, rfl, hc, inner, G, ho, he, rfl⟩ := h
  rw [els_row he, List.append_nil]
  rw [List.length_append] at ho
  exact ⟨A, c, _, rfl, own_take ho (Nat.le_add_right _ _), by cases A <;> rfl⟩
/-- Copies with marks behind them: without the last mark. -/
theorem loose_tw {w : World} {F : List Nat} {A : Option Addr} {n c : Nat} {l : List ResT'} (h : Twin fdTR 145 w F (.slice A n c) (l.map twOf) spareRes) (hn : F.Nodup) : ∃ F', Fd.Row (fdLoose 148 2) 145 w F' (.slice A l.length c) (l.map (·.f0.length)) ∧ F'.Nodup ∧ ∀ b ∈ F', b ∈ F := by
  obtain ⟨A', c', ev, h2, inner, G, ho, he, rfl⟩ := h
  injection ev with e1 _ e3
  subst e1 e3
  rw [List.length_append, List.length_singleton, List.length_map] at ho
  rw [List.length_map] at hn
  obtain ⟨c0, c1, F0, F1, rfl, rfl, h0, h1⟩ := Fd.els_split he
  have hl0 : c0.length = l.length := by rw [Fd.els_len h0, List.length_map]; exact Nat.mul_one _
  have ho2 := own_take ho (Nat.le_succ l.length)
  rw [show l.length * fdTR.k.sz = c0.length from (Nat.mul_one _).trans hl0.symm, List.take_left' rfl] at ho2
  have hm := els_map (d' := fdLoose 148 2) (f := fun x : TRes => x.1.f0.length) (fun h => loose_twin h) h0
  rw [List.map_map] at hm
  have hbk : (Value.slice A l.length c).ownBlock = (Value.slice A (l.length + 1) c).ownBlock := by cases A <;> rfl
  refine ⟨(Value.slice A l.length c).ownBlock.toList ++ F0, ⟨c0, F0, by rw [List.length_map]; exact ho2, hm, rfl⟩, ?_, fun b hb => ?_⟩
  · rw [hbk]
    rw [← List.append_assoc] at hn
    exact (List.nodup_append.1 hn).1
  · rw [hbk] at hb
    rw [List.length_map, ← List.append_assoc]
    exact List.mem_append_left _ hb
theorem Spared.trans {G : List Nat → Nat} {H : Nat} {L L' : List Nat} {a b c : World} (h : Spared H L a b) (k : Spared H L' b c) (hL : ∀ x ∈ L', x ∈ L) : Spared H L a c :=
  fun x hx hn => (k x hx (fun h => hn (hL x h))).trans (h x hx hn)
theorem Spared.of_below {H : Nat} {L : List Nat} {a b : World} (h : Below a.heap.size a b) (hH : H ≤ a.heap.size) : Spared H L a b := fun x hx _ => h.block x (Nat.lt_of_lt_of_le hx hH)
theorem Spared.mono {H : Nat} {L L' : List Nat} {a b : World} (h : Spared H L a b) (hL : ∀ x ∈ L, x ∈ L') : Spared H L' a b := fun x hx hn => h x hx (fun h => hn (hL x h))
theorem Pile.size {w0 w : World} {g G : Nat} {n : Int} {L : List Nat} (h : Pile w0 w g n G L) : G ≤ w.heap.size := by
  obtain ⟨F, _, _, h⟩ := h
  exact h
set_option maxRecDepth 100000 in
theorem Pile.Result {w0 w : World} {g G : Nat} {n : Int} {L : List Nat} (h : Pile w0 w g n G L) (hn : n ≤ 1000000000) (A : Option Addr) (len c : Nat) (inner : List Value) (ho : w.ownsRow 0 148 2 (.slice A len c) len inner) (hl : ∀ b ∈ (Value.slice A len c).ownBlock.toList, (b < G ∧ b ∉ L) ∧ w0.heap.size ≤ b) (hlen : len ≤ 1000000000) :
    Calls Tryz.prog 149 #[.pointer (some ⟨g, 0, none⟩), .agg #[.slice A len c]] w fun e w' => e = .returned (.tuple #[]) ∧ Pile w0 w' g (n + 1) G (L ++ (Value.slice A len c).ownBlock.toList) ∧ Spared G L w w' := by
  have hu := Tryz.underlying145
  have hba := below_alloc (Below.refl w.heap.size w) (.cells #[.slice A len c] 145)
  have HS := Aside0.mk (Spared.of_below (L := L) hba h.size)
  have H := Aside0.mk (h.below hba)
  have HO := Aside0.mk (pw_own_below ho hba)
  have HL := Aside0.mk hl
  clear h ho hl hba
  go_enter Tryz.func149, Tryz.ntmps149
  go_wp2_with fail
  refine (H.out.Rows hn A len c inner HO.out HL.out hlen).mono ?_
  rintro e w2 ⟨rfl, hp, hs⟩
  have HP := Aside0.mk hp
  have HSS := Aside0.mk (HS.out.trans (G := fun _ => 0) hs (fun _ h => h))
  clear hp hs
  go_wp2
  go_end0
  exact ⟨rfl, HP.out, HSS.out⟩
set_option maxHeartbeats 3200000 in
set_option maxRecDepth 100000 in
theorem Pile.Results {w0 w : World} {g G : Nat} {n : Int} {L : List Nat} (h : Pile w0 w g n G L) (A : Option Addr) (c : Nat) (lens : List Nat) (F : List Nat) (hn : n + (lens.length : Int) ≤ 1000000000) (hr : Fd.Row (fdLoose 148 2) 145 w F (.slice A lens.length c) lens) (hnd : F.Nodup) (hl : ∀ b ∈ F, (b < G ∧ b ∉ L) ∧ w0.heap.size ≤ b) (hlen : lens.length ≤ 1000000000) (hlens : ∀ x ∈ lens, x ≤ 1000000000) :
    Calls Tryz.prog 59 #[.pointer (some ⟨g, 0, none⟩), .slice A lens.length c] w fun e w' => e = .returned (.tuple #[]) ∧ ∃ L', Pile w0 w' g (n + (lens.length : Int) + 1) G L' ∧ (∀ b ∈ L', b ∈ L ∨ b ∈ F) ∧ Spared G (L ++ F) w w' := by
  obtain ⟨inner, GG, ho, he, rfl⟩ := hr
  have HL := Aside0.mk hl
  have HND := Aside0.mk hnd
  have HLS := Aside0.mk hlens
  have HI0 := Aside0.mk (show ∃ c0 c1 G0 G1, inner = c0 ++ c1 ∧ c0.length = 0 ∧ GG = G0 ++ G1 ∧ w.ownsRow 0 145 1 (.slice A lens.length c) lens.length inner ∧ Fd.Els (fdLoose 148 2) w (lens.drop 0) c1 G1 ∧ ∃ Lk, Pile w0 w g (n + ((0 : Nat) : Int)) G Lk ∧ (∀ b ∈ Lk, b ∈ L ∨ b ∈ G0) ∧ Spared G (L ++ G0) w w from
    ⟨[], inner, [], GG, rfl, rfl, rfl, ho, he, L, by simpa using h, fun b hb => .inl hb, fun _ _ _ => rfl⟩)
  clear h ho he hl hnd hlens
  go_enter Tryz.func59, Tryz.ntmps59
  go_wp2
  go_loopw [4] (fun i wr => ∃ k : Nat, k ≤ lens.length ∧ i = .int .i64 k ∧ Aside0 (∃ c0 c1 G0 G1, inner = c0 ++ c1 ∧ c0.length = k ∧ GG = G0 ++ G1 ∧ wr.ownsRow 0 145 1 (.slice A lens.length c) lens.length inner ∧ Fd.Els (fdLoose 148 2) wr (lens.drop k) c1 G1 ∧ ∃ Lk, Pile w0 wr g (n + (k : Int)) G Lk ∧ (∀ b ∈ Lk, b ∈ L ∨ b ∈ G0) ∧ Spared G (L ++ G0) w wr)) (fun i _ => lens.length - (intOf i).toNat)
  case atStart => exact ⟨0, Nat.zero_le _, rfl, HI0⟩
  case round =>
    clear HI0
    obtain ⟨wq, hwq⟩ : ∃ wq, wq = wr := ⟨_, rfl⟩
    subst hwq
    obtain ⟨k, hk, rfl, ⟨c0, c1, G0, G1, hin, hc0, hGG, ho, he, Lk, hp, hLk, hsp⟩⟩ := hrel
    subst hGG
    have hnd := HND.out
    by_cases hlt : k < lens.length
    · have hlt' : (k : Int) < (lens.length : Int) := by omega
      have hk0 : (0 : Int) ≤ (k : Int) := by omega
      rw [List.drop_eq_getElem_cons hlt] at he
      obtain ⟨cc, r, Fi, Gr, rfl, rfl, ⟨Ai, ci, ii, rfl, hoi, rfl⟩, he2⟩ := he
      obtain ⟨gg, cap, ev, _, _⟩ := ho.form (by omega)
      injection ev with e1 _ e3
      subst e1 e3
      have hx := ho.cells (g := gg) rfl k (.slice Ai lens[k] ci) (by rw [hin, List.getElem?_append_right (by omega), hc0, Nat.sub_self]; rfl)
      rw [add_plain] at hx
      have hlx := HLS.out _ (List.getElem_mem hlt)
      obtain ⟨len, hlen2⟩ : ∃ len, lens[k] = len := ⟨_, rfl⟩
      rw [hlen2] at hoi hx hlx
      have hin2 : ∀ b ∈ (Value.slice Ai len ci).ownBlock.toList, b ∈ (Value.slice (some ⟨gg, 0, none⟩) lens.length c).ownBlock.toList ++ (G0 ++ ((Value.slice Ai lens[k] ci).ownBlock.toList ++ Gr)) := fun b hb => by rw [hlen2]; exact List.mem_append_right _ (List.mem_append_right _ (List.mem_append_left _ hb))
      have hofL : ∀ b ∈ (Value.slice Ai len ci).ownBlock.toList, b ∉ Lk := fun b hb hx => by
        rcases hLk b hx with h | h
        · exact (HL.out b (hin2 b hb)).1.2 h
        · have h3 := (List.nodup_append.1 hnd).2.1
          exact (List.nodup_append.1 h3).2.2 b h b (by rw [hlen2]; exact List.mem_append_left _ hb) rfl
      have C1 := Aside0.mk (hp.Result (by omega) Ai len ci ii hoi (fun b hb => ⟨⟨(HL.out b (hin2 b hb)).1.1, hofL b hb⟩, (HL.out b (hin2 b hb)).2⟩) hlx)
      have HO := Aside0.mk ho
      have HE := Aside0.mk he2
      have HP := Aside0.mk hp
      have HLK := Aside0.mk hLk
      have HSP := Aside0.mk hsp
      have HIN := Aside0.mk hin
      have HN2 := Aside0.mk hnd
      have HL2 := Aside0.mk hlen2
      clear ho he2 hp hLk hsp hin hnd hoi hofL hin2 hlen2
      go_wp2_with fail
      refine C1.out.mono ?_
      rintro e w2 ⟨rfl, hp2, hs2⟩
      have HP2 := Aside0.mk hp2
      have HS2 := Aside0.mk hs2
      clear hp2 hs2 C1
      go_wp2
      refine ⟨⟨k + 1, by omega, by first | rfl | simp, ⟨c0 ++ [.slice Ai len ci], r, G0 ++ (Value.slice Ai len ci).ownBlock.toList, Gr, by rw [HIN.out, HL2.out]; simp, by rw [List.length_append, hc0]; rfl, by rw [HL2.out]; simp, ?_, ?_, _, by rw [show n + ((k + 1 : Nat) : Int) = n + (k : Int) + 1 by omega]; exact HP2.out, ?_, ?_⟩⟩, ?_⟩
      · refine HS2.out.own HO.out (fun b hb => ?_)
        have hmem : b ∈ (Value.slice (some ⟨gg, 0, none⟩) lens.length c).ownBlock.toList ++ (G0 ++ ((Value.slice Ai lens[k] ci).ownBlock.toList ++ Gr)) := List.mem_append_left _ hb
        refine ⟨(HL.out b hmem).1.1, fun hx => ?_⟩
        rcases HLK.out b hx with h | h
        · exact (HL.out b hmem).1.2 h
        · exact (List.nodup_append.1 HN2.out).2.2 b hb b (List.mem_append_left _ h) rfl
      · refine Fd.els_move (fun b hb => HS2.out b ?_ ?_) HE.out
        · exact (HL.out b (by simp [hb])).1.1
        · intro hx
          rcases HLK.out b hx with h | h
          · exact (HL.out b (by simp [hb])).1.2 h
          · have h3 := (List.nodup_append.1 HN2.out).2.1
            exact (List.nodup_append.1 h3).2.2 b h b (List.mem_append_right _ hb) rfl
      · intro b hb
        rcases List.mem_append.1 hb with hb | hb
        · exact (HLK.out b hb).imp_right (fun h => List.mem_append_left _ h)
        · exact .inr (List.mem_append_right _ hb)
      · intro b hb hx
        rw [HS2.out b hb (fun h => hx (by
          rcases HLK.out b h with h | h
          · exact List.mem_append_left _ h
          · exact List.mem_append_right _ (List.mem_append_left _ h)))]
        exact HSP.out b hb (fun h => hx (by
          rcases List.mem_append.1 h with h | h
          · exact List.mem_append_left _ h
          · exact List.mem_append_right _ (List.mem_append_left _ h)))
      · try simp only [intOf]
        omega
    · obtain rfl : k = lens.length := by omega
      have hlt' : ¬ ((lens.length : Int) < (lens.length : Int)) := by omega
      rw [List.drop_length] at he
      obtain ⟨rfl, rfl⟩ := he
      rw [List.append_nil] at hnd
      have hofL : ∀ b ∈ (Value.slice A lens.length c).ownBlock.toList, b ∉ Lk := fun b hb hx => by
        rcases hLk b hx with h | h
        · exact (HL.out b (List.mem_append_left _ hb)).1.2 h
        · exact (List.nodup_append.1 hnd).2.2 b hb b h rfl
      have C1 := Aside0.mk (hp.keepResult (by omega) A lens.length c inner ho (fun b hb => ⟨⟨(HL.out b (List.mem_append_left _ hb)).1.1, hofL b hb⟩, (HL.out b (List.mem_append_left _ hb)).2⟩) hlen)
      have HLK := Aside0.mk hLk
      have HSP := Aside0.mk hsp
      clear ho hp hLk hsp hofL
      go_wp2_with fail
      refine C1.out.mono ?_
      rintro e w2 ⟨rfl, hp2, hs2⟩
      have HP2 := Aside0.mk hp2
      have HS2 := Aside0.mk hs2
      clear hp2 hs2 C1
      go_wp2
      go_end0
      refine ⟨rfl, _, HP2.out, fun b hb => ?_, fun b hb hx => ?_⟩
      · rcases List.mem_append.1 hb with hb | hb
        · exact (HLK.out b hb).imp_right (fun h => List.mem_append_right _ (List.mem_append_left _ h))
        · exact .inr (List.mem_append_left _ hb)
      · rw [HS2.out b hb (fun h => hx (by
          rcases HLK.out b h with h | h
          · exact List.mem_append_left _ h
          · exact List.mem_append_right _ (List.mem_append_right _ (List.mem_append_left _ h))))]
        exact HSP.out b hb (fun h => hx (by
          rcases List.mem_append.1 h with h | h
          · exact List.mem_append_left _ h
          · exact List.mem_append_right _ (List.mem_append_right _ (List.mem_append_left _ h))))
end Go.Proofs.YtcohodkpppmaoaaGreatDoor.Q
namespace Go.Proofs.YtcohodkpppmaoaaGreatDoor.Q
open Go.RowKit Go.Proofs.YtcohodkpppmaoaaGreatDoorW.PrintWords Go.Proofs.YtcohodkpppmaoaaGreatDoorW.PrintLast Go.Proofs.YtcohodkpppmaoaaGreatDoorW.PrintMore
set_option linter.unusedVariables false
set_option maxHeartbeats 3200000 in
set_option maxRecDepth 100000 in
theorem Pile.Msg {w0 w : World} {g G : Nat} {n : Int} {L : List Nat} (h : Pile w0 w g n G L) (a0 a1 a2 a3 : Value) (A4 : Option Addr) (n4 c4 : Nat) (i4 : List Value) (A5 : Option Addr) (c5 : Nat) (lens : List Nat) (F : List Nat) (hn : n + 1 + (lens.length : Int) ≤ 1000000000)
    (h4 : w.ownsRow 0 82 4 (.slice A4 n4 c4) n4 i4) (h5 : Fd.Row (fdLoose 148 2) 145 w F (.slice A5 lens.length c5) lens) (hnd : ((Value.slice A4 n4 c4).ownBlock.toList ++ F).Nodup) (hl : ∀ b ∈ (Value.slice A4 n4 c4).ownBlock.toList ++ F, (b < G ∧ b ∉ L) ∧ w0.heap.size ≤ b) (hl4 : n4 ≤ 1000000000) (hlen : lens.length ≤ 1000000000) (hlens : ∀ x ∈ lens, x ≤ 1000000000) :
    Calls Tryz.prog 18 #[.pointer (some ⟨g, 0, none⟩), .agg #[a0, a1, a2, a3, .slice A4 n4 c4, .slice A5 lens.length c5]] w fun e w' => e = .returned (.tuple #[]) ∧ ∃ L', Pile w0 w' g (n + (lens.length : Int) + 2) G L' ∧ (∀ b ∈ L', b ∈ L ∨ b ∈ (Value.slice A4 n4 c4).ownBlock.toList ++ F) ∧ Spared G (L ++ ((Value.slice A4 n4 c4).ownBlock.toList ++ F)) w w' := by
  have hu := Tryz.underlying50
  have hba := below_alloc (Below.refl w.heap.size w) (.cells #[a0, a1, a2, a3, .slice A4 n4 c4, .slice A5 lens.length c5] 50)
  have hbn := blk_new w (.cells #[a0, a1, a2, a3, .slice A4 n4 c4, .slice A5 lens.length c5] 50)
  have hsz := h.size
  have hs0 := Spared.of_below (L := L) hba hsz
  have hbs := h.base.size
  obtain ⟨F0, hB, hF0, hG0⟩ := h
  have hoff : ∀ b ∈ (Value.slice A4 n4 c4).ownBlock.toList, b ∉ F0 := fun b hb hx => by
    have h1 := hl b (List.mem_append_left _ hb)
    rcases hF0 b hx with h | h
    · exact h1.1.2 h
    · have := h1.1.1
      omega
  have hbox : w.heap.size ∉ F0 := fun hx => by have := hB.lt _ hx; omega
  have C1 := Aside0.mk ((hB.below hba).Ops (by omega) A4 n4 c4 i4 (pw_own_below h4 hba) (fun b hb => ⟨hoff b hb, (hl b (List.mem_append_left _ hb)).2⟩) hl4)
  have R5 := Aside0.mk (Fd.row_below h5 hba)
  have HBN := Aside0.mk hbn
  have HS0 := Aside0.mk hs0
  have HND := Aside0.mk hnd
  have HL := Aside0.mk hl
  have HLS := Aside0.mk hlens
  have HF0 := Aside0.mk hF0
  have HBX := Aside0.mk hbox
  have hsa := hba.size
  clear h4 h5 hba hbn hs0 hnd hl hlens hB hF0 hoff hbox
  go_enter Tryz.func18, Tryz.ntmps18
  go_wp2_with fail
  refine C1.out.mono ?_
  rintro e w2 ⟨rfl, F1, hB1, hk, hs⟩
  have hsp : Spared G L (w.alloc (.cells #[a0, a1, a2, a3, .slice A4 n4 c4, .slice A5 lens.length c5] 50)) w2 := fun b hb hx => hk.block b (by omega) (fun hf => by
    rcases HF0.out b hf with h | h
    · exact hx h
    · omega)
  have HP := Aside0.mk (show Pile w0 w2 g (n + 1) G (L ++ (Value.slice A4 n4 c4).ownBlock.toList) from ⟨F1, hB1, fun b hb => by
    rcases hs b hb with h | h | h
    · exact (HF0.out b h).imp_left (fun h => List.mem_append_left _ h)
    · exact .inl (List.mem_append_right _ h)
    · exact .inr (by omega), by have := hk.size; omega⟩)
  have HS1 := Aside0.mk (HS0.out.trans (G := fun _ => 0) hsp (fun _ h => h))
  have hb2 := hk.blk HBN.out HBX.out
  have x5 := blk_cell hb2 5
  have hg2 := blk_lt hb2
  have R52 := Aside0.mk (hsp.row R5.out (fun b hb => (HL.out b (List.mem_append_right _ hb)).1))
  have hnF := (List.nodup_append.1 HND.out).2.1
  have C2 := Aside0.mk (HP.out.Results A5 c5 lens F (by omega) R52.out hnF (fun b hb => ⟨⟨(HL.out b (List.mem_append_right _ hb)).1.1, fun hx => by
    rcases List.mem_append.1 hx with h | h
    · exact (HL.out b (List.mem_append_right _ hb)).1.2 h
    · exact (List.nodup_append.1 HND.out).2.2 b h b hb rfl⟩, (HL.out b (List.mem_append_right _ hb)).2⟩) hlen HLS.out)
  clear hB1 hk hs hsp hb2 hnF C1 R5
  go_wp2_with fail
  refine C2.out.mono ?_
  rintro e w3 ⟨rfl, L', hp3, hL3, hs3⟩
  have HP3 := Aside0.mk hp3
  have HL3 := Aside0.mk hL3
  have HS3 := Aside0.mk hs3
  clear hp3 hL3 hs3 C2
  go_wp2
  go_end0
  refine ⟨rfl, L', by rw [show n + (lens.length : Int) + 2 = n + 1 + (lens.length : Int) + 1 by omega]; exact HP3.out, fun b hb => ?_, fun b hb hx => ?_⟩
  · rcases HL3.out b hb with h | h
    · rcases List.mem_append.1 h with h | h
      · exact .inl h
      · exact .inr (List.mem_append_left _ h)
    · exact .inr (List.mem_append_right _ h)
  · rw [HS3.out b hb (fun h => hx (by
      rcases List.mem_append.1 h with h | h
      · rcases List.mem_append.1 h with h | h
        · exact List.mem_append_left _ h
        · exact List.mem_append_right _ (List.mem_append_left _ h)
      · exact List.mem_append_right _ (List.mem_append_right _ h)))]
    exact HS1.out b hb (fun h => hx (List.mem_append_left _ h))
end Go.Proofs.YtcohodkpppmaoaaGreatDoor.Q
namespace Go.Proofs.YtcohodkpppmaoaaGreatDoor.Q
open Go.RowKit Go.Proofs.YtcohodkpppmaoaaGreatDoorW.PrintWords Go.Proofs.YtcohodkpppmaoaaGreatDoorW.PrintLast Go.Proofs.YtcohodkpppmaoaaGreatDoorW.PrintMore
set_option linter.unusedVariables false
theorem infoTwOps : (Tryz.prog.info? 82).map (fun i => (i.zero, i.size, i.bytes)) = some (some (.agg #[.int .u8 0, .string ⟨#[]⟩, .string ⟨#[]⟩, .int .u32 0]), 4, 48) := by kernel_rfl
theorem readOps (l : List S82) (k : Nat) (hk : k < l.length) : l.take (k + 1) = l.take k ++ [rd_T82 l (k : Int)] := by
  rw [List.take_succ_eq_append_getElem hk]
  simp [rd_T82, hk]
set_option maxHeartbeats 3200000 in
set_option maxRecDepth 100000 in
theorem twinOps_calls (w : World) (A0 : Option Addr) (c0 : Nat) (l : List S82) (hr : Kd.C k82 w A0 l.length l) (hc0 : l.length ≤ c0) (hl : l.length ≤ 1000000000) :
    Calls Tryz.prog 41 #[.slice A0 l.length c0] w fun e w' => ∃ v, e = .returned v ∧ ∃ F, Twin fdOp 82 w' F v l ⟨0, spareKey, ⟨#[]⟩, 0⟩ ∧ F.Nodup ∧ (∀ b ∈ F, w.heap.size ≤ b) ∧ Below w.heap.size w w' := by
  obtain ⟨MC, hMS, HMK⟩ : ∃ MC : Array Value, MC.size = (l.length + 1) * 4 ∧ ∀ W : World, (Instr.makeSlice 47 (.int .i64 0) (.int .i64 ((l.length : Int) + 1))).run Tryz.prog W = .ok (.slice (some ⟨W.heap.size, 0, none⟩) 0 (l.length + 1)) (W.alloc (.cells MC 82)) := ⟨madeCells ((.agg #[.int .u8 0, .string ⟨#[]⟩, .string ⟨#[]⟩, .int .u32 0]) : Value).cells ((l.length + 1) * 4), madeCells_size _ _, fun W => by
    have h := run_make0 (P := Tryz.prog) 47 82 (.agg #[.int .u8 0, .string ⟨#[]⟩, .string ⟨#[]⟩, .int .u32 0]) 4 48 Tryz.underlying47 infoTwOps (by decide) (l.length + 1) (by omega) W
    rwa [show ((l.length + 1 : Nat) : Int) = (l.length : Int) + 1 by omega] at h⟩
  have hw1 : IntKind.i64.wrap ((l.length : Int) + 1) = (l.length : Int) + 1 := IntWalk.i64_in _ (by omega)
  have HC := Aside0.mk hr
  have hul := Tryz.underlying82
  clear hr
  go_enter Tryz.func41, Tryz.ntmps41
  go_wp2
  obtain ⟨wo, hwo⟩ : ∃ wo, wo = w.alloc (.cells MC 82) := ⟨_, rfl⟩
  have HB0 := Aside0.mk (show Below w.heap.size w wo by rw [hwo]; exact below_alloc (Below.refl _ _) _)
  have HR0 := Aside0.mk (show Fd.Row fdOp 82 wo [w.heap.size] (.slice (some ⟨w.heap.size, 0, none⟩) 0 (l.length + 1)) [] by
    rw [hwo]; exact made0_row fdOp 82 w _ (l.length + 1) (by omega) hMS)
  rw [← hwo]
  clear hwo HMK
  go_loopw [3, 4] (fun v i wr => ∃ (k : Nat) (F : List Nat), k ≤ l.length ∧ i = .int .i64 k ∧ Aside0 (Fd.Row fdOp 82 wr F v (l.take k)) ∧ Aside0 F.Nodup ∧ Aside0 (∀ b ∈ F, w.heap.size ≤ b) ∧ Aside0 (Below w.heap.size w wr)) (fun _ i _ => l.length - (intOf i).toNat)
  case atStart => exact ⟨0, [w.heap.size], Nat.zero_le _, rfl, HR0, ⟨by simp⟩, ⟨by simp⟩, HB0⟩
  case round =>
    clear HR0 HB0
    obtain ⟨wq, hwq⟩ : ∃ wq, wq = wr := ⟨_, rfl⟩
    subst hwq
    obtain ⟨k, F, hk, rfl, HR, HN, HF, HB⟩ := hrel
    obtain ⟨Av, cv, ev, hcv, _⟩ := Fd.row_reads HR.out
    rw [List.length_take, Nat.min_eq_left hk] at ev hcv
    subst ev
    have hsz : w.heap.size ≤ wq.heap.size := HB.out.size
    by_cases hlt : k < l.length
    · have hlt' : (k : Int) < (l.length : Int) := by omega
      have hk0 : (0 : Int) ≤ (k : Int) := by omega
      obtain ⟨ad, e1, hx0, hx1, hx2, hx3⟩ := at_T82 (Kd.C_below HC.out HB.out) (k : Int) hk0 hlt'
      subst e1
      simp only [Int.toNat_natCast] at hx0 hx1 hx2 hx3
      have HTK := Aside0.mk (readOps l k hlt)
      generalize rd_T82 l (k : Int) = x at *
      have HM := Aside0.mk (show fdOp.M wq [] x [.int .u8 x.f0, .string x.f1, .string x.f2, .int .u32 x.f3] from ⟨rfl, k82_mk _ _⟩)
      go_wp2_with (first | (at_builtin; (refine Fd.R_append (W := wq) fdOp rfl (.tmp 15) (.tmp 20) 47 82 (.agg #[.int .u8 0, .string ⟨#[]⟩, .string ⟨#[]⟩, .int .u32 0]) 48 rfl Tryz.underlying47 infoTwOps rfl (show 0 < 4 from by decide) (by decide) (.slice Av k cv) (l.take k) x [.int .u8 x.f0, .string x.f1, .string x.f2, .int .u32 x.f3] F [] rfl rfl HM.out HR.out (by rw [List.append_nil]; exact HN.out) (by rw [List.length_take]; omega) ?_); intro v1 w6 F6 h1 h2 h3 h4; have R6 := Aside0.mk h1; have N6 := Aside0.mk h2; have K6 := Aside0.mk h3; have L6 := Aside0.mk h4; clear h1 h2 h3 h4))
      go_roundw
      case rel =>
        refine ⟨k + 1, F6, by omega, by go_num, ⟨by rw [HTK.out]; exact R6.out⟩, N6, ⟨fun b hb => ?_⟩, ⟨HB.out.trans (K6.out.below HF.out hsz)⟩⟩
        rcases L6.out b hb with h | h | h
        · exact HF.out b h
        · cases h
        · omega
      case measure => simp [intOf]; omega
    · obtain rfl : k = l.length := by omega
      have hlt' : ¬ ((l.length : Int) < (l.length : Int)) := by omega
      have etk : l.take l.length = l := List.take_of_length_le (Nat.le_refl _)
      rw [etk] at HR
      have HM := Aside0.mk (show fdOp.M wq [] ⟨0, spareKey, ⟨#[]⟩, 0⟩ [.int .u8 0, .string spareKey, .string ⟨#[]⟩, .int .u32 0] from ⟨rfl, k82_mk _ _⟩)
      unfold spareKey at HM
      have HU := Aside0.mk infoTwOps
      go_wp2_with (first | (at_builtin; (refine Fd.R_append (W := wq) fdOp rfl (.tmp 22) (.tmp 24) 47 82 (.agg #[.int .u8 0, .string ⟨#[]⟩, .string ⟨#[]⟩, .int .u32 0]) 48 rfl Tryz.underlying47 infoTwOps rfl (show 0 < 4 from by decide) (by decide) (.slice Av l.length cv) l ⟨0, ⟨#[115, 112, 97, 114, 101]⟩, ⟨#[]⟩, 0⟩ [.int .u8 0, .string ⟨#[115, 112, 97, 114, 101]⟩, .string ⟨#[]⟩, .int .u32 0] F [] rfl rfl HM.out HR.out (by rw [List.append_nil]; exact HN.out) (by omega) ?_); intro v1 w6 F6 h1 h2 h3 h4; obtain ⟨A2, c2, ev2, hc2, _⟩ := Fd.row_reads h1; rw [List.length_append, List.length_singleton] at ev2 hc2; subst ev2; have hcut := cut_up (P := Tryz.prog) 47 82 .i64 Tryz.underlying47 HU.out A2 (l.length + 1) c2 (l.length : Int) (by omega) (by omega); rw [Int.toNat_natCast] at hcut; have R6 := Aside0.mk h1; have N6 := Aside0.mk h2; have K6 := Aside0.mk h3; have L6 := Aside0.mk h4; clear h1 h2 h3 h4))
      go_ret
      refine ⟨_, rfl, F6, ⟨A2, c2, rfl, hc2, R6.out⟩, N6.out, fun b hb => ?_, HB.out.trans (K6.out.below HF.out hsz)⟩
      rcases L6.out b hb with h | h | h
      · exact HF.out b h
      · cases h
      · omega
theorem readLOps (l : List S82) (k : Nat) (hk : k < l.length) : rd_T82 (l ++ [⟨0, spareKey, ⟨#[]⟩, 0⟩]) (k : Int) = rd_T82 l (k : Int) := by
  simp [rd_T82, List.getElem?_append_left hk]
theorem readSOps (l : List S82) : rd_T82 (l ++ [⟨0, spareKey, ⟨#[]⟩, 0⟩]) (l.length : Int) = ⟨0, spareKey, ⟨#[]⟩, 0⟩ := by
  simp [rd_T82]
set_option maxHeartbeats 3200000 in
set_option maxRecDepth 100000 in
theorem leftOps_calls (w : World) (At : Option Addr) (ct : Nat) (A0 : Option Addr) (c0 : Nat) (l : List S82) (ht : Kd.C k82 w At (l.length + 1) (l ++ [⟨0, spareKey, ⟨#[]⟩, 0⟩])) (hct : l.length + 1 ≤ ct) (hr : Kd.C k82 w A0 l.length l) (hc0 : l.length ≤ c0) (hl : l.length ≤ 1000000000) :
    Calls Tryz.prog 49 #[.slice At l.length ct, .slice A0 l.length c0] w fun e w' => e = .returned (.bool true) ∧ Below w.heap.size w w' := by
  have hw1 : IntKind.i64.wrap ((l.length : Int) + 1) = (l.length : Int) + 1 := IntWalk.i64_in _ (by omega)
  have hcap : ¬ ((ct : Int) ≤ (l.length : Int)) := by omega
  have hcut := cut_up (P := Tryz.prog) 47 82 .i64 Tryz.underlying47 infoTwOps At l.length ct ((l.length : Int) + 1) (by omega) (by omega)
  rw [show ((l.length : Int) + 1).toNat = l.length + 1 by omega] at hcut
  have hul := Tryz.underlying82
  have HT := Aside0.mk ht
  have HC := Aside0.mk hr
  clear ht hr
  go_enter Tryz.func49, Tryz.ntmps49
  go_wp2
  go_loopw [5] (fun i wr => ∃ (k : Nat), k ≤ l.length ∧ i = .int .i64 k ∧ ∃ m, wr = w.drewN m) (fun i _ => l.length - (intOf i).toNat)
  case atStart => exact ⟨0, Nat.zero_le _, rfl, 0, rfl⟩
  case round =>
    obtain ⟨k, hk, rfl, m, rfl⟩ := hrel
    have hb := pw_below_drewN (Below.refl w.heap.size w) m
    by_cases hlt : k < l.length
    · have hlt' : (k : Int) < (l.length : Int) := by omega
      have hk0 : (0 : Int) ≤ (k : Int) := by omega
      obtain ⟨ad, e1, hx0, hx1, hx2, hx3⟩ := at_T82 HC.out (k : Int) hk0 hlt'
      subst e1
      obtain ⟨at_, e1, hy0, hy1, hy2, hy3⟩ := at_T82 HT.out (k : Int) hk0 (by omega)
      subst e1
      simp only [Int.toNat_natCast] at hx0 hx1 hx2 hx3 hy0 hy1 hy2 hy3
      simp only [readLOps l k hlt] at hy0 hy1 hy2 hy3
      generalize rd_T82 l (k : Int) = x at *
      go_wp2
      repeat (go_quiet (fail); try go_wp2)
      go_roundw
      case rel => exact ⟨k + 1, by omega, by go_num, _, rfl⟩
      case measure => simp [intOf]; omega
    · obtain rfl : k = l.length := by omega
      have hlt' : ¬ ((l.length : Int) < (l.length : Int)) := by omega
      obtain ⟨at_, e1, hy0, hy1, hy2, hy3⟩ := at_T82 HT.out (l.length : Int) (by omega) (by omega)
      subst e1
      simp only [Int.toNat_natCast] at hy0 hy1 hy2 hy3
      simp only [readSOps l] at hy0 hy1 hy2 hy3
      try simp only [spareKey] at hy0 hy1 hy2 hy3
      replace hy0 := cell_on hb hy0
      replace hy1 := cell_on hb hy1
      replace hy2 := cell_on hb hy2
      replace hy3 := cell_on hb hy3
      generalize w.drewN m = W at *
      have HB := Aside0.mk hb
      clear hb
      go_wp2
      repeat (go_quiet (fail); try go_wp2)
      go_ret
      exact ⟨rfl, HB.out.alloc HB.out.size _⟩
end Go.Proofs.YtcohodkpppmaoaaGreatDoor.Q
namespace Go.Proofs.YtcohodkpppmaoaaGreatDoor.Q
open Go.RowKit Go.Proofs.YtcohodkpppmaoaaGreatDoorW.PrintWords Go.Proofs.YtcohodkpppmaoaaGreatDoorW.PrintLast Go.Proofs.YtcohodkpppmaoaaGreatDoorW.PrintMore
set_option linter.unusedVariables false

def mayH (s f t : Int) : Bool := decide (1 ≤ s) && decide (s ≤ 7) && decide (f < 4) && decide (t < 4)
theorem mayH_f (s f t g : Int) (x : List (S82)) (y : List (S145)) : packets_may.f s f t g x y = some (mayH s f t) := by
  unfold packets_may.f mayH
  by_cases h1 : s ≥ 1
  · by_cases h2 : s ≤ 7
    · by_cases h3 : f < 4
      · simp [h1, h2, h3]
      · simp [h1, h2, h3]
    · simp [h1, h2]
  · simp [h1]

theorem blk6p {w : World} {g t : Nat} {a b c d x y : Value} (h : w.heap[g]? = some (.cells #[a, b, c, d, x, y] t (0, 0))) : (w.cell? ⟨g, 0, none⟩ = some a ∧ w.cell? ⟨g, 1, none⟩ = some b ∧ w.cell? ⟨g, 2, none⟩ = some c ∧ w.cell? ⟨g, 3, none⟩ = some d ∧ w.cell? ⟨g, 4, none⟩ = some x ∧ w.cell? ⟨g, 5, none⟩ = some y) ∧ (w.frozen? ⟨g, 0, none⟩ = false ∧ w.frozen? ⟨g, 1, none⟩ = false ∧ w.frozen? ⟨g, 2, none⟩ = false ∧ w.frozen? ⟨g, 3, none⟩ = false ∧ w.frozen? ⟨g, 4, none⟩ = false ∧ w.frozen? ⟨g, 5, none⟩ = false) :=
  ⟨⟨blk_cell h 0, blk_cell h 1, blk_cell h 2, blk_cell h 3, blk_cell h 4, blk_cell h 5⟩, ⟨blk_frozen h 0, blk_frozen h 1, blk_frozen h 2, blk_frozen h 3, blk_frozen h 4, blk_frozen h 5⟩⟩
theorem put6 {w : World} {g t : Nat} {a0 a1 a2 a3 a4 a5 : Value} (h : w.heap[g]? = some (.cells #[a0, a1, a2, a3, a4, a5] t (0, 0))) (b0 b1 b2 b3 b4 b5 : Value) :
    ((((((w.setCell ⟨g, 0, none⟩ b0).setCell ⟨g, 1, none⟩ b1).setCell ⟨g, 2, none⟩ b2).setCell ⟨g, 3, none⟩ b3).setCell ⟨g, 4, none⟩ b4).setCell ⟨g, 5, none⟩ b5).heap[g]? = some (.cells #[b0, b1, b2, b3, b4, b5] t (0, 0)) :=
  blk_put (cs' := #[b0, b1, b2, b3, b4, b5]) (blk_put (cs' := #[b0, b1, b2, b3, b4, a5]) (blk_put (cs' := #[b0, b1, b2, b3, a4, a5]) (blk_put (cs' := #[b0, b1, b2, a3, a4, a5]) (blk_put (cs' := #[b0, b1, a2, a3, a4, a5]) (blk_put (cs' := #[b0, a1, a2, a3, a4, a5]) h 0 _ rfl) 1 _ rfl) 2 _ rfl) 3 _ rfl) 4 _ rfl) 5 _ rfl
theorem below6 {w W : World} {B g : Nat} (h : Below B w W) (hg : B ≤ g) (b0 b1 b2 b3 b4 b5 : Value) : Below B w ((((((W.setCell ⟨g, 0, none⟩ b0).setCell ⟨g, 1, none⟩ b1).setCell ⟨g, 2, none⟩ b2).setCell ⟨g, 3, none⟩ b3).setCell ⟨g, 4, none⟩ b4).setCell ⟨g, 5, none⟩ b5) :=
  (((((h.setCell hg _).setCell hg _).setCell hg _).setCell hg _).setCell hg _).setCell hg _
theorem far6 {W : World} {g k : Nat} (hk : k ≠ g) (b0 b1 b2 b3 b4 b5 : Value) : ((((((W.setCell ⟨g, 0, none⟩ b0).setCell ⟨g, 1, none⟩ b1).setCell ⟨g, 2, none⟩ b2).setCell ⟨g, 3, none⟩ b3).setCell ⟨g, 4, none⟩ b4).setCell ⟨g, 5, none⟩ b5).heap[k]? = W.heap[k]? :=
  (Below.heap_setCell _ _ _ _ hk).trans ((Below.heap_setCell _ _ _ _ hk).trans ((Below.heap_setCell _ _ _ _ hk).trans ((Below.heap_setCell _ _ _ _ hk).trans ((Below.heap_setCell _ _ _ _ hk).trans (Below.heap_setCell _ _ _ _ hk)))))
end Go.Proofs.YtcohodkpppmaoaaGreatDoor.Q
namespace Go.Proofs.YtcohodkpppmaoaaGreatDoor.Q
open Go.RowKit Go.Proofs.YtcohodkpppmaoaaGreatDoorW.PrintWords Go.Proofs.YtcohodkpppmaoaaGreatDoorW.PrintLast Go.Proofs.YtcohodkpppmaoaaGreatDoorW.PrintMore
set_option linter.unusedVariables false
def spareOp : S82 := ⟨0, spareKey, ⟨#[]⟩, 0⟩
theorem blk6w {w : World} {g t : Nat} {a b c d x y : Value} (h : w.heap[g]? = some (.cells #[a, b, c, d, x, y] t (0, 0))) : w.cell? ⟨g, 0, none⟩ = some a ∧ w.cell? ⟨g, 1, none⟩ = some b ∧ w.cell? ⟨g, 2, none⟩ = some c ∧ w.cell? ⟨g, 3, none⟩ = some d ∧ w.cell? ⟨g, 4, none⟩ = some x ∧ w.cell? ⟨g, 5, none⟩ = some y :=
  ⟨blk_cell h 0, blk_cell h 1, blk_cell h 2, blk_cell h 3, blk_cell h 4, blk_cell h 5⟩
set_option maxHeartbeats 3200000 in
set_option maxRecDepth 100000 in
theorem twinMsg_calls (w : World) (a b c d : Int) (A4 : Option Addr) (c4 : Nat) (l4 : List S82) (A5 : Option Addr) (c5 : Nat) (l5 : List ResT') (h4 : Kd.C k82 w A4 l4.length l4) (hc4 : l4.length ≤ c4) (h5 : Kd.C k145 w A5 l5.length l5) (hc5 : l5.length ≤ c5) (hl4 : l4.length ≤ 1000000000) (hl5 : l5.length ≤ 1000000000) (hlr : ∀ x ∈ l5, x.f0.length ≤ 1000000000) :
    Calls Tryz.prog 12 #[.agg #[.int .u8 a, .int .u8 b, .int .u8 c, .int .u32 d, .slice A4 l4.length c4, .slice A5 l5.length c5]] w fun e w' => ∃ B4 k4 B5 k5, e = .returned (.agg #[.int .u8 a, .int .u8 b, .int .u8 c, .int .u32 d, .slice B4 l4.length k4, .slice B5 l5.length k5]) ∧ ∃ F4 F5, Twin fdOp 82 w' F4 (.slice B4 l4.length k4) l4 spareOp ∧ Twin fdTR 145 w' F5 (.slice B5 l5.length k5) (l5.map twOf) spareRes ∧ F4.Nodup ∧ F5.Nodup ∧ (∀ x ∈ F4, ∀ y ∈ F5, x ≠ y) ∧ (∀ x ∈ F4, w.heap.size ≤ x) ∧ (∀ x ∈ F5, w.heap.size ≤ x) ∧ Below w.heap.size w w' := by
  have hu := Tryz.underlying50
  have H4 := Aside0.mk h4
  have H5 := Aside0.mk h5
  have HLR := Aside0.mk hlr
  clear h4 h5 hlr
  go_enter Tryz.func12, Tryz.ntmps12
  go_wp2_with fail
  obtain ⟨w1, hw1⟩ : ∃ w1, w1 = (w.alloc (.cells #[.int .u8 a, .int .u8 b, .int .u8 c, .int .u32 d, .slice A4 l4.length c4, .slice A5 l5.length c5] 50)).alloc (.cells #[.int .u8 0, .int .u8 0, .int .u8 0, .int .u32 0, .slice none 0 0, .slice none 0 0] 50) := ⟨_, rfl⟩
  have hb0 := below_alloc (Below.refl w.heap.size w) (.cells #[.int .u8 a, .int .u8 b, .int .u8 c, .int .u32 d, .slice A4 l4.length c4, .slice A5 l5.length c5] 50)
  have hb1 : Below w.heap.size w w1 := by rw [hw1]; exact hb0.alloc hb0.size _
  have hbx : w1.heap[w.heap.size]? = some (.cells #[.int .u8 a, .int .u8 b, .int .u8 c, .int .u32 d, .slice A4 l4.length c4, .slice A5 l5.length c5] 50 (0, 0)) := by
    rw [hw1]
    exact blk_below (blk_new w _) (below_alloc (Below.refl _ _) _)
  have hbo : w1.heap[w.heap.size + 1]? = some (.cells #[.int .u8 0, .int .u8 0, .int .u8 0, .int .u32 0, .slice none 0 0, .slice none 0 0] 50 (0, 0)) := by
    rw [hw1]
    have h := blk_new (w.alloc (.cells #[.int .u8 a, .int .u8 b, .int .u8 c, .int .u32 d, .slice A4 l4.length c4, .slice A5 l5.length c5] 50)) (.cells #[.int .u8 0, .int .u8 0, .int .u8 0, .int .u32 0, .slice none 0 0, .slice none 0 0] 50)
    rwa [alloc_size] at h
  rw [← hw1]
  have hz1 := blk_lt hbo
  clear hw1 hb0
  have hd1 := below_drew (Below.refl w1.heap.size w1)
  have hz : w.heap.size + 2 ≤ w1.drew.heap.size := by have := hd1.size; omega
  have BB := Aside0.mk (below_step hb1 hd1)
  have BX := Aside0.mk (blk_below hbx hd1)
  have BO := Aside0.mk (blk_below hbo hd1)
  have HF := Aside0.mk (blk6w hbx)
  have HC := Aside0.mk (blk6w BX.out)
  clear hb1 hd1 hbx hbo
  first | (go_region_held3 (fun w' : World => w'.cell? ⟨w.heap.size, 0, none⟩ = some (.int .u8 a) ∧ w'.cell? ⟨w.heap.size, 1, none⟩ = some (.int .u8 b) ∧ w'.cell? ⟨w.heap.size, 2, none⟩ = some (.int .u8 c) ∧ w'.cell? ⟨w.heap.size, 3, none⟩ = some (.int .u32 d) ∧ w'.cell? ⟨w.heap.size, 4, none⟩ = some (.slice A4 l4.length c4) ∧ w'.cell? ⟨w.heap.size, 5, none⟩ = some (.slice A5 l5.length c5)) (first | with_reducible exact HC.out | with_reducible exact HS2.out) (first
     | (go_at_call 41
        refine (twinOps_calls _ A4 c4 l4 (Kd.C_below H4.out BB.out) hc4 hl4).mono ?_
        rintro e wn ⟨v4, rfl, F4, hT4, hN4, hF4, hb1⟩
        obtain ⟨B4, k4, rfl, hk4, _, _⟩ := hT4.reads
        have hz' := Nat.le_trans hz hb1.size
        have T4 := Aside0.mk hT4
        have N4 := Aside0.mk hN4
        have L4 := Aside0.mk hT4.lt
        have G4 := Aside0.mk (show ∀ x ∈ F4, w.heap.size + 2 ≤ x from fun x hx => Nat.le_trans hz (hF4 x hx))
        try have T5 := Aside0.mk (T5.out.below hb1)
        try have DJ := Aside0.mk (show ∀ x ∈ F4, ∀ y ∈ F5, x ≠ y from fun x hx y hy e => by have h1 := hF4 x hx; have h2 := L5.out y hy; omega)
        have BB := Aside0.mk (below_step BB.out hb1)
        have BX := Aside0.mk (blk_below BX.out hb1)
        have BO := Aside0.mk (blk_below BO.out hb1)
        have HC := Aside0.mk (blk6w BX.out)
        obtain ⟨⟨x0, x1, x2, x3, x4, x5⟩, ⟨y0, y1, y2, y3, y4, y5⟩⟩ := blk6p BO.out
        try have HS2 := Aside0.mk (blk6w ((far6 (W := wn) (g := w.heap.size + 1) (k := w.heap.size) (by omega) (.int .u8 a) (.int .u8 b) (.int .u8 c) (.int .u32 d) (.slice B4 l4.length k4) (.slice B5 l5.length k5)).trans BX.out))
        have hz := hz'
        clear hT4 hN4 hF4 hb1 hz')
     | (go_at_call 52
        refine (twinResults_calls _ A5 c5 l5 (Kd.C_below H5.out BB.out) hc5 hl5 HLR.out).mono ?_
        rintro e wn ⟨v5, rfl, F5, hT5, hN5, hF5, hb1⟩
        obtain ⟨B5, k5, e5, hk5, _, _⟩ := hT5.reads
        rw [List.length_map] at e5 hk5
        subst e5
        have hz' := Nat.le_trans hz hb1.size
        have T5 := Aside0.mk hT5
        have N5 := Aside0.mk hN5
        have L5 := Aside0.mk hT5.lt
        have G5 := Aside0.mk (show ∀ x ∈ F5, w.heap.size + 2 ≤ x from fun x hx => Nat.le_trans hz (hF5 x hx))
        try have T4 := Aside0.mk (T4.out.below hb1)
        try have DJ := Aside0.mk (show ∀ x ∈ F4, ∀ y ∈ F5, x ≠ y from fun x hx y hy e => by have h1 := hF5 y hy; have h2 := L4.out x hx; omega)
        have BB := Aside0.mk (below_step BB.out hb1)
        have BX := Aside0.mk (blk_below BX.out hb1)
        have BO := Aside0.mk (blk_below BO.out hb1)
        have HC := Aside0.mk (blk6w BX.out)
        obtain ⟨⟨x0, x1, x2, x3, x4, x5⟩, ⟨y0, y1, y2, y3, y4, y5⟩⟩ := blk6p BO.out
        try have HS2 := Aside0.mk (blk6w ((far6 (W := wn) (g := w.heap.size + 1) (k := w.heap.size) (by omega) (.int .u8 a) (.int .u8 b) (.int .u8 c) (.int .u32 d) (.slice B4 l4.length k4) (.slice B5 l5.length k5)).trans BX.out))
        have hz := hz'
        clear hT5 hN5 hF5 hb1 hz'))) | fail "held3"
  all_goals
    go_wp2
    try simp only [Exit.inBlock, Exit.then]
    refine bodyPost_ret (results_cell_row rfl _ _ (w.heap.size + 1) 50 #[.int .u8 a, .int .u8 b, .int .u8 c, .int .u32 d, .slice B4 l4.length k4, .slice B5 l5.length k5] (0, 0) _ rfl (put6 BO.out _ _ _ _ _ _) hu rfl (by kernel_rfl)) rfl ?_
    have hkp : ∀ k, w.heap.size + 2 ≤ k → _ := fun k hk => far6 (W := wn) (g := w.heap.size + 1) (k := k) (by omega) (.int .u8 a) (.int .u8 b) (.int .u8 c) (.int .u32 d) (.slice B4 l4.length k4) (.slice B5 l5.length k5)
    refine ⟨B4, k4, B5, k5, rfl, F4, F5, ?_, ?_, N4.out, N5.out, DJ.out, fun x hx => by have := G4.out x hx; omega, fun x hx => by have := G5.out x hx; omega, below6 BB.out (Nat.le_succ _) _ _ _ _ _ _⟩
    · obtain ⟨A', c', ev, h2, h3⟩ := T4.out
      exact ⟨A', c', ev, h2, Fd.row_move (fun b hb => hkp b (G4.out b hb)) h3⟩
    · obtain ⟨A', c', ev, h2, h3⟩ := T5.out
      exact ⟨A', c', ev, h2, Fd.row_move (fun b hb => hkp b (G5.out b hb)) h3⟩
set_option maxRecDepth 100000 in
theorem leftMsg_calls (w : World) (a b c d : Int) (B4 : Option Addr) (k4 : Nat) (B5 : Option Addr) (k5 : Nat) (F4 F5 : List Nat) (A4 : Option Addr) (c4 : Nat) (l4 : List S82) (A5 : Option Addr) (c5 : Nat) (l5 : List ResT') (t4 : Twin fdOp 82 w F4 (.slice B4 l4.length k4) l4 spareOp) (t5 : Twin fdTR 145 w F5 (.slice B5 l5.length k5) (l5.map twOf) spareRes) (h4 : Kd.C k82 w A4 l4.length l4) (hc4 : l4.length ≤ c4) (h5 : Kd.C k145 w A5 l5.length l5) (hc5 : l5.length ≤ c5) (hl4 : l4.length ≤ 1000000000) (hl5 : l5.length ≤ 1000000000) (hlr : ∀ x ∈ l5, x.f0.length ≤ 1000000000) :
    Calls Tryz.prog 25 #[.agg #[.int .u8 a, .int .u8 b, .int .u8 c, .int .u32 d, .slice B4 l4.length k4, .slice B5 l5.length k5], .agg #[.int .u8 a, .int .u8 b, .int .u8 c, .int .u32 d, .slice A4 l4.length c4, .slice A5 l5.length c5]] w fun e w' => e = .returned (.bool true) ∧ Below w.heap.size w w' := by
  have hu := Tryz.underlying50
  obtain ⟨w1, hw1⟩ : ∃ w1, w1 = (w.alloc (.cells #[.int .u8 a, .int .u8 b, .int .u8 c, .int .u32 d, .slice B4 l4.length k4, .slice B5 l5.length k5] 50)).alloc (.cells #[.int .u8 a, .int .u8 b, .int .u8 c, .int .u32 d, .slice A4 l4.length c4, .slice A5 l5.length c5] 50) := ⟨_, rfl⟩
  have hb0 := below_alloc (Below.refl w.heap.size w) (.cells #[.int .u8 a, .int .u8 b, .int .u8 c, .int .u32 d, .slice B4 l4.length k4, .slice B5 l5.length k5] 50)
  have hb1 : Below w.heap.size w w1 := by rw [hw1]; exact hb0.alloc hb0.size _
  have hbx : w1.heap[w.heap.size]? = some (.cells #[.int .u8 a, .int .u8 b, .int .u8 c, .int .u32 d, .slice B4 l4.length k4, .slice B5 l5.length k5] 50 (0, 0)) := by
    rw [hw1]
    exact blk_below (blk_new w _) (below_alloc (Below.refl _ _) _)
  have hbo : w1.heap[w.heap.size + 1]? = some (.cells #[.int .u8 a, .int .u8 b, .int .u8 c, .int .u32 d, .slice A4 l4.length c4, .slice A5 l5.length c5] 50 (0, 0)) := by
    rw [hw1]
    have h := blk_new (w.alloc (.cells #[.int .u8 a, .int .u8 b, .int .u8 c, .int .u32 d, .slice B4 l4.length k4, .slice B5 l5.length k5] 50)) (.cells #[.int .u8 a, .int .u8 b, .int .u8 c, .int .u32 d, .slice A4 l4.length c4, .slice A5 l5.length c5] 50)
    rwa [alloc_size] at h
  have C1 := Aside0.mk (leftOps_calls w1 B4 k4 A4 c4 l4 (Kd.C_below t4.c.2.1 hb1) t4.c.2.2 (Kd.C_below h4 hb1) hc4 hl4)
  have T5 := Aside0.mk (t5.below hb1)
  have H5 := Aside0.mk (Kd.C_below h5 hb1)
  have HB := Aside0.mk hb1
  have BX := Aside0.mk hbx
  have BO := Aside0.mk hbo
  clear t4 t5 h4 h5 hb0 hb1 hbx hbo
  go_enter Tryz.func25, Tryz.ntmps25
  go_wp2_with fail
  rw [← hw1]
  clear hw1
  with_reducible refine C1.out.mono ?_
  rintro e w2 ⟨rfl, hb2⟩
  have bx := blk_below BX.out hb2
  have bo := blk_below BO.out hb2
  have x5 := blk_cell bx 5
  have o5 := blk_cell bo 5
  have HB2 := Aside0.mk (below_step HB.out hb2)
  have C2 := Aside0.mk (leftResults_calls w2 B5 k5 F5 A5 c5 l5 (T5.out.below hb2) (Kd.C_below H5.out hb2) hc5 hl5 hlr)
  clear hb2 bx bo BX BO HB T5 H5 C1
  go_wp2_with fail
  with_reducible refine C2.out.mono ?_
  rintro e w3 ⟨rfl, hb3⟩
  have HB3 := Aside0.mk (below_step HB2.out hb3)
  clear hb3 C2
  go_wp2
  go_ret
  exact ⟨rfl, HB3.out⟩
end Go.Proofs.YtcohodkpppmaoaaGreatDoor.Q
namespace Go.Proofs.YtcohodkpppmaoaaGreatDoor.Q
open Go.RowKit Go.Proofs.YtcohodkpppmaoaaGreatDoorW.PrintWords Go.Proofs.YtcohodkpppmaoaaGreatDoorW.PrintLast Go.Proofs.YtcohodkpppmaoaaGreatDoorW.PrintMore
set_option linter.unusedVariables false
section
variable {w : World} {base : Nat} {ok : Nat → Prop} {v : Value}
theorem R_C {α : Type} {d : Kd α} {e n c : Nat} {A : Option Addr} {xs : List α} (h : Kd.R d e w base ok (.slice A n c) xs) : d.C w A xs.length xs := by
  obtain ⟨A', c', ev, _, hC⟩ := Kd.R_reads h
  injection ev with e1 _ _
  subst e1
  exact hC
theorem R_owns {α : Type} {d : Kd α} {e n c : Nat} {A : Option Addr} {xs : List α} (h : Kd.R d e w base ok (.slice A n c) xs) : ∃ inner, w.ownsRow 0 e d.sz (.slice A n c) xs.length inner := by
  obtain ⟨_, inner, ho, hr⟩ := h
  exact ⟨inner, own_less ho (Nat.zero_le _)⟩
/-- A row's own block, whatever it holds. -/
theorem R_own {α : Type} {d : Kd α} {e : Nat} {xs : List α} (h : Kd.R d e w base ok v xs) : (∃ inner, w.ownsRow 0 e d.sz v xs.length inner) ∧ ∀ b ∈ v.ownBlock.toList, base ≤ b := by
  obtain ⟨_, inner, ho, hr⟩ := h
  exact ⟨⟨inner, own_less ho (Nat.zero_le _)⟩, fun b hb => own_base ho b (by simpa using hb)⟩
end
end Go.Proofs.YtcohodkpppmaoaaGreatDoor.Q
namespace Go.Proofs.YtcohodkpppmaoaaGreatDoor.Q
open Go.RowKit Go.Proofs.YtcohodkpppmaoaaGreatDoorW.PrintWords Go.Proofs.YtcohodkpppmaoaaGreatDoorW.PrintLast Go.Proofs.YtcohodkpppmaoaaGreatDoorW.PrintMore
set_option linter.unusedVariables false

theorem putList_ok {α : Type} {may : α → Int} (hmay : ∀ x, may x = 0 ∨ may x = 1 ∨ may x = 3) {most : Nat} {one : α → List Int} {l : List α} (h : (putList may most one l).2 = 0) :
    (∀ x ∈ l, may x = 0) ∧ l.length ≤ most ∧ (putList may most one l).1 = num2 l.length ++ l.flatMap one := by
  unfold putList at h ⊢
  split at h
  · cases h
  · rename_i h1
    rw [if_neg h1]
    split at h
    · cases h
    · rename_i h2
      rw [if_neg h2]
      refine ⟨fun x hx => ?_, ?_, rfl⟩
      · rcases hmay x with e | e | e
        · exact e
        · exact absurd (List.any_eq_true.2 ⟨x, hx, by simp [e]⟩) h1
        · exact absurd (by rw [List.any_eq_true.2 ⟨x, hx, by simp [e]⟩]; rfl) h2
      · rcases Nat.lt_or_ge most l.length with hl | hl
        · exact absurd (by rw [decide_eq_true hl]; simp) h2
        · exact hl
theorem putList_err {α : Type} {may : α → Int} {most : Nat} {one : α → List Int} {l : List α} (h : (putList may most one l).2 ≠ 0) : (putList may most one l).1 = [] := by
  unfold putList at h ⊢
  split
  · rfl
  · rename_i h1
    rw [if_neg h1] at h
    split
    · rfl
    · rename_i h2
      rw [if_neg h2] at h
      exact absurd rfl h
theorem opE_cases (x : OpT) : opE x = 0 ∨ opE x = 1 ∨ opE x = 3 := by unfold opE; split <;> simp
theorem resultE_cases (x : ResultT) : resultE x = 0 ∨ resultE x = 1 ∨ resultE x = 3 := by unfold resultE; split <;> (try split) <;> simp
end Go.Proofs.YtcohodkpppmaoaaGreatDoor.Q
namespace Go.Proofs.YtcohodkpppmaoaaGreatDoor.Q
open Go.RowKit Go.Proofs.YtcohodkpppmaoaaGreatDoorW.PrintWords Go.Proofs.YtcohodkpppmaoaaGreatDoorW.PrintLast Go.Proofs.YtcohodkpppmaoaaGreatDoorW.PrintMore
set_option linter.unusedVariables false
def many : Nat := 140737488351232
theorem opsSize_from (l : List OpT) (hl : l.length ≤ many) (hs : ∀ x ∈ l, x.f1.size ≤ many ∧ x.f2.size ≤ many) (d : Nat) : ∀ (i : Nat) (n : Int), i ≤ l.length → l.length - i = d → 0 ≤ n → n ≤ 1000000000000000 → ∃ s, Ev (fun k => concordatlaw01_OpsSize.l0 k l n (i : Int)) s ∧ n ≤ s := by
  unfold many at *
  induction d with
  | zero =>
    intro i n h0 h1 h2 h3
    refine ⟨n, Ev.step (f := fun _ => some n) (fun k => ?_) (Ev.now _), Int.le_refl _⟩
    simp only [concordatlaw01_OpsSize.l0]
    rw [if_neg (by omega)]
  | succ d ih =>
    intro i n h0 h1 h2 h3
    have hi : i < l.length := by omega
    have hm : rd_T82 l i ∈ l := by
      unfold rd_T82
      rw [Int.toNat_natCast, List.getD_eq_getElem?_getD, List.getElem?_eq_getElem hi]
      exact List.getElem_mem _
    have hb := hs _ hm
    by_cases c : n ≤ 1048576
    · obtain ⟨s, he, hle⟩ := ih (i + 1) (n + ((rd_T82 l i).f1.size : Int) + ((rd_T82 l i).f2.size : Int)) (by omega) (by omega) (by omega) (by omega)
      refine ⟨s, Ev.step (f := fun k => concordatlaw01_OpsSize.l0 k l (n + ((rd_T82 l i).f1.size : Int) + ((rd_T82 l i).f2.size : Int)) ((i + 1 : Nat) : Int)) (fun k => ?_) he, by omega⟩
      simp only [concordatlaw01_OpsSize.l0]
      rw [if_pos (by omega), if_pos c, if_pos (by omega), wrap_id (n + _) (by omega) (by omega), wrap_id _ (by omega) (by omega), wrap_id _ (by omega) (by omega)]
      rfl
    · refine ⟨n, Ev.step (f := fun _ => some n) (fun k => ?_) (Ev.now _), Int.le_refl _⟩
      simp only [concordatlaw01_OpsSize.l0]
      rw [if_pos (by omega), if_neg c]
theorem ev_OpsSize (l : List OpT) (hl : l.length ≤ many) (hs : ∀ x ∈ l, x.f1.size ≤ many ∧ x.f2.size ≤ many) : ∃ s, Ev (fun k => concordatlaw01_OpsSize.f k l) s ∧ (l.length : Int) ≤ s :=
  opsSize_from l hl hs l.length 0 l.length (by omega) (by omega) (by omega) (by unfold many at hl; omega)
theorem rowsSize_from (l : List RowT) (hl : l.length ≤ many) (hs : ∀ x ∈ l, x.f0.size ≤ many) (d : Nat) : ∀ (i : Nat) (n : Int), i ≤ l.length → l.length - i = d → 0 ≤ n → n ≤ 1000000000000000 → ∃ s, Ev (fun k => concordatlaw01_RowsSize.l0 k l n (i : Int)) s ∧ n ≤ s ∧ s ≤ 1000000000000000 := by
  unfold many at *
  induction d with
  | zero =>
    intro i n h0 h1 h2 h3
    refine ⟨n, Ev.step (f := fun _ => some n) (fun k => ?_) (Ev.now _), Int.le_refl _, h3⟩
    simp only [concordatlaw01_RowsSize.l0]
    rw [if_neg (by omega)]
  | succ d ih =>
    intro i n h0 h1 h2 h3
    have hi : i < l.length := by omega
    have hm : rd_T148 l i ∈ l := by
      unfold rd_T148
      rw [Int.toNat_natCast, List.getD_eq_getElem?_getD, List.getElem?_eq_getElem hi]
      exact List.getElem_mem _
    have hb := hs _ hm
    by_cases c : n ≤ 1048576
    · obtain ⟨s, he, hle, hle2⟩ := ih (i + 1) (n + ((rd_T148 l i).f0.size : Int)) (by omega) (by omega) (by omega) (by omega)
      refine ⟨s, Ev.step (f := fun k => concordatlaw01_RowsSize.l0 k l (n + ((rd_T148 l i).f0.size : Int)) ((i + 1 : Nat) : Int)) (fun k => ?_) he, by omega, hle2⟩
      simp only [concordatlaw01_RowsSize.l0]
      rw [if_pos (by omega), if_pos c, if_pos (by omega), wrap_id (n + _) (by omega) (by omega), wrap_id _ (by omega) (by omega)]
      rfl
    · refine ⟨n, Ev.step (f := fun _ => some n) (fun k => ?_) (Ev.now _), Int.le_refl _, h3⟩
      simp only [concordatlaw01_RowsSize.l0]
      rw [if_pos (by omega), if_neg c]
theorem opsSize_upto (l : List OpT) (hl : l.length ≤ many) (hs : ∀ x ∈ l, x.f1.size ≤ many ∧ x.f2.size ≤ many) (d : Nat) : ∀ (i : Nat) (n : Int), i ≤ l.length → l.length - i = d → 0 ≤ n → n ≤ 1000000000000000 → ∀ s, Ev (fun k => concordatlaw01_OpsSize.l0 k l n (i : Int)) s → s ≤ 1000000000000000 ∧ n ≤ s := by
  unfold many at *
  induction d with
  | zero =>
    intro i n h0 h1 h2 h3 s hs
    have e : s = n := by
      obtain ⟨K, hK⟩ := hs
      have := hK (K + 1) (Nat.le_succ _)
      simp only [concordatlaw01_OpsSize.l0] at this
      rw [if_neg (by omega)] at this
      exact (Option.some.inj this).symm
    omega
  | succ d ih =>
    intro i n h0 h1 h2 h3 s hs'
    have hi : i < l.length := by omega
    have hm : rd_T82 l i ∈ l := by
      unfold rd_T82
      rw [Int.toNat_natCast, List.getD_eq_getElem?_getD, List.getElem?_eq_getElem hi]
      exact List.getElem_mem _
    have hb := hs _ hm
    by_cases c : n ≤ 1048576
    · have e : Ev (fun k => concordatlaw01_OpsSize.l0 k l (n + (rd_T82 l i).f1.size + (rd_T82 l i).f2.size) ((i + 1 : Nat) : Int)) s := by
        obtain ⟨K, hK⟩ := hs'
        refine ⟨K, fun k hk => ?_⟩
        have := hK (k + 1) (by omega)
        simp only [concordatlaw01_OpsSize.l0] at this
        rw [if_pos (by omega), if_pos c, if_pos (by omega)] at this
        rw [wrap_id (n + _) (by omega) (by omega), wrap_id (n + _ + _) (by omega) (by omega), wrap_id ((i : Int) + 1) (by omega) (by omega)] at this
        exact this
      have := ih (i + 1) _ (by omega) (by omega) (by omega) (by omega) s e
      omega
    · have e : s = n := by
        obtain ⟨K, hK⟩ := hs'
        have := hK (K + 1) (Nat.le_succ _)
        simp only [concordatlaw01_OpsSize.l0] at this
        rw [if_pos (by omega), if_neg c] at this
        exact (Option.some.inj this).symm
      omega
end Go.Proofs.YtcohodkpppmaoaaGreatDoor.Q
