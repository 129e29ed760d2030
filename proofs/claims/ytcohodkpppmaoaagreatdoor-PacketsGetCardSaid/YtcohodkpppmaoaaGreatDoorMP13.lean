/-
  The reference's Check of messages, as printed.
  How many are read at most.
  What the program's calls answer, as values that own their blocks: rows of plain things, and results with their rows.
  The reference's Get of messages: what it answers is what the program's own one answers.
  A list is the same as itself, and sizes come to an answer: ops, results, messages; ids.
  Bytes: copies with a mark behind them, and whether they are as they were.
  The law PacketsGet, walked: it answers true.
  From a row's reading of an argument (DataW.trod) to the printed words' facts (Kd.K): numbers, texts, structs, slices, of whatever depth.
  How arguments of the types of this program are read: rows, ops, changes, results.
  The tables that the rows list: a start that has them; from a row's condition to the table that the walk reads.
-/
import Derived.Test.YtcohodkpppmaoaaGreatDoorMP11
import Derived.Test.YtcohodkpppmaoaaGreatDoorMP12
import Derived.Test.YtcohodkpppmaoaaGreatDoorMP10
import Derived.Test.YtcohodkpppmaoaaGreatDoorMP5
import Derived.Test.YtcohodkpppmaoaaGreatDoorMP4
import Derived.BigQuiet
import Derived.Test.YtcohodkpppmaoaaGreatDoorMP3
import Derived.Test.YtcohodkpppmaoaaGreatDoorMP9
import Derived.Test.YtcohodkpppmaoaaGreatDoorMP7
import Derived.BigRegion
import Derived.WalkSpells
import Derived.Test.YtcohodkpppmaoaaGreatDoorMP1
import Derived.ProofKit
import Derived.OpenShut
import Derived.SizedLaws
import Derived.Deep.Slices
import Derived.Test.YtcohodkpppmaoaaGreatDoorRows
import Derived.Lib.LaidTab
import Derived.Lib.LaidIn
import Derived.LaidLaws
import Derived.KernelRfl
set_option linter.unusedSimpArgs false
set_option linter.unusedVariables false
namespace Go.Proofs.YtcohodkpppmaoaaGreatDoor.Q
open Go.RowKit Go.Proofs.YtcohodkpppmaoaaGreatDoorW.PrintWords Go.Proofs.YtcohodkpppmaoaaGreatDoorW.PrintLast Go.Proofs.YtcohodkpppmaoaaGreatDoorW.PrintMore
def mayM (s f t : Int) (x : List OpT) (y : List ResultT) : Bool := mayH s f t && x.all mayOp && y.all (fun r => mayRows r.f0)
theorem ref7_rows (s f t g : Int) (x : List OpT) (y : List ResultT) (hy : y.length ≤ 1000000000) (i : Nat) (hi : i < y.length) (hn : y[i].f0.length ≤ 1000000000) (hs : ∀ r ∈ y[i].f0, r.f0.size ≤ 140737488351232) (r : Bool) (hbad : mayRows y[i].f0 = false → r = false)
    (hgood : mayRows y[i].f0 = true → Ev (fun k => concordatref07_Check.l1 k ((i + 1 : Nat) : Int) s f t g x y) r) (d : Nat) : ∀ (j : Nat), j ≤ y[i].f0.length → y[i].f0.length - j = d → mayRows (y[i].f0.take j) = true → Ev (fun k => concordatref07_Check.l2 k (i : Int) (j : Int) s f t g x y) r := by
  have hrd : rd_T145 y (i : Int) = y[i] := by simp [rd_T145, hi]
  induction d with
  | zero =>
    intro j h0 h1 hp
    have e : y[i].f0.take j = y[i].f0 := List.take_of_length_le (by omega)
    rw [e] at hp
    refine Ev.step (fun k => ?_) (hgood hp)
    simp only [concordatref07_Check.l2]
    rw [if_pos (by omega), if_pos (by omega), hrd, if_neg (by omega), wrap_id _ (by omega) (by omega)]
    rfl
  | succ d ih =>
    intro j h0 h1 hp
    have hj : j < y[i].f0.length := by omega
    have hrj : rd_T148 y[i].f0 (j : Int) = y[i].f0[j] := by simp [rd_T148, hj]
    have htk : mayRows (y[i].f0.take (j + 1)) = (mayRows (y[i].f0.take j) && isKey (y[i].f0[j].f0)) := by
      unfold mayRows
      rw [List.take_succ_eq_append_getElem hj]
      simp only [List.all_append, List.all_cons, List.all_nil, Bool.and_true]
    refine Ev.step (f := fun k => (concordatref01_Check.f k y[i].f0[j].f0).bind fun tt => (if tt = true then (concordatref07_Check.l2 k (i : Int) (wrap64 ((j : Int) + 1)) s f t g x y) else (some false))) (fun k => ?_) ?_
    · simp only [concordatref07_Check.l2]
      rw [if_pos (by omega), if_pos (by omega), hrd, if_pos (by omega), if_pos (by omega), hrj]
    · refine Ev.bind (ev_refCheck _ (hs _ (List.getElem_mem _))) ?_
      cases hk : isKey y[i].f0[j].f0 with
      | false =>
        simp only [Bool.false_eq_true, if_false]
        refine ev_const ?_
        rw [hbad (by
          unfold mayRows
          rw [List.all_eq_false]
          exact ⟨y[i].f0[j], List.getElem_mem _, by simp [hk]⟩)]
      | true =>
        simp only [if_true]
        rw [wrap_id _ (by omega) (by omega)]
        exact ih (j + 1) (by omega) (by omega) (by rw [htk, hp, hk]; rfl)
theorem ref7_results (s f t g : Int) (x : List OpT) (y : List ResultT) (hy : y.length ≤ 1000000000) (hn : ∀ z ∈ y, z.f0.length ≤ 1000000000 ∧ ∀ r ∈ z.f0, r.f0.size ≤ 140737488351232) (d : Nat) : ∀ (i : Nat), i ≤ y.length → y.length - i = d → Ev (fun k => concordatref07_Check.l1 k (i : Int) s f t g x y) ((y.drop i).all (fun r => mayRows r.f0)) := by
  induction d with
  | zero =>
    intro i h0 h1
    refine Ev.step (f := fun _ => some true) (fun k => ?_) ?_
    · simp only [concordatref07_Check.l1]
      rw [if_neg (by omega)]
    · refine ev_const ?_
      rw [List.drop_eq_nil_of_le (by omega)]
      rfl
  | succ d ih =>
    intro i h0 h1
    have hi : i < y.length := by omega
    refine Ev.step (f := fun k => concordatref07_Check.l2 k (i : Int) ((0 : Nat) : Int) s f t g x y) (fun k => ?_) ?_
    · simp only [concordatref07_Check.l1]
      rw [if_pos (by omega)]
      rfl
    · rw [List.drop_eq_getElem_cons hi, List.all_cons]
      refine ref7_rows s f t g x y hy i hi (hn _ (List.getElem_mem _)).1 (hn _ (List.getElem_mem _)).2 _ (fun h => by rw [h, Bool.false_and]) (fun h => ?_) _ 0 (Nat.zero_le _) rfl (by simp [mayRows])
      rw [h, Bool.true_and]
      exact ih (i + 1) (by omega) (by omega)
theorem ref7_ops (s f t g : Int) (x : List OpT) (y : List ResultT) (hx : x.length ≤ 1000000000) (hsx : ∀ z ∈ x, z.f1.size ≤ 140737488351232 ∧ z.f2.size ≤ 140737488351232) (hy : y.length ≤ 1000000000) (hn : ∀ z ∈ y, z.f0.length ≤ 1000000000 ∧ ∀ r ∈ z.f0, r.f0.size ≤ 140737488351232) (d : Nat) : ∀ (i : Nat), i ≤ x.length → x.length - i = d → Ev (fun k => concordatref07_Check.l0 k (i : Int) s f t g x y) ((x.drop i).all mayOp && y.all (fun r => mayRows r.f0)) := by
  induction d with
  | zero =>
    intro i h0 h1
    refine Ev.step (f := fun k => concordatref07_Check.l1 k ((0 : Nat) : Int) s f t g x y) (fun k => ?_) ?_
    · simp only [concordatref07_Check.l0]
      rw [if_neg (by omega)]
      rfl
    · rw [List.drop_eq_nil_of_le (by omega)]
      have h := ref7_results s f t g x y hy hn y.length 0 (Nat.zero_le _) rfl
      simpa using h
  | succ d ih =>
    intro i h0 h1
    have hi : i < x.length := by omega
    have hrd : rd_T82 x (i : Int) = x[i] := by simp [rd_T82, hi]
    refine Ev.step (f := fun k => (concordatref02_Check.f k x[i].f0 x[i].f1 x[i].f2 x[i].f3).bind fun tt => (if tt = true then (concordatref07_Check.l0 k (wrap64 ((i : Int) + 1)) s f t g x y) else (some false))) (fun k => ?_) ?_
    · simp only [concordatref07_Check.l0]
      rw [if_pos (by omega), if_pos (by omega), hrd]
    · refine Ev.bind (ev_ref2Check x[i] (hsx _ (List.getElem_mem _)).1 (hsx _ (List.getElem_mem _)).2) ?_
      rw [List.drop_eq_getElem_cons hi, List.all_cons]
      cases hk : mayOp x[i] with
      | false =>
        simp only [Bool.false_eq_true, if_false]
        exact ev_const (by simp)
      | true =>
        simp only [if_true, Bool.true_and]
        rw [wrap_id _ (by omega) (by omega)]
        exact ih (i + 1) (by omega) (by omega)
theorem ev_ref7Check (s f t g : Int) (x : List OpT) (y : List ResultT) (hx : x.length ≤ 1000000000) (hsx : ∀ z ∈ x, z.f1.size ≤ 140737488351232 ∧ z.f2.size ≤ 140737488351232) (hy : y.length ≤ 1000000000) (hn : ∀ z ∈ y, z.f0.length ≤ 1000000000 ∧ ∀ r ∈ z.f0, r.f0.size ≤ 140737488351232) : Ev (fun k => concordatref07_Check.f k s f t g x y) (mayM s f t x y) := by
  unfold concordatref07_Check.f
  have hno : mayH s f t = false → Ev (fun k => concordatref07_Check.j0 k true s f t g x y) (mayM s f t x y) := fun h => by
    refine Ev.step (f := fun _ => some false) (fun k => ?_) (ev_const (by simp [mayM, h]))
    simp only [concordatref07_Check.j0, if_true]
  by_cases h1 : s < 1
  · simp only [if_pos h1]
    exact hno (by simp [mayH]; omega)
  · simp only [if_neg h1]
    by_cases h2 : s > 7
    · simp only [if_pos h2]
      exact hno (by simp [mayH]; omega)
    · simp only [if_neg h2]
      by_cases h3 : f > 3
      · simp only [if_pos h3]
        exact hno (by simp [mayH]; omega)
      · simp only [if_neg h3]
        by_cases h4 : t > 3
        · rw [decide_eq_true h4]
          exact hno (by simp [mayH]; omega)
        · rw [decide_eq_false h4]
          have hm : mayH s f t = true := by simp [mayH]; omega
          refine Ev.step (f := fun k => concordatref07_Check.l0 k ((0 : Nat) : Int) s f t g x y) (fun k => ?_) ?_
          · simp only [concordatref07_Check.j0, Bool.false_eq_true, if_false]
            rfl
          · have h := ref7_ops s f t g x y hx hsx hy hn x.length 0 (Nat.zero_le _) rfl
            rw [List.drop_zero] at h
            unfold mayM
            rw [hm, Bool.true_and]
            exact h
end Go.Proofs.YtcohodkpppmaoaaGreatDoor.Q
namespace Go.Proofs.YtcohodkpppmaoaaGreatDoor.Q
open Go.RowKit Go.Proofs.YtcohodkpppmaoaaGreatDoorW.PrintWords Go.Proofs.YtcohodkpppmaoaaGreatDoorW.PrintLast Go.Proofs.YtcohodkpppmaoaaGreatDoorW.PrintMore
set_option linter.unusedVariables false
theorem getR_length {α : Type} (r : RdS → α) (st : RdS → RdS) (put : List α → List Int × Int) (l0 : List Int) (hb : ∀ x ∈ l0, 0 ≤ x ∧ x < 256) : (getR r st put l0).1.length < 65536 := by
  have h := sevR_length r st (l0, false) hb
  unfold getR
  repeat' split
  all_goals first | exact h | simp
theorem resR_small {s : RdS} (hs : Bts s) : (resR s).f0.length < 65536 := sevR_length rowR rowS s hs
theorem getRes_small (l0 : List Int) (hb : ∀ x ∈ l0, 0 ≤ x ∧ x < 256) : ∀ x ∈ (getR resR resS putResults l0).1, x.f0.length < 65536 := by
  have h : ∀ x ∈ sevR resR resS (l0, false), x.f0.length < 65536 := sevN_all (p := fun x : S145 => x.f0.length < 65536) (fun _ h => h.res) (fun _ h => resR_small h) _ _ (Bts.take (show Bts (l0, false) from hb) 2)
  unfold getR
  repeat' split
  all_goals first | exact h | simp
theorem getP_small (l0 : List Int) (hb : ∀ x ∈ l0, 0 ≤ x ∧ x < 256) : (getP l0).2.2.2.2.1.length < 65536 ∧ (getP l0).2.2.2.2.2.1.length < 65536 ∧ ∀ x ∈ (getP l0).2.2.2.2.2.1, x.f0.length < 65536 := by
  have h1 := getR_length opR opS putOps ((l0.drop 11).take (lenP l0).toNat) (fun x hx => hb x (List.mem_of_mem_drop (List.mem_of_mem_take hx)))
  have h2 := getR_length resR resS putResults ((l0.drop 11).drop (lenP l0).toNat) (fun x hx => hb x (List.mem_of_mem_drop (List.mem_of_mem_drop hx)))
  have h3 := getRes_small ((l0.drop 11).drop (lenP l0).toNat) (fun x hx => hb x (List.mem_of_mem_drop (List.mem_of_mem_drop hx)))
  unfold getP opsP resP
  repeat' split
  all_goals first | exact ⟨h1, h2, h3⟩ | simp [noMsg]
end Go.Proofs.YtcohodkpppmaoaaGreatDoor.Q
namespace Go.Proofs.YtcohodkpppmaoaaGreatDoor.Q
open Go.RowKit Go.Proofs.YtcohodkpppmaoaaGreatDoorW.PrintWords Go.Proofs.YtcohodkpppmaoaaGreatDoorW.PrintLast Go.Proofs.YtcohodkpppmaoaaGreatDoorW.PrintMore
set_option linter.unusedVariables false
section
variable {w : World} {base : Nat} {ok : Nat → Prop} {v : Value}
theorem R_row {xs : List RowT'} (h : Kd.R k148 148 w base ok v xs) : Fd.Row fdRow 148 w v.ownBlock.toList v xs ∧ ∀ b ∈ v.ownBlock.toList, base ≤ b := by
  obtain ⟨_, inner, ho, hr⟩ := h
  exact ⟨⟨inner, [], own_less ho (Nat.zero_le _), els_fdRow (w := w) (hr.imp_ (fun _ _ hp => k148.K_of_M hp)), by simp⟩, fun b hb => own_base ho b (by simpa using hb)⟩
theorem R_C {α : Type} {d : Kd α} {e n c : Nat} {A : Option Addr} {xs : List α} (h : Kd.R d e w base ok (.slice A n c) xs) : d.C w A xs.length xs := by
  obtain ⟨A', c', ev, _, hC⟩ := Kd.R_reads h
  injection ev with e1 _ _
  subst e1
  exact hC
theorem R_owns {α : Type} {d : Kd α} {e n c : Nat} {A : Option Addr} {xs : List α} (h : Kd.R d e w base ok (.slice A n c) xs) : ∃ inner, w.ownsRow 0 e d.sz (.slice A n c) xs.length inner := by
  obtain ⟨_, inner, ho, hr⟩ := h
  exact ⟨inner, own_less ho (Nat.zero_le _)⟩
/-- A row's own block, whatever it holds. -/
theorem R_own {α : Type} {d : Kd α} {e : Nat} {xs : List α} (h : Kd.R d e w base ok v xs) : (∃ inner, w.ownsRow 0 e d.sz v xs.length inner) ∧ ∀ b ∈ v.ownBlock.toList, base ≤ b := by
  obtain ⟨_, inner, ho, hr⟩ := h
  exact ⟨⟨inner, own_less ho (Nat.zero_le _)⟩, fun b hb => own_base ho b (by simpa using hb)⟩
theorem res_els {f : Nat → Nat} {out : Option Nat} : ∀ (xs : List ResT') (n : Nat) (inner : List Value), inner.length = xs.length → (∀ (j : Nat) x, xs[j]? = some x → ∃ u, inner[j]? = some u ∧ k145.M w base (fun k => (ok k ∧ some k ≠ out) ∧ f k = n + j) x [u]) →
    ∃ G, Fd.Els fdResult w xs inner G ∧ G.Nodup ∧ ∀ b ∈ G, (base ≤ b ∧ ok b) ∧ some b ≠ out ∧ n ≤ f b
  | [], n, inner, hl, _ => ⟨[], ⟨List.eq_nil_of_length_eq_zero hl, rfl⟩, by simp, fun _ hb => by cases hb⟩
  | x :: xs, n, [], hl, _ => by cases hl
  | x :: xs, n, u :: inner, hl, h => by
    obtain ⟨u', hu, hM⟩ := h 0 x rfl
    obtain rfl : u = u' := by simpa using hu
    obtain ⟨v, hv, hR⟩ : ∃ v, [u] = [v] ∧ Kd.R k148 148 w base (fun k => (ok k ∧ some k ≠ out) ∧ f k = n + 0) v x.f0 := hM
    obtain rfl : u = v := by simpa using hv
    obtain ⟨G, he, hn, hG⟩ := res_els xs (n + 1) inner (by simpa using hl) (fun j y hy => by
      have := h (j + 1) y (by simpa using hy)
      rwa [show n + (j + 1) = n + 1 + j by omega, List.getElem?_cons_succ] at this)
    have hr := R_row hR
    have hk : ∀ b ∈ u.ownBlock.toList, ok b ∧ some b ≠ out ∧ f b = n := fun b hb => by
      have := hR.1 b (by simpa using hb)
      exact ⟨this.1.1, this.1.2, this.2⟩
    refine ⟨u.ownBlock.toList ++ G, ⟨[u], inner, _, G, rfl, rfl, ⟨u, rfl, hr.1⟩, he⟩, List.nodup_append.2 ⟨by cases u.ownBlock <;> simp, hn, ?_⟩, ?_⟩
    · intro a ha b hb e
      subst e
      have h1 := (hk a ha).2.2
      have h2 := (hG a hb).2.2
      omega
    · intro b hb
      rcases List.mem_append.1 hb with hb | hb
      · exact ⟨⟨hr.2 b hb, (hk b hb).1⟩, (hk b hb).2.1, Nat.le_of_eq (hk b hb).2.2.symm⟩
      · have := hG b hb
        exact ⟨this.1, this.2.1, by omega⟩
theorem S_result2 {xs : List ResT'} (h : Kd.S k145 145 w base ok v xs) : ∃ F, Fd.Row fdResult 145 w F v xs ∧ F.Nodup ∧ ∀ b ∈ F, base ≤ b ∧ ok b := by
  obtain ⟨f, h0, inner, ho, hr⟩ := h
  rw [List.length_zipIdx] at ho
  have hl : inner.length = xs.length := by have := ho.1; rwa [show (Kd.tag f k145).sz = 1 from rfl, Nat.mul_one] at this
  obtain ⟨G, he, hn, hG⟩ := res_els (w := w) (base := base) (ok := ok) (f := f) (out := v.ownBlock) xs 0 inner hl (fun j x hx => by
    have hM := hr.2 j (x, j) (Kd.zip_at hx)
    have hj : j < inner.length := by rw [hl]; exact (List.getElem?_eq_some_iff.1 hx).1
    refine ⟨inner[j], List.getElem?_eq_getElem hj, ?_⟩
    rw [show (Kd.tag f k145).sz = 1 from rfl, Nat.mul_one, List.drop_eq_getElem_cons hj, List.take_succ_cons, List.take_zero] at hM
    have hM2 : k145.M w base (fun k => (ok k ∧ some k ≠ v.ownBlock) ∧ f k = j) x [inner[j]] := hM
    rwa [show 0 + j = j from Nat.zero_add j])
  refine ⟨v.ownBlock.toList ++ G, ⟨inner, G, own_less ho (Nat.zero_le _), he, rfl⟩, List.nodup_append.2 ⟨by cases v.ownBlock <;> simp, hn, ?_⟩, ?_⟩
  · intro a ha b hb e
    subst e
    exact (hG a hb).2.1 (show v.ownBlock = some a by simpa using ha).symm
  · intro b hb
    rcases List.mem_append.1 hb with hb | hb
    · exact ⟨own_base ho b (by simpa using hb), h0 b (by simpa using hb)⟩
    · exact (hG b hb).1
end
end Go.Proofs.YtcohodkpppmaoaaGreatDoor.Q
namespace Go.Proofs.YtcohodkpppmaoaaGreatDoor.Q
open Go.RowKit Go.Proofs.YtcohodkpppmaoaaGreatDoorW.PrintWords Go.Proofs.YtcohodkpppmaoaaGreatDoorW.PrintLast Go.Proofs.YtcohodkpppmaoaaGreatDoorW.PrintMore
set_option linter.unusedVariables false
theorem getD_byte {l : List Int} (hb : ∀ x ∈ l, 0 ≤ x ∧ x < 256) (i : Nat) (hi : i < l.length) : 0 ≤ l.getD i 0 ∧ l.getD i 0 < 256 := by
  rw [List.getD_eq_getElem?_getD, List.getElem?_eq_getElem hi]
  exact hb _ (List.getElem_mem _)
theorem four_at {l : List Int} (hb : ∀ x ∈ l, 0 ≤ x ∧ x < 256) (i : Nat) (hi : i + 4 ≤ l.length) : foldN ((l.drop i).take 4) = 16777216 * l.getD i 0 + 65536 * l.getD (i + 1) 0 + 256 * l.getD (i + 2) 0 + l.getD (i + 3) 0 := by
  have e : (l.drop i).take 4 = [l.getD i 0, l.getD (i + 1) 0, l.getD (i + 2) 0, l.getD (i + 3) 0] := by
    apply List.ext_getElem
    · simp; omega
    · intro j h1 h2
      simp only [List.length_cons, List.length_nil] at h2
      rw [List.getElem_take, List.getElem_drop]
      match j, h2 with
      | 0, _ => simp [List.getD_eq_getElem?_getD, List.getElem?_eq_getElem (show i < l.length by omega)]
      | 1, _ => simp [List.getD_eq_getElem?_getD, List.getElem?_eq_getElem (show i + 1 < l.length by omega)]
      | 2, _ => simp [List.getD_eq_getElem?_getD, List.getElem?_eq_getElem (show i + 2 < l.length by omega)]
      | 3, _ => simp [List.getD_eq_getElem?_getD, List.getElem?_eq_getElem (show i + 3 < l.length by omega)]
  rw [e]
  have h0 := getD_byte hb i (by omega)
  have h1 := getD_byte hb (i + 1) (by omega)
  have h2 := getD_byte hb (i + 2) (by omega)
  have h3 := getD_byte hb (i + 3) (by omega)
  simp only [foldN, List.foldl_cons, List.foldl_nil]
  omega
theorem cut_mid {P : Program} (t e : TypeId) {i : TypeInfo} (ht : P.underlying t = some (.slice e)) (hi : P.info? e = some i) (size : Nat) (hsz : i.size = size) (A : Option Addr) (n c : Nat) (a b : Int) (h0 : 0 ≤ a) (hab : a ≤ b) (hb : b ≤ c) (kl kh : IntKind) :
    ∀ W : World, (Instr.slice t (.slice A n c) (some (.int kl a)) (some (.int kh b)) none).run P W = .ok (.slice (if c = a.toNat then A else A.map (·.add (a.toNat * size))) (b.toNat - a.toNat) (c - a.toNat)) W := by
  intro W
  have hel : P.elem t = e := by simp [Program.elem, ht]
  have hu : P.underlying t = some (.slice (P.elem t)) := by rw [hel]; exact ht
  rw [run_slice_lh W t A n c hu kl kh a b h0 hab hb, hel]
  simp [sizeOf, typeInfo, hi, hsz, sliced, Result.andThen]
/-- What the message's Get answers, as it is read. -/
def GotQ (w : World) (r : MsgR) (e : Ending) (w' : World) : Prop :=
  ∃ A4 c4 A5 c5, e = .returned (.tuple #[.agg #[.int .u8 r.1, .int .u8 r.2.1, .int .u8 r.2.2.1, .int .u32 r.2.2.2.1, .slice A4 r.2.2.2.2.1.length c4, .slice A5 r.2.2.2.2.2.1.length c5], .int .i64 r.2.2.2.2.2.2]) ∧ (r.2.2.2.2.1.length ≤ c4 ∧ k82.C w' A4 r.2.2.2.2.1.length r.2.2.2.2.1) ∧ (r.2.2.2.2.2.1.length ≤ c5 ∧ k145.C w' A5 r.2.2.2.2.2.1.length r.2.2.2.2.2.1) ∧ Below w.heap.size w w'
theorem gotQ_no (w w' : World) (c : Int) (hb : Below w.heap.size w w') : GotQ w (noMsg c) (.returned (.tuple #[.agg #[.int .u8 0, .int .u8 0, .int .u8 0, .int .u32 0, .slice none 0 0, .slice none 0 0], .int .i64 c])) w' :=
  ⟨none, 0, none, 0, rfl, ⟨Nat.le_refl _, Kd.C_nil _ _⟩, ⟨Nat.le_refl _, Kd.C_nil _ _⟩, hb⟩
theorem refGet_short (A : Option Addr) (c : Nat) (l : List Int) (w : World) (h : l.length < 11) :
    Calls Tryz.prog 61 #[.slice A l.length c] w (GotQ w (noMsg 4)) := by
  have hu := Tryz.underlying50
  have h' : (l.length : Int) < 11 := by omega
  go_enter Tryz.func61, Tryz.ntmps61
  go_wp2
  try simp only [Exit.inBlock, Exit.then]
  refine bodyPost_ret (results_ct rfl _ _ w.heap.size 50 #[.int .u8 0, .int .u8 0, .int .u8 0, .int .u32 0, .slice none 0 0, .slice none 0 0] (0, 0) _ rfl (blk_new w _) hu rfl (by kernel_rfl)) rfl ?_
  exact gotQ_no w _ 4 (below_alloc (Below.refl _ _) _)
set_option maxHeartbeats 1600000 in
set_option maxRecDepth 100000 in
theorem refGet_long (A : Option Addr) (c : Nat) (l : List Int) (w : World) (hC : Kd.C (Kd.int .u8) w A l.length l) (hc : l.length ≤ c) (hby : ∀ x ∈ l, 0 ≤ x ∧ x < 256) (h : 11 ≤ l.length) :
    Calls Tryz.prog 61 #[.slice A l.length c] w (GotQ w (getP l)) := by
  have hu := Tryz.underlying50
  have hmx : l.length ≤ 9223372036854775807 := Kd.C_max hC
  obtain ⟨ad, rfl, q0⟩ := nth_int hC 0 (by omega)
  obtain ⟨_, e1, q1⟩ := nth_int hC 1 (by omega)
  cases e1
  obtain ⟨_, e1, q2⟩ := nth_int hC 2 (by omega)
  cases e1
  obtain ⟨_, e1, q3⟩ := nth_int hC 3 (by omega)
  cases e1
  obtain ⟨_, e1, q4⟩ := nth_int hC 4 (by omega)
  cases e1
  obtain ⟨_, e1, q5⟩ := nth_int hC 5 (by omega)
  cases e1
  obtain ⟨_, e1, q6⟩ := nth_int hC 6 (by omega)
  cases e1
  obtain ⟨_, e1, q7⟩ := nth_int hC 7 (by omega)
  cases e1
  obtain ⟨_, e1, q8⟩ := nth_int hC 8 (by omega)
  cases e1
  obtain ⟨_, e1, q9⟩ := nth_int hC 9 (by omega)
  cases e1
  obtain ⟨_, e1, q10⟩ := nth_int hC 10 (by omega)
  cases e1
  have hN : lenP l = 16777216 * l.getD 7 0 + 65536 * l.getD 8 0 + 256 * l.getD 9 0 + l.getD 10 0 := four_at hby 7 (by omega)
  have hG := four_at hby 3 (by omega)
  have b0 := getD_byte hby 0 (by omega)
  have b1 := getD_byte hby 1 (by omega)
  have b2 := getD_byte hby 2 (by omega)
  have b3 := getD_byte hby 3 (by omega)
  have b4 := getD_byte hby 4 (by omega)
  have b5 := getD_byte hby 5 (by omega)
  have b6 := getD_byte hby 6 (by omega)
  have b7 := getD_byte hby 7 (by omega)
  have b8 := getD_byte hby 8 (by omega)
  have b9 := getD_byte hby 9 (by omega)
  have b10 := getD_byte hby 10 (by omega)
  obtain ⟨n, hn⟩ : ∃ n : Nat, lenP l = n := ⟨(lenP l).toNat, by omega⟩
  obtain ⟨G, hGG⟩ : ∃ G, foldN ((l.drop 3).take 4) = G := ⟨_, rfl⟩
  rw [hn] at hN
  rw [hGG] at hG
  simp only [adr0] at q0
  have hL1 : ¬ ((l.length : Int) < 11) := by omega
  have hNG := Aside0.mk (show getP l = if (mayH (l.getD 0 0) (l.getD 1 0) (l.getD 2 0) && decide ((n : Int) ≤ (l.length : Int) - 11)) = true then (if (getR opR opS putOps ((l.drop 11).take n)).2 = 0 then (if (getR resR resS putResults ((l.drop 11).drop n)).2 = 0 then (l.getD 0 0, l.getD 1 0, l.getD 2 0, G, (getR opR opS putOps ((l.drop 11).take n)).1, (getR resR resS putResults ((l.drop 11).drop n)).1, 0) else noMsg (getR resR resS putResults ((l.drop 11).drop n)).2) else noMsg (getR opR opS putOps ((l.drop 11).take n)).2) else noMsg 4 from by
    unfold getP opsP resP
    rw [if_neg (by omega), hn, hGG]
    rfl)
  generalize l.getD 0 0 = c0 at *
  generalize l.getD 1 0 = c1 at *
  generalize l.getD 2 0 = c2 at *
  generalize l.getD 3 0 = c3 at *
  generalize l.getD 4 0 = c4 at *
  generalize l.getD 5 0 = c5 at *
  generalize l.getD 6 0 = c6 at *
  generalize l.getD 7 0 = c7 at *
  generalize l.getD 8 0 = c8 at *
  generalize l.getD 9 0 = c9 at *
  generalize l.getD 10 0 = c10 at *
  clear hn hGG
  have HC := Aside0.mk hC
  have HBY := Aside0.mk hby
  clear hC hby
  have v1 : IntKind.i64.wrap (16777216 * c7) = 16777216 * c7 := IntWalk.i64_in _ (by omega)
  have v2 : IntKind.i64.wrap (65536 * c8) = 65536 * c8 := IntWalk.i64_in _ (by omega)
  have v3 : IntKind.i64.wrap (256 * c9) = 256 * c9 := IntWalk.i64_in _ (by omega)
  have v4 : IntKind.i64.wrap (16777216 * c7 + 65536 * c8) = 16777216 * c7 + 65536 * c8 := IntWalk.i64_in _ (by omega)
  have v5 : IntKind.i64.wrap (16777216 * c7 + 65536 * c8 + 256 * c9) = 16777216 * c7 + 65536 * c8 + 256 * c9 := IntWalk.i64_in _ (by omega)
  have v6 : IntKind.i64.wrap (16777216 * c7 + 65536 * c8 + 256 * c9 + c10) = (n : Int) := by rw [hN]; exact IntWalk.i64_in _ (by omega)
  have v7 : IntKind.i64.wrap c7 = c7 := IntWalk.i64_in _ (by omega)
  have v8 : IntKind.i64.wrap c8 = c8 := IntWalk.i64_in _ (by omega)
  have v9 : IntKind.i64.wrap c9 = c9 := IntWalk.i64_in _ (by omega)
  have v10 : IntKind.i64.wrap c10 = c10 := IntWalk.i64_in _ (by omega)
  have v11 : IntKind.i64.wrap ((l.length : Int) - 11) = (l.length : Int) - 11 := IntWalk.i64_in _ (by omega)
  have v12 : IntKind.i64.wrap (11 + (n : Int)) = 11 + (n : Int) := IntWalk.i64_in _ (by omega)
  have w1 : IntKind.u32.wrap (16777216 * c3) = 16777216 * c3 := u32_in (by omega) (by omega)
  have w2 : IntKind.u32.wrap (65536 * c4) = 65536 * c4 := u32_in (by omega) (by omega)
  have w3 : IntKind.u32.wrap (256 * c5) = 256 * c5 := u32_in (by omega) (by omega)
  have w4 : IntKind.u32.wrap (16777216 * c3 + 65536 * c4) = 16777216 * c3 + 65536 * c4 := u32_in (by omega) (by omega)
  have w5 : IntKind.u32.wrap (16777216 * c3 + 65536 * c4 + 256 * c5) = 16777216 * c3 + 65536 * c4 + 256 * c5 := u32_in (by omega) (by omega)
  have w6 : IntKind.u32.wrap (16777216 * c3 + 65536 * c4 + 256 * c5 + c6) = G := by rw [hG]; exact u32_in (by omega) (by omega)
  have x3 : IntKind.u32.wrap c3 = c3 := u32_in (by omega) (by omega)
  have x4 : IntKind.u32.wrap c4 = c4 := u32_in (by omega) (by omega)
  have x5 : IntKind.u32.wrap c5 = c5 := u32_in (by omega) (by omega)
  have x6 : IntKind.u32.wrap c6 = c6 := u32_in (by omega) (by omega)
  go_enter Tryz.func61, Tryz.ntmps61
  obtain ⟨W1, hW1⟩ : ∃ W1, W1 = w.alloc (.cells #[.int .u8 0, .int .u8 0, .int .u8 0, .int .u32 0, .slice none 0 0, .slice none 0 0] 50) := ⟨_, rfl⟩
  have hb1 : Below w.heap.size w W1 := by rw [hW1]; exact below_alloc (Below.refl _ _) _
  have bk1 : W1.heap[w.heap.size]? = some (.cells #[.int .u8 0, .int .u8 0, .int .u8 0, .int .u32 0, .slice none 0 0, .slice none 0 0] 50 (0, 0)) := by rw [hW1]; exact blk_new w _
  go_wp2_with fail
  rw [← hW1]
  simp only [adr1, adr2, adr3, show ∀ k : Nat, 0 < k → ad.add k = ⟨ad.block, ad.off + k, none⟩ from fun k hk => by unfold Addr.add; rw [if_neg (by omega)]] at q1 q2 q3
  have ad4 : ∀ k : Nat, 0 < k → ad.add k = ⟨ad.block, ad.off + k, none⟩ := fun k hk => by unfold Addr.add; rw [if_neg (by omega)]
  rw [ad4 4 (by decide)] at q4
  rw [ad4 5 (by decide)] at q5
  rw [ad4 6 (by decide)] at q6
  rw [ad4 7 (by decide)] at q7
  rw [ad4 8 (by decide)] at q8
  rw [ad4 9 (by decide)] at q9
  rw [ad4 10 (by decide)] at q10
  clear ad4 hW1
  replace q0 := cell_on hb1 q0
  replace q1 := cell_on hb1 q1
  replace q2 := cell_on hb1 q2
  replace q3 := cell_on hb1 q3
  replace q4 := cell_on hb1 q4
  replace q5 := cell_on hb1 q5
  replace q6 := cell_on hb1 q6
  replace q7 := cell_on hb1 q7
  replace q8 := cell_on hb1 q8
  replace q9 := cell_on hb1 q9
  replace q10 := cell_on hb1 q10
  have l0 : (0 : Int) < (l.length : Int) := by omega
  have l1 : (1 : Int) < (l.length : Int) := by omega
  have l2 : (2 : Int) < (l.length : Int) := by omega
  have l3 : (3 : Int) < (l.length : Int) := by omega
  have l4 : (4 : Int) < (l.length : Int) := by omega
  have l5 : (5 : Int) < (l.length : Int) := by omega
  have l6 : (6 : Int) < (l.length : Int) := by omega
  have l7 : (7 : Int) < (l.length : Int) := by omega
  have l8 : (8 : Int) < (l.length : Int) := by omega
  have l9 : (9 : Int) < (l.length : Int) := by omega
  have l10 : (10 : Int) < (l.length : Int) := by omega
  have HB1 := Aside0.mk hb1
  have HBK := Aside0.mk bk1
  clear hb1 bk1
  go_quiet (fail)
  obtain ⟨W2, hW2⟩ : ∃ W2, W2 = W1.drewN nq := ⟨_, rfl⟩
  have hb2 : Below W1.heap.size W1 W2 := by rw [hW2]; exact pw_below_drewN (Below.refl _ _) _
  rw [← hW2, ← hN]
  clear hW2
  replace q0 := cell_on hb2 q0
  replace q1 := cell_on hb2 q1
  replace q2 := cell_on hb2 q2
  replace q3 := cell_on hb2 q3
  replace q4 := cell_on hb2 q4
  replace q5 := cell_on hb2 q5
  replace q6 := cell_on hb2 q6
  clear q7 q8 q9 q10 v1 v2 v3 v4 v5 v6 v7 v8 v9 v10 hN
  have bk2 := blk_below HBK.out hb2
  have HB2 := Aside0.mk (below_step HB1.out hb2)
  clear hb2 HB1 HBK
  as_aux_lemma =>
   by_cases hle : (n : Int) ≤ (l.length : Int) - 11
   · have hle' : ¬ ((n : Int) > (l.length : Int) - 11) := by omega
     go_wp2_with fail
     have hd2 := below_drew (Below.refl W2.heap.size W2)
     have r0 := cell_on hd2 q0
     have r1 := cell_on hd2 q1
     have r2 := cell_on hd2 q2
     have hda : Below W2.heap.size W2 (W2.alloc (.cells #[.int .u8 0, .int .u8 0, .int .u8 0, .int .u32 0, .slice none 0 0, .slice none 0 0] 50)).drew := below_drew (below_alloc (Below.refl _ _) _)
     have ra0 := cell_on hda q0
     have ra1 := cell_on hda q1
     have ra2 := cell_on hda q2
     have n0 : 0 < l.length := by omega
     have n1 : 1 < l.length := by omega
     have n2 : 2 < l.length := by omega
     have had : ad.block < W2.heap.size := World.block_lt_of_cell? W2 _ q0
     go_region
     obtain ⟨W3, hW3⟩ : ∃ W3, W3 = (W2.alloc (.cells #[.int .u8 c0, .int .u8 c1, .int .u8 c2, .int .u32 0, .slice none 0 0, .slice none 0 0] 50)).drew := ⟨_, rfl⟩
     have hb3 : Below W2.heap.size W2 W3 := by rw [hW3]; exact below_drew (below_alloc (Below.refl _ _) _)
     have bm3 : W3.heap[W2.heap.size]? = some (.cells #[.int .u8 c0, .int .u8 c1, .int .u8 c2, .int .u32 0, .slice none 0 0, .slice none 0 0] 50 (0, 0)) := by rw [hW3]; exact blk_drew (blk_new W2 _)
     rw [← hW3]
     clear hW3 r0 r1 r2 q0 q1 q2 hd2 ra0 ra1 ra2 hda
     replace q3 := cell_on hb3 q3
     replace q4 := cell_on hb3 q4
     replace q5 := cell_on hb3 q5
     replace q6 := cell_on hb3 q6
     have bk3 := blk_below bk2 hb3
     have HB3 := Aside0.mk (below_step HB2.out hb3)
     have hg2 : w.heap.size < W2.heap.size := blk_lt bk2
     clear hb3 HB2 bk2
     have hd3 := below_drew (Below.refl W3.heap.size W3)
     have r3 := cell_on hd3 q3
     have r4 := cell_on hd3 q4
     have r5 := cell_on hd3 q5
     have r6 := cell_on hd3 q6
     have m3 := blk_cell bm3 3
     have mf3 := blk_frozen bm3 3
     have BM3 := Aside0.mk bm3
     have BK3 := Aside0.mk bk3
     clear bm3 bk3
     as_aux_lemma =>
      go_wp2_with fail
      go_region
      rw [← hG]
      obtain ⟨W4, hW4⟩ : ∃ W4, W4 = (W3.setCell ⟨W2.heap.size, 3, none⟩ (.int .u32 G)).drew := ⟨_, rfl⟩
      have hbm : w.heap.size ≤ W2.heap.size := by omega
      have hb4 : Below w.heap.size w W4 := by rw [hW4]; exact below_drew (HB3.out.setCell (p := ⟨W2.heap.size, 3, none⟩) hbm _)
      have bm4 : W4.heap[W2.heap.size]? = some (.cells #[.int .u8 c0, .int .u8 c1, .int .u8 c2, .int .u32 G, .slice none 0 0, .slice none 0 0] 50 (0, 0)) := by rw [hW4]; exact blk_drew (blk_put (cs' := #[.int .u8 c0, .int .u8 c1, .int .u8 c2, .int .u32 G, .slice none 0 0, .slice none 0 0]) BM3.out 3 _ rfl)
      have bk4 : W4.heap[w.heap.size]? = some (.cells #[.int .u8 0, .int .u8 0, .int .u8 0, .int .u32 0, .slice none 0 0, .slice none 0 0] 50 (0, 0)) := by rw [hW4]; exact blk_drew (blk_far BK3.out (show w.heap.size ≠ W2.heap.size by omega) _)
      rw [← hW4]
      have hlt4 : W2.heap.size < W4.heap.size := blk_lt bm4
      have BM4 := Aside0.mk bm4
      have BK4 := Aside0.mk bk4
      have HB4 := Aside0.mk hb4
      clear hW4 hb4 bm4 bk4 r3 r4 r5 r6 q3 q4 q5 q6 hd3 m3 mf3 BM3 BK3 HB3 hG
      as_aux_lemma =>
       obtain ⟨iu, hiu, hsz⟩ := rd_uint8
       have s11 := cut_mid (P := Tryz.prog) 67 5 Tryz.underlying67 hiu 1 hsz (some ad) l.length c (11 : Int) (11 + (n : Int)) (by omega) (by omega) (by omega) .i64 .i64
       have s12 := cut_from (P := Tryz.prog) 67 5 .i64 Tryz.underlying67 hiu 1 hsz (some ad) l.length c (11 + (n : Int)) (by omega) (by omega)
       have C11 := Kd.C_drop HC.out (m := 11) (by omega) hc
       have C12 := Kd.C_drop HC.out (m := 11 + n) (by omega) hc
       simp only [show (Kd.int .u8).sz = 1 from rfl, Nat.mul_one] at C11 C12
       simp only [show (11 : Int).toNat = 11 from rfl, show (11 + (n : Int)).toNat = 11 + n by omega, Nat.mul_one, Nat.add_sub_cancel_left] at s11 s12
       obtain ⟨A11, hA11⟩ : ∃ A11, A11 = if c = 11 then some ad else Option.map (fun x => x.add 11) (some ad) := ⟨_, rfl⟩
       obtain ⟨A12, hA12⟩ : ∃ A12, A12 = if c = 11 + n then some ad else Option.map (fun x => x.add (11 + n)) (some ad) := ⟨_, rfl⟩
       rw [← hA11] at s11 C11
       rw [← hA12] at s12 C12
       clear hA11 hA12
       have C11b := Kd.C_take C11 (m := n) (by rw [List.length_drop]; omega)
       obtain ⟨L4, hL4⟩ : ∃ L4, L4 = (l.drop 11).take n := ⟨_, rfl⟩
       obtain ⟨L5, hL5⟩ : ∃ L5, L5 = (l.drop 11).drop n := ⟨_, rfl⟩
       have hL5' : l.drop (11 + n) = L5 := by rw [hL5, List.drop_drop]
       rw [← hL4] at C11b
       rw [hL5'] at C12
       have hn4 : L4.length = n := by rw [hL4, List.length_take, List.length_drop]; omega
       have hn5 : L5.length = l.length - (11 + n) := by rw [hL5, List.length_drop, List.length_drop]; omega
       have hy4 : ∀ x ∈ L4, 0 ≤ x ∧ x < 256 := fun x hx => HBY.out x (List.mem_of_mem_drop (List.mem_of_mem_take (hL4 ▸ hx)))
       have hy5 : ∀ x ∈ L5, 0 ≤ x ∧ x < 256 := fun x hx => HBY.out x (List.mem_of_mem_drop (List.mem_of_mem_drop (hL5 ▸ hx)))
       have HNG := Aside0.mk hNG.out
       rw [← hL4, ← hL5] at HNG
       obtain ⟨o4, e4, hr4⟩ : ∃ o4 e4, getR opR opS putOps L4 = (o4, e4) := ⟨_, _, rfl⟩
       obtain ⟨o5, e5, hr5⟩ : ∃ o5 e5, getR resR resS putResults L5 = (o5, e5) := ⟨_, _, rfl⟩
       have CO := concordatref02_GetOps.calls A11 (c - 11) L4 W4 (Kd.C_below C11b HB4.out) (by omega) hy4
       have CR : ∀ W, Below w.heap.size w W → Calls Tryz.prog 56 #[.slice A12 (l.length - (11 + n)) (c - (11 + n))] W fun e w' => ∃ v0_ : Value, e = .returned (.tuple #[v0_, .int .i64 e5]) ∧ Kd.R k145 145 w' W.heap.size (fun _ => True) v0_ o5 ∧ Below W.heap.size W w' := fun W hb => by
         have h := concordatref02_GetResults.calls A12 (c - (11 + n)) L5 W (Kd.C_below C12 hb) (by omega) hy5
         rwa [hn5, hr5] at h
       rw [hn4, hr4] at CO
       rw [hr4, hr5] at HNG
       have G4 := gotOps hr4 hy4
       have G5 := gotResults hr5 hy5
       have HG5 := Aside0.mk (show ∀ x ∈ o5, x.f0.length < 65536 from fun x hx => by
         have h : ∀ x ∈ sevR resR resS (L5, false), x.f0.length < 65536 := sevN_all (p := fun x : S145 => x.f0.length < 65536) (fun _ h => h.res) (fun s hs => sevR_length rowR rowS s hs) _ _ (Bts.take (show Bts (L5, false) from hy5) 2)
         unfold getR at hr5
         repeat' split at hr5
         all_goals
           obtain ⟨rfl, rfl⟩ := Prod.mk.inj hr5
           first | exact h x hx | cases hx)
       have HCO := Aside0.mk CO
       have HCR := Aside0.mk CR
       have HG4 := Aside0.mk G4
       have HG5' := Aside0.mk G5
       clear C11 C11b C12 CO CR G4 G5 hy4 hy5 hr4 hr5 hL4 hL5 hL5' HBY HC hNG
       go_wp2_with fail
       refine HCO.out.mono ?_
       rintro e W5 ⟨v4, rfl, hO4, hb5⟩
       obtain ⟨A4, k4, rfl, hk4, _⟩ := Kd.R_reads hO4
       have hs45 := hb5.size
       have hlt5 : W2.heap.size < W5.heap.size := Nat.lt_of_lt_of_le hlt4 hb5.size
       have BM5 := Aside0.mk (blk_below BM4.out hb5)
       have BK5 := Aside0.mk (blk_below BK4.out hb5)
       have HB5 := Aside0.mk (below_step HB4.out hb5)
       have O5 := Aside0.mk (Kd.R_mono (Kd.R_bound hO4) (fun k (hk : True ∧ W4.heap.size ≤ k ∧ _) => (show W4.heap.size ≤ k from hk.2.1)))
       clear hO4 hb5 BM4 BK4 HB4 HCO
       go_wp2_with fail
       as_aux_lemma =>
        refine (HCR.out W5 HB5.out).mono ?_
        rintro e W6 ⟨v5, rfl, hO5, hb6⟩
        obtain ⟨A5, k5, rfl, hk5, _⟩ := Kd.R_reads hO5
        have bm6 := blk_below BM5.out hb6
        have m4 := blk_cell bm6 4
        have mf4 := blk_frozen bm6 4
        have m5 := blk_cell bm6 5
        have mf5 := blk_frozen bm6 5
        have hm6 := blk_lt bm6
        have BM6 := Aside0.mk bm6
        have BK6 := Aside0.mk (blk_below BK5.out hb6)
        have HB6 := Aside0.mk (below_step HB5.out hb6)
        have O6 := Aside0.mk (Kd.R_below O5.out hb6)
        have R6 := Aside0.mk (Kd.R_mono (Kd.R_bound hO5) (fun k (hk : True ∧ W5.heap.size ≤ k ∧ _) => (show W4.heap.size ≤ k by have := hk.2.1; omega)))
        clear hO5 hb6 BM5 BK5 HB5 HCR bm6 O5
        have m0 := blk_cell BM6.out 0
        have m1 := blk_cell BM6.out 1
        have m2 := blk_cell BM6.out 2
        have m3 := blk_cell BM6.out 3
        obtain ⟨W7, hW7⟩ : ∃ W7, W7 = (W6.setCell ⟨W2.heap.size, 4, none⟩ (.slice A4 o4.length k4)).setCell ⟨W2.heap.size, 5, none⟩ (.slice A5 o5.length k5) := ⟨_, rfl⟩
        have bm7 : W7.heap[W2.heap.size]? = some (.cells #[.int .u8 c0, .int .u8 c1, .int .u8 c2, .int .u32 G, .slice A4 o4.length k4, .slice A5 o5.length k5] 50 (0, 0)) := by
          rw [hW7]
          exact blk_put (cs' := #[.int .u8 c0, .int .u8 c1, .int .u8 c2, .int .u32 G, .slice A4 o4.length k4, .slice A5 o5.length k5]) (blk_put (cs' := #[.int .u8 c0, .int .u8 c1, .int .u8 c2, .int .u32 G, .slice A4 o4.length k4, .slice none 0 0]) BM6.out 4 _ rfl) 5 _ rfl
        have bk7 : W7.heap[w.heap.size]? = some (.cells #[.int .u8 0, .int .u8 0, .int .u8 0, .int .u32 0, .slice none 0 0, .slice none 0 0] 50 (0, 0)) := by
          rw [hW7]
          exact blk_far (blk_far BK6.out (show w.heap.size ≠ W2.heap.size by omega) _) (show w.heap.size ≠ W2.heap.size by omega) _
        have hb7 : Below w.heap.size w W7 := by
          rw [hW7]
          exact (HB6.out.setCell (p := ⟨W2.heap.size, 4, none⟩) hbm _).setCell (p := ⟨W2.heap.size, 5, none⟩) hbm _
        have O7 := Aside0.mk (Kd.R_far (p := ⟨W2.heap.size, 5, none⟩) (Kd.R_far (p := ⟨W2.heap.size, 4, none⟩) O6.out (fun k (hk : W4.heap.size ≤ k) => by show k ≠ W2.heap.size; omega) (.slice A4 o4.length k4)) (fun k (hk : W4.heap.size ≤ k) => by show k ≠ W2.heap.size; omega) (.slice A5 o5.length k5))
        have R7 := Aside0.mk (Kd.R_far (p := ⟨W2.heap.size, 5, none⟩) (Kd.R_far (p := ⟨W2.heap.size, 4, none⟩) R6.out (fun k (hk : W4.heap.size ≤ k) => by show k ≠ W2.heap.size; omega) (.slice A4 o4.length k4)) (fun k (hk : W4.heap.size ≤ k) => by show k ≠ W2.heap.size; omega) (.slice A5 o5.length k5))
        rw [← hW7] at O7 R7
        have BM7 := Aside0.mk bm7
        have BK7 := Aside0.mk bk7
        have HB7 := Aside0.mk hb7
        clear bm7 bk7 hb7 BM6 BK6 HB6 O6 R6
        go_upto_region 12 with fail
        rw [← hW7]
        clear hW7 m0 m1 m2 m3 m4 m5 mf4 mf5
        have hcnd : decide ((n : Int) ≤ (l.length : Int) - 11) = true := decide_eq_true hle
        as_aux_lemma =>
         rcases HG4.out with ⟨he4, ho4⟩ | ⟨he4, hl4, hp4, hq4⟩
         · subst he4 ho4
           as_aux_lemma =>
            have hfin : getP l = noMsg 4 := by
              rw [HNG.out]
              split <;> rfl
            have z0 := blk_cell BK7.out 0
            have y0 := blk_frozen BK7.out 0
            have z1 := blk_cell BK7.out 1
            have y1 := blk_frozen BK7.out 1
            have z2 := blk_cell BK7.out 2
            have y2 := blk_frozen BK7.out 2
            have z3 := blk_cell BK7.out 3
            have y3 := blk_frozen BK7.out 3
            have z4 := blk_cell BK7.out 4
            have y4 := blk_frozen BK7.out 4
            have z5 := blk_cell BK7.out 5
            have y5 := blk_frozen BK7.out 5
            go_wp2
            try simp only [Exit.inBlock, Exit.then]
            refine bodyPost_ret (results_ct rfl _ _ w.heap.size 50 #[.int .u8 0, .int .u8 0, .int .u8 0, .int .u32 0, .slice none 0 0, .slice none 0 0] (0, 0) _ rfl (put6 BK7.out _ _ _ _ _ _) hu rfl (by kernel_rfl)) rfl ?_
            try rw [hfin]
            exact gotQ_no w _ 4 (below6 HB7.out (Nat.le_refl _) _ _ _ _ _ _)
         · subst he4
           as_aux_lemma =>
            rcases HG5'.out with ⟨he5, ho5⟩ | ⟨he5, hl5, hp5, hq5, hr5⟩
            · subst he5 ho5
              as_aux_lemma =>
               have hfin : getP l = noMsg 4 := by
                 rw [HNG.out]
                 split <;> rfl
               have z0 := blk_cell BK7.out 0
               have y0 := blk_frozen BK7.out 0
               have z1 := blk_cell BK7.out 1
               have y1 := blk_frozen BK7.out 1
               have z2 := blk_cell BK7.out 2
               have y2 := blk_frozen BK7.out 2
               have z3 := blk_cell BK7.out 3
               have y3 := blk_frozen BK7.out 3
               have z4 := blk_cell BK7.out 4
               have y4 := blk_frozen BK7.out 4
               have z5 := blk_cell BK7.out 5
               have y5 := blk_frozen BK7.out 5
               go_wp2
               try simp only [Exit.inBlock, Exit.then]
               refine bodyPost_ret (results_ct rfl _ _ w.heap.size 50 #[.int .u8 0, .int .u8 0, .int .u8 0, .int .u32 0, .slice none 0 0, .slice none 0 0] (0, 0) _ rfl (put6 BK7.out _ _ _ _ _ _) hu rfl (by kernel_rfl)) rfl ?_
               try rw [hfin]
               exact gotQ_no w _ 4 (below6 HB7.out (Nat.le_refl _) _ _ _ _ _ _)
            · subst he5
              as_aux_lemma =>
               have hop : o4.all mayOp = true := by
                 rw [List.all_eq_true]
                 intro x hx
                 have h := (putList_ok opE_cases hp4).1 x hx
                 unfold opE at h
                 cases hm : mayOp x with
                 | true => rfl
                 | false => rw [hm] at h; simp at h
               have hrs : o5.all (fun r => mayRows r.f0) = true := by
                 rw [List.all_eq_true]
                 intro x hx
                 exact (result_ok x ((putList_ok resultE_cases hp5).1 x hx)).1
               have hmm : mayM c0 c1 c2 o4 o5 = mayH c0 c1 c2 := by
                 unfold mayM
                 rw [hop, hrs, Bool.and_true, Bool.and_true]
               have hkz : ∀ z ∈ o4, z.f1.size ≤ 140737488351232 ∧ z.f2.size ≤ 140737488351232 := fun z hz => by
                 have h := op_sizes z ((putList_ok opE_cases hp4).1 z hz)
                 omega
               have hky : ∀ z ∈ o5, z.f0.length ≤ 1000000000 ∧ ∀ r ∈ z.f0, r.f0.size ≤ 140737488351232 := fun z hz => by
                 have h1 := HG5.out z hz
                 have h2 := (result_ok z ((putList_ok resultE_cases hp5).1 z hz)).1
                 unfold mayRows at h2
                 rw [List.all_eq_true] at h2
                 exact ⟨by omega, fun r hr => by have := isKey_size _ (h2 r hr); omega⟩
               obtain ⟨kk, hkk⟩ := (ev_ref7Check c0 c1 c2 G o4 o5 (by omega) hkz (by omega) hky).rounds
               rw [hmm] at hkk
               have HKK := Aside0.mk hkk
               clear hop hrs hmm hkz hky hkk hp4 hq4 hp5 hq5 hr5
               have n0 := blk_cell BM7.out 0
               have n1 := blk_cell BM7.out 1
               have n2 := blk_cell BM7.out 2
               have n3 := blk_cell BM7.out 3
               have n4 := blk_cell BM7.out 4
               have n5 := blk_cell BM7.out 5
               go_wp2_with fail
               as_aux_lemma =>
                refine (concordatref07_Check.calls kk c0 c1 c2 G A4 k4 o4 A5 k5 o5 (mayH c0 c1 c2) _ (R_C O7.out) hk4 (R_C R7.out) hk5 HKK.out).mono ?_
                rintro e W8 ⟨rfl, hd⟩
                have hb8 := hd
                have bm8 := blk_below BM7.out hb8
                have bk8 := blk_below BK7.out hb8
                have HB8 := Aside0.mk (below_step HB7.out hb8)
                have O8 := Aside0.mk (Kd.R_below O7.out hb8)
                have R8 := Aside0.mk (Kd.R_below R7.out hb8)
                have z0 := blk_cell bk8 0
                have z1 := blk_cell bk8 1
                have z2 := blk_cell bk8 2
                have z3 := blk_cell bk8 3
                have z4 := blk_cell bk8 4
                have z5 := blk_cell bk8 5
                have y0 := blk_frozen bk8 0
                have y1 := blk_frozen bk8 1
                have y2 := blk_frozen bk8 2
                have y3 := blk_frozen bk8 3
                have y4 := blk_frozen bk8 4
                have y5 := blk_frozen bk8 5
                have t0 := blk_cell bm8 0
                have t1 := blk_cell bm8 1
                have t2 := blk_cell bm8 2
                have t3 := blk_cell bm8 3
                have t4 := blk_cell bm8 4
                have t5 := blk_cell bm8 5
                have BK8 := Aside0.mk bk8
                clear hd hb8 bm8 bk8 O7 R7 BM7 BK7 HB7 n0 n1 n2 n3 n4 n5
                as_aux_lemma =>
                 cases hmay : mayH c0 c1 c2 with
                 | true =>
                   as_aux_lemma =>
                    have hfin : getP l = (c0, c1, c2, G, o4, o5, 0) := by
                      rw [HNG.out, hmay, hcnd]
                      rfl
                    go_wp2
                    try simp only [Exit.inBlock, Exit.then]
                    refine bodyPost_ret (results_ct rfl _ _ w.heap.size 50 #[.int .u8 c0, .int .u8 c1, .int .u8 c2, .int .u32 G, .slice A4 o4.length k4, .slice A5 o5.length k5] (0, 0) _ rfl (put6 BK8.out _ _ _ _ _ _) hu rfl (by kernel_rfl)) rfl ?_
                    try rw [hfin]
                    exact ⟨A4, k4, A5, k5, rfl, ⟨hk4, R_C (Kd.R_far (p := ⟨w.heap.size, 5, none⟩) (Kd.R_far (p := ⟨w.heap.size, 4, none⟩) (Kd.R_far (p := ⟨w.heap.size, 3, none⟩) (Kd.R_far (p := ⟨w.heap.size, 2, none⟩) (Kd.R_far (p := ⟨w.heap.size, 1, none⟩) (Kd.R_far (p := ⟨w.heap.size, 0, none⟩) O8.out (fun k (hk : W4.heap.size ≤ k) => by show k ≠ w.heap.size; omega) _) (fun k (hk : W4.heap.size ≤ k) => by show k ≠ w.heap.size; omega) _) (fun k (hk : W4.heap.size ≤ k) => by show k ≠ w.heap.size; omega) _) (fun k (hk : W4.heap.size ≤ k) => by show k ≠ w.heap.size; omega) _) (fun k (hk : W4.heap.size ≤ k) => by show k ≠ w.heap.size; omega) _) (fun k (hk : W4.heap.size ≤ k) => by show k ≠ w.heap.size; omega) _)⟩, ⟨hk5, R_C (Kd.R_far (p := ⟨w.heap.size, 5, none⟩) (Kd.R_far (p := ⟨w.heap.size, 4, none⟩) (Kd.R_far (p := ⟨w.heap.size, 3, none⟩) (Kd.R_far (p := ⟨w.heap.size, 2, none⟩) (Kd.R_far (p := ⟨w.heap.size, 1, none⟩) (Kd.R_far (p := ⟨w.heap.size, 0, none⟩) R8.out (fun k (hk : W4.heap.size ≤ k) => by show k ≠ w.heap.size; omega) _) (fun k (hk : W4.heap.size ≤ k) => by show k ≠ w.heap.size; omega) _) (fun k (hk : W4.heap.size ≤ k) => by show k ≠ w.heap.size; omega) _) (fun k (hk : W4.heap.size ≤ k) => by show k ≠ w.heap.size; omega) _) (fun k (hk : W4.heap.size ≤ k) => by show k ≠ w.heap.size; omega) _) (fun k (hk : W4.heap.size ≤ k) => by show k ≠ w.heap.size; omega) _)⟩, below6 HB8.out (Nat.le_refl _) _ _ _ _ _ _⟩
                 | false =>
                   as_aux_lemma =>
                    have hfin : getP l = noMsg 4 := by
                      rw [HNG.out, hmay]
                      rfl
                    go_wp2
                    try simp only [Exit.inBlock, Exit.then]
                    refine bodyPost_ret (results_ct rfl _ _ w.heap.size 50 #[.int .u8 0, .int .u8 0, .int .u8 0, .int .u32 0, .slice none 0 0, .slice none 0 0] (0, 0) _ rfl (put6 BK8.out _ _ _ _ _ _) hu rfl (by kernel_rfl)) rfl ?_
                    try rw [hfin]
                    exact gotQ_no w _ 4 (below6 HB8.out (Nat.le_refl _) _ _ _ _ _ _)
   · have hgt : (n : Int) > (l.length : Int) - 11 := by omega
     as_aux_lemma =>
      have c0_ := blk_cell bk2 0
      have f0_ := blk_frozen bk2 0
      have f1_ := blk_frozen bk2 1
      have f2_ := blk_frozen bk2 2
      have f3_ := blk_frozen bk2 3
      have f4_ := blk_frozen bk2 4
      have f5_ := blk_frozen bk2 5
      have c1_ := blk_cell bk2 1
      have c2_ := blk_cell bk2 2
      have c3_ := blk_cell bk2 3
      have c4_ := blk_cell bk2 4
      have c5_ := blk_cell bk2 5
      have HBK2 := Aside0.mk bk2
      clear bk2
      go_wp2
      try simp only [Exit.inBlock, Exit.then]
      rw [hNG.out, decide_eq_false (by omega), Bool.and_false, if_neg (by decide)]
      refine bodyPost_ret (results_ct rfl _ _ w.heap.size 50 #[.int .u8 0, .int .u8 0, .int .u8 0, .int .u32 0, .slice none 0 0, .slice none 0 0] (0, 0) _ rfl (put6 HBK2.out _ _ _ _ _ _) hu rfl (by kernel_rfl)) rfl ?_
      exact gotQ_no w _ 4 (below6 HB2.out (Nat.le_refl _) _ _ _ _ _ _)
end Go.Proofs.YtcohodkpppmaoaaGreatDoor.Q
namespace Go.Proofs.YtcohodkpppmaoaaGreatDoor.Q
open Go.RowKit Go.Proofs.YtcohodkpppmaoaaGreatDoorW.PrintWords Go.Proofs.YtcohodkpppmaoaaGreatDoorW.PrintLast Go.Proofs.YtcohodkpppmaoaaGreatDoorW.PrintMore
set_option linter.unusedVariables false
theorem sameOps_self (l : List OpT) (hl : l.length ≤ 9223372036854775807) (d : Nat) : ∀ i : Nat, i ≤ l.length → l.length - i = d → Ev (fun k => concordatlaw01_SameOps.l0 k l l (i : Int)) true := by
  induction d with
  | zero =>
    intro i h0 h1
    refine Ev.step (f := fun _ => some true) (fun k => ?_) (Ev.now _)
    simp only [concordatlaw01_SameOps.l0]
    rw [if_neg (by omega)]
  | succ d ih =>
    intro i h0 h1
    refine Ev.step (f := fun k => concordatlaw01_SameOps.l0 k l l (wrap64 ((i : Int) + 1))) (fun k => ?_) ?_
    · simp only [concordatlaw01_SameOps.l0]
      rw [if_pos (by omega), if_pos (by omega), if_pos (by omega), if_neg (by simp)]
    · rw [wrap_id _ (by omega) (by omega)]
      exact ih (i + 1) (by omega) (by omega)
theorem ev_sameOps (l : List OpT) (hl : l.length ≤ 9223372036854775807) : Ev (fun k => concordatlaw01_SameOps.f k l l) true := by
  unfold concordatlaw01_SameOps.f
  simp only [if_true]
  exact sameOps_self l hl l.length 0 (by omega) (by omega)
theorem sameRows_self (l : List RowT) (hl : l.length ≤ 9223372036854775807) (d : Nat) : ∀ i : Nat, i ≤ l.length → l.length - i = d → Ev (fun k => concordatlaw01_SameRows.l0 k l l (i : Int)) true := by
  induction d with
  | zero =>
    intro i h0 h1
    refine Ev.step (f := fun _ => some true) (fun k => ?_) (Ev.now _)
    simp only [concordatlaw01_SameRows.l0]
    rw [if_neg (by omega)]
  | succ d ih =>
    intro i h0 h1
    refine Ev.step (f := fun k => concordatlaw01_SameRows.l0 k l l (wrap64 ((i : Int) + 1))) (fun k => ?_) ?_
    · simp only [concordatlaw01_SameRows.l0]
      rw [if_pos (by omega), if_pos (by omega), if_pos (by omega), if_neg (by simp)]
    · rw [wrap_id _ (by omega) (by omega)]
      exact ih (i + 1) (by omega) (by omega)
theorem ev_sameResult (l : List RowT) (hl : l.length ≤ 9223372036854775807) : Ev (fun k => concordatlaw01_SameResult.f k l l) true := by
  unfold concordatlaw01_SameResult.f
  refine Ev.bind (a := true) ?_ (Ev.now _)
  unfold concordatlaw01_SameRows.f
  simp only [if_true]
  exact sameRows_self l hl l.length 0 (by omega) (by omega)
theorem sameResults_self (l : List ResultT) (hl : l.length ≤ 9223372036854775807) (hr : ∀ x ∈ l, x.f0.length ≤ 9223372036854775807) (d : Nat) : ∀ i : Nat, i ≤ l.length → l.length - i = d → Ev (fun k => concordatlaw01_SameResults.l0 k l l (i : Int)) true := by
  induction d with
  | zero =>
    intro i h0 h1
    refine Ev.step (f := fun _ => some true) (fun k => ?_) (Ev.now _)
    simp only [concordatlaw01_SameResults.l0]
    rw [if_neg (by omega)]
  | succ d ih =>
    intro i h0 h1
    refine Ev.step (f := fun k => (concordatlaw01_SameResult.f k (rd_T145 l i).f0 (rd_T145 l i).f0).bind fun t => (if t = true then (concordatlaw01_SameResults.l0 k l l (wrap64 ((i : Int) + 1))) else (some false))) (fun k => ?_) ?_
    · simp only [concordatlaw01_SameResults.l0]
      rw [if_pos (by omega), if_pos (by omega), if_pos (by omega)]
    · have hi : i < l.length := by omega
      have hm : rd_T145 l i ∈ l := by
        unfold rd_T145
        rw [Int.toNat_natCast, List.getD_eq_getElem?_getD, List.getElem?_eq_getElem hi]
        exact List.getElem_mem _
      refine Ev.bind (ev_sameResult _ (hr _ hm)) ?_
      simp only [if_true]
      rw [wrap_id _ (by omega) (by omega)]
      exact ih (i + 1) (by omega) (by omega)
theorem ev_sameResults (l : List ResultT) (hl : l.length ≤ 9223372036854775807) (hr : ∀ x ∈ l, x.f0.length ≤ 9223372036854775807) : Ev (fun k => concordatlaw01_SameResults.f k l l) true := by
  unfold concordatlaw01_SameResults.f
  simp only [if_true]
  exact sameResults_self l hl hr l.length 0 (by omega) (by omega)
def many : Nat := 140737488351232
theorem ev_sameMsg (m : S50) (h4 : m.f4.length ≤ 9223372036854775807) (h5 : m.f5.length ≤ 9223372036854775807) (hr : ∀ x ∈ m.f5, x.f0.length ≤ 9223372036854775807) :
    Ev (fun k => concordatlaw01_SameMsg.f k m.f0 m.f1 m.f2 m.f3 m.f4 m.f5 m.f0 m.f1 m.f2 m.f3 m.f4 m.f5) true := by
  unfold concordatlaw01_SameMsg.f
  simp only [if_true]
  refine Ev.bind (ev_sameOps m.f4 h4) ?_
  simp only [if_true]
  exact Ev.bind (ev_sameResults m.f5 h5 hr) (Ev.now _)
end Go.Proofs.YtcohodkpppmaoaaGreatDoor.Q
namespace Go.Proofs.YtcohodkpppmaoaaGreatDoor.Q
open Go.RowKit Go.Proofs.YtcohodkpppmaoaaGreatDoorW.PrintWords Go.Proofs.YtcohodkpppmaoaaGreatDoorW.PrintLast Go.Proofs.YtcohodkpppmaoaaGreatDoorW.PrintMore
set_option linter.unusedVariables false
theorem infoTwBytes : (Tryz.prog.info? 5).map (fun i => (i.zero, i.size, i.bytes)) = some (some (.int .u8 0), 1, 1) := by kernel_rfl
theorem readBytes (l : List Int) (k : Nat) (hk : k < l.length) : l.take (k + 1) = l.take k ++ [rd l (k : Int)] := by
  rw [List.take_succ_eq_append_getElem hk]
  simp [rd, hk]
set_option maxHeartbeats 3200000 in
set_option maxRecDepth 100000 in
theorem twinBytes_calls (w : World) (A0 : Option Addr) (c0 : Nat) (l : List Int) (hr : Kd.C (Kd.int .u8) w A0 l.length l) (hc0 : l.length ≤ c0) (hl : l.length ≤ 1000000000) :
    Calls Tryz.prog 29 #[.slice A0 l.length c0] w fun e w' => ∃ v, e = .returned v ∧ ∃ F, Twin fdByte 5 w' F v l 77 ∧ F.Nodup ∧ (∀ b ∈ F, w.heap.size ≤ b) ∧ Below w.heap.size w w' := by
  obtain ⟨MC, hMS, HMK⟩ : ∃ MC : Array Value, MC.size = (l.length + 1) * 1 ∧ ∀ W : World, (Instr.makeSlice 67 (.int .i64 0) (.int .i64 ((l.length : Int) + 1))).run Tryz.prog W = .ok (.slice (some ⟨W.heap.size, 0, none⟩) 0 (l.length + 1)) (W.alloc (.cells MC 5)) := ⟨madeCells ((.int .u8 0) : Value).cells ((l.length + 1) * 1), madeCells_size _ _, fun W => by
    have h := run_make0 (P := Tryz.prog) 67 5 (.int .u8 0) 1 1 Tryz.underlying67 infoTwBytes (by decide) (l.length + 1) (by omega) W
    rwa [show ((l.length + 1 : Nat) : Int) = (l.length : Int) + 1 by omega] at h⟩
  have hw1 : IntKind.i64.wrap ((l.length : Int) + 1) = (l.length : Int) + 1 := IntWalk.i64_in _ (by omega)
  have HC := Aside0.mk hr
  have hul := Tryz.underlying5
  clear hr
  go_enter Tryz.func29, Tryz.ntmps29
  go_wp2
  obtain ⟨wo, hwo⟩ : ∃ wo, wo = w.alloc (.cells MC 5) := ⟨_, rfl⟩
  have HB0 := Aside0.mk (show Below w.heap.size w wo by rw [hwo]; exact below_alloc (Below.refl _ _) _)
  have HR0 := Aside0.mk (show Fd.Row fdByte 5 wo [w.heap.size] (.slice (some ⟨w.heap.size, 0, none⟩) 0 (l.length + 1)) [] by
    rw [hwo]; exact made0_row fdByte 5 w _ (l.length + 1) (by omega) hMS)
  rw [← hwo]
  clear hwo HMK
  go_loopw [3, 4] (fun v i wr => ∃ (k : Nat) (F : List Nat), k ≤ l.length ∧ i = .int .i64 k ∧ Aside0 (Fd.Row fdByte 5 wr F v (l.take k)) ∧ Aside0 F.Nodup ∧ Aside0 (∀ b ∈ F, w.heap.size ≤ b) ∧ Aside0 (Below w.heap.size w wr)) (fun _ i _ => l.length - (intOf i).toNat)
  case atStart => exact ⟨0, [w.heap.size], Nat.zero_le _, rfl, HR0, ⟨by simp⟩, ⟨by simp⟩, HB0⟩
  case round =>
    clear HR0 HB0
    obtain ⟨wq, hwq⟩ : ∃ wq, wq = wr := ⟨_, rfl⟩
    subst hwq
    obtain ⟨k, F, hk, rfl, HR, HN, HF, HB⟩ := hrel
    obtain ⟨Av, cv, ev, hcv, _⟩ := Fd.row_reads HR.out
    rw [List.length_take, Nat.min_eq_left hk] at ev hcv
    subst ev
    have hsz : w.heap.size ≤ wq.heap.size := HB.out.size
    by_cases hlt : k < l.length
    · have hlt' : (k : Int) < (l.length : Int) := by omega
      have hk0 : (0 : Int) ≤ (k : Int) := by omega
      obtain ⟨ad, e1, hx0⟩ := Kd.at_int (Kd.C_below HC.out HB.out) (k : Int) hk0 hlt'
      subst e1
      simp only [Int.toNat_natCast] at hx0
      have HTK := Aside0.mk (readBytes l k hlt)
      generalize rd l (k : Int) = x at *
      have HM := Aside0.mk (show fdByte.M wq [] x [.int .u8 x] from ⟨rfl, rfl⟩)
      go_wp2_with (first | (at_builtin; (refine Fd.R_append (W := wq) fdByte rfl (.tmp 15) (.tmp 20) 67 5 (.int .u8 0) 1 rfl Tryz.underlying67 infoTwBytes rfl (show 0 < 1 from by decide) (by decide) (.slice Av k cv) (l.take k) x [.int .u8 x] F [] rfl rfl HM.out HR.out (by rw [List.append_nil]; exact HN.out) (by rw [List.length_take]; omega) ?_); intro v1 w6 F6 h1 h2 h3 h4; have R6 := Aside0.mk h1; have N6 := Aside0.mk h2; have K6 := Aside0.mk h3; have L6 := Aside0.mk h4; clear h1 h2 h3 h4))
      go_roundw
      case rel =>
        refine ⟨k + 1, F6, by omega, by go_num, ⟨by rw [HTK.out]; exact R6.out⟩, N6, ⟨fun b hb => ?_⟩, ⟨HB.out.trans (K6.out.below HF.out hsz)⟩⟩
        rcases L6.out b hb with h | h | h
        · exact HF.out b h
        · cases h
        · omega
      case measure => simp [intOf]; omega
    · obtain rfl : k = l.length := by omega
      have hlt' : ¬ ((l.length : Int) < (l.length : Int)) := by omega
      have etk : l.take l.length = l := List.take_of_length_le (Nat.le_refl _)
      rw [etk] at HR
      have HM := Aside0.mk (show fdByte.M wq [] 77 [.int .u8 77] from ⟨rfl, rfl⟩)
      unfold spareKey at HM
      have HU := Aside0.mk infoTwBytes
      go_wp2_with (first | (at_builtin; (refine Fd.R_append (W := wq) fdByte rfl (.tmp 22) (.tmp 23) 67 5 (.int .u8 0) 1 rfl Tryz.underlying67 infoTwBytes rfl (show 0 < 1 from by decide) (by decide) (.slice Av l.length cv) l 77 [.int .u8 77] F [] rfl rfl HM.out HR.out (by rw [List.append_nil]; exact HN.out) (by omega) ?_); intro v1 w6 F6 h1 h2 h3 h4; obtain ⟨A2, c2, ev2, hc2, _⟩ := Fd.row_reads h1; rw [List.length_append, List.length_singleton] at ev2 hc2; subst ev2; have hcut := cut_up (P := Tryz.prog) 67 5 .i64 Tryz.underlying67 HU.out A2 (l.length + 1) c2 (l.length : Int) (by omega) (by omega); rw [Int.toNat_natCast] at hcut; have R6 := Aside0.mk h1; have N6 := Aside0.mk h2; have K6 := Aside0.mk h3; have L6 := Aside0.mk h4; clear h1 h2 h3 h4))
      go_ret
      refine ⟨_, rfl, F6, ⟨A2, c2, rfl, hc2, R6.out⟩, N6.out, fun b hb => ?_, HB.out.trans (K6.out.below HF.out hsz)⟩
      rcases L6.out b hb with h | h | h
      · exact HF.out b h
      · cases h
      · omega
theorem readLBytes (l : List Int) (k : Nat) (hk : k < l.length) : rd (l ++ [77]) (k : Int) = rd l (k : Int) := by
  simp [rd, List.getElem?_append_left hk]
theorem readSBytes (l : List Int) : rd (l ++ [77]) (l.length : Int) = 77 := by
  simp [rd]
set_option maxHeartbeats 3200000 in
set_option maxRecDepth 100000 in
theorem leftBytes_calls (w : World) (At : Option Addr) (ct : Nat) (A0 : Option Addr) (c0 : Nat) (l : List Int) (ht : Kd.C (Kd.int .u8) w At (l.length + 1) (l ++ [77])) (hct : l.length + 1 ≤ ct) (hr : Kd.C (Kd.int .u8) w A0 l.length l) (hc0 : l.length ≤ c0) (hl : l.length ≤ 1000000000) :
    Calls Tryz.prog 37 #[.slice At l.length ct, .slice A0 l.length c0] w fun e w' => e = .returned (.bool true) ∧ Below w.heap.size w w' := by
  have hw1 : IntKind.i64.wrap ((l.length : Int) + 1) = (l.length : Int) + 1 := IntWalk.i64_in _ (by omega)
  have hcap : ¬ ((ct : Int) ≤ (l.length : Int)) := by omega
  have hcut := cut_up (P := Tryz.prog) 67 5 .i64 Tryz.underlying67 infoTwBytes At l.length ct ((l.length : Int) + 1) (by omega) (by omega)
  rw [show ((l.length : Int) + 1).toNat = l.length + 1 by omega] at hcut
  have hul := Tryz.underlying5
  have HT := Aside0.mk ht
  have HC := Aside0.mk hr
  clear ht hr
  go_enter Tryz.func37, Tryz.ntmps37
  go_wp2
  go_loopw [5] (fun i wr => ∃ (k : Nat), k ≤ l.length ∧ i = .int .i64 k ∧ ∃ m, wr = w.drewN m) (fun i _ => l.length - (intOf i).toNat)
  case atStart => exact ⟨0, Nat.zero_le _, rfl, 0, rfl⟩
  case round =>
    obtain ⟨k, hk, rfl, m, rfl⟩ := hrel
    have hb := pw_below_drewN (Below.refl w.heap.size w) m
    by_cases hlt : k < l.length
    · have hlt' : (k : Int) < (l.length : Int) := by omega
      have hk0 : (0 : Int) ≤ (k : Int) := by omega
      obtain ⟨ad, e1, hx0⟩ := Kd.at_int HC.out (k : Int) hk0 hlt'
      subst e1
      obtain ⟨at_, e1, hy0⟩ := Kd.at_int HT.out (k : Int) hk0 (by omega)
      subst e1
      simp only [Int.toNat_natCast] at hx0 hy0
      simp only [readLBytes l k hlt] at hy0
      generalize rd l (k : Int) = x at *
      go_wp2
      repeat (go_quiet (fail); try go_wp2)
      go_roundw
      case rel => exact ⟨k + 1, by omega, by go_num, _, rfl⟩
      case measure => simp [intOf]; omega
    · obtain rfl : k = l.length := by omega
      have hlt' : ¬ ((l.length : Int) < (l.length : Int)) := by omega
      obtain ⟨at_, e1, hy0⟩ := Kd.at_int HT.out (l.length : Int) (by omega) (by omega)
      subst e1
      simp only [Int.toNat_natCast] at hy0
      simp only [readSBytes l] at hy0
      try simp only [spareKey] at hy0
      replace hy0 := cell_on hb hy0
      generalize w.drewN m = W at *
      have HB := Aside0.mk hb
      clear hb
      go_wp2
      repeat (go_quiet (fail); try go_wp2)
      go_ret
      exact ⟨rfl, HB.out⟩
end Go.Proofs.YtcohodkpppmaoaaGreatDoor.Q
namespace Go.Proofs.YtcohodkpppmaoaaGreatDoor.Q
open Go.RowKit Go.Proofs.YtcohodkpppmaoaaGreatDoorW.PrintWords Go.Proofs.YtcohodkpppmaoaaGreatDoorW.PrintLast Go.Proofs.YtcohodkpppmaoaaGreatDoorW.PrintMore
set_option linter.unusedVariables false
theorem concordatref07_Get.calls (A : Option Addr) (c : Nat) (l : List Int) (w : World) (hC : Kd.C (Kd.int .u8) w A l.length l) (hc : l.length ≤ c) (hby : ∀ x ∈ l, 0 ≤ x ∧ x < 256) :
    Calls Tryz.prog 61 #[.slice A l.length c] w (GotQ w (getP l)) := by
  by_cases h : l.length < 11
  · rw [show getP l = noMsg 4 from if_pos h]
    exact refGet_short A c l w h
  · exact refGet_long A c l w hC hc hby (by omega)
theorem row_C {w : World} {F : List Nat} {A : Option Addr} {n c : Nat} {xs : List ResT'} (h : Fd.Row fdResult 145 w F (.slice A n c) xs) : k145.C w A xs.length xs := by
  obtain ⟨A', c', ev, _, hC⟩ := Fd.row_reads h
  injection ev with e1 _ _
  subst e1
  exact hC
theorem blk6c {w : World} {g t : Nat} {a b c d x y : Value} (h : w.heap[g]? = some (.cells #[a, b, c, d, x, y] t (0, 0))) : w.cell? ⟨g, 0, none⟩ = some a ∧ w.cell? ⟨g, 1, none⟩ = some b ∧ w.cell? ⟨g, 2, none⟩ = some c ∧ w.cell? ⟨g, 3, none⟩ = some d ∧ w.cell? ⟨g, 4, none⟩ = some x ∧ w.cell? ⟨g, 5, none⟩ = some y :=
  ⟨blk_cell h 0, blk_cell h 1, blk_cell h 2, blk_cell h 3, blk_cell h 4, blk_cell h 5⟩
set_option maxHeartbeats 6400000 in
set_option maxRecDepth 100000 in
theorem PacketsGet_calls (w : World) (A1 : Option Addr) (c1 : Nat) (b : List Int) (h1 : Kd.C (Kd.int .u8) w A1 b.length b) (hc1 : b.length ≤ c1) (hb : ∀ x ∈ b, 0 ≤ x ∧ x < 256) (hT : TabOk w) :
    Calls Tryz.prog 7 #[.slice A1 b.length c1] w fun e w' => e = .returned (.bool true) ∧ Below w.heap.size w w' := by
  by_cases g1 : (100000 : Int) < (b.length : Int)
  · go_enter Tryz.func7, Tryz.ntmps7
    go_wp2
    go_ret
    exact ⟨rfl, Below.refl _ _⟩
  have H1 := Aside0.mk h1
  have HBY := Aside0.mk hb
  have HT := Aside0.mk hT
  have hsm := getP_small b hb
  obtain ⟨r, hr⟩ : ∃ r, getP b = r := ⟨_, rfl⟩
  obtain ⟨r1, r2, r3, r4, r5, r6, r7⟩ := r
  rw [hr] at hsm
  obtain ⟨sm4, sm5, sm6⟩ := hsm
  dsimp only at sm4 sm5 sm6
  obtain ⟨ks, hks⟩ := (ev_sameMsg ⟨r1, r2, r3, r4, r5, r6⟩ (show r5.length ≤ _ by omega) (show r6.length ≤ _ by omega) (fun x hx => by have := sm6 x hx; omega)).rounds
  have HKS := Aside0.mk (show concordatlaw01_SameMsg.f ks r1 r2 r3 r4 r5 r6 r1 r2 r3 r4 r5 r6 = some true from hks)
  have HR := Aside0.mk hr
  have SM6 := Aside0.mk sm6
  clear h1 hb hT hr hks sm6
  go_enter Tryz.func7, Tryz.ntmps7
  go_wp2_with fail
  refine (twinBytes_calls w A1 c1 b H1.out hc1 (by omega)).mono ?_
  rintro e w1 ⟨vc, rfl, Fc, hm, hmn, hmf, hb1⟩
  obtain ⟨Ac, cc, ec, hcc, _, _⟩ := hm.reads
  subst ec
  have Cw1 := Aside0.mk hm
  have FC := Aside0.mk hmf
  have LC := Aside0.mk hm.lt
  have D1 := Aside0.mk hb1
  have s1 := hb1.size
  clear hm hmn hmf hb1
  go_wp2_with fail
  refine (packets_Get.calls2 Ac cc b r1 r2 r3 r4 r5 r6 r7 w1 (Cw1.out.c.1) (by omega) (by unfold packets_Get.f; rw [if_pos HBY.out, HR.out])).mono ?_
  rintro e w2 ⟨v4, v5, H, rfl, hO4, hO5, hb⟩
  obtain ⟨A14, k14, rfl, hk14, _⟩ := Kd.R_reads hO4
  obtain ⟨A15, k15, rfl, hk15, _⟩ := Kd.S_reads hO5
  obtain ⟨F15, hf1, hf2, hf3⟩ := S_result2 hO5
  have P14 := Aside0.mk hO4
  have P15 := Aside0.mk hf1
  have N15 := Aside0.mk hf2
  have G14 := Aside0.mk (show ∀ b ∈ (Value.slice A14 r5.length k14).ownBlock.toList, (w1.heap.size ≤ b ∧ b < w2.heap.size) ∧ b < H from fun b hb => ⟨⟨Kd.R_base hO4 b (by simpa using hb), Kd.R_lt hO4 b (by simpa using hb)⟩, hO4.1 b (by simpa using hb)⟩)
  have G15 := Aside0.mk (show ∀ b ∈ F15, (w1.heap.size ≤ b ∧ b < w2.heap.size) ∧ H ≤ b from fun b hb => ⟨⟨(hf3 b hb).1, Fd.row_lt hf1 b hb⟩, (hf3 b hb).2⟩)
  have ND1 := Aside0.mk (show ((Value.slice A14 r5.length k14).ownBlock.toList ++ F15).Nodup from List.nodup_append.2 ⟨by cases (Value.slice A14 r5.length k14).ownBlock <;> simp, hf2, fun x hx y hy e => by have h1 := G14.out x hx; have h2 := G15.out y hy; omega⟩)
  have RG1 := Aside0.mk (show ∀ b ∈ (Value.slice A14 r5.length k14).ownBlock.toList ++ F15, w1.heap.size ≤ b ∧ b < w2.heap.size from fun b hb => by
    rcases List.mem_append.1 hb with h | h
    · exact (G14.out b h).1
    · exact (G15.out b h).1)
  have ha := below_alloc (Below.refl w2.heap.size w2) (.cells #[.int .u8 r1, .int .u8 r2, .int .u8 r3, .int .u32 r4, .slice A14 r5.length k14, .slice A15 r6.length k15] 50)
  obtain ⟨w3, hw3⟩ : ∃ w3, w3 = w2.alloc (.cells #[.int .u8 r1, .int .u8 r2, .int .u8 r3, .int .u32 r4, .slice A14 r5.length k14, .slice A15 r6.length k15] 50) := ⟨_, rfl⟩
  have hx1 : w3.heap[w2.heap.size]? = some (.cells #[.int .u8 r1, .int .u8 r2, .int .u8 r3, .int .u32 r4, .slice A14 r5.length k14, .slice A15 r6.length k15] 50 (0, 0)) := by rw [hw3]; exact blk_new w2 _
  rw [← hw3] at ha
  have hb13 := below_step hb ha
  have Cw3 := Aside0.mk (Cw1.out.below hb13)
  have Q14 := Aside0.mk (Kd.R_below P14.out ha)
  have Q15 := Aside0.mk (Fd.row_below P15.out ha)
  have D3 := Aside0.mk (below_step D1.out hb13)
  have X1 := Aside0.mk hx1
  have s2 := hb.size
  have s3 : w2.heap.size < w3.heap.size := blk_lt hx1
  clear hO4 hO5 hf1 hf2 hf3 hb ha hb13 hx1 P14 P15 Cw1 G14 G15 N15
  go_wp2_with fail
  rw [← hw3]
  clear hw3
  refine (packets_Get.calls2 Ac cc b r1 r2 r3 r4 r5 r6 r7 w3 (Cw3.out.c.1) (by omega) (by unfold packets_Get.f; rw [if_pos HBY.out, HR.out])).mono ?_
  rintro e w4 ⟨v4, v5, H, rfl, hO4, hO5, hb⟩
  obtain ⟨A24, k24, rfl, hk24, _⟩ := Kd.R_reads hO4
  obtain ⟨A25, k25, rfl, hk25, _⟩ := Kd.S_reads hO5
  obtain ⟨F25, hf1, hf2, hf3⟩ := S_result2 hO5
  have P24 := Aside0.mk hO4
  have P25 := Aside0.mk hf1
  have N25 := Aside0.mk hf2
  have G24 := Aside0.mk (show ∀ b ∈ (Value.slice A24 r5.length k24).ownBlock.toList, (w3.heap.size ≤ b ∧ b < w4.heap.size) ∧ b < H from fun b hb => ⟨⟨Kd.R_base hO4 b (by simpa using hb), Kd.R_lt hO4 b (by simpa using hb)⟩, hO4.1 b (by simpa using hb)⟩)
  have G25 := Aside0.mk (show ∀ b ∈ F25, (w3.heap.size ≤ b ∧ b < w4.heap.size) ∧ H ≤ b from fun b hb => ⟨⟨(hf3 b hb).1, Fd.row_lt hf1 b hb⟩, (hf3 b hb).2⟩)
  have ND2 := Aside0.mk (show ((Value.slice A24 r5.length k24).ownBlock.toList ++ F25).Nodup from List.nodup_append.2 ⟨by cases (Value.slice A24 r5.length k24).ownBlock <;> simp, hf2, fun x hx y hy e => by have h1 := G24.out x hx; have h2 := G25.out y hy; omega⟩)
  have RG2 := Aside0.mk (show ∀ b ∈ (Value.slice A24 r5.length k24).ownBlock.toList ++ F25, w3.heap.size ≤ b ∧ b < w4.heap.size from fun b hb => by
    rcases List.mem_append.1 hb with h | h
    · exact (G24.out b h).1
    · exact (G25.out b h).1)
  have ha := below_alloc (Below.refl w4.heap.size w4) (.cells #[.int .u8 r1, .int .u8 r2, .int .u8 r3, .int .u32 r4, .slice A24 r5.length k24, .slice A25 r6.length k25] 50)
  obtain ⟨w5, hw5⟩ : ∃ w5, w5 = w4.alloc (.cells #[.int .u8 r1, .int .u8 r2, .int .u8 r3, .int .u32 r4, .slice A24 r5.length k24, .slice A25 r6.length k25] 50) := ⟨_, rfl⟩
  have hx2 : w5.heap[w4.heap.size]? = some (.cells #[.int .u8 r1, .int .u8 r2, .int .u8 r3, .int .u32 r4, .slice A24 r5.length k24, .slice A25 r6.length k25] 50 (0, 0)) := by rw [hw5]; exact blk_new w4 _
  rw [← hw5] at ha
  have hb35 := below_step hb ha
  have Cw5 := Aside0.mk (Cw3.out.below hb35)
  have R14 := Aside0.mk (Kd.R_below Q14.out hb35)
  have R15 := Aside0.mk (Fd.row_below Q15.out hb35)
  have Q24 := Aside0.mk (Kd.R_below P24.out ha)
  have Q25 := Aside0.mk (Fd.row_below P25.out ha)
  have D5 := Aside0.mk (below_step D3.out hb35)
  have Y1 := Aside0.mk (blk_below X1.out hb35)
  have X2 := Aside0.mk hx2
  have s4 := hb.size
  have s5 : w4.heap.size < w5.heap.size := blk_lt hx2
  clear hO4 hO5 hf1 hf2 hf3 hb ha hb35 hx2 P24 P25 Q14 Q15 Cw3 X1 D3 G24 G25 N25
  go_wp2_with fail
  rw [← hw5]
  clear hw5
  refine (concordatref07_Get.calls A1 c1 b w5 (Kd.C_below H1.out D5.out) hc1 HBY.out).mono ?_
  rw [HR.out]
  rintro e w6 ⟨A34, k34, A35, k35, rfl, ⟨hk34, h34⟩, ⟨hk35, h35⟩, hb⟩
  dsimp only at hk34 h34 hk35 h35 ⊢
  have ha := below_alloc (Below.refl w6.heap.size w6) (.cells #[.int .u8 r1, .int .u8 r2, .int .u8 r3, .int .u32 r4, .slice A34 r5.length k34, .slice A35 r6.length k35] 50)
  obtain ⟨w7, hw7⟩ : ∃ w7, w7 = w6.alloc (.cells #[.int .u8 r1, .int .u8 r2, .int .u8 r3, .int .u32 r4, .slice A34 r5.length k34, .slice A35 r6.length k35] 50) := ⟨_, rfl⟩
  have hx3 : w7.heap[w6.heap.size]? = some (.cells #[.int .u8 r1, .int .u8 r2, .int .u8 r3, .int .u32 r4, .slice A34 r5.length k34, .slice A35 r6.length k35] 50 (0, 0)) := by rw [hw7]; exact blk_new w6 _
  rw [← hw7] at ha
  have hb57 := below_step hb ha
  have Cw7 := Aside0.mk (Cw5.out.below hb57)
  have S14 := Aside0.mk (Kd.R_below R14.out hb57)
  have S15 := Aside0.mk (Fd.row_below R15.out hb57)
  have S24 := Aside0.mk (Kd.R_below Q24.out hb57)
  have S25 := Aside0.mk (Fd.row_below Q25.out hb57)
  have S34 := Aside0.mk (Kd.C_below h34 ha)
  have S35 := Aside0.mk (Kd.C_below h35 ha)
  have D7 := Aside0.mk (below_step D5.out hb57)
  have Z1 := Aside0.mk (blk_below Y1.out hb57)
  have Z2 := Aside0.mk (blk_below X2.out hb57)
  have Z3 := Aside0.mk hx3
  have s6 := hb.size
  have s7 : w6.heap.size < w7.heap.size := blk_lt hx3
  obtain ⟨a0, a1, a2, a3, a4, a5⟩ := blk6c (blk_below Y1.out hb)
  have hz : w2.heap.size < w6.heap.size := by omega
  clear h34 h35 hb ha hb57 hx3 R14 R15 Q24 Q25 Cw5 Y1 X2 D5
  go_wp2_with fail
  rw [← hw7]
  clear hw7 hz
  refine (concordatlaw01_SameMsg.calls ks r1 r2 r3 r4 A14 k14 r5 A15 k15 r6 r1 r2 r3 r4 A34 k34 r5 A35 k35 r6 true w7 (R_C S14.out) hk14 (row_C S15.out) hk15 S34.out hk34 S35.out hk35 HKS.out).mono ?_
  rintro e w8 ⟨rfl, hb⟩
  have s8 := hb.size
  have Cw8 := Aside0.mk (Cw7.out.below hb)
  have T14 := Aside0.mk (Kd.R_below S14.out hb)
  have T15 := Aside0.mk (Fd.row_below S15.out hb)
  have T24 := Aside0.mk (Kd.R_below S24.out hb)
  have T25 := Aside0.mk (Fd.row_below S25.out hb)
  have T34 := Aside0.mk (Kd.C_below S34.out hb)
  have T35 := Aside0.mk (Kd.C_below S35.out hb)
  have D8 := Aside0.mk (below_step D7.out hb)
  have Y1 := Aside0.mk (blk_below Z1.out hb)
  have Y2 := Aside0.mk (blk_below Z2.out hb)
  have Y3 := Aside0.mk (blk_below Z3.out hb)
  clear a0 a1 a2 a3 a4 a5
  obtain ⟨a0, a1, a2, a3, a4, a5⟩ := blk6c Y2.out
  obtain ⟨d0, d1, d2, d3, d4, d5⟩ := blk6c Y3.out
  clear hb Cw7 S14 S15 S24 S25 S34 S35 D7 Z1 Z2 Z3
  go_wp2_with fail
  refine (concordatlaw01_SameMsg.calls ks r1 r2 r3 r4 A24 k24 r5 A25 k25 r6 r1 r2 r3 r4 A34 k34 r5 A35 k35 r6 true w8 (R_C T24.out) hk24 (row_C T25.out) hk25 T34.out hk34 T35.out hk35 HKS.out).mono ?_
  rintro e w9 ⟨rfl, hb⟩
  have s9 := hb.size
  have Cw9 := Aside0.mk (Cw8.out.below hb)
  have U14 := Aside0.mk (Kd.R_below T14.out hb)
  have U15 := Aside0.mk (Fd.row_below T15.out hb)
  have U24 := Aside0.mk (Kd.R_below T24.out hb)
  have U25 := Aside0.mk (Fd.row_below T25.out hb)
  have D9 := Aside0.mk (below_step D8.out hb)
  have Z1 := Aside0.mk (blk_below Y1.out hb)
  have Z2 := Aside0.mk (blk_below Y2.out hb)
  clear a0 a1 a2 a3 a4 a5 d0 d1 d2 d3 d4 d5
  clear hb Cw8 T14 T15 T24 T25 T34 T35 D8 Y1 Y2 Y3
  go_wp2_with fail
  refine (leftBytes_calls w9 Ac cc A1 c1 b Cw9.out.c.2.1 hcc (Kd.C_below H1.out D9.out) hc1 (by omega)).mono ?_
  rintro e w10 ⟨rfl, hb⟩
  have hba := below_alloc (Below.refl w10.heap.size w10) (.cells #[.int .i64 0, .slice none 0 0, .slice none 0 0, .slice none 0 0, .slice none 0 0, .slice none 0 0, .slice none 0 0, .slice none 0 0, .slice none 0 0, .slice none 0 0, .slice none 0 0, .slice none 0 0, .slice none 0 0] 44)
  have hb2 := below_step hb hba
  have s10 := hb.size
  have hd10 := below_step D9.out hb
  have hp0 := Pile.new (below_step hd10 hba) (blk_new w10 _) hd10.size
  obtain ⟨ic, oc⟩ := (Cw9.out.below hb2).owns
  obtain ⟨i1, o1⟩ := R_owns (Kd.R_below U14.out hb2)
  have q1 := loose_row (Fd.row_below U15.out hb2)
  obtain ⟨i2, o2⟩ := R_owns (Kd.R_below U24.out hb2)
  have q2 := loose_row (Fd.row_below U25.out hb2)
  have RC := Aside0.mk (show ∀ x ∈ (Value.slice Ac b.length cc).ownBlock.toList, w.heap.size ≤ x ∧ x < w1.heap.size from fun x hx => ⟨FC.out x (Cw9.out.blk x hx), LC.out x (Cw9.out.blk x hx)⟩)
  have HP0 := Aside0.mk hp0
  have OC := Aside0.mk oc
  have O1 := Aside0.mk o1
  have Q1 := Aside0.mk q1
  have O2 := Aside0.mk o2
  have Q2 := Aside0.mk q2
  have V1 := Aside0.mk (blk_below Z1.out hb2)
  have V2 := Aside0.mk (blk_below Z2.out hb2)
  obtain ⟨lm, hlm⟩ : ∃ lm, lm = r6.map (fun x => x.f0.length) := ⟨_, rfl⟩
  have hlml : lm.length = r6.length := by rw [hlm, List.length_map]
  have hlms : ∀ n ∈ lm, n ≤ 1000000000 := fun n hn => by
    rw [hlm] at hn
    obtain ⟨x, hx, rfl⟩ := List.mem_map.1 hn
    have := SM6.out x hx
    omega
  have HLM := Aside0.mk hlms
  rw [← hlm] at Q1 Q2
  clear hba hp0 hb hb2 hd10 oc o1 q1 o2 q2 Cw9 U14 U15 U24 U25 D9 Z1 Z2 FC LC hlm hlms
  go_wp2_with fail
  refine (HP0.out.Bytes (by omega) Ac b.length cc ic OC.out (fun x hx => ⟨⟨?_, by simp⟩, ?_⟩) (by omega)).mono ?_
  · have := RC.out x hx; omega
  · have := RC.out x hx; omega
  rintro e w12 ⟨rfl, hp, hsp⟩
  have hoff : ∀ x, w1.heap.size ≤ x → x ∉ ([] : List Nat) := fun x _ hx => by cases hx
  have HP1 := Aside0.mk hp
  have O11 := Aside0.mk (hsp.own O1.out (fun x hx => ⟨by have := RG1.out x (List.mem_append_left _ hx); omega, by simp⟩))
  have Q11 := Aside0.mk (hsp.row Q1.out (fun x hx => ⟨by have := RG1.out x (List.mem_append_right _ hx); omega, by simp⟩))
  have O21 := Aside0.mk (hsp.own O2.out (fun x hx => ⟨by have := RG2.out x (List.mem_append_left _ hx); omega, by simp⟩))
  have Q21 := Aside0.mk (hsp.row Q2.out (fun x hx => ⟨by have := RG2.out x (List.mem_append_right _ hx); omega, by simp⟩))
  have X1 := Aside0.mk ((hsp w2.heap.size (by omega) (by simp)).trans V1.out)
  have X2 := Aside0.mk ((hsp w4.heap.size (by omega) (by simp)).trans V2.out)
  obtain ⟨a0, a1, a2, a3, a4, a5⟩ := blk6c X1.out
  obtain ⟨LA, hLA⟩ : ∃ LA, LA = [] ++ (Value.slice Ac b.length cc).ownBlock.toList := ⟨_, rfl⟩
  rw [← hLA] at HP1
  have hLA' : ∀ x, w1.heap.size ≤ x → x ∉ LA := fun x h hx => by
    rw [hLA, List.nil_append] at hx
    have := RC.out x hx
    omega
  have FLA := Aside0.mk hLA'
  clear hp hsp HP0 OC O1 Q1 O2 Q2 V1 V2 hLA hLA' hoff
  have C1 := Aside0.mk (HP1.out.Msg (.int .u8 r1) (.int .u8 r2) (.int .u8 r3) (.int .u32 r4) A14 r5.length k14 i1 A15 k15 lm F15 (by omega) O11.out (by rw [hlml]; exact Q11.out) ND1.out (fun x hx => by have h := RG1.out x hx; exact ⟨⟨by omega, FLA.out x h.1⟩, by omega⟩) (by omega) (by omega) HLM.out)
  rw [hlml] at C1
  go_wp2_with fail
  with_reducible refine C1.out.mono ?_
  rintro e w13 ⟨rfl, LB, hp, hLB, hsp⟩
  have hno : ∀ x, w2.heap.size ≤ x → x ∉ LA ++ ((Value.slice A14 r5.length k14).ownBlock.toList ++ F15) := fun x h hx => by
    rcases List.mem_append.1 hx with h2 | h2
    · exact FLA.out x (by omega) h2
    · have := RG1.out x h2; omega
  have FLB := Aside0.mk (show ∀ x, w2.heap.size ≤ x → x ∉ LB from fun x h hx => by
    rcases hLB x hx with h2 | h2
    · exact FLA.out x (by omega) h2
    · have := RG1.out x h2; omega)
  have HP2 := Aside0.mk hp
  have O22 := Aside0.mk (hsp.own O21.out (fun x hx => by have h := RG2.out x (List.mem_append_left _ hx); exact ⟨by omega, hno x (by omega)⟩))
  have Q22 := Aside0.mk (hsp.row Q21.out (fun x hx => by have h := RG2.out x (List.mem_append_right _ hx); exact ⟨by omega, hno x (by omega)⟩))
  have X3 := Aside0.mk ((hsp w4.heap.size (by omega) (hno _ (by omega))).trans X2.out)
  clear a0 a1 a2 a3 a4 a5
  obtain ⟨a0, a1, a2, a3, a4, a5⟩ := blk6c X3.out
  clear hp hsp hLB hno HP1 O11 Q11 O21 Q21 X1 X2 C1 FLA
  have C2 := Aside0.mk (HP2.out.Msg (.int .u8 r1) (.int .u8 r2) (.int .u8 r3) (.int .u32 r4) A24 r5.length k24 i2 A25 k25 lm F25 (by omega) O22.out (by rw [hlml]; exact Q22.out) ND2.out (fun x hx => by have h := RG2.out x hx; exact ⟨⟨by omega, FLB.out x (by omega)⟩, by omega⟩) (by omega) (by omega) HLM.out)
  rw [hlml] at C2
  go_wp2_with fail
  with_reducible refine C2.out.mono ?_
  rintro e w14 ⟨rfl, LD, hp, _, _⟩
  have HP3 := Aside0.mk hp
  clear hp HP2 O22 Q22 X3 C2 a0 a1 a2 a3 a4 a5
  go_wp2_with fail
  refine (HP3.out.apart HT.out).mono ?_
  rintro e w15 ⟨rfl, hbw⟩
  have HBW := Aside0.mk hbw
  clear hbw
  go_wp2
  go_ret
  exact ⟨rfl, HBW.out⟩
end Go.Proofs.YtcohodkpppmaoaaGreatDoor.Q
namespace Go.Proofs.YtcohodkpppmaoaaGreatDoor
open Go.RowKit Go.ChangeShapes Go.WideShapes Go.Proofs.YtcohodkpppmaoaaGreatDoorW.PrintWords

structure Opens (P : Program) (t : TypeId) {α : Type} (d : Kd α) (Good : α → Prop) : Prop where
  cells : P.cellsOf t = d.sz
  opened : ∀ {H : Type} {enc : TypeId × Value → H} {w : World} {base : Nat} {spare : Nat → Bool} {held : Bool} {fuel : Nat} {cs : List Value} {x : DataW H × List MemPlace},
    DataW.trod enc P w base spare held fuel t cs = some x → (∀ n ∈ x.1.weights P t, n ≤ reachBytes) → ∃ a, d.K w a cs ∧ Good a

section
variable {P : Program} {t : TypeId}
theorem opens_int {k : IntKind} (ht : P.underlying t = some (.int k)) (hc : P.cellsOf t = 1) : Opens P t (Kd.int k) (fun n => (Lit.int k n).wf = true) :=
  ⟨hc, fun h _ => by
    obtain ⟨n, rfl, rfl, hn⟩ := DataW.trod_int ht h
    exact ⟨n, rfl, hn⟩⟩
theorem weightsAll_mem {H : Type} {e : TypeId} : ∀ {l : List (DataW H)} {d : DataW H} {n : Nat}, d ∈ l → n ∈ d.weights P e → n ∈ DataW.weightsAll P e l
  | _ :: _, _, _, .head _, hn => by
    simp only [DataW.weightsAll, List.mem_append]
    exact .inl hn
  | _ :: _, _, _, .tail _ h, hn => by
    simp only [DataW.weightsAll, List.mem_append]
    exact .inr (weightsAll_mem h hn)

theorem opens_slice {α : Type} {e : TypeId} {d : Kd α} {Good : α → Prop} {b : Nat} (ht : P.underlying t = some (.slice e)) (hc : P.cellsOf t = 1) (hb : P.bytesOf e = b) (hb0 : 0 < b) (ho : Opens P e d Good) :
    Opens P t (Kd.slice e d) (fun l => (∀ x ∈ l, Good x) ∧ l.length * b ≤ 140737488351232) := by
  refine ⟨hc, fun {H enc w base spare held fuel cs x} h hw => ?_⟩
  rcases Deep.open_slice ht h with ⟨rfl, rfl⟩ | ⟨a, len, cap, m, n, D, Pl, rfl, _, hl, hm, hmm, rfl, hx⟩
  · exact ⟨[], ⟨none, 0, rfl, by simp, rfl, by simp, fun h => absurd h (by simp)⟩, fun x hx => by simp at hx, by simp⟩
  · have hlm : len ≤ m := by rw [hmm]; split <;> omega
    have hw' : ∀ n ∈ (DataW.slice ((List.range len).map D) ((List.range (m - len)).map fun j => D (len + j)) : DataW H).weights P t, n ≤ reachBytes := hw
    simp only [DataW.weights, ht] at hw'
    have hlen : len * b ≤ 140737488351232 := by
      have := hw' _ (List.mem_cons_self)
      rw [hb] at this
      simp only [List.length_map, List.length_range] at this
      have h2 : len * b ≤ (len + (m - len)) * b := Nat.mul_le_mul_right _ (by omega)
      unfold reachBytes at this
      omega
    have hel : ∀ i : Nat, i < len → ∃ (y : α) (c : List Value), (c.length = d.sz ∧ ∀ j u, c[j]? = some u → w.cell? (a.add (i * d.sz + j)) = some u) ∧ d.K w y c ∧ Good y := by
      intro i hi
      obtain ⟨cs', h1, h2⟩ := hx i (by omega)
      obtain ⟨y, hK, hG⟩ := ho.opened h2 (fun k hk => hw' k (List.mem_cons_of_mem _ (List.mem_append_left _ (weightsAll_mem (d := D i) (List.mem_map.2 ⟨i, List.mem_range.2 hi, rfl⟩) hk))))
      refine ⟨y, cs', ⟨d.K_len hK, ?_⟩, hK, hG⟩
      intro j u hj
      rw [ho.cells] at h1
      unfold World.cells? at h1
      split at h1
      · have hjl : j < d.sz := by
          have := (List.getElem?_eq_some_iff.1 hj).1
          rw [d.K_len hK] at this
          exact this
        have := mapM_some_get h1 j j (by simp [hjl])
        rw [Deep.add_add] at this
        rw [this, hj]
      · cases h1
    obtain ⟨f, hf⟩ := Classical.axiomOfChoice (r := fun (i : Fin len) (y : α) => ∃ c : List Value, (c.length = d.sz ∧ ∀ j u, c[j]? = some u → w.cell? (a.add (i.1 * d.sz + j)) = some u) ∧ d.K w y c ∧ Good y)
      (fun i => by obtain ⟨y, c, h⟩ := hel i.1 i.2; exact ⟨y, c, h⟩)
    refine ⟨List.ofFn f, ⟨some a, cap, by simp, by simpa using hl, ?_⟩, ?_, by simpa using hlen⟩
    · refine ⟨rfl, by rw [List.length_ofFn]; unfold maxLen at hm; omega, fun _ => ⟨a, rfl, fun j p hp => ?_⟩⟩
      have hj : j < len := by
        have := (List.getElem?_eq_some_iff.1 hp).1
        simpa using this
      have hp' : f ⟨j, hj⟩ = p := by
        rw [List.getElem?_ofFn, dif_pos hj] at hp
        exact Option.some.inj hp
      obtain ⟨c, ⟨hc1, hc2⟩, hK, _⟩ := hf ⟨j, hj⟩
      exact ⟨c, hc1, hp' ▸ hK, hc2⟩
    · intro y hy
      obtain ⟨i, rfl⟩ := List.mem_ofFn.1 hy
      obtain ⟨c, _, _, hG⟩ := hf i
      exact hG

end
end Go.Proofs.YtcohodkpppmaoaaGreatDoor
namespace Go.Proofs.YtcohodkpppmaoaaGreatDoor
open Go.RowKit Go.ChangeShapes Go.WideShapes Go.Proofs.YtcohodkpppmaoaaGreatDoorW.PrintWords Q

theorem u8_of_wf {n : Int} (h : (Lit.int .u8 n).wf = true) : u8Ok n := by
  simp only [Lit.wf, Bool.and_eq_true, decide_eq_true_eq] at h
  exact ⟨h.1, h.2⟩
theorem opens_u8 : Opens Tryz.prog 5 (Kd.int .u8) (fun n => (Lit.int .u8 n).wf = true) := opens_int Tryz.underlying5 (by kernel_rfl)
theorem opens_bytes : Opens Tryz.prog 67 (Kd.slice 5 (Kd.int .u8)) (fun l => (∀ x ∈ l, (Lit.int .u8 x).wf = true) ∧ l.length * 1 ≤ 140737488351232) :=
  opens_slice Tryz.underlying67 (by kernel_rfl) (by kernel_rfl) (by decide) opens_u8

/-- A slice argument, opened. -/
theorem opens_arg {H : Type} {enc : TypeId × Value → H} {w : World} {base : Nat} {spare : Nat → Bool} {held : Bool} {P : Program} {t e : TypeId} {α : Type} {d : Kd α} {Good : List α → Prop} (ho : Opens P t (Kd.slice e d) Good)
    {a : Option Addr} {len cap : Nat} {dt : DataW H} {p : List MemPlace} (h : DataW.Trod enc P w base spare held t (.slice a len cap) dt p) (hw : ∀ n ∈ dt.weights P t, n ≤ reachBytes) :
    ∃ l : List α, len = l.length ∧ d.C w a l.length l ∧ l.length ≤ cap ∧ Good l := by
  obtain ⟨fuel, hf⟩ := h
  obtain ⟨l, ⟨A, c, hc, hl, hC⟩, hG⟩ := ho.opened hf hw
  simp [Value.cells] at hc
  obtain ⟨rfl, rfl, rfl⟩ := hc
  exact ⟨l, rfl, hC, hl, hG⟩
end Go.Proofs.YtcohodkpppmaoaaGreatDoor
namespace Go.Proofs.YtcohodkpppmaoaaGreatDoor
open Go.ChangeShapes Go.WideShapes Go.ChangeAt Go.RowKit
set_option linter.unusedVariables false
/-- The list. -/
def tabList : List (String × DataW Unit) := [("math/bits.deBruijn32tab", Rows.laid_math_bits_deBruijn32tab), ("math/bits.deBruijn64tab", Rows.laid_math_bits_deBruijn64tab), ("internal/strconv.uint64pow10", Rows.laid_internal_strconv_uint64pow10)]
def cellsOfD : DataW Unit → Array Value
  | .agg l => (l.map fun
      | .lit x => x.value
      | _ => .bool false).toArray
  | _ => #[]
/-- The settled world, the tables laid. -/
noncomputable def laidWorld (os : Os) : World :=
  let w0 := World.holding Tryz.prog os ⟨#[], #[], []⟩
  { w0 with heap := ((w0.heap.modify 0 fun
      | .cells _ t frozen => .cells (cellsOfD Rows.laid_internal_strconv_uint64pow10) t frozen
      | o => o).modify 2 fun
      | .cells _ t frozen => .cells (cellsOfD Rows.laid_math_bits_deBruijn32tab) t frozen
      | o => o).modify 3 fun
      | .cells _ t frozen => .cells (cellsOfD Rows.laid_math_bits_deBruijn64tab) t frozen
      | o => o }
set_option maxRecDepth 100000 in
theorem laid_met (os : Os) (args : Array Value) : laidMet Tryz.prog tabList ((laidWorld os).forCall (fun _ _ => 0) ⟨#[], args, []⟩).memory :=
  (LaidIn.of_run [0, 2, 3] 8 (by kernel_rfl) (by kernel_rfl) (by kernel_rfl) (by kernel_rfl)).met
theorem laid_tail {P : Program} {W : World} {x : String × DataW Unit} {l : List (String × DataW Unit)} (h : laidMet P (x :: l) W) : laidMet P l W := by
  obtain ⟨ps, ⟨g, t, cs, fuel, p, q, _, _, _, _, hq, rfl⟩, hn, hr⟩ := h
  exact ⟨q, hq, (List.nodup_append.1 hn).2.1, fun b off hm => hr b off (List.mem_append_right _ hm)⟩
theorem tabOk_of_laid {W : World} (h : laidMet Tryz.prog tabList W) : TabOk W := by
  have h3 := laid_tail (laid_tail h)
  exact Lib.tabIs_of_head (g := 0) (by kernel_rfl) (by kernel_rfl) Tryz.underlying255 Tryz.underlying159 (by kernel_rfl) (by kernel_rfl) h3
end Go.Proofs.YtcohodkpppmaoaaGreatDoor
