/-
  A list is the same as itself, and sizes come to an answer: ops, results, messages; ids.
  packets.Put: a message as bytes, or why it is none.
  packets.Text: what a message says, from whom, to whom, about what, as a line.
  Where the size of results is small, so is each one.
  The pure side of PacketsPut: how much a message has in it; the reference's Put and Text are the program's.
  concordatlaw08.great: it answers; where it answers false, the acts are few and their messages small.
  The reference's bag's steps beside the bag and the book; what a round of BagsPlay holds.
  The law BagsPlay, walked: it answers true.
  From a row's reading of an argument (DataW.trod) to the printed words' facts (Kd.K): numbers, texts, structs, slices, of whatever depth.
  How arguments of the types of this program are read: rows, ops, changes, results.
-/
import Derived.Test.YtcohodkpppmaoaaGreatDoorMR4
import Derived.Test.YtcohodkpppmaoaaGreatDoorMR5
import Derived.Test.YtcohodkpppmaoaaGreatDoorMR9
import Derived.WalkSpells
import Derived.BigRegion
import Derived.Laws.EntriesVeiled
import Derived.Test.YtcohodkpppmaoaaGreatDoorMR6
import Derived.Test.YtcohodkpppmaoaaGreatDoorMR10
import Derived.Test.YtcohodkpppmaoaaGreatDoorMR1
import Derived.ProofKit
import Derived.OpenShut
import Derived.SizedLaws
import Derived.Deep.Slices
set_option linter.unusedSimpArgs false
set_option linter.unusedVariables false
namespace Go.Proofs.YtcohodkpppmaoaaGreatDoor.Q
open Go.RowKit Go.Proofs.YtcohodkpppmaoaaGreatDoorW.PrintWords Go.Proofs.YtcohodkpppmaoaaGreatDoorW.PrintLast Go.Proofs.YtcohodkpppmaoaaGreatDoorW.PrintMore
set_option linter.unusedVariables false
theorem sameOps_self (l : List OpT) (hl : l.length ≤ 9223372036854775807) (d : Nat) : ∀ i : Nat, i ≤ l.length → l.length - i = d → Ev (fun k => concordatlaw01_SameOps.l0 k l l (i : Int)) true := by
  induction d with
  | zero =>
    intro i h0 h1
    refine Ev.step (f := fun _ => some true) (fun k => ?_) (Ev.now _)
    simp only [concordatlaw01_SameOps.l0]
    rw [if_neg (by omega)]
  | succ d ih =>
    intro i h0 h1
    refine Ev.step (f := fun k => concordatlaw01_SameOps.l0 k l l (wrap64 ((i : Int) + 1))) (fun k => ?_) ?_
    · simp only [concordatlaw01_SameOps.l0]
      rw [if_pos (by omega), if_pos (by omega), if_pos (by omega), if_neg (by simp)]
    · rw [wrap_id _ (by omega) (by omega)]
      exact ih (i + 1) (by omega) (by omega)
theorem ev_sameOps (l : List OpT) (hl : l.length ≤ 9223372036854775807) : Ev (fun k => concordatlaw01_SameOps.f k l l) true := by
  unfold concordatlaw01_SameOps.f
  simp only [if_true]
  exact sameOps_self l hl l.length 0 (by omega) (by omega)
theorem sameRows_self (l : List RowT) (hl : l.length ≤ 9223372036854775807) (d : Nat) : ∀ i : Nat, i ≤ l.length → l.length - i = d → Ev (fun k => concordatlaw01_SameRows.l0 k l l (i : Int)) true := by
  induction d with
  | zero =>
    intro i h0 h1
    refine Ev.step (f := fun _ => some true) (fun k => ?_) (Ev.now _)
    simp only [concordatlaw01_SameRows.l0]
    rw [if_neg (by omega)]
  | succ d ih =>
    intro i h0 h1
    refine Ev.step (f := fun k => concordatlaw01_SameRows.l0 k l l (wrap64 ((i : Int) + 1))) (fun k => ?_) ?_
    · simp only [concordatlaw01_SameRows.l0]
      rw [if_pos (by omega), if_pos (by omega), if_pos (by omega), if_neg (by simp)]
    · rw [wrap_id _ (by omega) (by omega)]
      exact ih (i + 1) (by omega) (by omega)
theorem ev_sameResult (l : List RowT) (hl : l.length ≤ 9223372036854775807) : Ev (fun k => concordatlaw01_SameResult.f k l l) true := by
  unfold concordatlaw01_SameResult.f
  refine Ev.bind (a := true) ?_ (Ev.now _)
  unfold concordatlaw01_SameRows.f
  simp only [if_true]
  exact sameRows_self l hl l.length 0 (by omega) (by omega)
theorem sameResults_self (l : List ResultT) (hl : l.length ≤ 9223372036854775807) (hr : ∀ x ∈ l, x.f0.length ≤ 9223372036854775807) (d : Nat) : ∀ i : Nat, i ≤ l.length → l.length - i = d → Ev (fun k => concordatlaw01_SameResults.l0 k l l (i : Int)) true := by
  induction d with
  | zero =>
    intro i h0 h1
    refine Ev.step (f := fun _ => some true) (fun k => ?_) (Ev.now _)
    simp only [concordatlaw01_SameResults.l0]
    rw [if_neg (by omega)]
  | succ d ih =>
    intro i h0 h1
    refine Ev.step (f := fun k => (concordatlaw01_SameResult.f k (rd_T145 l i).f0 (rd_T145 l i).f0).bind fun t => (if t = true then (concordatlaw01_SameResults.l0 k l l (wrap64 ((i : Int) + 1))) else (some false))) (fun k => ?_) ?_
    · simp only [concordatlaw01_SameResults.l0]
      rw [if_pos (by omega), if_pos (by omega), if_pos (by omega)]
    · have hi : i < l.length := by omega
      have hm : rd_T145 l i ∈ l := by
        unfold rd_T145
        rw [Int.toNat_natCast, List.getD_eq_getElem?_getD, List.getElem?_eq_getElem hi]
        exact List.getElem_mem _
      refine Ev.bind (ev_sameResult _ (hr _ hm)) ?_
      simp only [if_true]
      rw [wrap_id _ (by omega) (by omega)]
      exact ih (i + 1) (by omega) (by omega)
theorem ev_sameResults (l : List ResultT) (hl : l.length ≤ 9223372036854775807) (hr : ∀ x ∈ l, x.f0.length ≤ 9223372036854775807) : Ev (fun k => concordatlaw01_SameResults.f k l l) true := by
  unfold concordatlaw01_SameResults.f
  simp only [if_true]
  exact sameResults_self l hl hr l.length 0 (by omega) (by omega)
def many : Nat := 140737488351232
theorem opsSize_from (l : List OpT) (hl : l.length ≤ many) (hs : ∀ x ∈ l, x.f1.size ≤ many ∧ x.f2.size ≤ many) (d : Nat) : ∀ (i : Nat) (n : Int), i ≤ l.length → l.length - i = d → 0 ≤ n → n ≤ 1000000000000000 → ∃ s, Ev (fun k => concordatlaw01_OpsSize.l0 k l n (i : Int)) s ∧ n ≤ s := by
  unfold many at *
  induction d with
  | zero =>
    intro i n h0 h1 h2 h3
    refine ⟨n, Ev.step (f := fun _ => some n) (fun k => ?_) (Ev.now _), Int.le_refl _⟩
    simp only [concordatlaw01_OpsSize.l0]
    rw [if_neg (by omega)]
  | succ d ih =>
    intro i n h0 h1 h2 h3
    have hi : i < l.length := by omega
    have hm : rd_T82 l i ∈ l := by
      unfold rd_T82
      rw [Int.toNat_natCast, List.getD_eq_getElem?_getD, List.getElem?_eq_getElem hi]
      exact List.getElem_mem _
    have hb := hs _ hm
    by_cases c : n ≤ 1048576
    · obtain ⟨s, he, hle⟩ := ih (i + 1) (n + ((rd_T82 l i).f1.size : Int) + ((rd_T82 l i).f2.size : Int)) (by omega) (by omega) (by omega) (by omega)
      refine ⟨s, Ev.step (f := fun k => concordatlaw01_OpsSize.l0 k l (n + ((rd_T82 l i).f1.size : Int) + ((rd_T82 l i).f2.size : Int)) ((i + 1 : Nat) : Int)) (fun k => ?_) he, by omega⟩
      simp only [concordatlaw01_OpsSize.l0]
      rw [if_pos (by omega), if_pos c, if_pos (by omega), wrap_id (n + _) (by omega) (by omega), wrap_id _ (by omega) (by omega), wrap_id _ (by omega) (by omega)]
      rfl
    · refine ⟨n, Ev.step (f := fun _ => some n) (fun k => ?_) (Ev.now _), Int.le_refl _⟩
      simp only [concordatlaw01_OpsSize.l0]
      rw [if_pos (by omega), if_neg c]
theorem ev_OpsSize (l : List OpT) (hl : l.length ≤ many) (hs : ∀ x ∈ l, x.f1.size ≤ many ∧ x.f2.size ≤ many) : ∃ s, Ev (fun k => concordatlaw01_OpsSize.f k l) s ∧ (l.length : Int) ≤ s :=
  opsSize_from l hl hs l.length 0 l.length (by omega) (by omega) (by omega) (by unfold many at hl; omega)
theorem rowsSize_from (l : List RowT) (hl : l.length ≤ many) (hs : ∀ x ∈ l, x.f0.size ≤ many) (d : Nat) : ∀ (i : Nat) (n : Int), i ≤ l.length → l.length - i = d → 0 ≤ n → n ≤ 1000000000000000 → ∃ s, Ev (fun k => concordatlaw01_RowsSize.l0 k l n (i : Int)) s ∧ n ≤ s ∧ s ≤ 1000000000000000 := by
  unfold many at *
  induction d with
  | zero =>
    intro i n h0 h1 h2 h3
    refine ⟨n, Ev.step (f := fun _ => some n) (fun k => ?_) (Ev.now _), Int.le_refl _, h3⟩
    simp only [concordatlaw01_RowsSize.l0]
    rw [if_neg (by omega)]
  | succ d ih =>
    intro i n h0 h1 h2 h3
    have hi : i < l.length := by omega
    have hm : rd_T148 l i ∈ l := by
      unfold rd_T148
      rw [Int.toNat_natCast, List.getD_eq_getElem?_getD, List.getElem?_eq_getElem hi]
      exact List.getElem_mem _
    have hb := hs _ hm
    by_cases c : n ≤ 1048576
    · obtain ⟨s, he, hle, hle2⟩ := ih (i + 1) (n + ((rd_T148 l i).f0.size : Int)) (by omega) (by omega) (by omega) (by omega)
      refine ⟨s, Ev.step (f := fun k => concordatlaw01_RowsSize.l0 k l (n + ((rd_T148 l i).f0.size : Int)) ((i + 1 : Nat) : Int)) (fun k => ?_) he, by omega, hle2⟩
      simp only [concordatlaw01_RowsSize.l0]
      rw [if_pos (by omega), if_pos c, if_pos (by omega), wrap_id (n + _) (by omega) (by omega), wrap_id _ (by omega) (by omega)]
      rfl
    · refine ⟨n, Ev.step (f := fun _ => some n) (fun k => ?_) (Ev.now _), Int.le_refl _, h3⟩
      simp only [concordatlaw01_RowsSize.l0]
      rw [if_pos (by omega), if_neg c]
theorem ev_sameMsg (m : S50) (h4 : m.f4.length ≤ 9223372036854775807) (h5 : m.f5.length ≤ 9223372036854775807) (hr : ∀ x ∈ m.f5, x.f0.length ≤ 9223372036854775807) :
    Ev (fun k => concordatlaw01_SameMsg.f k m.f0 m.f1 m.f2 m.f3 m.f4 m.f5 m.f0 m.f1 m.f2 m.f3 m.f4 m.f5) true := by
  unfold concordatlaw01_SameMsg.f
  simp only [if_true]
  refine Ev.bind (ev_sameOps m.f4 h4) ?_
  simp only [if_true]
  exact Ev.bind (ev_sameResults m.f5 h5 hr) (Ev.now _)
theorem sameMsgs_self (l : List S50) (hl : l.length ≤ 9223372036854775807) (hm : ∀ m ∈ l, m.f4.length ≤ 9223372036854775807 ∧ m.f5.length ≤ 9223372036854775807 ∧ ∀ x ∈ m.f5, x.f0.length ≤ 9223372036854775807) (d : Nat) :
    ∀ i : Nat, i ≤ l.length → l.length - i = d → Ev (fun k => concordatlaw01_SameMsgs.l0 k l l (i : Int)) true := by
  induction d with
  | zero =>
    intro i h0 h1
    refine Ev.step (f := fun _ => some true) (fun k => ?_) (Ev.now _)
    simp only [concordatlaw01_SameMsgs.l0]
    rw [if_neg (by omega)]
  | succ d ih =>
    intro i h0 h1
    have hi : i < l.length := by omega
    have hx : rd_T50 l i ∈ l := by
      unfold rd_T50
      rw [Int.toNat_natCast, List.getD_eq_getElem?_getD, List.getElem?_eq_getElem hi]
      exact List.getElem_mem _
    have hb := hm _ hx
    refine Ev.step (f := fun k => (concordatlaw01_SameMsg.f k (rd_T50 l i).f0 (rd_T50 l i).f1 (rd_T50 l i).f2 (rd_T50 l i).f3 (rd_T50 l i).f4 (rd_T50 l i).f5 (rd_T50 l i).f0 (rd_T50 l i).f1 (rd_T50 l i).f2 (rd_T50 l i).f3 (rd_T50 l i).f4 (rd_T50 l i).f5).bind fun t => if t = true then concordatlaw01_SameMsgs.l0 k l l (wrap64 ((i : Int) + 1)) else some false) (fun k => ?_) ?_
    · simp only [concordatlaw01_SameMsgs.l0]
      rw [if_pos (by omega), if_pos (by omega), if_pos (by omega)]
    · refine Ev.bind (ev_sameMsg _ hb.1 hb.2.1 hb.2.2) ?_
      simp only [if_true]
      rw [wrap_id _ (by omega) (by omega)]
      exact ih (i + 1) (by omega) (by omega)
theorem ev_sameMsgs (l : List S50) (hl : l.length ≤ 9223372036854775807) (hm : ∀ m ∈ l, m.f4.length ≤ 9223372036854775807 ∧ m.f5.length ≤ 9223372036854775807 ∧ ∀ x ∈ m.f5, x.f0.length ≤ 9223372036854775807) : Ev (fun k => concordatlaw01_SameMsgs.f k l l) true := by
  unfold concordatlaw01_SameMsgs.f
  simp only [if_true]
  exact sameMsgs_self l hl hm l.length 0 (by omega) (by omega)

theorem opsSize_upto (l : List OpT) (hl : l.length ≤ many) (hs : ∀ x ∈ l, x.f1.size ≤ many ∧ x.f2.size ≤ many) (d : Nat) : ∀ (i : Nat) (n : Int), i ≤ l.length → l.length - i = d → 0 ≤ n → n ≤ 1000000000000000 → ∀ s, Ev (fun k => concordatlaw01_OpsSize.l0 k l n (i : Int)) s → s ≤ 1000000000000000 ∧ n ≤ s := by
  unfold many at *
  induction d with
  | zero =>
    intro i n h0 h1 h2 h3 s hs
    have e : s = n := by
      obtain ⟨K, hK⟩ := hs
      have := hK (K + 1) (Nat.le_succ _)
      simp only [concordatlaw01_OpsSize.l0] at this
      rw [if_neg (by omega)] at this
      exact (Option.some.inj this).symm
    omega
  | succ d ih =>
    intro i n h0 h1 h2 h3 s hs'
    have hi : i < l.length := by omega
    have hm : rd_T82 l i ∈ l := by
      unfold rd_T82
      rw [Int.toNat_natCast, List.getD_eq_getElem?_getD, List.getElem?_eq_getElem hi]
      exact List.getElem_mem _
    have hb := hs _ hm
    by_cases c : n ≤ 1048576
    · have e : Ev (fun k => concordatlaw01_OpsSize.l0 k l (n + (rd_T82 l i).f1.size + (rd_T82 l i).f2.size) ((i + 1 : Nat) : Int)) s := by
        obtain ⟨K, hK⟩ := hs'
        refine ⟨K, fun k hk => ?_⟩
        have := hK (k + 1) (by omega)
        simp only [concordatlaw01_OpsSize.l0] at this
        rw [if_pos (by omega), if_pos c, if_pos (by omega)] at this
        rw [wrap_id (n + _) (by omega) (by omega), wrap_id (n + _ + _) (by omega) (by omega), wrap_id ((i : Int) + 1) (by omega) (by omega)] at this
        exact this
      have := ih (i + 1) _ (by omega) (by omega) (by omega) (by omega) s e
      omega
    · have e : s = n := by
        obtain ⟨K, hK⟩ := hs'
        have := hK (K + 1) (Nat.le_succ _)
        simp only [concordatlaw01_OpsSize.l0] at this
        rw [if_pos (by omega), if_neg c] at this
        exact (Option.some.inj this).symm
      omega
end Go.Proofs.YtcohodkpppmaoaaGreatDoor.Q
namespace Go.Proofs.YtcohodkpppmaoaaGreatDoor.Q
open Go.RowKit Go.Proofs.YtcohodkpppmaoaaGreatDoorW.PrintWords Go.Proofs.YtcohodkpppmaoaaGreatDoorW.PrintLast Go.Proofs.YtcohodkpppmaoaaGreatDoorW.PrintMore
set_option linter.unusedVariables false

def roomP (l4 : List (S82)) (l5 : List (S145)) : Prop :=
  l4.length ≤ 1000000000 ∧ l5.length ≤ 1000000000 ∧ (∀ x ∈ l5, x.f0.length ≤ 9223372036854775807) ∧ (putOps l4).1.length ≤ 4294967295 ∧ (putResults l5).1.length ≤ 4294967295
instance (l4 : List (S82)) (l5 : List (S145)) : Decidable (roomP l4 l5) := by unfold roomP; infer_instance
def SP (g : Nat) (s f t i : Int) (w : World) : Prop := w.cell? ⟨g, 0, none⟩ = some (.int .u8 s) ∧ w.cell? ⟨g, 1, none⟩ = some (.int .u8 f) ∧ w.cell? ⟨g, 2, none⟩ = some (.int .u8 t) ∧ w.cell? ⟨g, 3, none⟩ = some (.int .u32 i)
theorem SP.of {g tp : Nat} {s f t i : Int} {v4 v5 : Value} {w : World} (h : w.heap[g]? = some (.cells #[.int .u8 s, .int .u8 f, .int .u8 t, .int .u32 i, v4, v5] tp (0, 0))) : SP g s f t i w := ⟨blk_cell h 0, blk_cell h 1, blk_cell h 2, blk_cell h 3⟩
theorem SP.below {g : Nat} {s f t i : Int} {w w1 : World} (h : SP g s f t i w) (hb : Below w.heap.size w w1) : SP g s f t i w1 := ⟨cell_later hb h.1, cell_later hb h.2.1, cell_later hb h.2.2.1, cell_later hb h.2.2.2⟩
end Go.Proofs.YtcohodkpppmaoaaGreatDoor.Q
namespace Go.Proofs.YtcohodkpppmaoaaGreatDoor.Q
open Go.RowKit Go.Proofs.YtcohodkpppmaoaaGreatDoorW.PrintWords Go.Proofs.YtcohodkpppmaoaaGreatDoorW.PrintLast Go.Proofs.YtcohodkpppmaoaaGreatDoorW.PrintMore
set_option linter.unusedVariables false

def textOk (s f t g : Int) : Prop := (0 ≤ s ∧ s ≤ 255) ∧ (0 ≤ f ∧ f ≤ 255) ∧ (0 ≤ t ∧ t ≤ 255) ∧ (0 ≤ g ∧ g ≤ 4294967295)
instance (s f t g : Int) : Decidable (textOk s f t g) := by unfold textOk; infer_instance
end Go.Proofs.YtcohodkpppmaoaaGreatDoor.Q
namespace Go.Proofs.YtcohodkpppmaoaaGreatDoor.Q
open Go.RowKit Go.Proofs.YtcohodkpppmaoaaGreatDoorW.PrintWords Go.Proofs.YtcohodkpppmaoaaGreatDoorW.PrintLast Go.Proofs.YtcohodkpppmaoaaGreatDoorW.PrintMore
set_option linter.unusedVariables false
theorem ev_ResultSize2 (l : List RowT) (hl : l.length ≤ many) (hs : ∀ x ∈ l, x.f0.size ≤ many) : ∃ s, Ev (fun k => concordatlaw01_ResultSize.f k l) s ∧ (l.length : Int) ≤ s ∧ s ≤ 1000000000000001 := by
  obtain ⟨s, he, h1, h2⟩ := rowsSize_from l hl hs l.length 0 l.length (by omega) (by omega) (by omega) (by unfold many at hl; omega)
  refine ⟨1 + s, ?_, by omega, by omega⟩
  unfold concordatlaw01_ResultSize.f
  refine Ev.bind he ?_
  rw [wrap_id _ (by omega) (by omega)]
  exact Ev.now _
theorem resultsSize_small (l : List ResultT) (hl : l.length ≤ many) (hs : ∀ x ∈ l, x.f0.length ≤ many ∧ ∀ r ∈ x.f0, r.f0.size ≤ many) (d : Nat) : ∀ (i : Nat) (n : Int), i ≤ l.length → l.length - i = d → 0 ≤ n → n ≤ 2000000000000000 → ∃ s, Ev (fun k => concordatlaw01_ResultsSize.l0 k l n (i : Int)) s ∧ n ≤ s ∧ (s ≤ 1048576 → ∀ x ∈ l.drop i, (x.f0.length : Int) ≤ s) ∧ s ≤ 2000000000000000 := by
  unfold many at *
  induction d with
  | zero =>
    intro i n h0 h1 h2 h3
    refine ⟨n, Ev.step (f := fun _ => some n) (fun k => ?_) (Ev.now _), Int.le_refl _, fun _ x hx => ?_, h3⟩
    · simp only [concordatlaw01_ResultsSize.l0]
      rw [if_neg (by omega)]
    · rw [List.drop_eq_nil_of_le (by omega)] at hx
      cases hx
  | succ d ih =>
    intro i n h0 h1 h2 h3
    have hi : i < l.length := by omega
    have hrd : rd_T145 l i = l[i] := by simp [rd_T145, hi]
    have hb := hs _ (List.getElem_mem hi)
    by_cases c : n ≤ 1048576
    · obtain ⟨t, ht, t0, t1⟩ := ev_ResultSize2 l[i].f0 (by unfold many; exact hb.1) (by unfold many; exact hb.2)
      obtain ⟨s, he, hle, hall, hle2⟩ := ih (i + 1) (n + t) (by omega) (by omega) (by omega) (by omega)
      refine ⟨s, Ev.step (f := fun k => (concordatlaw01_ResultSize.f k (rd_T145 l i).f0).bind fun t => (concordatlaw01_ResultsSize.l0 k l (wrap64 (n + t)) (wrap64 ((i : Int) + 1)))) (fun k => ?_) ?_, by omega, fun hsm x hx => ?_, hle2⟩
      · simp only [concordatlaw01_ResultsSize.l0]
        rw [if_pos (by omega), if_pos c, if_pos (by omega)]
      · rw [hrd]
        refine Ev.bind ht ?_
        rw [wrap_id (n + t) (by omega) (by omega), wrap_id _ (by omega) (by omega)]
        exact he
      · rw [List.drop_eq_getElem_cons hi] at hx
        rcases List.mem_cons.1 hx with rfl | hx
        · omega
        · exact hall hsm x hx
    · refine ⟨n, Ev.step (f := fun _ => some n) (fun k => ?_) (Ev.now _), Int.le_refl _, fun h => absurd h c, h3⟩
      simp only [concordatlaw01_ResultsSize.l0]
      rw [if_pos (by omega), if_neg c]
theorem ev_ResultsSize2 (l : List ResultT) (hl : l.length ≤ many) (hs : ∀ x ∈ l, x.f0.length ≤ many ∧ ∀ r ∈ x.f0, r.f0.size ≤ many) : ∃ s, Ev (fun k => concordatlaw01_ResultsSize.f k l) s ∧ (l.length : Int) ≤ s ∧ (s ≤ 1048576 → ∀ x ∈ l, (x.f0.length : Int) ≤ s) ∧ s ≤ 2000000000000000 :=
  resultsSize_small l hl hs l.length 0 l.length (by omega) (by omega) (by omega) (by unfold many at hl; omega)
end Go.Proofs.YtcohodkpppmaoaaGreatDoor.Q
namespace Go.Proofs.YtcohodkpppmaoaaGreatDoor.Q
open Go.RowKit Go.Proofs.YtcohodkpppmaoaaGreatDoorW.PrintWords Go.Proofs.YtcohodkpppmaoaaGreatDoorW.PrintLast Go.Proofs.YtcohodkpppmaoaaGreatDoorW.PrintMore
set_option linter.unusedVariables false
def listsOk (l4 : List OpT) (l5 : List ResultT) : Prop := (l4.length ≤ many ∧ ∀ x ∈ l4, x.f1.size ≤ many ∧ x.f2.size ≤ many) ∧ (l5.length ≤ many ∧ ∀ x ∈ l5, x.f0.length ≤ many ∧ ∀ r ∈ x.f0, r.f0.size ≤ many)
end Go.Proofs.YtcohodkpppmaoaaGreatDoor.Q
namespace Go.Proofs.YtcohodkpppmaoaaGreatDoor.Q
open Go.RowKit Go.Proofs.YtcohodkpppmaoaaGreatDoorW.PrintWords Go.Proofs.YtcohodkpppmaoaaGreatDoorW.PrintLast Go.Proofs.YtcohodkpppmaoaaGreatDoorW.PrintMore
set_option linter.unusedVariables false
abbrev ActT := S52
theorem msgSizeFew (m : MsgT) (h : listsOk m.f4 m.f5) : ∃ n, Ev (fun k => concordatlaw01_MsgSize.f k m.f0 m.f1 m.f2 m.f3 m.f4 m.f5) n ∧ 0 ≤ n ∧ n ≤ 4000000000000000 ∧ (n ≤ 5000 → fewM m) := by
  obtain ⟨s, hs, hl⟩ := ev_OpsSize m.f4 h.1.1 h.1.2
  have hu : s ≤ 1000000000000000 := (opsSize_upto m.f4 h.1.1 h.1.2 m.f4.length 0 m.f4.length (by omega) (by omega) (by omega) (by have := h.1.1; unfold many at this; omega) s hs).1
  obtain ⟨u, hu1, hu2, hu3, hu4⟩ := ev_ResultsSize2 m.f5 h.2.1 h.2.2
  by_cases c : 1 + s ≤ 1048576
  · refine ⟨1 + s + u, ?_, by omega, by omega, fun hn => ⟨by omega, by omega, fun x hx => by have := hu3 (by omega) x hx; omega⟩⟩
    unfold concordatlaw01_MsgSize.f
    refine Ev.bind hs ?_
    rw [wrap_id (1 + s) (by omega) (by omega)]
    simp only [if_pos c]
    refine Ev.bind hu1 ?_
    rw [wrap_id _ (by omega) (by omega)]
    exact Ev.now _
  · refine ⟨1 + s, ?_, by omega, by omega, fun hn => absurd hn (by omega)⟩
    unfold concordatlaw01_MsgSize.f
    refine Ev.bind hs ?_
    rw [wrap_id (1 + s) (by omega) (by omega)]
    simp only [if_neg c]
    exact Ev.now _
theorem great_from (l : List ActT) (hl : l.length ≤ many) (hm : ∀ a ∈ l, listsOk a.f1.f4 a.f1.f5) (d : Nat) : ∀ (i : Nat) (n : Int), i ≤ l.length → l.length - i = d → 0 ≤ n → n ≤ 3000 → ∃ r, Ev (fun k => concordatlaw08_great.l0 k l n (i : Int)) r ∧ (r = false → l.length ≤ 300 ∧ ∀ j : Nat, i ≤ j → j < l.length → fewM (rd_T52 l (j : Int)).f1) := by
  induction d with
  | zero =>
    intro i n h0 h1 h2 h3
    refine ⟨decide ((l.length : Int) > 300), Ev.step (f := fun _ => some (decide ((l.length : Int) > 300))) (fun k => ?_) (Ev.now _), fun hr => ⟨?_, fun j h4 h5 => by omega⟩⟩
    · simp only [concordatlaw08_great.l0]
      rw [if_neg (by omega)]
    · have := of_decide_eq_false hr
      omega
  | succ d ih =>
    intro i n h0 h1 h2 h3
    have hi : i < l.length := by omega
    have hx : rd_T52 l i ∈ l := by
      unfold rd_T52
      rw [Int.toNat_natCast, List.getD_eq_getElem?_getD, List.getElem?_eq_getElem hi]
      exact List.getElem_mem _
    obtain ⟨t, ht, t0, t1, tf⟩ := msgSizeFew _ (hm _ hx)
    have e1 : wrap64 (wrap64 (n + 1) + t) = n + 1 + t := by rw [wrap_id (n + 1) (by omega) (by omega), wrap_id _ (by omega) (by omega)]
    have e2 : wrap64 ((i : Int) + 1) = ((i + 1 : Nat) : Int) := by
      have : (i : Int) < 9223372036854775807 := by unfold many at hl; omega
      rw [wrap_id _ (by omega) (by omega)]
      omega
    by_cases c : n + 1 + t > 3000
    · refine ⟨true, Ev.step (f := fun k => (concordatlaw01_MsgSize.f k ((rd_T52 l i).f1.f0) ((rd_T52 l i).f1.f1) ((rd_T52 l i).f1.f2) ((rd_T52 l i).f1.f3) ((rd_T52 l i).f1.f4) ((rd_T52 l i).f1.f5)).bind fun t138 => (if (wrap64 ((wrap64 (n + 1)) + t138)) > 3000 then (some true) else (concordatlaw08_great.l0 k l (wrap64 ((wrap64 (n + 1)) + t138)) (wrap64 ((i : Int) + 1))))) (fun k => ?_) ?_, fun hr => by cases hr⟩
      · simp only [concordatlaw08_great.l0]
        rw [if_pos (by omega), if_pos (by omega)]
      · refine Ev.bind ht ?_
        rw [e1]
        exact Ev.step (f := fun _ => some true) (fun k => by rw [if_pos c]) (Ev.now _)
    · obtain ⟨s, he, hf⟩ := ih (i + 1) (n + 1 + t) (by omega) (by omega) (by omega) (by omega)
      refine ⟨s, Ev.step (f := fun k => (concordatlaw01_MsgSize.f k ((rd_T52 l i).f1.f0) ((rd_T52 l i).f1.f1) ((rd_T52 l i).f1.f2) ((rd_T52 l i).f1.f3) ((rd_T52 l i).f1.f4) ((rd_T52 l i).f1.f5)).bind fun t138 => (if (wrap64 ((wrap64 (n + 1)) + t138)) > 3000 then (some true) else (concordatlaw08_great.l0 k l (wrap64 ((wrap64 (n + 1)) + t138)) (wrap64 ((i : Int) + 1))))) (fun k => ?_) ?_, fun hr => ⟨(hf hr).1, fun j h4 h5 => ?_⟩⟩
      · simp only [concordatlaw08_great.l0]
        rw [if_pos (by omega), if_pos (by omega)]
      · refine Ev.bind ht ?_
        rw [e1, e2]
        simp only [if_neg c]
        exact he
      · rcases Nat.lt_or_ge i j with h | h
        · exact (hf hr).2 j (by omega) h5
        · obtain rfl : j = i := by omega
          exact tf (by omega)
theorem great_few (l : List ActT) (hl : l.length ≤ many) (hm : ∀ a ∈ l, listsOk a.f1.f4 a.f1.f5) : ∃ r, (r = false → l.length ≤ 300 ∧ ∀ a ∈ l, fewM a.f1) ∧ ∀ (w : World) (A : Option Addr) (c : Nat), k52.C w A l.length l → l.length ≤ c →
    Calls Tryz.prog 9 #[.slice A l.length c] w fun e w' => e = .returned (.bool r) ∧ Below w.heap.size w w' := by
  obtain ⟨r, hr, hf⟩ := great_from l hl hm l.length 0 0 (by omega) (by omega) (by omega) (by omega)
  obtain ⟨K, hK⟩ := (show Ev (fun k => concordatlaw08_great.f k l) r from hr).rounds
  refine ⟨r, fun h => ⟨(hf h).1, fun a ha => ?_⟩, fun w A c h hc => concordatlaw08_great.calls K A c l r w h hc hK⟩
  obtain ⟨j, hj, rfl⟩ := List.getElem_of_mem ha
  have := (hf h).2 j (Nat.zero_le _) hj
  have e : rd_T52 l (j : Int) = l[j] := by simp [rd_T52, hj]
  rwa [e] at this
end Go.Proofs.YtcohodkpppmaoaaGreatDoor.Q
namespace Go.Proofs.YtcohodkpppmaoaaGreatDoor.Q
open Go.RowKit Go.Proofs.YtcohodkpppmaoaaGreatDoorW.PrintWords Go.Proofs.YtcohodkpppmaoaaGreatDoorW.PrintLast Go.Proofs.YtcohodkpppmaoaaGreatDoorW.PrintMore
set_option linter.unusedVariables false
section
variable {w0 w w1 : World} {gb gr gk : Nat} {most : Int} {La Lb La' Lb' : List MsgT} {n : Int} {X Y X' : List Nat}
theorem Play.refAdd (h : Play w0 w gb gr gk most La Lb n X) (hne : (Lb.length : Int) ≠ most) (hL : Lb.length ≤ 65536) {m : MsgT} {v4 v5 : Value} (hm : MsgIn w m v4 v5) (hB : msgB m) :
    Calls Tryz.prog 14 #[.pointer (some ⟨gr, 0, none⟩), .agg (msgCells m v4 v5)] w fun e w' => e = .returned (.int .i64 0) ∧ Play w0 w' gb gr gk most La (Lb ++ [m]) n X ∧ Same X w w' := by
  obtain ⟨FB, FR, FK, OB, h⟩ := h
  refine (refAdd_yes w gr most Lb FR m v4 v5 h.ref hne hL hm hB).mono ?_
  rintro e w' ⟨F', rfl, r, k, l⟩
  exact ⟨rfl, h.refStep r k l⟩
theorem Play.refAddFull (h : Play w0 w gb gr gk most La Lb n X) (hne : (Lb.length : Int) = most) {m : MsgT} {v4 v5 : Value} :
    Calls Tryz.prog 14 #[.pointer (some ⟨gr, 0, none⟩), .agg (msgCells m v4 v5)] w fun e w' => e = .returned (.int .i64 5) ∧ Play w0 w' gb gr gk most La Lb n X ∧ Same X w w' := by
  have h' := h
  obtain ⟨FB, FR, FK, OB, hf⟩ := h
  refine (refAdd_no w gr most Lb FR m v4 v5 hf.ref hne).mono ?_
  rintro e w' ⟨rfl, hb⟩
  exact ⟨rfl, h'.below hb⟩
theorem Play.refCopy (h : Play w0 w gb gr gk most La Lb n X) {k : Nat} {x : MsgT} (hk : Lb[k]? = some x) (hne : (Lb.length : Int) ≠ most) (hL : Lb.length ≤ 65536) (hB : msgB x) :
    Calls Tryz.prog 20 #[.pointer (some ⟨gr, 0, none⟩), .int .i64 k] w fun e w' => e = .returned (.int .i64 0) ∧ Play w0 w' gb gr gk most La (Lb ++ [x]) n X ∧ Same X w w' := by
  obtain ⟨FB, FR, FK, OB, h⟩ := h
  refine (refCopy_yes w gr most Lb FR k x h.ref hk hne hL hB).mono ?_
  rintro e w' ⟨F', rfl, r, k, l⟩
  exact ⟨rfl, h.refStep r k l⟩
theorem Play.refCopyFull (h : Play w0 w gb gr gk most La Lb n X) {k : Nat} {x : MsgT} (hk : Lb[k]? = some x) (hne : (Lb.length : Int) = most) (hL : Lb.length ≤ 65536) :
    Calls Tryz.prog 20 #[.pointer (some ⟨gr, 0, none⟩), .int .i64 k] w fun e w' => e = .returned (.int .i64 5) ∧ Play w0 w' gb gr gk most La Lb n X ∧ Same X w w' := by
  have h' := h
  obtain ⟨FB, FR, FK, OB, hf⟩ := h
  refine (refCopy_full w gr most Lb FR k x hf.ref hk hne hL).mono ?_
  rintro e w' ⟨rfl, hb⟩
  exact ⟨rfl, h'.below hb⟩
theorem Play.refCopyNo (h : Play w0 w gb gr gk most La Lb n X) {i : Int} (hi : ¬ (0 ≤ i ∧ i < (Lb.length : Int))) :
    Calls Tryz.prog 20 #[.pointer (some ⟨gr, 0, none⟩), .int .i64 i] w fun e w' => e = .returned (.int .i64 1) ∧ w = w' := by
  obtain ⟨FB, FR, FK, OB, hf⟩ := h
  exact refCopy_no w gr most Lb FR i hf.ref hi
theorem Play.CopyNo2 (h : Play w0 w gb gr gk most La Lb n X) {i : Int} (hi : ¬ (0 ≤ i ∧ i < (La.length : Int))) :
    Calls Tryz.prog 19 #[.pointer (some ⟨gb, 0, none⟩), .int .i64 i] w fun e w' => e = .returned (.int .i64 1) ∧ Play w0 w' gb gr gk most La Lb n X ∧ Same X w w' := by
  refine (h.CopyNo hi).mono ?_
  rintro e w' ⟨rfl, rfl⟩
  exact ⟨rfl, h, fun _ _ => rfl⟩
theorem Play.refCopyNo2 (h : Play w0 w gb gr gk most La Lb n X) {i : Int} (hi : ¬ (0 ≤ i ∧ i < (Lb.length : Int))) :
    Calls Tryz.prog 20 #[.pointer (some ⟨gr, 0, none⟩), .int .i64 i] w fun e w' => e = .returned (.int .i64 1) ∧ Play w0 w' gb gr gk most La Lb n X ∧ Same X w w' := by
  refine (h.refCopyNo hi).mono ?_
  rintro e w' ⟨rfl, rfl⟩
  exact ⟨rfl, h, fun _ _ => rfl⟩
theorem Play.refTake (h : Play w0 w gb gr gk most La Lb n X) {k : Nat} {x : MsgT} (hk : Lb[k]? = some x) (hL : Lb.length ≤ 65536) :
    Calls Tryz.prog 16 #[.pointer (some ⟨gr, 0, none⟩), .int .i64 k] w fun e w' => ∃ v4 v5, e = .returned (.tuple #[.agg (msgCells x v4 v5), .int .i64 0]) ∧ MsgIn w' x v4 v5 ∧ Play w0 w' gb gr gk most La (Lb.eraseIdx k) n X ∧ Same X w w' := by
  obtain ⟨FB, FR, FK, OB, h⟩ := h
  refine (refTake_yes w gr most Lb FR k x h.ref hk hL).mono ?_
  rintro e w' ⟨v4, v5, F', rfl, hm, r, k, l⟩
  exact ⟨v4, v5, rfl, hm, h.refStep r k l⟩
theorem Play.refTakeNo (h : Play w0 w gb gr gk most La Lb n X) {i : Int} (hi : ¬ (0 ≤ i ∧ i < (Lb.length : Int))) :
    Calls Tryz.prog 16 #[.pointer (some ⟨gr, 0, none⟩), .int .i64 i] w fun e w' => e = .returned (.tuple #[.agg zeroMsg, .int .i64 1]) ∧ Play w0 w' gb gr gk most La Lb n X ∧ Same X w w' := by
  have h' := h
  obtain ⟨FB, FR, FK, OB, hf⟩ := h
  refine (refTake_no w gr most Lb FR i hf.ref hi).mono ?_
  rintro e w' ⟨rfl, hb⟩
  exact ⟨rfl, h'.below hb⟩
theorem Play.TakeNo (h : Play w0 w gb gr gk most La Lb n X) {i : Int} (hi : ¬ (0 ≤ i ∧ i < (La.length : Int))) :
    Calls Tryz.prog 15 #[.pointer (some ⟨gb, 0, none⟩), .int .i64 i] w fun e w' => e = .returned (.tuple #[.agg zeroMsg, .int .i64 1]) ∧ Play w0 w' gb gr gk most La Lb n X ∧ Same X w w' := by
  have h' := h
  obtain ⟨FB, FR, FK, OB, hf⟩ := h
  refine (Take_no w gb most La FB i hf.bag hi).mono ?_
  rintro e w' ⟨rfl, hb⟩
  exact ⟨rfl, h'.below hb⟩
theorem Play.refList (h : Play w0 w gb gr gk most La Lb n X) (hL : Lb.length ≤ 65536) (hB : ∀ m ∈ Lb, msgB m) :
    Calls Tryz.prog 23 #[.pointer (some ⟨gr, 0, none⟩)] w fun e w' => ∃ A c, e = .returned (.slice A Lb.length c) ∧ Lb.length ≤ c ∧ k50.C w' A Lb.length Lb ∧ Below w.heap.size w w' := by
  obtain ⟨FB, FR, FK, OB, hf⟩ := h
  refine (Q.refList w gr most Lb FR hf.ref hL hB).mono ?_
  rintro e w' ⟨v, rfl, hb, F, hr, hn, hl⟩
  obtain ⟨A, c, rfl, hc, hC⟩ := Fd.row_reads hr
  exact ⟨A, c, rfl, hc, hC, hb⟩
end
theorem sameMsg_of (w : World) (m : MsgT) {v4 v5 u4 u5 : Value} (h1 : MsgIn w m v4 v5) (h2 : MsgIn w m u4 u5) (hf : fewM m) :
    Calls Tryz.prog 17 #[.agg (msgCells m v4 v5), .agg (msgCells m u4 u5)] w fun e w' => e = .returned (.bool true) ∧ Below w.heap.size w w' := by
  obtain ⟨A4, c4, A5, c5, rfl, rfl, l4, h4, l5, h5⟩ := h1.read
  obtain ⟨B4, d4, B5, d5, rfl, rfl, k4, g4, k5, g5⟩ := h2.read
  obtain ⟨K, hK⟩ := (ev_sameMsg m (by have := hf.1; omega) (by have := hf.2.1; omega) (fun x hx => by have := hf.2.2 x hx; omega)).rounds
  exact concordatlaw01_SameMsg.calls K m.f0 m.f1 m.f2 m.f3 A4 c4 m.f4 A5 c5 m.f5 m.f0 m.f1 m.f2 m.f3 B4 d4 m.f4 B5 d5 m.f5 true w h4 l4 h5 l5 g4 k4 g5 k5 hK
theorem sameMsgs_of (w : World) (L : List MsgT) {A B : Option Addr} {c d : Nat} (h1 : k50.C w A L.length L) (hc : L.length ≤ c) (h2 : k50.C w B L.length L) (hd : L.length ≤ d) (hL : L.length ≤ 65536) (hf : ∀ m ∈ L, fewM m) :
    Calls Tryz.prog 22 #[.slice A L.length c, .slice B L.length d] w fun e w' => e = .returned (.bool true) ∧ Below w.heap.size w w' := by
  obtain ⟨K, hK⟩ := (ev_sameMsgs L (by omega) (fun m hm => ⟨by have := (hf m hm).1; omega, by have := (hf m hm).2.1; omega, fun x hx => by have := (hf m hm).2.2 x hx; omega⟩)).rounds
  exact concordatlaw01_SameMsgs.calls K A c L B d L true w h1 hc h2 hd hK
theorem msgB_few {m : MsgT} (h : fewM m) : msgB m := ⟨by have := h.1; omega, by have := h.2.1; omega, fun r hr => by have := h.2.2 r hr; omega⟩
theorem few_zero : fewM (⟨0, 0, 0, 0, [], []⟩ : MsgT) := ⟨by simp, by simp, fun r hr => by simp at hr⟩
theorem msgIn_zero (w : World) : MsgIn w (⟨0, 0, 0, 0, [], []⟩ : MsgT) (.slice none 0 0) (.slice none 0 0) := by
  refine ⟨none, 0, none, 0, rfl, rfl, Nat.le_refl _, ?_, Nat.le_refl _, ?_⟩
  · obtain ⟨A, c, e, _, h⟩ := Fd.row_reads (Fd.row_nil fdOp 82 w)
    cases e
    exact h
  · obtain ⟨A, c, e, _, h⟩ := Fd.row_reads (Fd.row_nil fdResult 145 w)
    cases e
    exact h
theorem M_zero (w : World) : fdMsg.M w [] (⟨0, 0, 0, 0, [], []⟩ : MsgT) zeroMsg.toList := ⟨_, _, [], [], rfl, rfl, Fd.row_nil _ _ _, Fd.row_nil _ _ _⟩
theorem blk8 {w : World} {g t : Nat} {a b c d x y z u : Value} (h : w.heap[g]? = some (.cells #[a, b, c, d, x, y, z, u] t (0, 0))) : w.cell? ⟨g, 0, none⟩ = some a ∧ w.cell? ⟨g, 1, none⟩ = some b ∧ w.cell? ⟨g, 2, none⟩ = some c ∧ w.cell? ⟨g, 3, none⟩ = some d ∧ w.cell? ⟨g, 4, none⟩ = some x ∧ w.cell? ⟨g, 5, none⟩ = some y ∧ w.cell? ⟨g, 6, none⟩ = some z ∧ w.cell? ⟨g, 7, none⟩ = some u :=
  ⟨blk_cell h 0, blk_cell h 1, blk_cell h 2, blk_cell h 3, blk_cell h 4, blk_cell h 5, blk_cell h 6, blk_cell h 7⟩
/-- An act of a list that is read: its cells, and what its message's lists read. -/
theorem read_act {w : World} {A : Option Addr} {L : List ActT} (hC : k52.C w A L.length L) {k : Nat} {x : ActT} (hx : L[k]? = some x) :
    ∃ ad A4 c4 A5 c5, A = some ad ∧ (w.cell? (ad.add (k * 8)) = some (.int .u8 x.f0) ∧ w.cell? ⟨(ad.add (k * 8)).block, (ad.add (k * 8)).off + 1, none⟩ = some (.int .u8 x.f1.f0) ∧ w.cell? ⟨(ad.add (k * 8)).block, (ad.add (k * 8)).off + 2, none⟩ = some (.int .u8 x.f1.f1) ∧ w.cell? ⟨(ad.add (k * 8)).block, (ad.add (k * 8)).off + 3, none⟩ = some (.int .u8 x.f1.f2) ∧
      w.cell? ⟨(ad.add (k * 8)).block, (ad.add (k * 8)).off + 4, none⟩ = some (.int .u32 x.f1.f3) ∧ w.cell? ⟨(ad.add (k * 8)).block, (ad.add (k * 8)).off + 5, none⟩ = some (.slice A4 x.f1.f4.length c4) ∧ w.cell? ⟨(ad.add (k * 8)).block, (ad.add (k * 8)).off + 6, none⟩ = some (.slice A5 x.f1.f5.length c5) ∧ w.cell? ⟨(ad.add (k * 8)).block, (ad.add (k * 8)).off + 7, none⟩ = some (.int .i64 x.f2)) ∧
      MsgIn w x.f1 (.slice A4 x.f1.f4.length c4) (.slice A5 x.f1.f5.length c5) := by
  obtain ⟨hk, hx'⟩ := List.getElem?_eq_some_iff.1 hx
  obtain ⟨ad, A4, c4, A5, c5, e, h0, h1, h2, h3, h4, h5, h6, h7, l4, g4, l5, g5⟩ := at_T52 hC (k : Int) (by omega) (by omega)
  have hr : rd_T52 L (k : Int) = x := by
    unfold rd_T52
    rw [Int.toNat_natCast, List.getD_eq_getElem?_getD, hx]
    rfl
  rw [hr] at h0 h1 h2 h3 h4 h5 h6 h7 l4 g4 l5 g5
  rw [Int.toNat_natCast] at h0 h1 h2 h3 h4 h5 h6 h7
  exact ⟨ad, A4, c4, A5, c5, e, ⟨h0, h1, h2, h3, h4, h5, h6, h7⟩, ⟨A4, c4, A5, c5, rfl, rfl, l4, g4, l5, g5⟩⟩
/-- What a round holds: the act's box, the copy's box, the copy. -/
structure Rnd (w0 w : World) (gb gr gk : Nat) (most : Int) (La Lb : List MsgT) (n : Int) (X : List Nat) (bx bt : Nat) (x : ActT) (A4 : Option Addr) (c4 : Nat) (A5 : Option Addr) (c5 : Nat) (B4 : Option Addr) (k4 : Nat) (B5 : Option Addr) (k5 : Nat) (F4 F5 : List Nat) : Prop where
  play : Play w0 w gb gr gk most La Lb n X
  xin : bx ∈ X
  tin : bt ∈ X
  fin : ∀ b ∈ F4 ++ F5, b ∈ X
  xbox : w.heap[bx]? = some (.cells #[.int .u8 x.f0, .int .u8 x.f1.f0, .int .u8 x.f1.f1, .int .u8 x.f1.f2, .int .u32 x.f1.f3, .slice A4 x.f1.f4.length c4, .slice A5 x.f1.f5.length c5, .int .i64 x.f2] 52 (0, 0))
  tbox : w.heap[bt]? = some (.cells #[.int .u8 x.f1.f0, .int .u8 x.f1.f1, .int .u8 x.f1.f2, .int .u32 x.f1.f3, .slice B4 x.f1.f4.length k4, .slice B5 x.f1.f5.length k5] 50 (0, 0))
  t4 : Twin fdOp 82 w F4 (.slice B4 x.f1.f4.length k4) x.f1.f4 spareOp
  t5 : Twin fdTR 145 w F5 (.slice B5 x.f1.f5.length k5) (x.f1.f5.map twOf) spareRes
section
variable {w0 w w1 : World} {gb gr gk : Nat} {most : Int} {La Lb La' Lb' : List MsgT} {n n' : Int} {X X' : List Nat} {bx bt : Nat} {x : ActT} {A4 : Option Addr} {c4 : Nat} {A5 : Option Addr} {c5 : Nat} {B4 : Option Addr} {k4 : Nat} {B5 : Option Addr} {k5 : Nat} {F4 F5 : List Nat}
theorem Rnd.to (h : Rnd w0 w gb gr gk most La Lb n X bx bt x A4 c4 A5 c5 B4 k4 B5 k5 F4 F5) (p : Play w0 w1 gb gr gk most La' Lb' n' X') {S : List Nat} (s : Same S w w1) (hx : ∀ b, b = bx ∨ b = bt ∨ b ∈ F4 ++ F5 → b ∈ S ∧ b ∈ X') : Rnd w0 w1 gb gr gk most La' Lb' n' X' bx bt x A4 c4 A5 c5 B4 k4 B5 k5 F4 F5 :=
  ⟨p, (hx bx (.inl rfl)).2, (hx bt (.inr (.inl rfl))).2, fun b hb => (hx b (.inr (.inr hb))).2, s.blk h.xbox (hx bx (.inl rfl)).1, s.blk h.tbox (hx bt (.inr (.inl rfl))).1, s.twin h.t4 (fun b hb => (hx b (.inr (.inr (List.mem_append_left _ hb)))).1), s.twin h.t5 (fun b hb => (hx b (.inr (.inr (List.mem_append_right _ hb)))).1)⟩
theorem Rnd.mem (h : Rnd w0 w gb gr gk most La Lb n X bx bt x A4 c4 A5 c5 B4 k4 B5 k5 F4 F5) : ∀ b, b = bx ∨ b = bt ∨ b ∈ F4 ++ F5 → b ∈ X := fun b hb => by
  rcases hb with rfl | rfl | hb
  · exact h.xin
  · exact h.tin
  · exact h.fin b hb
/-- A step that leaves what is laid by as it is. -/
theorem Rnd.step (h : Rnd w0 w gb gr gk most La Lb n X bx bt x A4 c4 A5 c5 B4 k4 B5 k5 F4 F5) (p : Play w0 w1 gb gr gk most La' Lb' n' X) (s : Same X w w1) : Rnd w0 w1 gb gr gk most La' Lb' n' X bx bt x A4 c4 A5 c5 B4 k4 B5 k5 F4 F5 := h.to p s (fun b hb => ⟨h.mem b hb, h.mem b hb⟩)
/-- A step that lays something by. -/
theorem Rnd.more (h : Rnd w0 w gb gr gk most La Lb n X bx bt x A4 c4 A5 c5 B4 k4 B5 k5 F4 F5) {Y : List Nat} (p : Play w0 w1 gb gr gk most La' Lb' n' (X ++ Y)) (s : Same X w w1) : Rnd w0 w1 gb gr gk most La' Lb' n' (X ++ Y) bx bt x A4 c4 A5 c5 B4 k4 B5 k5 F4 F5 := h.to p s (fun b hb => ⟨h.mem b hb, List.mem_append_left _ (h.mem b hb)⟩)
theorem Rnd.below (h : Rnd w0 w gb gr gk most La Lb n X bx bt x A4 c4 A5 c5 B4 k4 B5 k5 F4 F5) (hb : Below w.heap.size w w1) : Rnd w0 w1 gb gr gk most La Lb n X bx bt x A4 c4 A5 c5 B4 k4 B5 k5 F4 F5 := h.step (h.play.below hb).1 (h.play.below hb).2
theorem Rnd.tIn (h : Rnd w0 w gb gr gk most La Lb n X bx bt x A4 c4 A5 c5 B4 k4 B5 k5 F4 F5) : MsgIn w x.f1 (.slice B4 x.f1.f4.length k4) (.slice B5 x.f1.f5.length k5) :=
  ⟨⟨B4, k4, B5, k5, rfl, rfl, by have := h.t4.c.2.2; omega, h.t4.c.1, by have := (twinR_c h.t5).2; omega, (twinR_c h.t5).1⟩⟩
end
end Go.Proofs.YtcohodkpppmaoaaGreatDoor.Q
namespace Go.Proofs.YtcohodkpppmaoaaGreatDoor.Q
open Go.RowKit Go.Proofs.YtcohodkpppmaoaaGreatDoorW.PrintWords Go.Proofs.YtcohodkpppmaoaaGreatDoorW.PrintLast Go.Proofs.YtcohodkpppmaoaaGreatDoorW.PrintMore
set_option linter.unusedVariables false
/-- Where the loop stands. -/
structure PlayS (w wr : World) (gb gr gk : Nat) (most : Int) (L : List MsgT) (n : Int) (k : Nat) : Prop where
  play : Play w wr gb gr gk most L L n []
  upto : (L.length : Int) ≤ most
  few : ∀ m ∈ L, fewM m
  cnt : n ≤ 2100000 * (k : Int)
theorem few_snoc {L : List MsgT} {m : MsgT} (h : ∀ m ∈ L, fewM m) (hm : fewM m) : ∀ x ∈ L ++ [m], fewM x := fun x hx => by
  rcases List.mem_append.1 hx with hx | hx
  · exact h x hx
  · rw [List.mem_singleton.1 hx]; exact hm
set_option maxHeartbeats 12800000 in
set_option maxRecDepth 100000 in
theorem BagsPlay_some (w : World) (most : Int) (L : List ActT) (ad : Addr) (c : Nat) (hC : k52.C w (some ad) L.length L) (hc : L.length ≤ c) (hl : L.length ≤ many) (hok : ∀ a ∈ L, listsOk a.f1.f4 a.f1.f5) (hT : TabOk w) :
    Calls Tryz.prog 3 #[.int .i64 most, .slice (some ad) L.length c] w fun e w' => e = .returned (.bool true) ∧ Below w.heap.size w w' := by
  obtain ⟨r, hrf, hr⟩ := great_few L hl hok
  have HR := Aside0.mk hr
  have HRF := Aside0.mk hrf
  have HC := Aside0.mk hC
  have HT := Aside0.mk hT
  clear hr hrf hC hok hT
  go_enter Tryz.func3, Tryz.ntmps3
  go_wp2_with fail
  refine (HR.out _ (some ad) c HC.out hc).mono ?_
  rintro e w1 ⟨rfl, hb⟩
  have B1 := Aside0.mk hb
  clear hb HR
  cases r with
  | true =>
    go_wp2
    go_ret
    exact ⟨rfl, B1.out⟩
  | false =>
    obtain ⟨hn300, hfew⟩ := HRF.out rfl
    have HFEW := Aside0.mk hfew
    clear HRF hfew
    by_cases hm : 1 ≤ most ∧ most ≤ 256
    · obtain ⟨hm1, hm2⟩ := hm
      go_wp2_with fail
      refine (new_yes _ most hm1 hm2).mono ?_
      rintro e w2 ⟨g, FB, rfl, hB, lB, hb2⟩
      have HB := Aside0.mk hB
      have LB := Aside0.mk lB
      have B2 := Aside0.mk hb2
      clear hB lB hb2
      go_wp2_with fail
      refine (refNew_yes _ most hm1 hm2).mono ?_
      rintro e w3 ⟨gr, FR, rfl, hR, lR, hb3⟩
      obtain ⟨gk, hgk⟩ : ∃ gk, gk = w3.heap.size := ⟨_, rfl⟩
      have ha := below_alloc (Below.refl w3.heap.size w3) (.cells #[.int .i64 0, .slice none 0 0, .slice none 0 0, .slice none 0 0, .slice none 0 0, .slice none 0 0, .slice none 0 0, .slice none 0 0, .slice none 0 0, .slice none 0 0, .slice none 0 0, .slice none 0 0, .slice none 0 0] 44)
      obtain ⟨w4, hw4⟩ : ∃ w4, w4 = w3.alloc (.cells #[.int .i64 0, .slice none 0 0, .slice none 0 0, .slice none 0 0, .slice none 0 0, .slice none 0 0, .slice none 0 0, .slice none 0 0, .slice none 0 0, .slice none 0 0, .slice none 0 0, .slice none 0 0, .slice none 0 0] 44) := ⟨_, rfl⟩
      have hx4 : w4.heap[gk]? = some (.cells #[.int .i64 0, .slice none 0 0, .slice none 0 0, .slice none 0 0, .slice none 0 0, .slice none 0 0, .slice none 0 0, .slice none 0 0, .slice none 0 0, .slice none 0 0, .slice none 0 0, .slice none 0 0, .slice none 0 0] 44 (0, 0)) := by rw [hw4, hgk]; exact blk_new w3 _
      rw [← hw4] at ha
      have hb24 := below_step hb3 ha
      have hb04 := below_step B1.out (below_step B2.out hb24)
      have ST := Aside0.mk (show PlayS w w4 g gr gk most [] 0 0 from ⟨⟨FB, FR, [gk], [gk], HB.out.below hb24, hR.below ha, BookAt.new hb04 hx4 (by have := B1.out.size; have := B2.out.size; have := hb3.size; omega), (fun x hx hy => by
          have := HB.out.lt x hx; have := lR x hy; omega), (fun x hx hy => by
          have := HB.out.lt x hx; have := hb3.size; simp at hy; omega), (fun x hx hy => by
          have := hR.lt x hx; simp at hy; omega), (fun _ _ hy => by cases hy), (fun _ _ hy => by cases hy), (fun _ _ hy => by cases hy), (fun x hx => Nat.le_trans B1.out.size (LB.out x hx)), (fun x hx => Nat.le_trans B1.out.size (Nat.le_trans B2.out.size (lR x hx))), (fun _ hy => by cases hy)⟩, (by show (0 : Int) ≤ most; omega), (fun _ h => by cases h), (by omega)⟩)
      clear hR lR hb3 ha hb24 hb04 hx4 HB LB B1 B2
      go_upto_region 12 with fail
      rw [← hgk, ← hw4]
      clear hgk hw4
      go_wp2
      go_loopw [10] (fun i wr => ∃ (k : Nat) (Lm : List MsgT) (n : Int), k ≤ L.length ∧ i = .int .i64 k ∧ Aside0 (PlayS w wr g gr gk most Lm n k)) (fun i _ => L.length - (intOf i).toNat)
      case atStart => exact ⟨0, [], 0, Nat.zero_le _, rfl, ST⟩
      case round =>
        clear ST
        obtain ⟨wq, hwq⟩ : ∃ wq, wq = wr := ⟨_, rfl⟩
        subst hwq
        obtain ⟨k, Lm, n, hk, rfl, HS⟩ := hrel
        have hup := HS.out.upto
        have hcnt := HS.out.cnt
        by_cases hlt : k < L.length
        · have hlt' : (k : Int) < (L.length : Int) := by omega
          have hk0 : (0 : Int) ≤ (k : Int) := by omega
          have hn9 : n + 250000000 ≤ 1000000000 := by omega
          obtain ⟨x, hx⟩ : ∃ x, L[k]? = some x := ⟨L[k], List.getElem?_eq_getElem hlt⟩
          have HFX := Aside0.mk (HFEW.out x (List.mem_of_getElem? hx))
          obtain ⟨ad', A4, c4, A5, c5, eA, ⟨q0, q1, q2, q3, q4, q5, q6, q7⟩, hmi⟩ := read_act HC.out hx
          have eB := Option.some.inj eA
          subst eB
          have hbase := HS.out.play.base
          replace q0 := cell_later hbase q0
          replace q1 := cell_later hbase q1
          replace q2 := cell_later hbase q2
          replace q3 := cell_later hbase q3
          replace q4 := cell_later hbase q4
          replace q5 := cell_later hbase q5
          replace q6 := cell_later hbase q6
          replace q7 := cell_later hbase q7
          obtain ⟨B4', d4', B5', d5', e4, e5, l4, h4, l5, h5⟩ := hmi.read
          injection e4 with e41 _ e43
          injection e5 with e51 _ e53
          subst e41 e43 e51 e53
          have HMI := Aside0.mk hmi
          have H4 := Aside0.mk h4
          have H5 := Aside0.mk h5
          have hf4 := HFX.out.1
          have hf5 := HFX.out.2.1
          have hb1 := below_alloc (Below.refl wq.heap.size wq) (.cells #[.int .u8 x.f0, .int .u8 x.f1.f0, .int .u8 x.f1.f1, .int .u8 x.f1.f2, .int .u32 x.f1.f3, .slice A4 x.f1.f4.length c4, .slice A5 x.f1.f5.length c5, .int .i64 x.f2] 52)
          obtain ⟨W1, hW1⟩ : ∃ W1, W1 = wq.alloc (.cells #[.int .u8 x.f0, .int .u8 x.f1.f0, .int .u8 x.f1.f1, .int .u8 x.f1.f2, .int .u32 x.f1.f3, .slice A4 x.f1.f4.length c4, .slice A5 x.f1.f5.length c5, .int .i64 x.f2] 52) := ⟨_, rfl⟩
          have hx1 : W1.heap[wq.heap.size]? = some (.cells #[.int .u8 x.f0, .int .u8 x.f1.f0, .int .u8 x.f1.f1, .int .u8 x.f1.f2, .int .u32 x.f1.f3, .slice A4 x.f1.f4.length c4, .slice A5 x.f1.f5.length c5, .int .i64 x.f2] 52 (0, 0)) := by rw [hW1]; exact blk_new wq _
          rw [← hW1] at hb1
          have p1 := HS.out.play.park (Y := [wq.heap.size]) hb1 (fun y hy => by simp at hy; subst hy; exact ⟨Nat.le_refl _, blk_lt hx1⟩)
          have P1 := Aside0.mk p1.1
          have HX1 := Aside0.mk hx1
          have C1 := Aside0.mk (twinMsg_calls W1 x.f1.f0 x.f1.f1 x.f1.f2 x.f1.f3 A4 c4 x.f1.f4 A5 c5 x.f1.f5 (Kd.C_below (Kd.C_below h4 hbase) hb1) l4 (Kd.C_below (Kd.C_below h5 hbase) hb1) l5 (by omega) (by omega) (fun y hy => by have := HFX.out.2.2 y hy; omega))
          clear hx hmi hbase h4 h5 hb1 hx1 p1
          go_wp2_with fail
          rw [← hW1]
          clear hW1
          with_reducible refine C1.out.mono ?_
          rintro e w2 ⟨B4, k4, B5, k5, rfl, F4, F5, hT4, hT5, hN4, hN5, hDJ, hG4, hG5, hb2⟩
          have ha := below_alloc (Below.refl w2.heap.size w2) (.cells #[.int .u8 x.f1.f0, .int .u8 x.f1.f1, .int .u8 x.f1.f2, .int .u32 x.f1.f3, .slice B4 x.f1.f4.length k4, .slice B5 x.f1.f5.length k5] 50)
          obtain ⟨W3, hW3⟩ : ∃ W3, W3 = w2.alloc (.cells #[.int .u8 x.f1.f0, .int .u8 x.f1.f1, .int .u8 x.f1.f2, .int .u32 x.f1.f3, .slice B4 x.f1.f4.length k4, .slice B5 x.f1.f5.length k5] 50) := ⟨_, rfl⟩
          have hx3 : W3.heap[w2.heap.size]? = some (.cells #[.int .u8 x.f1.f0, .int .u8 x.f1.f1, .int .u8 x.f1.f2, .int .u32 x.f1.f3, .slice B4 x.f1.f4.length k4, .slice B5 x.f1.f5.length k5] 50 (0, 0)) := by rw [hW3]; exact blk_new w2 _
          rw [← hW3] at ha
          have p2 := P1.out.park (Y := F4 ++ F5) hb2 (fun y hy => by
            rcases List.mem_append.1 hy with h | h
            · exact ⟨hG4 y h, hT4.lt y h⟩
            · exact ⟨hG5 y h, hT5.lt y h⟩)
          have p3 := p2.1.park (Y := [w2.heap.size]) ha (fun y hy => by simp at hy; subst hy; exact ⟨Nat.le_refl _, blk_lt hx3⟩)
          obtain ⟨X, hX⟩ : ∃ X, X = (([] ++ [wq.heap.size]) ++ (F4 ++ F5)) ++ [w2.heap.size] := ⟨_, rfl⟩
          rw [← hX] at p3
          have hx2 := blk_below HX1.out hb2
          have RN := Aside0.mk (show Rnd w W3 g gr gk most Lm Lm n X wq.heap.size w2.heap.size x A4 c4 A5 c5 B4 k4 B5 k5 F4 F5 from ⟨p3.1, by rw [hX]; simp, by rw [hX]; simp, fun b hb => by rw [hX]; exact List.mem_append_left _ (List.mem_append_right _ hb), blk_below hx2 ha, hx3, hT4.below ha, hT5.below ha⟩)
          have N5 := Aside0.mk hN5
          have DJ := Aside0.mk hDJ
          obtain ⟨y0, y1, y2, y3, y4, y5, y6, y7⟩ := blk8 hx2
          have hbx2 := blk_lt hx2
          clear hT4 hT5 hN4 hN5 hDJ hG4 hG5 hb2 ha hx3 p2 p3 hX hx2 P1 HX1 C1 q0 q1 q2 q3 q4 q5 q6 q7
          obtain ⟨kd, hkd⟩ : ∃ z, x.f0 = z := ⟨_, rfl⟩
          rw [hkd] at y0
          obtain ⟨at_, hat⟩ : ∃ z, x.f2 = z := ⟨_, rfl⟩
          rw [hat] at y7
          obtain ⟨t, ht⟩ : ∃ t, Int.tmod kd 5 = t := ⟨_, rfl⟩
          have HKD := Aside0.mk hkd
          have HAT := Aside0.mk hat
          clear hkd hat
          by_cases k0 : t = 0
          · subst k0
            by_cases hfull : (Lm.length : Int) = most
            · go_wp2_with fail
              rw [← hW3]
              clear hW3 y0 y1 y2 y3 y4 y5 y6 y7 hbx2
              have hd := below_drew (Below.refl W3.heap.size W3)
              have HF := Aside0.mk (And.intro (blk8 RN.out.xbox) (blk6w RN.out.tbox))
              have RN := Aside0.mk (RN.out.below hd)
              have HCC := Aside0.mk (And.intro (blk8 RN.out.xbox) (blk6w RN.out.tbox))
              clear hd
              first | (go_region_held3 (fun wn : World => (wn.cell? ⟨wq.heap.size, 0, none⟩ = some (.int .u8 x.f0) ∧ wn.cell? ⟨wq.heap.size, 1, none⟩ = some (.int .u8 x.f1.f0) ∧ wn.cell? ⟨wq.heap.size, 2, none⟩ = some (.int .u8 x.f1.f1) ∧ wn.cell? ⟨wq.heap.size, 3, none⟩ = some (.int .u8 x.f1.f2) ∧ wn.cell? ⟨wq.heap.size, 4, none⟩ = some (.int .u32 x.f1.f3) ∧ wn.cell? ⟨wq.heap.size, 5, none⟩ = some (.slice A4 x.f1.f4.length c4) ∧ wn.cell? ⟨wq.heap.size, 6, none⟩ = some (.slice A5 x.f1.f5.length c5) ∧ wn.cell? ⟨wq.heap.size, 7, none⟩ = some (.int .i64 x.f2)) ∧ (wn.cell? ⟨w2.heap.size, 0, none⟩ = some (.int .u8 x.f1.f0) ∧ wn.cell? ⟨w2.heap.size, 1, none⟩ = some (.int .u8 x.f1.f1) ∧ wn.cell? ⟨w2.heap.size, 2, none⟩ = some (.int .u8 x.f1.f2) ∧ wn.cell? ⟨w2.heap.size, 3, none⟩ = some (.int .u32 x.f1.f3) ∧ wn.cell? ⟨w2.heap.size, 4, none⟩ = some (.slice B4 x.f1.f4.length k4) ∧ wn.cell? ⟨w2.heap.size, 5, none⟩ = some (.slice B5 x.f1.f5.length k5))) (with_reducible exact HCC.out) (first
                 | (go_at_call 13
                    refine (RN.out.play.AddFull hfull RN.out.tIn).mono ?_
                    rintro e wn ⟨rfl, hp, hs⟩
                    have RN := Aside0.mk (RN.out.step hp hs)
                    have HCC := Aside0.mk (And.intro (blk8 RN.out.xbox) (blk6w RN.out.tbox))
                    clear hp hs)
                 | (go_at_call 14
                    refine (RN.out.play.refAddFull hfull).mono ?_
                    rintro e wn ⟨rfl, hp, hs⟩
                    have RN := Aside0.mk (RN.out.step hp hs)
                    have HCC := Aside0.mk (And.intro (blk8 RN.out.xbox) (blk6w RN.out.tbox))
                    clear hp hs))) | fail "held3"
              all_goals
                obtain ⟨x0, x1, x2, x3, x4, x5, x6, x7⟩ := blk8 RN.out.xbox
                obtain ⟨t0, t1, t2, t3, t4, t5⟩ := blk6w RN.out.tbox
                have hbx := blk_lt RN.out.xbox
                have hbt := blk_lt RN.out.tbox
                have D1 := Aside0.mk (leftMsg_calls wn x.f1.f0 x.f1.f1 x.f1.f2 x.f1.f3 B4 k4 B5 k5 F4 F5 A4 c4 x.f1.f4 A5 c5 x.f1.f5 RN.out.t4 RN.out.t5 (Kd.C_below H4.out RN.out.play.base) l4 (Kd.C_below H5.out RN.out.play.base) l5 (by omega) (by omega) (fun y hy => by have := HFX.out.2.2 y hy; omega))
                go_wp2_with fail
                with_reducible refine D1.out.mono ?_
                rintro e wy ⟨rfl, hb⟩
                have RN := Aside0.mk (RN.out.below hb)
                clear hb D1
                clear x0 x1 x2 x3 x4 x5 x6 x7 t0 t1 t2 t3 t4 t5 hbx hbt
                obtain ⟨x0, x1, x2, x3, x4, x5, x6, x7⟩ := blk8 RN.out.xbox
                obtain ⟨t0, t1, t2, t3, t4, t5⟩ := blk6w RN.out.tbox
                have hbx := blk_lt RN.out.xbox
                have hbt := blk_lt RN.out.tbox
                have D2 := Aside0.mk (RN.out.play.Tw (X' := []) (m := x.f1) RN.out.t4 RN.out.t5 N5.out DJ.out RN.out.fin (fun _ hx => by cases hx) HFX.out (by omega))
                unfold msgCells at D2
                go_wp2_with fail
                with_reducible refine D2.out.mono ?_
                rintro e wv ⟨rfl, n9, hn9', hp, _⟩
                have HP := Aside0.mk hp
                clear hp D2
                clear x0 x1 x2 x3 x4 x5 x6 x7 t0 t1 t2 t3 t4 t5 hbx hbt
                go_wp2
                go_roundw
                case rel => exact ⟨k + 1, Lm, n9, by omega, by go_num, ⟨HP.out, HS.out.upto, HS.out.few, by omega⟩⟩
                case measure => simp [intOf]; omega
            · go_wp2_with fail
              rw [← hW3]
              clear hW3 y0 y1 y2 y3 y4 y5 y6 y7 hbx2
              have hd := below_drew (Below.refl W3.heap.size W3)
              have HF := Aside0.mk (And.intro (blk8 RN.out.xbox) (blk6w RN.out.tbox))
              have RN := Aside0.mk (RN.out.below hd)
              have HCC := Aside0.mk (And.intro (blk8 RN.out.xbox) (blk6w RN.out.tbox))
              clear hd
              first | (go_region_held3 (fun wn : World => (wn.cell? ⟨wq.heap.size, 0, none⟩ = some (.int .u8 x.f0) ∧ wn.cell? ⟨wq.heap.size, 1, none⟩ = some (.int .u8 x.f1.f0) ∧ wn.cell? ⟨wq.heap.size, 2, none⟩ = some (.int .u8 x.f1.f1) ∧ wn.cell? ⟨wq.heap.size, 3, none⟩ = some (.int .u8 x.f1.f2) ∧ wn.cell? ⟨wq.heap.size, 4, none⟩ = some (.int .u32 x.f1.f3) ∧ wn.cell? ⟨wq.heap.size, 5, none⟩ = some (.slice A4 x.f1.f4.length c4) ∧ wn.cell? ⟨wq.heap.size, 6, none⟩ = some (.slice A5 x.f1.f5.length c5) ∧ wn.cell? ⟨wq.heap.size, 7, none⟩ = some (.int .i64 x.f2)) ∧ (wn.cell? ⟨w2.heap.size, 0, none⟩ = some (.int .u8 x.f1.f0) ∧ wn.cell? ⟨w2.heap.size, 1, none⟩ = some (.int .u8 x.f1.f1) ∧ wn.cell? ⟨w2.heap.size, 2, none⟩ = some (.int .u8 x.f1.f2) ∧ wn.cell? ⟨w2.heap.size, 3, none⟩ = some (.int .u32 x.f1.f3) ∧ wn.cell? ⟨w2.heap.size, 4, none⟩ = some (.slice B4 x.f1.f4.length k4) ∧ wn.cell? ⟨w2.heap.size, 5, none⟩ = some (.slice B5 x.f1.f5.length k5))) (with_reducible exact HCC.out) (first
                 | (go_at_call 13
                    refine (RN.out.play.Add (by assumption) (by omega) RN.out.tIn (msgB_few HFX.out)).mono ?_
                    rintro e wn ⟨rfl, hp, hs⟩
                    have RN := Aside0.mk (RN.out.step hp hs)
                    have HCC := Aside0.mk (And.intro (blk8 RN.out.xbox) (blk6w RN.out.tbox))
                    clear hp hs)
                 | (go_at_call 14
                    refine (RN.out.play.refAdd (by assumption) (by omega) (HMI.out.below RN.out.play.base) (msgB_few HFX.out)).mono ?_
                    rintro e wn ⟨rfl, hp, hs⟩
                    have RN := Aside0.mk (RN.out.step hp hs)
                    have HCC := Aside0.mk (And.intro (blk8 RN.out.xbox) (blk6w RN.out.tbox))
                    clear hp hs))) | fail "held3"
              all_goals
                obtain ⟨x0, x1, x2, x3, x4, x5, x6, x7⟩ := blk8 RN.out.xbox
                obtain ⟨t0, t1, t2, t3, t4, t5⟩ := blk6w RN.out.tbox
                have hbx := blk_lt RN.out.xbox
                have hbt := blk_lt RN.out.tbox
                have D1 := Aside0.mk (leftMsg_calls wn x.f1.f0 x.f1.f1 x.f1.f2 x.f1.f3 B4 k4 B5 k5 F4 F5 A4 c4 x.f1.f4 A5 c5 x.f1.f5 RN.out.t4 RN.out.t5 (Kd.C_below H4.out RN.out.play.base) l4 (Kd.C_below H5.out RN.out.play.base) l5 (by omega) (by omega) (fun y hy => by have := HFX.out.2.2 y hy; omega))
                go_wp2_with fail
                with_reducible refine D1.out.mono ?_
                rintro e wy ⟨rfl, hb⟩
                have RN := Aside0.mk (RN.out.below hb)
                clear hb D1
                clear x0 x1 x2 x3 x4 x5 x6 x7 t0 t1 t2 t3 t4 t5 hbx hbt
                obtain ⟨x0, x1, x2, x3, x4, x5, x6, x7⟩ := blk8 RN.out.xbox
                obtain ⟨t0, t1, t2, t3, t4, t5⟩ := blk6w RN.out.tbox
                have hbx := blk_lt RN.out.xbox
                have hbt := blk_lt RN.out.tbox
                have D2 := Aside0.mk (RN.out.play.Tw (X' := []) (m := x.f1) RN.out.t4 RN.out.t5 N5.out DJ.out RN.out.fin (fun _ hx => by cases hx) HFX.out (by omega))
                unfold msgCells at D2
                go_wp2_with fail
                with_reducible refine D2.out.mono ?_
                rintro e wv ⟨rfl, n9, hn9', hp, _⟩
                have HP := Aside0.mk hp
                clear hp D2
                clear x0 x1 x2 x3 x4 x5 x6 x7 t0 t1 t2 t3 t4 t5 hbx hbt
                go_wp2
                go_roundw
                case rel => exact ⟨k + 1, Lm ++ [x.f1], n9, by omega, by go_num, ⟨HP.out, by rw [List.length_append, List.length_singleton]; omega, few_snoc HS.out.few HFX.out, by omega⟩⟩
                case measure => simp [intOf]; omega
          by_cases k1 : t = 1
          · subst k1
            by_cases hfull : (Lm.length : Int) = most
            · go_wp2_with fail
              rw [← hW3]
              clear hW3 y0 y1 y2 y3 y4 y5 y6 y7 hbx2
              have hd := below_drew (Below.refl W3.heap.size W3)
              have HF := Aside0.mk (And.intro (blk8 RN.out.xbox) (blk6w RN.out.tbox))
              have RN := Aside0.mk (RN.out.below hd)
              have HCC := Aside0.mk (And.intro (blk8 RN.out.xbox) (blk6w RN.out.tbox))
              clear hd
              first | (go_region_held3 (fun wn : World => (wn.cell? ⟨wq.heap.size, 0, none⟩ = some (.int .u8 x.f0) ∧ wn.cell? ⟨wq.heap.size, 1, none⟩ = some (.int .u8 x.f1.f0) ∧ wn.cell? ⟨wq.heap.size, 2, none⟩ = some (.int .u8 x.f1.f1) ∧ wn.cell? ⟨wq.heap.size, 3, none⟩ = some (.int .u8 x.f1.f2) ∧ wn.cell? ⟨wq.heap.size, 4, none⟩ = some (.int .u32 x.f1.f3) ∧ wn.cell? ⟨wq.heap.size, 5, none⟩ = some (.slice A4 x.f1.f4.length c4) ∧ wn.cell? ⟨wq.heap.size, 6, none⟩ = some (.slice A5 x.f1.f5.length c5) ∧ wn.cell? ⟨wq.heap.size, 7, none⟩ = some (.int .i64 x.f2)) ∧ (wn.cell? ⟨w2.heap.size, 0, none⟩ = some (.int .u8 x.f1.f0) ∧ wn.cell? ⟨w2.heap.size, 1, none⟩ = some (.int .u8 x.f1.f1) ∧ wn.cell? ⟨w2.heap.size, 2, none⟩ = some (.int .u8 x.f1.f2) ∧ wn.cell? ⟨w2.heap.size, 3, none⟩ = some (.int .u32 x.f1.f3) ∧ wn.cell? ⟨w2.heap.size, 4, none⟩ = some (.slice B4 x.f1.f4.length k4) ∧ wn.cell? ⟨w2.heap.size, 5, none⟩ = some (.slice B5 x.f1.f5.length k5))) (with_reducible exact HCC.out) (first
                 | (go_at_call 13
                    refine (RN.out.play.AddFull hfull RN.out.tIn).mono ?_
                    rintro e wn ⟨rfl, hp, hs⟩
                    have RN := Aside0.mk (RN.out.step hp hs)
                    have HCC := Aside0.mk (And.intro (blk8 RN.out.xbox) (blk6w RN.out.tbox))
                    clear hp hs)
                 | (go_at_call 14
                    refine (RN.out.play.refAddFull hfull).mono ?_
                    rintro e wn ⟨rfl, hp, hs⟩
                    have RN := Aside0.mk (RN.out.step hp hs)
                    have HCC := Aside0.mk (And.intro (blk8 RN.out.xbox) (blk6w RN.out.tbox))
                    clear hp hs))) | fail "held3"
              all_goals
                obtain ⟨x0, x1, x2, x3, x4, x5, x6, x7⟩ := blk8 RN.out.xbox
                obtain ⟨t0, t1, t2, t3, t4, t5⟩ := blk6w RN.out.tbox
                have hbx := blk_lt RN.out.xbox
                have hbt := blk_lt RN.out.tbox
                have D1 := Aside0.mk (leftMsg_calls wn x.f1.f0 x.f1.f1 x.f1.f2 x.f1.f3 B4 k4 B5 k5 F4 F5 A4 c4 x.f1.f4 A5 c5 x.f1.f5 RN.out.t4 RN.out.t5 (Kd.C_below H4.out RN.out.play.base) l4 (Kd.C_below H5.out RN.out.play.base) l5 (by omega) (by omega) (fun y hy => by have := HFX.out.2.2 y hy; omega))
                go_wp2_with fail
                with_reducible refine D1.out.mono ?_
                rintro e wy ⟨rfl, hb⟩
                have RN := Aside0.mk (RN.out.below hb)
                clear hb D1
                clear x0 x1 x2 x3 x4 x5 x6 x7 t0 t1 t2 t3 t4 t5 hbx hbt
                obtain ⟨x0, x1, x2, x3, x4, x5, x6, x7⟩ := blk8 RN.out.xbox
                obtain ⟨t0, t1, t2, t3, t4, t5⟩ := blk6w RN.out.tbox
                have hbx := blk_lt RN.out.xbox
                have hbt := blk_lt RN.out.tbox
                have D2 := Aside0.mk (RN.out.play.Tw (X' := []) (m := x.f1) RN.out.t4 RN.out.t5 N5.out DJ.out RN.out.fin (fun _ hx => by cases hx) HFX.out (by omega))
                unfold msgCells at D2
                go_wp2_with fail
                with_reducible refine D2.out.mono ?_
                rintro e wv ⟨rfl, n9, hn9', hp, _⟩
                have HP := Aside0.mk hp
                clear hp D2
                clear x0 x1 x2 x3 x4 x5 x6 x7 t0 t1 t2 t3 t4 t5 hbx hbt
                go_wp2
                go_roundw
                case rel => exact ⟨k + 1, Lm, n9, by omega, by go_num, ⟨HP.out, HS.out.upto, HS.out.few, by omega⟩⟩
                case measure => simp [intOf]; omega
            · go_wp2_with fail
              rw [← hW3]
              clear hW3 y0 y1 y2 y3 y4 y5 y6 y7 hbx2
              have hd := below_drew (Below.refl W3.heap.size W3)
              have HF := Aside0.mk (And.intro (blk8 RN.out.xbox) (blk6w RN.out.tbox))
              have RN := Aside0.mk (RN.out.below hd)
              have HCC := Aside0.mk (And.intro (blk8 RN.out.xbox) (blk6w RN.out.tbox))
              clear hd
              first | (go_region_held3 (fun wn : World => (wn.cell? ⟨wq.heap.size, 0, none⟩ = some (.int .u8 x.f0) ∧ wn.cell? ⟨wq.heap.size, 1, none⟩ = some (.int .u8 x.f1.f0) ∧ wn.cell? ⟨wq.heap.size, 2, none⟩ = some (.int .u8 x.f1.f1) ∧ wn.cell? ⟨wq.heap.size, 3, none⟩ = some (.int .u8 x.f1.f2) ∧ wn.cell? ⟨wq.heap.size, 4, none⟩ = some (.int .u32 x.f1.f3) ∧ wn.cell? ⟨wq.heap.size, 5, none⟩ = some (.slice A4 x.f1.f4.length c4) ∧ wn.cell? ⟨wq.heap.size, 6, none⟩ = some (.slice A5 x.f1.f5.length c5) ∧ wn.cell? ⟨wq.heap.size, 7, none⟩ = some (.int .i64 x.f2)) ∧ (wn.cell? ⟨w2.heap.size, 0, none⟩ = some (.int .u8 x.f1.f0) ∧ wn.cell? ⟨w2.heap.size, 1, none⟩ = some (.int .u8 x.f1.f1) ∧ wn.cell? ⟨w2.heap.size, 2, none⟩ = some (.int .u8 x.f1.f2) ∧ wn.cell? ⟨w2.heap.size, 3, none⟩ = some (.int .u32 x.f1.f3) ∧ wn.cell? ⟨w2.heap.size, 4, none⟩ = some (.slice B4 x.f1.f4.length k4) ∧ wn.cell? ⟨w2.heap.size, 5, none⟩ = some (.slice B5 x.f1.f5.length k5))) (with_reducible exact HCC.out) (first
                 | (go_at_call 13
                    refine (RN.out.play.Add (by assumption) (by omega) RN.out.tIn (msgB_few HFX.out)).mono ?_
                    rintro e wn ⟨rfl, hp, hs⟩
                    have RN := Aside0.mk (RN.out.step hp hs)
                    have HCC := Aside0.mk (And.intro (blk8 RN.out.xbox) (blk6w RN.out.tbox))
                    clear hp hs)
                 | (go_at_call 14
                    refine (RN.out.play.refAdd (by assumption) (by omega) (HMI.out.below RN.out.play.base) (msgB_few HFX.out)).mono ?_
                    rintro e wn ⟨rfl, hp, hs⟩
                    have RN := Aside0.mk (RN.out.step hp hs)
                    have HCC := Aside0.mk (And.intro (blk8 RN.out.xbox) (blk6w RN.out.tbox))
                    clear hp hs))) | fail "held3"
              all_goals
                obtain ⟨x0, x1, x2, x3, x4, x5, x6, x7⟩ := blk8 RN.out.xbox
                obtain ⟨t0, t1, t2, t3, t4, t5⟩ := blk6w RN.out.tbox
                have hbx := blk_lt RN.out.xbox
                have hbt := blk_lt RN.out.tbox
                have D1 := Aside0.mk (leftMsg_calls wn x.f1.f0 x.f1.f1 x.f1.f2 x.f1.f3 B4 k4 B5 k5 F4 F5 A4 c4 x.f1.f4 A5 c5 x.f1.f5 RN.out.t4 RN.out.t5 (Kd.C_below H4.out RN.out.play.base) l4 (Kd.C_below H5.out RN.out.play.base) l5 (by omega) (by omega) (fun y hy => by have := HFX.out.2.2 y hy; omega))
                go_wp2_with fail
                with_reducible refine D1.out.mono ?_
                rintro e wy ⟨rfl, hb⟩
                have RN := Aside0.mk (RN.out.below hb)
                clear hb D1
                clear x0 x1 x2 x3 x4 x5 x6 x7 t0 t1 t2 t3 t4 t5 hbx hbt
                obtain ⟨x0, x1, x2, x3, x4, x5, x6, x7⟩ := blk8 RN.out.xbox
                obtain ⟨t0, t1, t2, t3, t4, t5⟩ := blk6w RN.out.tbox
                have hbx := blk_lt RN.out.xbox
                have hbt := blk_lt RN.out.tbox
                have D2 := Aside0.mk (RN.out.play.Tw (X' := []) (m := x.f1) RN.out.t4 RN.out.t5 N5.out DJ.out RN.out.fin (fun _ hx => by cases hx) HFX.out (by omega))
                unfold msgCells at D2
                go_wp2_with fail
                with_reducible refine D2.out.mono ?_
                rintro e wv ⟨rfl, n9, hn9', hp, _⟩
                have HP := Aside0.mk hp
                clear hp D2
                clear x0 x1 x2 x3 x4 x5 x6 x7 t0 t1 t2 t3 t4 t5 hbx hbt
                go_wp2
                go_roundw
                case rel => exact ⟨k + 1, Lm ++ [x.f1], n9, by omega, by go_num, ⟨HP.out, by rw [List.length_append, List.length_singleton]; omega, few_snoc HS.out.few HFX.out, by omega⟩⟩
                case measure => simp [intOf]; omega
          by_cases k2 : t = 2
          · subst k2
            by_cases hin : 0 ≤ at_ ∧ at_ < (Lm.length : Int)
            · have XM3 := Aside0.mk RN.out.mem
              obtain ⟨j, rfl⟩ : ∃ j : Nat, at_ = (j : Int) := ⟨at_.toNat, by omega⟩
              have hj : j < Lm.length := by omega
              obtain ⟨xm, hxm⟩ : ∃ xm, Lm[j]? = some xm := ⟨Lm[j], List.getElem?_eq_getElem hj⟩
              have HXM := Aside0.mk hxm
              have HFM := Aside0.mk (HS.out.few xm (List.mem_of_getElem? hxm))
              clear hxm
              have C1 := Aside0.mk (RN.out.play.Take HXM.out (by omega))
              go_wp2_with fail
              rw [← hW3]
              clear hW3 y0 y1 y2 y3 y4 y5 y6 y7 hbx2
              with_reducible refine C1.out.mono ?_
              rintro e w5 ⟨v4, v5, Fm, rfl, hM, hNm, hoff, hp, hs⟩
              obtain ⟨E4, f4, E5, f5, rfl, rfl, _⟩ := (msgIn_M hM).read
              have RM := Aside0.mk (RN.out.more hp hs)
              have NM := Aside0.mk hNm
              have OFF := Aside0.mk hoff
              have HM := Aside0.mk hM
              clear hM hNm hoff hp hs C1
              have ha := below_alloc (Below.refl w5.heap.size w5) (.cells #[.int .u8 xm.f0, .int .u8 xm.f1, .int .u8 xm.f2, .int .u32 xm.f3, .slice E4 xm.f4.length f4, .slice E5 xm.f5.length f5] 50)
              obtain ⟨W6, hW6⟩ : ∃ W6, W6 = w5.alloc (.cells #[.int .u8 xm.f0, .int .u8 xm.f1, .int .u8 xm.f2, .int .u32 xm.f3, .slice E4 xm.f4.length f4, .slice E5 xm.f5.length f5] 50) := ⟨_, rfl⟩
              have hx6 : W6.heap[w5.heap.size]? = some (.cells #[.int .u8 xm.f0, .int .u8 xm.f1, .int .u8 xm.f2, .int .u32 xm.f3, .slice E4 xm.f4.length f4, .slice E5 xm.f5.length f5] 50 (0, 0)) := by rw [hW6]; exact blk_new w5 _
              rw [← hW6] at ha
              have p6 := RM.out.play.park (Y := [w5.heap.size]) ha (fun y hy => by simp at hy; subst hy; exact ⟨Nat.le_refl _, blk_lt hx6⟩)
              have RN := Aside0.mk (RM.out.more p6.1 p6.2)
              have HM := Aside0.mk (p6.2.msg HM.out (fun b hb => List.mem_append_right _ hb))
              have AB := Aside0.mk hx6
              obtain ⟨x0, x1, x2, x3, x4, x5, x6, x7⟩ := blk8 RM.out.xbox
              rw [HAT.out] at x7
              have hbx := blk_lt RM.out.xbox
              have C2 := Aside0.mk (RN.out.play.refTake HXM.out (by omega))
              clear ha hx6 p6 RM
              unfold msgCells
              go_wp2_with fail
              rw [← hW6]
              clear hW6 x0 x1 x2 x3 x4 x5 x6 x7 hbx
              with_reducible refine C2.out.mono ?_
              rintro e w7 ⟨u4, u5, rfl, hm, hp, hs⟩
              obtain ⟨G4, g4, G5, g5, rfl, rfl, _⟩ := hm.read
              have MI7 := Aside0.mk hm
              have RM := Aside0.mk (RN.out.step hp hs)
              have HM := Aside0.mk (hs.msg HM.out (fun b hb => List.mem_append_left _ (List.mem_append_right _ hb)))
              have AB := Aside0.mk (hs.blk AB.out (List.mem_append_right _ (by simp)))
              clear hm hp hs C2 RN
              have ha := below_alloc (Below.refl w7.heap.size w7) (.cells #[.int .u8 xm.f0, .int .u8 xm.f1, .int .u8 xm.f2, .int .u32 xm.f3, .slice G4 xm.f4.length g4, .slice G5 xm.f5.length g5] 50)
              obtain ⟨W8, hW8⟩ : ∃ W8, W8 = w7.alloc (.cells #[.int .u8 xm.f0, .int .u8 xm.f1, .int .u8 xm.f2, .int .u32 xm.f3, .slice G4 xm.f4.length g4, .slice G5 xm.f5.length g5] 50) := ⟨_, rfl⟩
              have hx8 : W8.heap[w7.heap.size]? = some (.cells #[.int .u8 xm.f0, .int .u8 xm.f1, .int .u8 xm.f2, .int .u32 xm.f3, .slice G4 xm.f4.length g4, .slice G5 xm.f5.length g5] 50 (0, 0)) := by rw [hW8]; exact blk_new w7 _
              rw [← hW8] at ha
              have RN := Aside0.mk (RM.out.below ha)
              have hs8 := (RM.out.play.below ha).2
              have HM := Aside0.mk (hs8.msg HM.out (fun b hb => List.mem_append_left _ (List.mem_append_right _ hb)))
              have A8 := Aside0.mk (hs8.blk AB.out (List.mem_append_right _ (by simp)))
              have MI8 := Aside0.mk (MI7.out.below ha)
              have C8 := Aside0.mk hx8
              obtain ⟨a0, a1, a2, a3, a4, a5⟩ := blk6w AB.out
              have hba := blk_lt AB.out
              have C3 := Aside0.mk (sameMsg_of W8 xm (msgIn_M (v4 := (.slice E4 xm.f4.length f4)) (v5 := (.slice E5 xm.f5.length f5)) HM.out) MI8.out HFM.out)
              clear ha hx8 hs8 RM AB MI7
              unfold msgCells at C3
              unfold msgCells
              go_wp2_with fail
              rw [← hW8]
              clear hW8 a0 a1 a2 a3 a4 a5 hba
              with_reducible refine C3.out.mono ?_
              rintro e w9 ⟨rfl, hb⟩
              have hs9 := (RN.out.play.below hb).2
              have RM := Aside0.mk (RN.out.below hb)
              have HM := Aside0.mk (hs9.msg HM.out (fun b hb => List.mem_append_left _ (List.mem_append_right _ hb)))
              have AB := Aside0.mk (hs9.blk A8.out (List.mem_append_right _ (by simp)))
              clear hb hs9 RN A8 C8 MI8 C3
              obtain ⟨a0, a1, a2, a3, a4, a5⟩ := blk6w AB.out
              have hba := blk_lt AB.out
              have C4 := Aside0.mk (RM.out.play.MsgC (X' := X) (v4 := (.slice E4 xm.f4.length f4)) (v5 := (.slice E5 xm.f5.length f5)) HM.out NM.out (fun b hb => List.mem_append_left _ (List.mem_append_right _ hb)) (fun y hy => ⟨List.mem_append_left _ (List.mem_append_left _ hy), fun hx => OFF.out y hx hy⟩) HFM.out (by omega))
              unfold msgCells at C4
              go_wp2_with fail
              clear a0 a1 a2 a3 a4 a5 hba
              with_reducible refine C4.out.mono ?_
              rintro e wn ⟨rfl, n4, hn4, hp, hs⟩
              have RN := Aside0.mk (RM.out.to hp hs (fun b hb => ⟨List.mem_append_left _ (List.mem_append_left _ (XM3.out b hb)), XM3.out b hb⟩))
              clear hp hs C4 RM HM AB
              have hle : (Lm.eraseIdx j).length = Lm.length - 1 := List.length_eraseIdx_of_lt hj
              obtain ⟨x0, x1, x2, x3, x4, x5, x6, x7⟩ := blk8 RN.out.xbox
              obtain ⟨t0, t1, t2, t3, t4, t5⟩ := blk6w RN.out.tbox
              have hbx := blk_lt RN.out.xbox
              have hbt := blk_lt RN.out.tbox
              have D1 := Aside0.mk (leftMsg_calls wn x.f1.f0 x.f1.f1 x.f1.f2 x.f1.f3 B4 k4 B5 k5 F4 F5 A4 c4 x.f1.f4 A5 c5 x.f1.f5 RN.out.t4 RN.out.t5 (Kd.C_below H4.out RN.out.play.base) l4 (Kd.C_below H5.out RN.out.play.base) l5 (by omega) (by omega) (fun y hy => by have := HFX.out.2.2 y hy; omega))
              go_wp2_with fail
              with_reducible refine D1.out.mono ?_
              rintro e wy ⟨rfl, hb⟩
              have RN := Aside0.mk (RN.out.below hb)
              clear hb D1
              clear x0 x1 x2 x3 x4 x5 x6 x7 t0 t1 t2 t3 t4 t5 hbx hbt
              obtain ⟨x0, x1, x2, x3, x4, x5, x6, x7⟩ := blk8 RN.out.xbox
              obtain ⟨t0, t1, t2, t3, t4, t5⟩ := blk6w RN.out.tbox
              have hbx := blk_lt RN.out.xbox
              have hbt := blk_lt RN.out.tbox
              have D2 := Aside0.mk (RN.out.play.Tw (X' := []) (m := x.f1) RN.out.t4 RN.out.t5 N5.out DJ.out RN.out.fin (fun _ hx => by cases hx) HFX.out (by omega))
              unfold msgCells at D2
              go_wp2_with fail
              with_reducible refine D2.out.mono ?_
              rintro e wv ⟨rfl, n9, hn9', hp, _⟩
              have HP := Aside0.mk hp
              clear hp D2
              clear x0 x1 x2 x3 x4 x5 x6 x7 t0 t1 t2 t3 t4 t5 hbx hbt
              go_wp2
              go_roundw
              case rel => exact ⟨k + 1, Lm.eraseIdx j, n9, by omega, by go_num, ⟨HP.out, by rw [hle]; omega, fun y hy => HS.out.few y (List.mem_of_mem_eraseIdx hy), by omega⟩⟩
              case measure => simp [intOf]; omega
            · have XM3 := Aside0.mk RN.out.mem
              have C1 := Aside0.mk (RN.out.play.TakeNo hin)
              go_wp2_with fail
              rw [← hW3]
              clear hW3 y0 y1 y2 y3 y4 y5 y6 y7 hbx2
              with_reducible refine C1.out.mono ?_
              rintro e w5 ⟨rfl, hp, hs⟩
              obtain ⟨Fm, hFm⟩ : ∃ Fm : List Nat, Fm = [] := ⟨_, rfl⟩
              have RM := Aside0.mk (show Rnd w w5 g gr gk most Lm Lm n (X ++ Fm) wq.heap.size w2.heap.size x A4 c4 A5 c5 B4 k4 B5 k5 F4 F5 from by
                rw [hFm, List.append_nil]
                exact RN.out.step hp hs)
              have NM := Aside0.mk (show Fm.Nodup by rw [hFm]; exact List.nodup_nil)
              have OFF := Aside0.mk (show ∀ y ∈ Fm, y ∉ X by rw [hFm]; exact fun _ hy => by cases hy)
              have HM := Aside0.mk (show fdMsg.M w5 Fm (⟨0, 0, 0, 0, [], []⟩ : MsgT) zeroMsg.toList by rw [hFm]; exact M_zero w5)
              clear hp hs hFm C1
              have ha := below_alloc (Below.refl w5.heap.size w5) (.cells #[.int .u8 0, .int .u8 0, .int .u8 0, .int .u32 0, .slice none 0 0, .slice none 0 0] 50)
              obtain ⟨W6, hW6⟩ : ∃ W6, W6 = w5.alloc (.cells #[.int .u8 0, .int .u8 0, .int .u8 0, .int .u32 0, .slice none 0 0, .slice none 0 0] 50) := ⟨_, rfl⟩
              have hx6 : W6.heap[w5.heap.size]? = some (.cells #[.int .u8 0, .int .u8 0, .int .u8 0, .int .u32 0, .slice none 0 0, .slice none 0 0] 50 (0, 0)) := by rw [hW6]; exact blk_new w5 _
              rw [← hW6] at ha
              have p6 := RM.out.play.park (Y := [w5.heap.size]) ha (fun y hy => by simp at hy; subst hy; exact ⟨Nat.le_refl _, blk_lt hx6⟩)
              have RN := Aside0.mk (RM.out.more p6.1 p6.2)
              have HM := Aside0.mk (p6.2.msg HM.out (fun b hb => List.mem_append_right _ hb))
              have AB := Aside0.mk hx6
              obtain ⟨x0, x1, x2, x3, x4, x5, x6, x7⟩ := blk8 RM.out.xbox
              rw [HAT.out] at x7
              have hbx := blk_lt RM.out.xbox
              have C2 := Aside0.mk (RN.out.play.refTakeNo hin)
              clear ha hx6 p6 RM
              go_wp2_with fail
              rw [← hW6]
              clear hW6 x0 x1 x2 x3 x4 x5 x6 x7 hbx
              with_reducible refine C2.out.mono ?_
              rintro e w7 ⟨rfl, hp, hs⟩
              have hm := msgIn_zero w7
              have MI7 := Aside0.mk hm
              have RM := Aside0.mk (RN.out.step hp hs)
              have HM := Aside0.mk (hs.msg HM.out (fun b hb => List.mem_append_left _ (List.mem_append_right _ hb)))
              have AB := Aside0.mk (hs.blk AB.out (List.mem_append_right _ (by simp)))
              clear hm hp hs C2 RN
              have ha := below_alloc (Below.refl w7.heap.size w7) (.cells #[.int .u8 0, .int .u8 0, .int .u8 0, .int .u32 0, .slice none 0 0, .slice none 0 0] 50)
              obtain ⟨W8, hW8⟩ : ∃ W8, W8 = w7.alloc (.cells #[.int .u8 0, .int .u8 0, .int .u8 0, .int .u32 0, .slice none 0 0, .slice none 0 0] 50) := ⟨_, rfl⟩
              have hx8 : W8.heap[w7.heap.size]? = some (.cells #[.int .u8 0, .int .u8 0, .int .u8 0, .int .u32 0, .slice none 0 0, .slice none 0 0] 50 (0, 0)) := by rw [hW8]; exact blk_new w7 _
              rw [← hW8] at ha
              have RN := Aside0.mk (RM.out.below ha)
              have hs8 := (RM.out.play.below ha).2
              have HM := Aside0.mk (hs8.msg HM.out (fun b hb => List.mem_append_left _ (List.mem_append_right _ hb)))
              have A8 := Aside0.mk (hs8.blk AB.out (List.mem_append_right _ (by simp)))
              have MI8 := Aside0.mk (MI7.out.below ha)
              have C8 := Aside0.mk hx8
              obtain ⟨a0, a1, a2, a3, a4, a5⟩ := blk6w AB.out
              have hba := blk_lt AB.out
              have C3 := Aside0.mk (sameMsg_of W8 (⟨0, 0, 0, 0, [], []⟩ : MsgT) (msgIn_M (v4 := (.slice none 0 0)) (v5 := (.slice none 0 0)) HM.out) MI8.out few_zero)
              clear ha hx8 hs8 RM AB MI7
              unfold msgCells at C3
              go_wp2_with fail
              rw [← hW8]
              clear hW8 a0 a1 a2 a3 a4 a5 hba
              with_reducible refine C3.out.mono ?_
              rintro e w9 ⟨rfl, hb⟩
              have hs9 := (RN.out.play.below hb).2
              have RM := Aside0.mk (RN.out.below hb)
              have HM := Aside0.mk (hs9.msg HM.out (fun b hb => List.mem_append_left _ (List.mem_append_right _ hb)))
              have AB := Aside0.mk (hs9.blk A8.out (List.mem_append_right _ (by simp)))
              clear hb hs9 RN A8 C8 MI8 C3
              obtain ⟨a0, a1, a2, a3, a4, a5⟩ := blk6w AB.out
              have hba := blk_lt AB.out
              have C4 := Aside0.mk (RM.out.play.MsgC (X' := X) (v4 := (.slice none 0 0)) (v5 := (.slice none 0 0)) HM.out NM.out (fun b hb => List.mem_append_left _ (List.mem_append_right _ hb)) (fun y hy => ⟨List.mem_append_left _ (List.mem_append_left _ hy), fun hx => OFF.out y hx hy⟩) few_zero (by omega))
              unfold msgCells at C4
              go_wp2_with fail
              clear a0 a1 a2 a3 a4 a5 hba
              with_reducible refine C4.out.mono ?_
              rintro e wn ⟨rfl, n4, hn4, hp, hs⟩
              have RN := Aside0.mk (RM.out.to hp hs (fun b hb => ⟨List.mem_append_left _ (List.mem_append_left _ (XM3.out b hb)), XM3.out b hb⟩))
              clear hp hs C4 RM HM AB
              obtain ⟨x0, x1, x2, x3, x4, x5, x6, x7⟩ := blk8 RN.out.xbox
              obtain ⟨t0, t1, t2, t3, t4, t5⟩ := blk6w RN.out.tbox
              have hbx := blk_lt RN.out.xbox
              have hbt := blk_lt RN.out.tbox
              have D1 := Aside0.mk (leftMsg_calls wn x.f1.f0 x.f1.f1 x.f1.f2 x.f1.f3 B4 k4 B5 k5 F4 F5 A4 c4 x.f1.f4 A5 c5 x.f1.f5 RN.out.t4 RN.out.t5 (Kd.C_below H4.out RN.out.play.base) l4 (Kd.C_below H5.out RN.out.play.base) l5 (by omega) (by omega) (fun y hy => by have := HFX.out.2.2 y hy; omega))
              go_wp2_with fail
              with_reducible refine D1.out.mono ?_
              rintro e wy ⟨rfl, hb⟩
              have RN := Aside0.mk (RN.out.below hb)
              clear hb D1
              clear x0 x1 x2 x3 x4 x5 x6 x7 t0 t1 t2 t3 t4 t5 hbx hbt
              obtain ⟨x0, x1, x2, x3, x4, x5, x6, x7⟩ := blk8 RN.out.xbox
              obtain ⟨t0, t1, t2, t3, t4, t5⟩ := blk6w RN.out.tbox
              have hbx := blk_lt RN.out.xbox
              have hbt := blk_lt RN.out.tbox
              have D2 := Aside0.mk (RN.out.play.Tw (X' := []) (m := x.f1) RN.out.t4 RN.out.t5 N5.out DJ.out RN.out.fin (fun _ hx => by cases hx) HFX.out (by omega))
              unfold msgCells at D2
              go_wp2_with fail
              with_reducible refine D2.out.mono ?_
              rintro e wv ⟨rfl, n9, hn9', hp, _⟩
              have HP := Aside0.mk hp
              clear hp D2
              clear x0 x1 x2 x3 x4 x5 x6 x7 t0 t1 t2 t3 t4 t5 hbx hbt
              go_wp2
              go_roundw
              case rel => exact ⟨k + 1, Lm, n9, by omega, by go_num, ⟨HP.out, HS.out.upto, HS.out.few, by omega⟩⟩
              case measure => simp [intOf]; omega
          by_cases k3 : t = 3
          · subst k3
            by_cases hin : 0 ≤ at_ ∧ at_ < (Lm.length : Int)
            · by_cases hfull : (Lm.length : Int) = most
              · obtain ⟨j, rfl⟩ : ∃ j : Nat, at_ = (j : Int) := ⟨at_.toNat, by omega⟩
                have hj : j < Lm.length := by omega
                obtain ⟨xm, hxm⟩ : ∃ xm, Lm[j]? = some xm := ⟨Lm[j], List.getElem?_eq_getElem hj⟩
                have HXM := Aside0.mk hxm
                have HFM := Aside0.mk (HS.out.few xm (List.mem_of_getElem? hxm))
                clear hxm
                go_wp2_with fail
                rw [← hW3]
                clear hW3 y0 y1 y2 y3 y4 y5 y6 y7 hbx2
                have hd := below_drew (Below.refl W3.heap.size W3)
                have HF := Aside0.mk (And.intro (blk8 (HAT.out ▸ RN.out.xbox)) (blk6w RN.out.tbox))
                have RN := Aside0.mk (RN.out.below hd)
                have HCC := Aside0.mk (And.intro (blk8 (HAT.out ▸ RN.out.xbox)) (blk6w RN.out.tbox))
                clear hd
                first | (go_region_held3 (fun wn : World => (wn.cell? ⟨wq.heap.size, 0, none⟩ = some (.int .u8 x.f0) ∧ wn.cell? ⟨wq.heap.size, 1, none⟩ = some (.int .u8 x.f1.f0) ∧ wn.cell? ⟨wq.heap.size, 2, none⟩ = some (.int .u8 x.f1.f1) ∧ wn.cell? ⟨wq.heap.size, 3, none⟩ = some (.int .u8 x.f1.f2) ∧ wn.cell? ⟨wq.heap.size, 4, none⟩ = some (.int .u32 x.f1.f3) ∧ wn.cell? ⟨wq.heap.size, 5, none⟩ = some (.slice A4 x.f1.f4.length c4) ∧ wn.cell? ⟨wq.heap.size, 6, none⟩ = some (.slice A5 x.f1.f5.length c5) ∧ wn.cell? ⟨wq.heap.size, 7, none⟩ = some (.int .i64 (j : Int))) ∧ (wn.cell? ⟨w2.heap.size, 0, none⟩ = some (.int .u8 x.f1.f0) ∧ wn.cell? ⟨w2.heap.size, 1, none⟩ = some (.int .u8 x.f1.f1) ∧ wn.cell? ⟨w2.heap.size, 2, none⟩ = some (.int .u8 x.f1.f2) ∧ wn.cell? ⟨w2.heap.size, 3, none⟩ = some (.int .u32 x.f1.f3) ∧ wn.cell? ⟨w2.heap.size, 4, none⟩ = some (.slice B4 x.f1.f4.length k4) ∧ wn.cell? ⟨w2.heap.size, 5, none⟩ = some (.slice B5 x.f1.f5.length k5))) (with_reducible exact HCC.out) (first
                   | (go_at_call 19
                      refine (RN.out.play.CopyFull HXM.out hfull (by omega)).mono ?_
                      rintro e wn ⟨rfl, hp, hs⟩
                      have RN := Aside0.mk (RN.out.step hp hs)
                      have HCC := Aside0.mk (And.intro (blk8 (HAT.out ▸ RN.out.xbox)) (blk6w RN.out.tbox))
                      clear hp hs)
                   | (go_at_call 20
                      refine (RN.out.play.refCopyFull HXM.out hfull (by omega)).mono ?_
                      rintro e wn ⟨rfl, hp, hs⟩
                      have RN := Aside0.mk (RN.out.step hp hs)
                      have HCC := Aside0.mk (And.intro (blk8 (HAT.out ▸ RN.out.xbox)) (blk6w RN.out.tbox))
                      clear hp hs))) | fail "held3"
                all_goals
                  obtain ⟨x0, x1, x2, x3, x4, x5, x6, x7⟩ := blk8 RN.out.xbox
                  obtain ⟨t0, t1, t2, t3, t4, t5⟩ := blk6w RN.out.tbox
                  have hbx := blk_lt RN.out.xbox
                  have hbt := blk_lt RN.out.tbox
                  have D1 := Aside0.mk (leftMsg_calls wn x.f1.f0 x.f1.f1 x.f1.f2 x.f1.f3 B4 k4 B5 k5 F4 F5 A4 c4 x.f1.f4 A5 c5 x.f1.f5 RN.out.t4 RN.out.t5 (Kd.C_below H4.out RN.out.play.base) l4 (Kd.C_below H5.out RN.out.play.base) l5 (by omega) (by omega) (fun y hy => by have := HFX.out.2.2 y hy; omega))
                  go_wp2_with fail
                  with_reducible refine D1.out.mono ?_
                  rintro e wy ⟨rfl, hb⟩
                  have RN := Aside0.mk (RN.out.below hb)
                  clear hb D1
                  clear x0 x1 x2 x3 x4 x5 x6 x7 t0 t1 t2 t3 t4 t5 hbx hbt
                  obtain ⟨x0, x1, x2, x3, x4, x5, x6, x7⟩ := blk8 RN.out.xbox
                  obtain ⟨t0, t1, t2, t3, t4, t5⟩ := blk6w RN.out.tbox
                  have hbx := blk_lt RN.out.xbox
                  have hbt := blk_lt RN.out.tbox
                  have D2 := Aside0.mk (RN.out.play.Tw (X' := []) (m := x.f1) RN.out.t4 RN.out.t5 N5.out DJ.out RN.out.fin (fun _ hx => by cases hx) HFX.out (by omega))
                  unfold msgCells at D2
                  go_wp2_with fail
                  with_reducible refine D2.out.mono ?_
                  rintro e wv ⟨rfl, n9, hn9', hp, _⟩
                  have HP := Aside0.mk hp
                  clear hp D2
                  clear x0 x1 x2 x3 x4 x5 x6 x7 t0 t1 t2 t3 t4 t5 hbx hbt
                  go_wp2
                  go_roundw
                  case rel => exact ⟨k + 1, Lm, n9, by omega, by go_num, ⟨HP.out, HS.out.upto, HS.out.few, by omega⟩⟩
                  case measure => simp [intOf]; omega
              · obtain ⟨j, rfl⟩ : ∃ j : Nat, at_ = (j : Int) := ⟨at_.toNat, by omega⟩
                have hj : j < Lm.length := by omega
                obtain ⟨xm, hxm⟩ : ∃ xm, Lm[j]? = some xm := ⟨Lm[j], List.getElem?_eq_getElem hj⟩
                have HXM := Aside0.mk hxm
                have HFM := Aside0.mk (HS.out.few xm (List.mem_of_getElem? hxm))
                clear hxm
                go_wp2_with fail
                rw [← hW3]
                clear hW3 y0 y1 y2 y3 y4 y5 y6 y7 hbx2
                have hd := below_drew (Below.refl W3.heap.size W3)
                have HF := Aside0.mk (And.intro (blk8 (HAT.out ▸ RN.out.xbox)) (blk6w RN.out.tbox))
                have RN := Aside0.mk (RN.out.below hd)
                have HCC := Aside0.mk (And.intro (blk8 (HAT.out ▸ RN.out.xbox)) (blk6w RN.out.tbox))
                clear hd
                first | (go_region_held3 (fun wn : World => (wn.cell? ⟨wq.heap.size, 0, none⟩ = some (.int .u8 x.f0) ∧ wn.cell? ⟨wq.heap.size, 1, none⟩ = some (.int .u8 x.f1.f0) ∧ wn.cell? ⟨wq.heap.size, 2, none⟩ = some (.int .u8 x.f1.f1) ∧ wn.cell? ⟨wq.heap.size, 3, none⟩ = some (.int .u8 x.f1.f2) ∧ wn.cell? ⟨wq.heap.size, 4, none⟩ = some (.int .u32 x.f1.f3) ∧ wn.cell? ⟨wq.heap.size, 5, none⟩ = some (.slice A4 x.f1.f4.length c4) ∧ wn.cell? ⟨wq.heap.size, 6, none⟩ = some (.slice A5 x.f1.f5.length c5) ∧ wn.cell? ⟨wq.heap.size, 7, none⟩ = some (.int .i64 (j : Int))) ∧ (wn.cell? ⟨w2.heap.size, 0, none⟩ = some (.int .u8 x.f1.f0) ∧ wn.cell? ⟨w2.heap.size, 1, none⟩ = some (.int .u8 x.f1.f1) ∧ wn.cell? ⟨w2.heap.size, 2, none⟩ = some (.int .u8 x.f1.f2) ∧ wn.cell? ⟨w2.heap.size, 3, none⟩ = some (.int .u32 x.f1.f3) ∧ wn.cell? ⟨w2.heap.size, 4, none⟩ = some (.slice B4 x.f1.f4.length k4) ∧ wn.cell? ⟨w2.heap.size, 5, none⟩ = some (.slice B5 x.f1.f5.length k5))) (with_reducible exact HCC.out) (first
                   | (go_at_call 19
                      refine (RN.out.play.Copy HXM.out (by assumption) (by omega) (msgB_few HFM.out)).mono ?_
                      rintro e wn ⟨rfl, hp, hs⟩
                      have RN := Aside0.mk (RN.out.step hp hs)
                      have HCC := Aside0.mk (And.intro (blk8 (HAT.out ▸ RN.out.xbox)) (blk6w RN.out.tbox))
                      clear hp hs)
                   | (go_at_call 20
                      refine (RN.out.play.refCopy HXM.out (by assumption) (by omega) (msgB_few HFM.out)).mono ?_
                      rintro e wn ⟨rfl, hp, hs⟩
                      have RN := Aside0.mk (RN.out.step hp hs)
                      have HCC := Aside0.mk (And.intro (blk8 (HAT.out ▸ RN.out.xbox)) (blk6w RN.out.tbox))
                      clear hp hs))) | fail "held3"
                all_goals
                  obtain ⟨x0, x1, x2, x3, x4, x5, x6, x7⟩ := blk8 RN.out.xbox
                  obtain ⟨t0, t1, t2, t3, t4, t5⟩ := blk6w RN.out.tbox
                  have hbx := blk_lt RN.out.xbox
                  have hbt := blk_lt RN.out.tbox
                  have D1 := Aside0.mk (leftMsg_calls wn x.f1.f0 x.f1.f1 x.f1.f2 x.f1.f3 B4 k4 B5 k5 F4 F5 A4 c4 x.f1.f4 A5 c5 x.f1.f5 RN.out.t4 RN.out.t5 (Kd.C_below H4.out RN.out.play.base) l4 (Kd.C_below H5.out RN.out.play.base) l5 (by omega) (by omega) (fun y hy => by have := HFX.out.2.2 y hy; omega))
                  go_wp2_with fail
                  with_reducible refine D1.out.mono ?_
                  rintro e wy ⟨rfl, hb⟩
                  have RN := Aside0.mk (RN.out.below hb)
                  clear hb D1
                  clear x0 x1 x2 x3 x4 x5 x6 x7 t0 t1 t2 t3 t4 t5 hbx hbt
                  obtain ⟨x0, x1, x2, x3, x4, x5, x6, x7⟩ := blk8 RN.out.xbox
                  obtain ⟨t0, t1, t2, t3, t4, t5⟩ := blk6w RN.out.tbox
                  have hbx := blk_lt RN.out.xbox
                  have hbt := blk_lt RN.out.tbox
                  have D2 := Aside0.mk (RN.out.play.Tw (X' := []) (m := x.f1) RN.out.t4 RN.out.t5 N5.out DJ.out RN.out.fin (fun _ hx => by cases hx) HFX.out (by omega))
                  unfold msgCells at D2
                  go_wp2_with fail
                  with_reducible refine D2.out.mono ?_
                  rintro e wv ⟨rfl, n9, hn9', hp, _⟩
                  have HP := Aside0.mk hp
                  clear hp D2
                  clear x0 x1 x2 x3 x4 x5 x6 x7 t0 t1 t2 t3 t4 t5 hbx hbt
                  go_wp2
                  go_roundw
                  case rel => exact ⟨k + 1, Lm ++ [xm], n9, by omega, by go_num, ⟨HP.out, by rw [List.length_append, List.length_singleton]; omega, few_snoc HS.out.few HFM.out, by omega⟩⟩
                  case measure => simp [intOf]; omega
            · go_wp2_with fail
              rw [← hW3]
              clear hW3 y0 y1 y2 y3 y4 y5 y6 y7 hbx2
              have hd := below_drew (Below.refl W3.heap.size W3)
              have HF := Aside0.mk (And.intro (blk8 (HAT.out ▸ RN.out.xbox)) (blk6w RN.out.tbox))
              have RN := Aside0.mk (RN.out.below hd)
              have HCC := Aside0.mk (And.intro (blk8 (HAT.out ▸ RN.out.xbox)) (blk6w RN.out.tbox))
              clear hd
              first | (go_region_held3 (fun wn : World => (wn.cell? ⟨wq.heap.size, 0, none⟩ = some (.int .u8 x.f0) ∧ wn.cell? ⟨wq.heap.size, 1, none⟩ = some (.int .u8 x.f1.f0) ∧ wn.cell? ⟨wq.heap.size, 2, none⟩ = some (.int .u8 x.f1.f1) ∧ wn.cell? ⟨wq.heap.size, 3, none⟩ = some (.int .u8 x.f1.f2) ∧ wn.cell? ⟨wq.heap.size, 4, none⟩ = some (.int .u32 x.f1.f3) ∧ wn.cell? ⟨wq.heap.size, 5, none⟩ = some (.slice A4 x.f1.f4.length c4) ∧ wn.cell? ⟨wq.heap.size, 6, none⟩ = some (.slice A5 x.f1.f5.length c5) ∧ wn.cell? ⟨wq.heap.size, 7, none⟩ = some (.int .i64 at_)) ∧ (wn.cell? ⟨w2.heap.size, 0, none⟩ = some (.int .u8 x.f1.f0) ∧ wn.cell? ⟨w2.heap.size, 1, none⟩ = some (.int .u8 x.f1.f1) ∧ wn.cell? ⟨w2.heap.size, 2, none⟩ = some (.int .u8 x.f1.f2) ∧ wn.cell? ⟨w2.heap.size, 3, none⟩ = some (.int .u32 x.f1.f3) ∧ wn.cell? ⟨w2.heap.size, 4, none⟩ = some (.slice B4 x.f1.f4.length k4) ∧ wn.cell? ⟨w2.heap.size, 5, none⟩ = some (.slice B5 x.f1.f5.length k5))) (with_reducible exact HCC.out) (first
                 | (go_at_call 19
                    refine (RN.out.play.CopyNo2 hin).mono ?_
                    rintro e wn ⟨rfl, hp, hs⟩
                    have RN := Aside0.mk (RN.out.step hp hs)
                    have HCC := Aside0.mk (And.intro (blk8 (HAT.out ▸ RN.out.xbox)) (blk6w RN.out.tbox))
                    clear hp hs)
                 | (go_at_call 20
                    refine (RN.out.play.refCopyNo2 hin).mono ?_
                    rintro e wn ⟨rfl, hp, hs⟩
                    have RN := Aside0.mk (RN.out.step hp hs)
                    have HCC := Aside0.mk (And.intro (blk8 (HAT.out ▸ RN.out.xbox)) (blk6w RN.out.tbox))
                    clear hp hs))) | fail "held3"
              all_goals
                obtain ⟨x0, x1, x2, x3, x4, x5, x6, x7⟩ := blk8 RN.out.xbox
                obtain ⟨t0, t1, t2, t3, t4, t5⟩ := blk6w RN.out.tbox
                have hbx := blk_lt RN.out.xbox
                have hbt := blk_lt RN.out.tbox
                have D1 := Aside0.mk (leftMsg_calls wn x.f1.f0 x.f1.f1 x.f1.f2 x.f1.f3 B4 k4 B5 k5 F4 F5 A4 c4 x.f1.f4 A5 c5 x.f1.f5 RN.out.t4 RN.out.t5 (Kd.C_below H4.out RN.out.play.base) l4 (Kd.C_below H5.out RN.out.play.base) l5 (by omega) (by omega) (fun y hy => by have := HFX.out.2.2 y hy; omega))
                go_wp2_with fail
                with_reducible refine D1.out.mono ?_
                rintro e wy ⟨rfl, hb⟩
                have RN := Aside0.mk (RN.out.below hb)
                clear hb D1
                clear x0 x1 x2 x3 x4 x5 x6 x7 t0 t1 t2 t3 t4 t5 hbx hbt
                obtain ⟨x0, x1, x2, x3, x4, x5, x6, x7⟩ := blk8 RN.out.xbox
                obtain ⟨t0, t1, t2, t3, t4, t5⟩ := blk6w RN.out.tbox
                have hbx := blk_lt RN.out.xbox
                have hbt := blk_lt RN.out.tbox
                have D2 := Aside0.mk (RN.out.play.Tw (X' := []) (m := x.f1) RN.out.t4 RN.out.t5 N5.out DJ.out RN.out.fin (fun _ hx => by cases hx) HFX.out (by omega))
                unfold msgCells at D2
                go_wp2_with fail
                with_reducible refine D2.out.mono ?_
                rintro e wv ⟨rfl, n9, hn9', hp, _⟩
                have HP := Aside0.mk hp
                clear hp D2
                clear x0 x1 x2 x3 x4 x5 x6 x7 t0 t1 t2 t3 t4 t5 hbx hbt
                go_wp2
                go_roundw
                case rel => exact ⟨k + 1, Lm, n9, by omega, by go_num, ⟨HP.out, HS.out.upto, HS.out.few, by omega⟩⟩
                case measure => simp [intOf]; omega
          have b0 : (t == 0) = false := by simpa using k0
          have b1 : (t == 1) = false := by simpa using k1
          have b2 : (t == 2) = false := by simpa using k2
          have b3 : (t == 3) = false := by simpa using k3
          have C1 := Aside0.mk (RN.out.play.Lst (by omega) (fun m hm => msgB_few (HS.out.few m hm)))
          have XM3 := Aside0.mk RN.out.mem
          go_wp2_with fail
          rw [← hW3]
          clear hW3 y0 y1 y2 y3 y4 y5 y6 y7 hbx2
          with_reducible refine C1.out.mono ?_
          rintro e w5 ⟨A6, c6, F, rfl, hc6, hr, hn, hoff, hp, hs⟩
          have RM := Aside0.mk (RN.out.more hp hs)
          have HRW := Aside0.mk hr
          have NF := Aside0.mk hn
          have OFF := Aside0.mk hoff
          have C2 := Aside0.mk (hp.refList (by omega) (fun m hm => msgB_few (HS.out.few m hm)))
          clear hr hn hoff hp hs C1 RN
          go_wp2_with fail
          with_reducible refine C2.out.mono ?_
          rintro e w6 ⟨A7, c7, rfl, hc7, hC7, hb⟩
          have hrw := Fd.row_below HRW.out hb
          obtain ⟨A6', c6', e6, _, hC6⟩ := Fd.row_reads hrw
          injection e6 with e61 _ e63
          subst e61 e63
          have RN := Aside0.mk (RM.out.below hb)
          have C3 := Aside0.mk (sameMsgs_of w6 Lm hC6 hc6 hC7 hc7 (by omega) HS.out.few)
          have HR6 := Aside0.mk hrw
          clear hrw hC6 hC7 hb C2 RM HRW
          go_wp2_with fail
          with_reducible refine C3.out.mono ?_
          rintro e w7 ⟨rfl, hb⟩
          have RM := Aside0.mk (RN.out.below hb)
          have HRW := Aside0.mk (Fd.row_below HR6.out hb)
          have C4 := Aside0.mk (RM.out.play.Msgs (X' := X) HRW.out NF.out (fun b hb => List.mem_append_right _ hb) (fun y hy => ⟨List.mem_append_left _ hy, fun hx => OFF.out y hx hy⟩) (by omega) HS.out.few (by omega))
          clear hb C3 RN HR6
          go_wp2_with fail
          with_reducible refine C4.out.mono ?_
          rintro e wn ⟨rfl, n4, hn4, hp, hs⟩
          have RN := Aside0.mk (RM.out.to hp hs (fun b hb => ⟨List.mem_append_left _ (XM3.out b hb), XM3.out b hb⟩))
          clear hp hs C4 RM HRW
          obtain ⟨x0, x1, x2, x3, x4, x5, x6, x7⟩ := blk8 RN.out.xbox
          obtain ⟨t0, t1, t2, t3, t4, t5⟩ := blk6w RN.out.tbox
          have hbx := blk_lt RN.out.xbox
          have hbt := blk_lt RN.out.tbox
          have D1 := Aside0.mk (leftMsg_calls wn x.f1.f0 x.f1.f1 x.f1.f2 x.f1.f3 B4 k4 B5 k5 F4 F5 A4 c4 x.f1.f4 A5 c5 x.f1.f5 RN.out.t4 RN.out.t5 (Kd.C_below H4.out RN.out.play.base) l4 (Kd.C_below H5.out RN.out.play.base) l5 (by omega) (by omega) (fun y hy => by have := HFX.out.2.2 y hy; omega))
          go_wp2_with fail
          with_reducible refine D1.out.mono ?_
          rintro e wy ⟨rfl, hb⟩
          have RN := Aside0.mk (RN.out.below hb)
          clear hb D1
          clear x0 x1 x2 x3 x4 x5 x6 x7 t0 t1 t2 t3 t4 t5 hbx hbt
          obtain ⟨x0, x1, x2, x3, x4, x5, x6, x7⟩ := blk8 RN.out.xbox
          obtain ⟨t0, t1, t2, t3, t4, t5⟩ := blk6w RN.out.tbox
          have hbx := blk_lt RN.out.xbox
          have hbt := blk_lt RN.out.tbox
          have D2 := Aside0.mk (RN.out.play.Tw (X' := []) (m := x.f1) RN.out.t4 RN.out.t5 N5.out DJ.out RN.out.fin (fun _ hx => by cases hx) HFX.out (by omega))
          unfold msgCells at D2
          go_wp2_with fail
          with_reducible refine D2.out.mono ?_
          rintro e wv ⟨rfl, n9, hn9', hp, _⟩
          have HP := Aside0.mk hp
          clear hp D2
          clear x0 x1 x2 x3 x4 x5 x6 x7 t0 t1 t2 t3 t4 t5 hbx hbt
          go_wp2
          go_roundw
          case rel => exact ⟨k + 1, Lm, n9, by omega, by go_num, ⟨HP.out, HS.out.upto, HS.out.few, by omega⟩⟩
          case measure => simp [intOf]; omega
        · have hlt' : ¬ (k : Int) < (L.length : Int) := by omega
          have C1 := Aside0.mk (HS.out.play.Lst (by omega) (fun m hm => msgB_few (HS.out.few m hm)))
          go_wp2_with fail
          with_reducible refine C1.out.mono ?_
          rintro e w5 ⟨A6, c6, F, rfl, hc6, hr, hn, hoff, hp, hs⟩
          have C2 := Aside0.mk (hp.Msgs (X' := []) hr hn (fun b hb => List.mem_append_right _ hb) (fun _ hx => by cases hx) (by omega) HS.out.few (by omega))
          have HRW := Aside0.mk hr
          clear hr hn hoff hp hs C1
          go_wp2_with fail
          with_reducible refine C2.out.mono ?_
          rintro e w6 ⟨rfl, n2, hn2, hp, hs⟩
          have HP := Aside0.mk hp
          have HR6 := Aside0.mk (hs.row HRW.out (fun b hb => List.mem_append_right _ hb))
          have C3 := Aside0.mk (hp.refList (by omega) (fun m hm => msgB_few (HS.out.few m hm)))
          clear hp hs C2 HRW
          go_wp2_with fail
          with_reducible refine C3.out.mono ?_
          rintro e w7 ⟨A7, c7, rfl, hc7, hC7, hb⟩
          have hrw := Fd.row_below HR6.out hb
          obtain ⟨A6', c6', e6, _, hC6⟩ := Fd.row_reads hrw
          injection e6 with e61 _ e63
          subst e61 e63
          have HP7 := Aside0.mk (HP.out.below hb).1
          have C4 := Aside0.mk (sameMsgs_of w7 Lm hC6 hc6 hC7 hc7 (by omega) HS.out.few)
          clear hrw hC6 hC7 hb C3 HR6 HP
          go_wp2_with fail
          with_reducible refine C4.out.mono ?_
          rintro e w8 ⟨rfl, hb⟩
          have C5 := Aside0.mk ((HP7.out.below hb).1.apart HT.out)
          clear hb C4 HP7
          go_wp2_with fail
          with_reducible refine C5.out.mono ?_
          rintro e w9 ⟨rfl, hb⟩
          have HB9 := Aside0.mk hb
          clear hb C5
          go_wp2
          go_ret
          exact ⟨rfl, HB9.out⟩
    · have hno : most < 1 ∨ 256 < most := by omega
      go_wp2_with fail
      refine (new_no _ most hno).mono ?_
      rintro e w2 ⟨rfl, rfl⟩
      go_wp2_with fail
      refine (refNew_no _ most hno).mono ?_
      rintro e w3 ⟨rfl, rfl⟩
      go_wp2
      go_ret
      exact ⟨rfl, B1.out⟩
set_option maxHeartbeats 12800000 in
set_option maxRecDepth 100000 in
theorem BagsPlay_none (w : World) (most : Int) (L : List ActT) (c : Nat) (hC : k52.C w none L.length L) (hc : L.length ≤ c) (hl : L.length ≤ many) (hok : ∀ a ∈ L, listsOk a.f1.f4 a.f1.f5) (hT : TabOk w) :
    Calls Tryz.prog 3 #[.int .i64 most, .slice none L.length c] w fun e w' => e = .returned (.bool true) ∧ Below w.heap.size w w' := by
  obtain ⟨r, hrf, hr⟩ := great_few L hl hok
  have HR := Aside0.mk hr
  have HRF := Aside0.mk hrf
  have HNO := Aside0.mk (show L.length = 0 from by
    rcases Nat.eq_zero_or_pos L.length with h | h
    · exact h
    · obtain ⟨ad, h, _⟩ := hC.2.2 h
      cases h)
  have HC := Aside0.mk hC
  have HT := Aside0.mk hT
  clear hr hrf hC hok hT
  go_enter Tryz.func3, Tryz.ntmps3
  go_wp2_with fail
  refine (HR.out _ none c HC.out hc).mono ?_
  rintro e w1 ⟨rfl, hb⟩
  have B1 := Aside0.mk hb
  clear hb HR
  cases r with
  | true =>
    go_wp2
    go_ret
    exact ⟨rfl, B1.out⟩
  | false =>
    obtain ⟨hn300, hfew⟩ := HRF.out rfl
    have HFEW := Aside0.mk hfew
    clear HRF hfew
    by_cases hm : 1 ≤ most ∧ most ≤ 256
    · obtain ⟨hm1, hm2⟩ := hm
      go_wp2_with fail
      refine (new_yes _ most hm1 hm2).mono ?_
      rintro e w2 ⟨g, FB, rfl, hB, lB, hb2⟩
      have HB := Aside0.mk hB
      have LB := Aside0.mk lB
      have B2 := Aside0.mk hb2
      clear hB lB hb2
      go_wp2_with fail
      refine (refNew_yes _ most hm1 hm2).mono ?_
      rintro e w3 ⟨gr, FR, rfl, hR, lR, hb3⟩
      obtain ⟨gk, hgk⟩ : ∃ gk, gk = w3.heap.size := ⟨_, rfl⟩
      have ha := below_alloc (Below.refl w3.heap.size w3) (.cells #[.int .i64 0, .slice none 0 0, .slice none 0 0, .slice none 0 0, .slice none 0 0, .slice none 0 0, .slice none 0 0, .slice none 0 0, .slice none 0 0, .slice none 0 0, .slice none 0 0, .slice none 0 0, .slice none 0 0] 44)
      obtain ⟨w4, hw4⟩ : ∃ w4, w4 = w3.alloc (.cells #[.int .i64 0, .slice none 0 0, .slice none 0 0, .slice none 0 0, .slice none 0 0, .slice none 0 0, .slice none 0 0, .slice none 0 0, .slice none 0 0, .slice none 0 0, .slice none 0 0, .slice none 0 0, .slice none 0 0] 44) := ⟨_, rfl⟩
      have hx4 : w4.heap[gk]? = some (.cells #[.int .i64 0, .slice none 0 0, .slice none 0 0, .slice none 0 0, .slice none 0 0, .slice none 0 0, .slice none 0 0, .slice none 0 0, .slice none 0 0, .slice none 0 0, .slice none 0 0, .slice none 0 0, .slice none 0 0] 44 (0, 0)) := by rw [hw4, hgk]; exact blk_new w3 _
      rw [← hw4] at ha
      have hb24 := below_step hb3 ha
      have hb04 := below_step B1.out (below_step B2.out hb24)
      have ST := Aside0.mk (show PlayS w w4 g gr gk most [] 0 0 from ⟨⟨FB, FR, [gk], [gk], HB.out.below hb24, hR.below ha, BookAt.new hb04 hx4 (by have := B1.out.size; have := B2.out.size; have := hb3.size; omega), (fun x hx hy => by
          have := HB.out.lt x hx; have := lR x hy; omega), (fun x hx hy => by
          have := HB.out.lt x hx; have := hb3.size; simp at hy; omega), (fun x hx hy => by
          have := hR.lt x hx; simp at hy; omega), (fun _ _ hy => by cases hy), (fun _ _ hy => by cases hy), (fun _ _ hy => by cases hy), (fun x hx => Nat.le_trans B1.out.size (LB.out x hx)), (fun x hx => Nat.le_trans B1.out.size (Nat.le_trans B2.out.size (lR x hx))), (fun _ hy => by cases hy)⟩, (by show (0 : Int) ≤ most; omega), (fun _ h => by cases h), (by omega)⟩)
      clear hR lR hb3 ha hb24 hb04 hx4 HB LB B1 B2
      go_upto_region 12 with fail
      rw [← hgk, ← hw4]
      clear hgk hw4
      go_wp2
      go_loopw [10] (fun i wr => ∃ (k : Nat) (Lm : List MsgT) (n : Int), k ≤ L.length ∧ i = .int .i64 k ∧ Aside0 (PlayS w wr g gr gk most Lm n k)) (fun i _ => L.length - (intOf i).toNat)
      case atStart => exact ⟨0, [], 0, Nat.zero_le _, rfl, ST⟩
      case round =>
        clear ST
        obtain ⟨wq, hwq⟩ : ∃ wq, wq = wr := ⟨_, rfl⟩
        subst hwq
        obtain ⟨k, Lm, n, hk, rfl, HS⟩ := hrel
        have hup := HS.out.upto
        have hcnt := HS.out.cnt
        by_cases hlt : k < L.length
        · exact absurd hlt (by have := HNO.out; omega)
        · have hlt' : ¬ (k : Int) < (L.length : Int) := by omega
          have C1 := Aside0.mk (HS.out.play.Lst (by omega) (fun m hm => msgB_few (HS.out.few m hm)))
          go_wp2_with fail
          with_reducible refine C1.out.mono ?_
          rintro e w5 ⟨A6, c6, F, rfl, hc6, hr, hn, hoff, hp, hs⟩
          have C2 := Aside0.mk (hp.Msgs (X' := []) hr hn (fun b hb => List.mem_append_right _ hb) (fun _ hx => by cases hx) (by omega) HS.out.few (by omega))
          have HRW := Aside0.mk hr
          clear hr hn hoff hp hs C1
          go_wp2_with fail
          with_reducible refine C2.out.mono ?_
          rintro e w6 ⟨rfl, n2, hn2, hp, hs⟩
          have HP := Aside0.mk hp
          have HR6 := Aside0.mk (hs.row HRW.out (fun b hb => List.mem_append_right _ hb))
          have C3 := Aside0.mk (hp.refList (by omega) (fun m hm => msgB_few (HS.out.few m hm)))
          clear hp hs C2 HRW
          go_wp2_with fail
          with_reducible refine C3.out.mono ?_
          rintro e w7 ⟨A7, c7, rfl, hc7, hC7, hb⟩
          have hrw := Fd.row_below HR6.out hb
          obtain ⟨A6', c6', e6, _, hC6⟩ := Fd.row_reads hrw
          injection e6 with e61 _ e63
          subst e61 e63
          have HP7 := Aside0.mk (HP.out.below hb).1
          have C4 := Aside0.mk (sameMsgs_of w7 Lm hC6 hc6 hC7 hc7 (by omega) HS.out.few)
          clear hrw hC6 hC7 hb C3 HR6 HP
          go_wp2_with fail
          with_reducible refine C4.out.mono ?_
          rintro e w8 ⟨rfl, hb⟩
          have C5 := Aside0.mk ((HP7.out.below hb).1.apart HT.out)
          clear hb C4 HP7
          go_wp2_with fail
          with_reducible refine C5.out.mono ?_
          rintro e w9 ⟨rfl, hb⟩
          have HB9 := Aside0.mk hb
          clear hb C5
          go_wp2
          go_ret
          exact ⟨rfl, HB9.out⟩
    · have hno : most < 1 ∨ 256 < most := by omega
      go_wp2_with fail
      refine (new_no _ most hno).mono ?_
      rintro e w2 ⟨rfl, rfl⟩
      go_wp2_with fail
      refine (refNew_no _ most hno).mono ?_
      rintro e w3 ⟨rfl, rfl⟩
      go_wp2
      go_ret
      exact ⟨rfl, B1.out⟩
theorem BagsPlay_calls (w : World) (most : Int) (L : List ActT) (A : Option Addr) (c : Nat) (hC : k52.C w A L.length L) (hc : L.length ≤ c) (hl : L.length ≤ many) (hok : ∀ a ∈ L, listsOk a.f1.f4 a.f1.f5) (hT : TabOk w) :
    Calls Tryz.prog 3 #[.int .i64 most, .slice A L.length c] w fun e w' => e = .returned (.bool true) ∧ Below w.heap.size w w' := by
  cases A with
  | none => exact BagsPlay_none w most L c hC hc hl hok hT
  | some ad => exact BagsPlay_some w most L ad c hC hc hl hok hT
end Go.Proofs.YtcohodkpppmaoaaGreatDoor.Q
namespace Go.Proofs.YtcohodkpppmaoaaGreatDoor
open Go.RowKit Go.ChangeShapes Go.WideShapes Go.Proofs.YtcohodkpppmaoaaGreatDoorW.PrintWords

structure Opens (P : Program) (t : TypeId) {α : Type} (d : Kd α) (Good : α → Prop) : Prop where
  cells : P.cellsOf t = d.sz
  opened : ∀ {H : Type} {enc : TypeId × Value → H} {w : World} {base : Nat} {spare : Nat → Bool} {held : Bool} {fuel : Nat} {cs : List Value} {x : DataW H × List MemPlace},
    DataW.trod enc P w base spare held fuel t cs = some x → (∀ n ∈ x.1.weights P t, n ≤ reachBytes) → ∃ a, d.K w a cs ∧ Good a

section
variable {P : Program} {t : TypeId}
theorem opens_int {k : IntKind} (ht : P.underlying t = some (.int k)) (hc : P.cellsOf t = 1) : Opens P t (Kd.int k) (fun n => (Lit.int k n).wf = true) :=
  ⟨hc, fun h _ => by
    obtain ⟨n, rfl, rfl, hn⟩ := DataW.trod_int ht h
    exact ⟨n, rfl, hn⟩⟩
theorem opens_string (ht : P.underlying t = some .string) (hc : P.cellsOf t = 1) : Opens P t Kd.string (fun s => s.size ≤ 140737488351232) :=
  ⟨hc, fun h hw => by
    obtain ⟨s, rfl, rfl, hs⟩ := DataW.trod_string ht h
    refine ⟨s, rfl, ?_⟩
    have := hw s.data.toList.length (by simp [DataW.weights])
    rw [Array.length_toList] at this
    exact this⟩

theorem weightsAll_mem {H : Type} {e : TypeId} : ∀ {l : List (DataW H)} {d : DataW H} {n : Nat}, d ∈ l → n ∈ d.weights P e → n ∈ DataW.weightsAll P e l
  | _ :: _, _, _, .head _, hn => by
    simp only [DataW.weightsAll, List.mem_append]
    exact .inl hn
  | _ :: _, _, _, .tail _ h, hn => by
    simp only [DataW.weightsAll, List.mem_append]
    exact .inr (weightsAll_mem h hn)

theorem opens_slice {α : Type} {e : TypeId} {d : Kd α} {Good : α → Prop} {b : Nat} (ht : P.underlying t = some (.slice e)) (hc : P.cellsOf t = 1) (hb : P.bytesOf e = b) (hb0 : 0 < b) (ho : Opens P e d Good) :
    Opens P t (Kd.slice e d) (fun l => (∀ x ∈ l, Good x) ∧ l.length * b ≤ 140737488351232) := by
  refine ⟨hc, fun {H enc w base spare held fuel cs x} h hw => ?_⟩
  rcases Deep.open_slice ht h with ⟨rfl, rfl⟩ | ⟨a, len, cap, m, n, D, Pl, rfl, _, hl, hm, hmm, rfl, hx⟩
  · exact ⟨[], ⟨none, 0, rfl, by simp, rfl, by simp, fun h => absurd h (by simp)⟩, fun x hx => by simp at hx, by simp⟩
  · have hlm : len ≤ m := by rw [hmm]; split <;> omega
    have hw' : ∀ n ∈ (DataW.slice ((List.range len).map D) ((List.range (m - len)).map fun j => D (len + j)) : DataW H).weights P t, n ≤ reachBytes := hw
    simp only [DataW.weights, ht] at hw'
    have hlen : len * b ≤ 140737488351232 := by
      have := hw' _ (List.mem_cons_self)
      rw [hb] at this
      simp only [List.length_map, List.length_range] at this
      have h2 : len * b ≤ (len + (m - len)) * b := Nat.mul_le_mul_right _ (by omega)
      unfold reachBytes at this
      omega
    have hel : ∀ i : Nat, i < len → ∃ (y : α) (c : List Value), (c.length = d.sz ∧ ∀ j u, c[j]? = some u → w.cell? (a.add (i * d.sz + j)) = some u) ∧ d.K w y c ∧ Good y := by
      intro i hi
      obtain ⟨cs', h1, h2⟩ := hx i (by omega)
      obtain ⟨y, hK, hG⟩ := ho.opened h2 (fun k hk => hw' k (List.mem_cons_of_mem _ (List.mem_append_left _ (weightsAll_mem (d := D i) (List.mem_map.2 ⟨i, List.mem_range.2 hi, rfl⟩) hk))))
      refine ⟨y, cs', ⟨d.K_len hK, ?_⟩, hK, hG⟩
      intro j u hj
      rw [ho.cells] at h1
      unfold World.cells? at h1
      split at h1
      · have hjl : j < d.sz := by
          have := (List.getElem?_eq_some_iff.1 hj).1
          rw [d.K_len hK] at this
          exact this
        have := mapM_some_get h1 j j (by simp [hjl])
        rw [Deep.add_add] at this
        rw [this, hj]
      · cases h1
    obtain ⟨f, hf⟩ := Classical.axiomOfChoice (r := fun (i : Fin len) (y : α) => ∃ c : List Value, (c.length = d.sz ∧ ∀ j u, c[j]? = some u → w.cell? (a.add (i.1 * d.sz + j)) = some u) ∧ d.K w y c ∧ Good y)
      (fun i => by obtain ⟨y, c, h⟩ := hel i.1 i.2; exact ⟨y, c, h⟩)
    refine ⟨List.ofFn f, ⟨some a, cap, by simp, by simpa using hl, ?_⟩, ?_, by simpa using hlen⟩
    · refine ⟨rfl, by rw [List.length_ofFn]; unfold maxLen at hm; omega, fun _ => ⟨a, rfl, fun j p hp => ?_⟩⟩
      have hj : j < len := by
        have := (List.getElem?_eq_some_iff.1 hp).1
        simpa using this
      have hp' : f ⟨j, hj⟩ = p := by
        rw [List.getElem?_ofFn, dif_pos hj] at hp
        exact Option.some.inj hp
      obtain ⟨c, ⟨hc1, hc2⟩, hK, _⟩ := hf ⟨j, hj⟩
      exact ⟨c, hc1, hp' ▸ hK, hc2⟩
    · intro y hy
      obtain ⟨i, rfl⟩ := List.mem_ofFn.1 hy
      obtain ⟨c, _, _, hG⟩ := hf i
      exact hG

/-- The fields of a struct, from a place on. -/
structure OpensF (P : Program) (fs : List Field) (off : Nat) {α : Type} (d : Kd α) (Good : α → Prop) : Prop where
  go : ∀ {H : Type} {enc : TypeId × Value → H} {w : World} {base : Nat} {spare : Nat → Bool} {held : Bool} {n : Nat} (cs : List Value) (xs : List (DataW H × List MemPlace)),
    cs.length = off + d.sz → xs.length = fs.length → (∀ (i : Nat) (f : Field), fs[i]? = some f → DataW.trod enc P w base spare held n f.type ((cs.drop f.offset).take (P.cellsOf f.type)) = xs[i]?) →
    (∀ (i : Nat) (f : Field) (x : DataW H × List MemPlace), fs[i]? = some f → xs[i]? = some x → ∀ k ∈ x.1.weights P f.type, k ≤ reachBytes) → ∃ a, d.K w a (cs.drop off) ∧ Good a
theorem opensF_one {f : Field} {off : Nat} {α : Type} {d : Kd α} {Good : α → Prop} (h : Opens P f.type d Good) (hf : f.offset = off) : OpensF P [f] off d Good := by
  constructor
  intro H enc w base spare held n cs xs hl hx ht hw
  obtain ⟨x, rfl⟩ : ∃ x, xs = [x] := List.length_eq_one_iff.1 hx
  have h0 := ht 0 f rfl
  rw [h.cells, hf, List.take_of_length_le (by rw [List.length_drop]; omega)] at h0
  exact h.opened h0 (hw 0 f x rfl rfl)
theorem opensF_cons {f : Field} {fs : List Field} {off : Nat} {α β : Type} {d : Kd α} {e : Kd β} {G : α → Prop} {G' : β → Prop} (h : Opens P f.type d G) (hf : f.offset = off) (hs : OpensF P fs (off + d.sz) e G') :
    OpensF P (f :: fs) off (Kd.pair d e) (fun x => G x.1 ∧ G' x.2) := by
  constructor
  intro H enc w base spare held n cs xs hl hx ht hw
  have hl' : cs.length = off + (d.sz + e.sz) := hl
  obtain ⟨x, xs, rfl⟩ : ∃ y ys, xs = y :: ys := by
    cases xs with
    | nil => simp at hx
    | cons y ys => exact ⟨y, ys, rfl⟩
  have h0 := ht 0 f rfl
  rw [h.cells, hf] at h0
  obtain ⟨a, hK, hG⟩ := h.opened h0 (hw 0 f x rfl rfl)
  obtain ⟨b, hK', hG'⟩ := hs.go (enc := enc) (w := w) (base := base) (spare := spare) (held := held) (n := n) cs xs (by omega) (by simpa using hx) (fun i g hg => ht (i + 1) g hg) (fun i g y hg hy => hw (i + 1) g y hg hy)
  refine ⟨(a, b), ⟨(cs.drop off).take d.sz, cs.drop (off + d.sz), ?_, hK, hK'⟩, hG, hG'⟩
  rw [← List.drop_drop, List.take_append_drop]
theorem weightsEach_mem {H : Type} {ts : List TypeId} {ds : List (DataW H)} {j : Nat} {t : TypeId} {d : DataW H} (ht : ts[j]? = some t) (hd : ds[j]? = some d) (n : Nat) (hn : n ∈ d.weights P t) : n ∈ DataW.weightsEach P ts ds := DataW.weights_mem_each ht hd n hn
theorem opens_struct {fs : Array Field} {α : Type} {d : Kd α} {Good : α → Prop} (ht : P.underlying t = some (.struct fs)) (hc : P.cellsOf t = d.sz) (h : OpensF P fs.toList 0 d Good) : Opens P t d Good := by
  refine ⟨hc, fun {H enc w base spare held fuel cs x} hr hw => ?_⟩
  obtain ⟨xs, n, _, rfl, hl, hx, hf⟩ := DataW.trod_struct ht hr
  have hw' : ∀ k ∈ (DataW.agg (xs.map (·.1)) : DataW H).weights P t, k ≤ reachBytes := hw
  simp only [DataW.weights, ht] at hw'
  have := h.go (enc := enc) (w := w) (base := base) (spare := spare) (held := held) (n := n) cs xs (by omega) (by rw [hx]; simp) (fun i f hi => hf i f (by simpa using hi)) (fun i f y hi hy k hk => hw' k (weightsEach_mem (j := i) (t := f.type) (d := y.1) (by simp at hi; simp [hi]) (by simp [hy]) k hk))
  simpa using this
theorem opens_iso {α β : Type} {d : Kd α} {Good : α → Prop} {G : β → Prop} (f : β → α) (g : α → β) (hfg : ∀ a, f (g a) = a) (hG : ∀ a, Good a → G (g a)) (h : Opens P t d Good) : Opens P t (Kd.iso d f) G := by
  refine ⟨h.cells, fun hr hw => ?_⟩
  obtain ⟨a, hK, hg⟩ := h.opened hr hw
  exact ⟨g a, by show d.K _ (f (g a)) _; rw [hfg]; exact hK, hG a hg⟩
end
end Go.Proofs.YtcohodkpppmaoaaGreatDoor
namespace Go.Proofs.YtcohodkpppmaoaaGreatDoor
open Go.RowKit Go.ChangeShapes Go.WideShapes Go.Proofs.YtcohodkpppmaoaaGreatDoorW.PrintWords Q

theorem u32_of_wf {n : Int} (h : (Lit.int .u32 n).wf = true) : u32Ok n := by
  simp only [Lit.wf, Bool.and_eq_true, decide_eq_true_eq] at h
  exact ⟨h.1, h.2⟩
theorem u8_of_wf {n : Int} (h : (Lit.int .u8 n).wf = true) : u8Ok n := by
  simp only [Lit.wf, Bool.and_eq_true, decide_eq_true_eq] at h
  exact ⟨h.1, h.2⟩
/-- Texts that are within the reach. -/
def sOk (s : ByteArray) : Prop := s.size ≤ 140737488351232
def rowGood (x : RowT) : Prop := sOk x.f0 ∧ rowOk x
def opGood (x : OpT) : Prop := sOk x.f1 ∧ sOk x.f2 ∧ opOk x
def rowsGood (l : List RowT) : Prop := (∀ x ∈ l, rowGood x) ∧ l.length * 24 ≤ 140737488351232
def resultGood (x : ResultT) : Prop := rowsGood x.f0

theorem opens_u8 : Opens Tryz.prog 5 (Kd.int .u8) (fun n => (Lit.int .u8 n).wf = true) := opens_int Tryz.underlying5 (by kernel_rfl)
theorem opens_u32 : Opens Tryz.prog 46 (Kd.int .u32) (fun n => (Lit.int .u32 n).wf = true) := opens_int Tryz.underlying46 (by kernel_rfl)
theorem opens_str : Opens Tryz.prog 9 Kd.string sOk := opens_string Tryz.underlying9 (by kernel_rfl)
theorem opens_kind : Opens Tryz.prog 80 (Kd.int .u8) (fun n => (Lit.int .u8 n).wf = true) := opens_int Tryz.underlying80 (by kernel_rfl)

theorem opens_row : Opens Tryz.prog 148 k148 rowGood := by
  have h := opens_struct (P := Tryz.prog) (t := 148) Tryz.underlying148 (by kernel_rfl) (opensF_cons opens_str rfl (opensF_one opens_u32 rfl))
  exact opens_iso (fun x : RowT => (x.f0, x.f1)) (fun a => ⟨a.1, a.2⟩) (fun _ => rfl) (fun _ h => ⟨h.1, u32_of_wf h.2⟩) h
theorem opens_op : Opens Tryz.prog 82 k82 opGood := by
  have h := opens_struct (P := Tryz.prog) (t := 82) Tryz.underlying82 (by kernel_rfl) (opensF_cons opens_kind rfl (opensF_cons opens_str rfl (opensF_cons opens_str rfl (opensF_one opens_u32 rfl))))
  exact opens_iso (fun x : OpT => (x.f0, x.f1, x.f2, x.f3)) (fun a => ⟨a.1, a.2.1, a.2.2.1, a.2.2.2⟩) (fun _ => rfl) (fun _ h => ⟨h.2.1, h.2.2.1, u8_of_wf h.1, u32_of_wf h.2.2.2⟩) h
theorem opens_rows : Opens Tryz.prog 143 (Kd.slice 148 k148) rowsGood :=
  opens_slice Tryz.underlying143 (by kernel_rfl) (by kernel_rfl) (by decide) opens_row
theorem opens_result : Opens Tryz.prog 145 k145 resultGood := by
  have h := opens_struct (P := Tryz.prog) (t := 145) Tryz.underlying145 (by kernel_rfl) (opensF_one opens_rows rfl)
  exact opens_iso (fun x : ResultT => x.f0) (fun a => ⟨a⟩) (fun _ => rfl) (fun _ h => h) h
theorem opens_ops : Opens Tryz.prog 47 (Kd.slice 82 k82) (fun l => (∀ x ∈ l, opGood x) ∧ l.length * 48 ≤ 140737488351232) :=
  opens_slice Tryz.underlying47 (by kernel_rfl) (by kernel_rfl) (by decide) opens_op
theorem opens_results : Opens Tryz.prog 48 (Kd.slice 145 k145) (fun l => (∀ x ∈ l, resultGood x) ∧ l.length * 24 ≤ 140737488351232) :=
  opens_slice Tryz.underlying48 (by kernel_rfl) (by kernel_rfl) (by decide) opens_result
/-- A slice argument, opened. -/
theorem opens_arg {H : Type} {enc : TypeId × Value → H} {w : World} {base : Nat} {spare : Nat → Bool} {held : Bool} {P : Program} {t e : TypeId} {α : Type} {d : Kd α} {Good : List α → Prop} (ho : Opens P t (Kd.slice e d) Good)
    {a : Option Addr} {len cap : Nat} {dt : DataW H} {p : List MemPlace} (h : DataW.Trod enc P w base spare held t (.slice a len cap) dt p) (hw : ∀ n ∈ dt.weights P t, n ≤ reachBytes) :
    ∃ l : List α, len = l.length ∧ d.C w a l.length l ∧ l.length ≤ cap ∧ Good l := by
  obtain ⟨fuel, hf⟩ := h
  obtain ⟨l, ⟨A, c, hc, hl, hC⟩, hG⟩ := ho.opened hf hw
  simp [Value.cells] at hc
  obtain ⟨rfl, rfl, rfl⟩ := hc
  exact ⟨l, rfl, hC, hl, hG⟩
end Go.Proofs.YtcohodkpppmaoaaGreatDoor
