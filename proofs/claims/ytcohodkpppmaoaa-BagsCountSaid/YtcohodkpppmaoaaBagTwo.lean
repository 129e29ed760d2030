/-
  Two bags that have no block in common: what a call on the one leaves of the other one; what lies apart of both stays.
-/
import Derived.Test.YtcohodkpppmaoaaBagB
namespace Go.Proofs.Ytcohodkpppmaoaa.Q
open Go.RowKit Go.Proofs.YtcohodkpppmaoaaW.PrintWords Go.Proofs.YtcohodkpppmaoaaW.PrintLast Go.Proofs.YtcohodkpppmaoaaW.PrintMore
set_option linter.unusedVariables false

def TwoB (N lo : Nat) (w : World) (a b : Nat) (most : Int) (La Lb : List MsgT) : Prop :=
  N ≤ lo ∧ lo ≤ w.heap.size ∧ ∃ Fa Fb, BagAt w a most La Fa ∧ BagAt w b most Lb Fb ∧ (∀ x ∈ Fa, x ∉ Fb) ∧ (∀ x ∈ Fa, N ≤ x ∧ x < lo) ∧ (∀ x ∈ Fb, N ≤ x ∧ x < lo)
/-- What was made from number lo on is as it was. -/
def Mid (lo : Nat) (w w' : World) : Prop := ∀ y, lo ≤ y → y < w.heap.size → w'.heap[y]? = w.heap[y]?
section
variable {N lo : Nat} {w w1 w2 : World} {a b : Nat} {most : Int} {La Lb : List MsgT} {m x : MsgT}
theorem Mid.below (h : Below w.heap.size w w1) (lo : Nat) : Mid lo w w1 := fun y _ hy => h.block y hy
theorem Mid.trans (h : Mid lo w w1) (hs : w.heap.size ≤ w1.heap.size) (k : Mid lo w1 w2) : Mid lo w w2 := fun y h1 h2 => (k y h1 (by omega)).trans (h y h1 h2)
theorem TwoB.below (h : TwoB N lo w a b most La Lb) (hb : Below w.heap.size w w1) : TwoB N lo w1 a b most La Lb := by
  obtain ⟨h1, h2, Fa, Fb, ha, hb', hd, la, lb⟩ := h
  exact ⟨h1, Nat.le_trans h2 hb.size, Fa, Fb, ha.below hb, hb'.below hb, hd, la, lb⟩
theorem TwoB.top (h : TwoB N lo w a b most La Lb) : TwoB N w.heap.size w a b most La Lb := by
  obtain ⟨h1, h2, Fa, Fb, ha, hb', hd, la, lb⟩ := h
  exact ⟨Nat.le_trans h1 h2, Nat.le_refl _, Fa, Fb, ha, hb', hd, fun x hx => ⟨(la x hx).1, ha.lt x hx⟩, fun x hx => ⟨(lb x hx).1, hb'.lt x hx⟩⟩
theorem TwoB.swap (h : TwoB N lo w a b most La Lb) : TwoB N lo w b a most Lb La := by
  obtain ⟨h1, h2, Fa, Fb, ha, hb', hd, la, lb⟩ := h
  exact ⟨h1, h2, Fb, Fa, hb', ha, fun x hx hy => hd x hy hx, lb, la⟩
theorem two_new {w3 w4 : World} {Fb : List Nat} (h : BagB N w3 a most La) (hb : BagAt w4 b most Lb Fb) (hl : ∀ x ∈ Fb, w3.heap.size ≤ x) (hw : Below w3.heap.size w3 w4) : TwoB N w4.heap.size w4 a b most La Lb := by
  obtain ⟨hN, Fa, ha, hla⟩ := h
  have ha4 := ha.below hw
  refine ⟨Nat.le_trans hN hw.size, Nat.le_refl _, Fa, Fb, ha4, hb, fun x hx hy => ?_, fun x hx => ⟨hla x hx, ha4.lt x hx⟩, fun x hx => ⟨Nat.le_trans hN (hl x hx), hb.lt x hx⟩⟩
  have := hl x hy
  have := ha.lt x hx
  omega
theorem twoAdd (h : TwoB N lo w a b most La Lb) (hne : (La.length : Int) ≠ most) (hL : La.length ≤ 65536) {v4 v5 : Value} (hm : MsgIn w m v4 v5) (hB : msgB m) :
    Calls Try.prog 26 #[.pointer (some ⟨a, 0, none⟩), .agg (msgCells m v4 v5)] w fun e w' => e = .returned (.int .i64 0) ∧ TwoB N w'.heap.size w' a b most (La ++ [m]) Lb ∧ Below N w w' ∧ Mid lo w w' := by
  obtain ⟨h1, h2, Fa, Fb, ha, hb', hd, la, lb⟩ := h
  refine (Add_yes w a most La Fa m v4 v5 ha hne hL hm hB).mono ?_
  rintro e w' ⟨F', rfl, r, k, l⟩
  have hbk := hb'.keeps k (fun x hx hy => hd x hy hx)
  refine ⟨rfl, ⟨Nat.le_trans h1 (Nat.le_trans h2 k.size), Nat.le_refl _, F', Fb, r, hbk, fun x hx hy => ?_, fun x hx => ⟨?_, r.lt x hx⟩, fun x hx => ⟨(lb x hx).1, hbk.lt x hx⟩⟩, k.below (fun x hx => (la x hx).1) (Nat.le_trans h1 h2), fun y hy1 hy2 => k.block y hy2 (fun hx => by have := (la y hx).2; omega)⟩
  · rcases l x hx with hx | hx
    · exact hd x hx hy
    · have := hb'.lt x hy
      omega
  · rcases l x hx with hx | hx
    · exact (la x hx).1
    · omega
theorem twoTake (h : TwoB N lo w a b most La Lb) {k : Nat} (hk : La[k]? = some x) (hL : La.length ≤ 65536) :
    Calls Try.prog 25 #[.pointer (some ⟨a, 0, none⟩), .int .i64 k] w fun e w' => ∃ v4 v5, e = .returned (.tuple #[.agg (msgCells x v4 v5), .int .i64 0]) ∧ MsgIn w' x v4 v5 ∧ TwoB N lo w' a b most (La.eraseIdx k) Lb ∧ Below N w w' ∧ Mid lo w w' := by
  obtain ⟨h1, h2, Fa, Fb, ha, hb', hd, la, lb⟩ := h
  refine (Take_yes w a most La Fa k x ha hk hL).mono ?_
  rintro e w' ⟨v4, v5, F', Fm, rfl, hM, r, hn, hk, hl⟩
  have hbk := hb'.keeps hk (fun x hx hy => hd x hy hx)
  have hl' : ∀ x ∈ F', x ∈ Fa := fun x hx => hl x (List.mem_append_left _ hx)
  exact ⟨v4, v5, rfl, msgIn_of_M hM, ⟨h1, Nat.le_trans h2 hk.size, F', Fb, r, hbk, fun x hx => hd x (hl' x hx), fun x hx => la x (hl' x hx), lb⟩, hk.below (fun x hx => (la x hx).1) (Nat.le_trans h1 h2), fun y hy1 hy2 => hk.block y hy2 (fun hx => by have := (la y hx).2; omega)⟩
/-- A list that a call made: its row, its blocks from number n on. -/
def Listed (n : Nat) (w : World) (A : Option Addr) (c : Nat) (L : List MsgT) : Prop := ∃ F, Fd.Row fdMsg 38 w F (.slice A L.length c) L ∧ ∀ y ∈ F, n ≤ y
theorem Listed.reads {n : Nat} {A : Option Addr} {c : Nat} {L : List MsgT} (h : Listed n w A c L) : k38.C w A L.length L := by
  obtain ⟨F, hr, _⟩ := h
  obtain ⟨A', c', e, _, hC⟩ := Fd.row_reads hr
  cases e
  exact hC
theorem Listed.mid {n : Nat} {A : Option Addr} {c : Nat} {L : List MsgT} (h : Listed n w A c L) (hm : Mid n w w1) : Listed n w1 A c L := by
  obtain ⟨F, hr, hl⟩ := h
  exact ⟨F, Fd.row_move (fun y hy => hm y (hl y hy) (Fd.row_lt hr y hy)) hr, hl⟩
/-- A message whose blocks are from number n on. -/
def Held (n : Nat) (w : World) (x : MsgT) (v4 v5 : Value) : Prop := ∃ F, fdMsg.M w F x (msgCells x v4 v5).toList ∧ ∀ y ∈ F, n ≤ y
theorem Held.mid {n : Nat} {v4 v5 : Value} (h : Held n w x v4 v5) (hm : Mid n w w1) : Held n w1 x v4 v5 := by
  obtain ⟨F, hM, hl⟩ := h
  exact ⟨F, fdMsg.move (fun y hy => hm y (hl y hy) (fdMsg.lt hM y hy)) hM, hl⟩
theorem Held.msgIn {n : Nat} {v4 v5 : Value} (h : Held n w x v4 v5) : MsgIn w x v4 v5 := by
  obtain ⟨F, hM, _⟩ := h
  exact msgIn_of_M hM
theorem Listed.open_ {n c k : Nat} {A : Option Addr} {L : List MsgT} (h : Listed n w A c L) (hk : L[k]? = some x) : ∃ g A4 c4 A5 c5, A = some ⟨g, 0, none⟩ ∧ (w.cell? ⟨g, k * 6, none⟩ = some (.int .u8 x.f0) ∧ w.cell? ⟨g, k * 6 + 1, none⟩ = some (.int .u8 x.f1) ∧ w.cell? ⟨g, k * 6 + 2, none⟩ = some (.int .u8 x.f2) ∧ w.cell? ⟨g, k * 6 + 3, none⟩ = some (.int .u32 x.f3) ∧
    w.cell? ⟨g, k * 6 + 4, none⟩ = some (.slice A4 x.f4.length c4) ∧ w.cell? ⟨g, k * 6 + 5, none⟩ = some (.slice A5 x.f5.length c5)) ∧ Held n w x (.slice A4 x.f4.length c4) (.slice A5 x.f5.length c5) := by
  obtain ⟨F, ⟨inner, G', ho, he, rfl⟩, hl⟩ := h
  obtain ⟨hkl, hx⟩ := List.getElem?_eq_some_iff.1 hk
  obtain ⟨gl, c', e, _⟩ := ho.form (by omega)
  cases e
  obtain ⟨c0, cm, c1, G0, Gm, G1, rfl, h0, rfl, h1, h2, h3⟩ := Fd.els_at hkl he
  rw [hx] at h2
  obtain ⟨v4, v5, hcm, A4, c4, A5, c5, rfl, rfl, _⟩ := MsgIn.of_M h2
  subst hcm
  exact ⟨gl, A4, c4, A5, c5, rfl, cells_at ho h0, Gm, h2, fun y hy => hl y (by simp [hy])⟩
theorem twoList (h : TwoB N lo w a b most La Lb) (hL : La.length ≤ 65536) (hB : ∀ m ∈ La, msgB m) :
    Calls Try.prog 28 #[.pointer (some ⟨a, 0, none⟩)] w fun e w' => ∃ A c, e = .returned (.slice A La.length c) ∧ La.length ≤ c ∧ Listed w.heap.size w' A c La ∧ Below w.heap.size w w' := by
  obtain ⟨h1, h2, Fa, Fb, ha, hb', hd, la, lb⟩ := h
  refine (List_calls w a most La Fa ha hL hB).mono ?_
  rintro e w' ⟨v, rfl, hb, FL, hrow, _, hl⟩
  obtain ⟨A, c, rfl, hlc, hC⟩ := Fd.row_reads hrow
  exact ⟨A, c, rfl, hlc, ⟨FL, hrow, hl⟩, hb⟩
end
end Go.Proofs.Ytcohodkpppmaoaa.Q
