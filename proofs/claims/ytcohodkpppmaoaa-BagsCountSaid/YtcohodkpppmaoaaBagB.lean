/-
  A bag told by what it holds, its blocks from number N on: what each call leaves; below N nothing turns.
-/
import Derived.Test.YtcohodkpppmaoaaAlive8
namespace Go.Proofs.Ytcohodkpppmaoaa.Q
open Go.RowKit Go.Proofs.YtcohodkpppmaoaaW.PrintWords Go.Proofs.YtcohodkpppmaoaaW.PrintLast Go.Proofs.YtcohodkpppmaoaaW.PrintMore
set_option linter.unusedVariables false

def BagB (N : Nat) (w : World) (g : Nat) (most : Int) (L : List MsgT) : Prop := N ≤ w.heap.size ∧ ∃ F, BagAt w g most L F ∧ ∀ b ∈ F, N ≤ b
section
variable {N : Nat} {w w1 : World} {g : Nat} {most : Int} {L L' : List MsgT} {m x : MsgT}
theorem BagB.below (h : BagB N w g most L) (hb : Below w.heap.size w w1) : BagB N w1 g most L := by
  obtain ⟨hN, F, h1, h2⟩ := h
  exact ⟨Nat.le_trans hN hb.size, F, h1.below hb, h2⟩
/-- A store into a block that is none of the bag's. -/
theorem BagB.set (h : BagB N w g most L) {p : Addr} (hp : p.block < N) (u : Value) : BagB N (w.setCell p u) g most L := by
  obtain ⟨hN, F, h1, h2⟩ := h
  refine ⟨by simpa [World.setCell] using hN, F, h1.keeps ((Keeps.refl [p.block] w).setCell (p := p) (.inl (by simp)) u) (fun b hb hx => ?_), h2⟩
  have := h2 b hb
  simp at hx
  omega
theorem bagB_step {F F' : List Nat} (hN : N ≤ w.heap.size) (h2 : ∀ b ∈ F, N ≤ b) (r : BagAt w1 g most L' F') (k : Keeps F w w1) (l : ∀ b ∈ F', b ∈ F ∨ w.heap.size ≤ b) : BagB N w1 g most L' ∧ Below N w w1 :=
  ⟨⟨Nat.le_trans hN k.size, F', r, fun b hb => (l b hb).elim (h2 b) (fun h => Nat.le_trans hN h)⟩, k.below h2 hN⟩
theorem newB (w : World) (most : Int) (h1 : 1 ≤ most) (h2 : most ≤ 256) (hN : N ≤ w.heap.size) : Calls Try.prog 31 #[.int .i64 most] w fun e w' => ∃ g, e = .returned (.tuple #[.pointer (some ⟨g, 0, none⟩), .int .i64 0]) ∧ BagB N w' g most [] ∧ Below w.heap.size w w' := by
  refine (new_yes w most h1 h2).mono ?_
  rintro e w' ⟨g, F, rfl, h3, h4, h5⟩
  exact ⟨g, rfl, ⟨Nat.le_trans hN h5.size, F, h3, fun b hb => Nat.le_trans hN (h4 b hb)⟩, h5⟩
theorem addB (h : BagB N w g most L) (hne : (L.length : Int) ≠ most) (hL : L.length ≤ 65536) {v4 v5 : Value} (hm : MsgIn w m v4 v5) (hB : msgB m) :
    Calls Try.prog 26 #[.pointer (some ⟨g, 0, none⟩), .agg (msgCells m v4 v5)] w fun e w' => e = .returned (.int .i64 0) ∧ BagB N w' g most (L ++ [m]) ∧ Below N w w' := by
  obtain ⟨hN, F, h1, h2⟩ := h
  refine (Add_yes w g most L F m v4 v5 h1 hne hL hm hB).mono ?_
  rintro e w' ⟨F', rfl, r, k, l⟩
  exact ⟨rfl, bagB_step hN h2 r k l⟩
theorem addFullB (h : BagB N w g most L) (hne : (L.length : Int) = most) {v4 v5 : Value} (hm : MsgIn w m v4 v5) :
    Calls Try.prog 26 #[.pointer (some ⟨g, 0, none⟩), .agg (msgCells m v4 v5)] w fun e w' => e = .returned (.int .i64 5) ∧ Below w.heap.size w w' := by
  obtain ⟨hN, F, h1, h2⟩ := h
  exact Add_no w g most L F m v4 v5 h1 hne hm
theorem copyB (h : BagB N w g most L) {k : Nat} (hk : L[k]? = some x) (hne : (L.length : Int) ≠ most) (hL : L.length ≤ 65536) (hB : msgB x) :
    Calls Try.prog 27 #[.pointer (some ⟨g, 0, none⟩), .int .i64 k] w fun e w' => e = .returned (.int .i64 0) ∧ BagB N w' g most (L ++ [x]) ∧ Below N w w' := by
  obtain ⟨hN, F, h1, h2⟩ := h
  refine (Copy_yes w g most L F k x h1 hk hne hL hB).mono ?_
  rintro e w' ⟨F', rfl, r, k, l⟩
  exact ⟨rfl, bagB_step hN h2 r k l⟩
theorem copyFullB (h : BagB N w g most L) {k : Nat} (hk : L[k]? = some x) (hne : (L.length : Int) = most) (hL : L.length ≤ 65536) :
    Calls Try.prog 27 #[.pointer (some ⟨g, 0, none⟩), .int .i64 k] w fun e w' => e = .returned (.int .i64 5) ∧ Below w.heap.size w w' := by
  obtain ⟨hN, F, h1, h2⟩ := h
  exact Copy_full w g most L F k x h1 hk hne hL
theorem copyNoB (h : BagB N w g most L) {i : Int} (hi : ¬ (0 ≤ i ∧ i < (L.length : Int))) :
    Calls Try.prog 27 #[.pointer (some ⟨g, 0, none⟩), .int .i64 i] w fun e w' => e = .returned (.int .i64 1) ∧ w = w' := by
  obtain ⟨hN, F, h1, h2⟩ := h
  exact Copy_no w g most L F i h1 hi
theorem msgIn_of_M {w : World} {F : List Nat} {v4 v5 : Value} (hM : fdMsg.M w F x (msgCells x v4 v5).toList) : MsgIn w x v4 v5 := by
  obtain ⟨a, b, e, hmi⟩ := MsgIn.of_M hM
  have e1 : msgCells x v4 v5 = msgCells x a b := Array.ext' e
  unfold msgCells at e1
  simp at e1
  rw [e1.1, e1.2]
  exact hmi
theorem takeB (h : BagB N w g most L) {k : Nat} (hk : L[k]? = some x) (hL : L.length ≤ 65536) :
    Calls Try.prog 25 #[.pointer (some ⟨g, 0, none⟩), .int .i64 k] w fun e w' => ∃ v4 v5, e = .returned (.tuple #[.agg (msgCells x v4 v5), .int .i64 0]) ∧ MsgIn w' x v4 v5 ∧ BagB N w' g most (L.eraseIdx k) ∧ Below N w w' := by
  obtain ⟨hN, F, h1, h2⟩ := h
  refine (Take_yes w g most L F k x h1 hk hL).mono ?_
  rintro e w' ⟨v4, v5, F', Fm, rfl, hM, r, hn, hk, hl⟩
  exact ⟨v4, v5, rfl, msgIn_of_M hM, bagB_step hN h2 r hk (fun b hb => .inl (hl b (List.mem_append_left _ hb)))⟩
theorem takeNoB (h : BagB N w g most L) {i : Int} (hi : ¬ (0 ≤ i ∧ i < (L.length : Int))) :
    Calls Try.prog 25 #[.pointer (some ⟨g, 0, none⟩), .int .i64 i] w fun e w' => e = .returned (.tuple #[.agg #[.int .u8 0, .int .u8 0, .int .u8 0, .int .u32 0, .slice none 0 0, .slice none 0 0], .int .i64 1]) ∧ Below w.heap.size w w' := by
  obtain ⟨hN, F, h1, h2⟩ := h
  exact Take_no w g most L F i h1 hi
theorem listB (h : BagB N w g most L) (hL : L.length ≤ 65536) (hB : ∀ m ∈ L, msgB m) :
    Calls Try.prog 28 #[.pointer (some ⟨g, 0, none⟩)] w fun e w' => ∃ A c, e = .returned (.slice A L.length c) ∧ L.length ≤ c ∧ k38.C w' A L.length L ∧ Below w.heap.size w w' := by
  obtain ⟨hN, F, h1, h2⟩ := h
  refine (List_calls w g most L F h1 hL hB).mono ?_
  rintro e w' ⟨v, rfl, hb, FL, hrow, _⟩
  obtain ⟨A, c, rfl, hlc, hC⟩ := Fd.row_reads hrow
  exact ⟨A, c, rfl, hlc, hC, hb⟩
theorem tellB (h : BagB N w g most L) (hL : L.length ≤ 65536) (hB : ∀ m ∈ L, msgB m) :
    Calls Try.prog 37 #[.pointer (some ⟨g, 0, none⟩)] w fun e w' => ∃ A c, e = .returned (.slice A (gs L).length c) ∧ (gs L).length ≤ c ∧ (Kd.int .u32).C w' A (gs L).length (gs L) ∧ Below w.heap.size w w' := by
  obtain ⟨hN, F, h1, h2⟩ := h
  refine (tell_calls w g most L F h1 hL hB).mono ?_
  rintro e w' ⟨v, rfl, hr, hb⟩
  obtain ⟨A, c, rfl, hc, hC⟩ := Kd.R_reads hr
  exact ⟨A, c, rfl, hc, hC, hb⟩
theorem isB (h : BagB N w g most L) (hL : L.length ≤ 65536) (hB : ∀ m ∈ L, msgB m) (xs : List Int) (A : Option Addr) (c : Nat) (hC : (Kd.int .u32).C w A xs.length xs) (hc : xs.length ≤ c) :
    Calls Try.prog 32 #[.pointer (some ⟨g, 0, none⟩), .slice A xs.length c] w fun e w' => e = .returned (.bool (decide (gs L = xs))) ∧ Below w.heap.size w w' := by
  obtain ⟨hN, F, h1, h2⟩ := h
  exact is_calls w g most L F h1 hL hB xs A c hC hc
/-- Take, some blocks having been made since: they stay, too. -/
theorem takeLater {wr : World} (h : BagB N wr g most L) (hbw : Below wr.heap.size wr w) {k : Nat} (hk : L[k]? = some x) (hL : L.length ≤ 65536) :
    Calls Try.prog 25 #[.pointer (some ⟨g, 0, none⟩), .int .i64 k] w fun e w' => ∃ v4 v5, e = .returned (.tuple #[.agg (msgCells x v4 v5), .int .i64 0]) ∧ MsgIn w' x v4 v5 ∧ BagB N w' g most (L.eraseIdx k) ∧ Below N w w' ∧ ∀ b, wr.heap.size ≤ b → b < w.heap.size → w'.heap[b]? = w.heap[b]? := by
  obtain ⟨hN, F, h1, h2⟩ := h
  refine (Take_yes w g most L F k x (h1.below hbw) hk hL).mono ?_
  rintro e w' ⟨v4, v5, F', Fm, rfl, hM, r, hn, hk, hl⟩
  have hs := bagB_step (Nat.le_trans hN hbw.size) h2 r hk (fun b hb => .inl (hl b (List.mem_append_left _ hb)))
  exact ⟨v4, v5, rfl, msgIn_of_M hM, hs.1, hs.2, fun b hb1 hb2 => hk.block b hb2 (fun hx => by have := h1.lt b hx; omega)⟩
/-- Add, likewise. -/
theorem addLater {wr : World} (h : BagB N wr g most L) (hbw : Below wr.heap.size wr w) (hne : (L.length : Int) ≠ most) (hL : L.length ≤ 65536) {v4 v5 : Value} (hm : MsgIn w m v4 v5) (hB : msgB m) :
    Calls Try.prog 26 #[.pointer (some ⟨g, 0, none⟩), .agg (msgCells m v4 v5)] w fun e w' => e = .returned (.int .i64 0) ∧ BagB N w' g most (L ++ [m]) ∧ Below N w w' ∧ ∀ b, wr.heap.size ≤ b → b < w.heap.size → w'.heap[b]? = w.heap[b]? := by
  obtain ⟨hN, F, h1, h2⟩ := h
  refine (Add_yes w g most L F m v4 v5 (h1.below hbw) hne hL hm hB).mono ?_
  rintro e w' ⟨F', rfl, r, k, l⟩
  have hs := bagB_step (Nat.le_trans hN hbw.size) h2 r k l
  exact ⟨rfl, hs.1, hs.2, fun b hb1 hb2 => k.block b hb2 (fun hx => by have := h1.lt b hx; omega)⟩
/-- A cell below N, later. -/
theorem cell_low (hb : Below N w w1) {p : Addr} (hp : p.block < N) {v : Value} (h : w.cell? p = some v) : w1.cell? p = some v := (hb.cell hp).trans h
end
end Go.Proofs.Ytcohodkpppmaoaa.Q
