/-
  A bag, and a row of numbers that lies apart of it.
-/
import Derived.Test.YtcohodkpppmaoaaBagTwo
import Derived.Test.YtcohodkpppmaoaaGreat
namespace Go.Proofs.Ytcohodkpppmaoaa.Q
open Go.RowKit Go.Proofs.YtcohodkpppmaoaaW.PrintWords Go.Proofs.YtcohodkpppmaoaaW.PrintLast Go.Proofs.YtcohodkpppmaoaaW.PrintMore
set_option linter.unusedVariables false

def fdU32 : Fd Int := Fd.flat (Kd.int .u32) (fun {w w1 x cs} h => h)
def CountAt (N : Nat) (w : World) (g : Nat) (most : Int) (L : List MsgT) (v : Value) (ids : List Int) : Prop :=
  N ≤ w.heap.size ∧ ∃ F Fw, BagAt w g most L F ∧ Fd.Row fdU32 24 w Fw v ids ∧ Fw.Nodup ∧ (∀ x ∈ F, x ∉ Fw) ∧ (∀ x ∈ F, N ≤ x) ∧ ∀ x ∈ Fw, N ≤ x
section
variable {N : Nat} {w w1 : World} {g : Nat} {most : Int} {L L' : List MsgT} {m x : MsgT} {v v1 : Value} {ids ids' : List Int}
theorem CountAt.below (h : CountAt N w g most L v ids) (hb : Below w.heap.size w w1) : CountAt N w1 g most L v ids := by
  obtain ⟨hN, F, Fw, h1, h2, hn, hd, l1, l2⟩ := h
  exact ⟨Nat.le_trans hN hb.size, F, Fw, h1.below hb, Fd.row_below h2 hb, hn, hd, l1, l2⟩
theorem CountAt.reads (h : CountAt N w g most L v ids) : ∃ A c, v = .slice A ids.length c ∧ ids.length ≤ c ∧ (Kd.int .u32).C w A ids.length ids := by
  obtain ⟨hN, F, Fw, h1, h2, _⟩ := h
  exact Fd.row_reads h2
theorem CountAt.bag (h : CountAt N w g most L v ids) : BagB N w g most L := by
  obtain ⟨hN, F, Fw, h1, h2, hn, hd, l1, l2⟩ := h
  exact ⟨hN, F, h1, l1⟩
theorem count_new (h : BagB N w g most []) : CountAt N w g most [] (.slice none 0 0) [] := by
  obtain ⟨hN, F, h1, l1⟩ := h
  exact ⟨hN, F, [], h1, Fd.row_nil _ _ _, List.nodup_nil, fun _ _ hx => (by cases hx), l1, fun _ hx => by cases hx⟩
theorem count_step {F F' Fw : List Nat} (hN : N ≤ w.heap.size) (h2 : Fd.Row fdU32 24 w Fw v ids) (hn : Fw.Nodup) (hd : ∀ x ∈ F, x ∉ Fw) (l1 : ∀ x ∈ F, N ≤ x) (l2 : ∀ x ∈ Fw, N ≤ x) (r : BagAt w1 g most L' F') (k : Keeps F w w1) (l : ∀ b ∈ F', b ∈ F ∨ w.heap.size ≤ b) :
    CountAt N w1 g most L' v ids ∧ Below N w w1 := by
  refine ⟨⟨Nat.le_trans hN k.size, F', Fw, r, Fd.row_keeps h2 k (fun b hb hx => hd b hx hb), hn, fun x hx hy => ?_, fun x hx => (l x hx).elim (l1 x) (fun h => Nat.le_trans hN h), l2⟩, k.below l1 hN⟩
  rcases l x hx with h | h
  · exact hd x h hy
  · have := Fd.row_lt h2 x hy
    omega
theorem cAdd (h : CountAt N w g most L v ids) (hne : (L.length : Int) ≠ most) (hL : L.length ≤ 65536) {v4 v5 : Value} (hm : MsgIn w m v4 v5) (hB : msgB m) :
    Calls Try.prog 26 #[.pointer (some ⟨g, 0, none⟩), .agg (msgCells m v4 v5)] w fun e w' => e = .returned (.int .i64 0) ∧ CountAt N w' g most (L ++ [m]) v ids ∧ Below N w w' := by
  obtain ⟨hN, F, Fw, h1, h2, hn, hd, l1, l2⟩ := h
  refine (Add_yes w g most L F m v4 v5 h1 hne hL hm hB).mono ?_
  rintro e w' ⟨F', rfl, r, k, l⟩
  exact ⟨rfl, count_step hN h2 hn hd l1 l2 r k l⟩
theorem cCopy (h : CountAt N w g most L v ids) {k : Nat} (hk : L[k]? = some x) (hne : (L.length : Int) ≠ most) (hL : L.length ≤ 65536) (hB : msgB x) :
    Calls Try.prog 27 #[.pointer (some ⟨g, 0, none⟩), .int .i64 k] w fun e w' => e = .returned (.int .i64 0) ∧ CountAt N w' g most (L ++ [x]) v ids ∧ Below N w w' := by
  obtain ⟨hN, F, Fw, h1, h2, hn, hd, l1, l2⟩ := h
  refine (Copy_yes w g most L F k x h1 hk hne hL hB).mono ?_
  rintro e w' ⟨F', rfl, r, k, l⟩
  exact ⟨rfl, count_step hN h2 hn hd l1 l2 r k l⟩
theorem cTake (h : CountAt N w g most L v ids) {k : Nat} (hk : L[k]? = some x) (hL : L.length ≤ 65536) :
    Calls Try.prog 25 #[.pointer (some ⟨g, 0, none⟩), .int .i64 k] w fun e w' => ∃ v4 v5, e = .returned (.tuple #[.agg (msgCells x v4 v5), .int .i64 0]) ∧ MsgIn w' x v4 v5 ∧ CountAt N w' g most (L.eraseIdx k) v ids ∧ Below N w w' := by
  obtain ⟨hN, F, Fw, h1, h2, hn, hd, l1, l2⟩ := h
  refine (Take_yes w g most L F k x h1 hk hL).mono ?_
  rintro e w' ⟨v4, v5, F', Fm, rfl, hM, r, hnd, hk, hl⟩
  exact ⟨v4, v5, rfl, msgIn_of_M hM, count_step hN h2 hn hd l1 l2 r hk (fun b hb => .inl (hl b (List.mem_append_left _ hb)))⟩
/-- The row turned, the bag not. -/
theorem count_row {F Fw F1 : List Nat} (hN : N ≤ w.heap.size) (h1 : BagAt w g most L F) (hd : ∀ x ∈ F, x ∉ Fw) (l1 : ∀ x ∈ F, N ≤ x) (l2 : ∀ x ∈ Fw, N ≤ x) (r : Fd.Row fdU32 24 w1 F1 v1 ids') (hn : F1.Nodup) (k : Keeps Fw w w1) (l : ∀ b ∈ F1, b ∈ Fw ∨ w.heap.size ≤ b) :
    CountAt N w1 g most L v1 ids' ∧ Below N w w1 := by
  refine ⟨⟨Nat.le_trans hN k.size, F, F1, h1.keeps k (fun b hb => hd b hb), r, hn, fun x hx hy => ?_, l1, fun x hx => (l x hx).elim (l2 x) (fun h => Nat.le_trans hN h)⟩, k.below l2 hN⟩
  rcases l x hy with h | h
  · exact hd x hx h
  · have := h1.lt x hx
    omega
theorem CountAt.box (h : CountAt N w g most L v ids) (o : Obj) {w1 : World} {F : List Nat} (hF : ∀ x ∈ F, x < w.heap.size) (k : Keeps F (w.alloc o) w1) : w1.heap[w.heap.size]? = some o := by
  have hs : (w.alloc o).heap.size = w.heap.size + 1 := by show (w.heap.push o).size = _; simp
  refine (k.block w.heap.size (by omega) (fun hx => by have := hF _ hx; omega)).trans ?_
  show (w.heap.push o)[w.heap.size]? = _
  simp
/-- Take and Copy, what they leave of a box that lies behind the bag. -/
theorem cTakeBox (h : CountAt N w g most L v ids) (o : Obj) {k : Nat} (hk : L[k]? = some x) (hL : L.length ≤ 65536) :
    Calls Try.prog 25 #[.pointer (some ⟨g, 0, none⟩), .int .i64 k] (w.alloc o) fun e w' => ∃ v4 v5, e = .returned (.tuple #[.agg (msgCells x v4 v5), .int .i64 0]) ∧ MsgIn w' x v4 v5 ∧ CountAt N w' g most (L.eraseIdx k) v ids ∧ Below N (w.alloc o) w' ∧ w'.heap[w.heap.size]? = some o := by
  have hb := below_alloc (Below.refl w.heap.size w) o
  have h' := h.below hb
  obtain ⟨hN, F, Fw, h1, h2, hn, hd, l1, l2⟩ := h
  obtain ⟨hN', _⟩ := h'
  refine (Take_yes (w.alloc o) g most L F k x (h1.below hb) hk hL).mono ?_
  rintro e w' ⟨v4, v5, F', Fm, rfl, hM, r, hnd, hk, hl⟩
  have hs := count_step hN' (Fd.row_below h2 hb) hn hd l1 l2 r hk (fun b hb => .inl (hl b (List.mem_append_left _ hb)))
  exact ⟨v4, v5, rfl, msgIn_of_M hM, hs.1, hs.2, CountAt.box (g := g) (most := most) (L := L) (v := v) (ids := ids) (N := N) ⟨hN, F, Fw, h1, h2, hn, hd, l1, l2⟩ o h1.lt hk⟩
theorem cCopyBox (h : CountAt N w g most L v ids) (o : Obj) {k : Nat} (hk : L[k]? = some x) (hne : (L.length : Int) ≠ most) (hL : L.length ≤ 65536) (hB : msgB x) :
    Calls Try.prog 27 #[.pointer (some ⟨g, 0, none⟩), .int .i64 k] (w.alloc o) fun e w' => e = .returned (.int .i64 0) ∧ CountAt N w' g most (L ++ [x]) v ids ∧ Below N (w.alloc o) w' ∧ w'.heap[w.heap.size]? = some o := by
  have hb := below_alloc (Below.refl w.heap.size w) o
  have h' := h.below hb
  obtain ⟨hN, F, Fw, h1, h2, hn, hd, l1, l2⟩ := h
  obtain ⟨hN', _⟩ := h'
  refine (Copy_yes (w.alloc o) g most L F k x (h1.below hb) hk hne hL hB).mono ?_
  rintro e w' ⟨F', rfl, r, k, l⟩
  have hs := count_step hN' (Fd.row_below h2 hb) hn hd l1 l2 r k l
  exact ⟨rfl, hs.1, hs.2, CountAt.box (g := g) (most := most) (L := L) (v := v) (ids := ids) (N := N) ⟨hN, F, Fw, h1, h2, hn, hd, l1, l2⟩ o h1.lt k⟩
/-- The row is a new one. -/
theorem count_fresh {ok : Nat → Prop} (h : CountAt N w g most L v ids) (hb : Below w.heap.size w w1) (r : Kd.R (Kd.int .u32) 24 w1 w.heap.size ok v1 ids') : CountAt N w1 g most L v1 ids' := by
  obtain ⟨hN, F, Fw, h1, h2, hn, hd, l1, l2⟩ := h
  have hbs := Kd.R_base r
  obtain ⟨_, inner, ho, hr⟩ := r
  refine ⟨Nat.le_trans hN hb.size, F, v1.ownBlock.toList, h1.below hb, ⟨inner, [], own_weaken ho (Nat.zero_le _), els_flat (w := w1) (hk := fun {w w1 x cs} h => h) (hr.imp_ (fun _ _ hp => (Kd.int .u32).K_of_M hp)), by simp⟩, ?_, fun x hx hy => ?_, l1, fun x hx => ?_⟩
  · cases v1.ownBlock <;> simp
  · have h3 := hbs x (by simpa using hy)
    have h4 := h1.lt x hx
    omega
  · have h3 := hbs x (by simpa using hx)
    omega
end
end Go.Proofs.Ytcohodkpppmaoaa.Q
