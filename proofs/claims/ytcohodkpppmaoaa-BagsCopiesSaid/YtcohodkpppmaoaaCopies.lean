/-
  A message's own rows, written: what a store into them leaves.
-/
import Derived.Test.YtcohodkpppmaoaaBagTwo
namespace Go.Proofs.Ytcohodkpppmaoaa.Q
open Go.RowKit Go.Proofs.YtcohodkpppmaoaaW.PrintWords Go.Proofs.YtcohodkpppmaoaaW.PrintLast Go.Proofs.YtcohodkpppmaoaaW.PrintMore
set_option linter.unusedVariables false

def OpsIn (w : World) (g n : Nat) : Prop := ∃ cs, w.heap[g]? = some (.cells cs 68 (0, 0)) ∧ ∀ k, k < n → ∃ u, cs[k * 4 + 1]? = some u
def RowsIn (w : World) (g n : Nat) : Prop := ∃ cs, w.heap[g]? = some (.cells cs 73 (0, 0)) ∧ ∀ k, k < n → ∃ u : Int, cs[k * 2 + 1]? = some (.int .u32 u)
def OpsOk (w : World) (F : List Nat) (n : Nat) (A : Option Addr) : Prop := 0 < n → ∃ g, A = some ⟨g, 0, none⟩ ∧ g ∈ F ∧ OpsIn w g n
def RowsOk (w : World) (F : List Nat) (n : Nat) (A : Option Addr) : Prop := 0 < n → ∃ g, A = some ⟨g, 0, none⟩ ∧ g ∈ F ∧ RowsIn w g n
def ResOk (w : World) (F : List Nat) (rs : List ResT') (A : Option Addr) : Prop := 0 < rs.length → ∃ g cur, A = some ⟨g, 0, none⟩ ∧ w.heap[g]? = some (.cells cur 71 (0, 0)) ∧ ∀ i (hi : i < rs.length), ∃ B c, w.cell? ⟨g, i, none⟩ = some (.slice B (rs[i]).f0.length c) ∧ RowsOk w F (rs[i]).f0.length B
section
variable {w w1 : World} {F G : List Nat} {v : Value} {g n : Nat}
theorem OpsIn.same (h : OpsIn w g n) (e : w1.heap[g]? = w.heap[g]?) : OpsIn w1 g n := by
  obtain ⟨cs, hb, hk⟩ := h
  exact ⟨cs, e.trans hb, hk⟩
theorem RowsIn.same (h : RowsIn w g n) (e : w1.heap[g]? = w.heap[g]?) : RowsIn w1 g n := by
  obtain ⟨cs, hb, hk⟩ := h
  exact ⟨cs, e.trans hb, hk⟩
theorem OpsIn.set (h : OpsIn w g n) (i : Nat) (u : Value) : OpsIn (w.setCell ⟨g, i, none⟩ u) g n := by
  obtain ⟨cs, hb, hk⟩ := h
  refine ⟨_, blk_put hb i u rfl, fun k hkn => ?_⟩
  obtain ⟨z, hz⟩ := hk k hkn
  by_cases e : i = k * 4 + 1
  · subst e
    exact ⟨u, by rw [Array.getElem?_setIfInBounds_self_of_lt (Array.getElem?_eq_some_iff.1 hz).1]⟩
  · exact ⟨z, by rw [Array.getElem?_setIfInBounds_ne e]; exact hz⟩
theorem RowsIn.set (h : RowsIn w g n) (i : Nat) (u : Int) : RowsIn (w.setCell ⟨g, i, none⟩ (.int .u32 u)) g n := by
  obtain ⟨cs, hb, hk⟩ := h
  refine ⟨_, blk_put hb i _ rfl, fun k hkn => ?_⟩
  obtain ⟨z, hz⟩ := hk k hkn
  by_cases e : i = k * 2 + 1
  · subst e
    exact ⟨u, by rw [Array.getElem?_setIfInBounds_self_of_lt (Array.getElem?_eq_some_iff.1 hz).1]⟩
  · exact ⟨z, by rw [Array.getElem?_setIfInBounds_ne e]; exact hz⟩
theorem heap_set_ne (w : World) {p : Addr} (u : Value) {b : Nat} (h : p.block ≠ b) : (w.setCell p u).heap[b]? = w.heap[b]? := Below.heap_setCell w p u b (fun e => h e.symm)
theorem cell_same {b i : Nat} (h : w1.heap[b]? = w.heap[b]?) : w1.cell? ⟨b, i, none⟩ = w.cell? ⟨b, i, none⟩ := by
  unfold World.cell?
  rw [h]
/-- The blocks of F stay. -/
theorem OpsOk.move {A : Option Addr} (h : OpsOk w F n A) (hm : ∀ b ∈ F, w1.heap[b]? = w.heap[b]?) : OpsOk w1 F n A := fun h0 => by
  obtain ⟨g, e, hg, hi⟩ := h h0
  exact ⟨g, e, hg, hi.same (hm g hg)⟩
theorem ops_in {xs : List OpT'} (h : Fd.Row fdOp 68 w F v xs) : ∃ A c, v = .slice A xs.length c ∧ OpsOk w F xs.length A := by
  obtain ⟨A, c, e, _⟩ := Fd.row_reads h
  subst e
  refine ⟨A, c, rfl, fun h0 => ?_⟩
  obtain ⟨inner, G', ho, he, rfl⟩ := h
  obtain ⟨g, cap, e, _⟩ := ho.form h0
  cases e
  obtain ⟨cur, hb⟩ := own_typed ho g rfl
  have hl := Fd.els_len he
  have hs : fdOp.k.sz = 4 := rfl
  rw [hs] at hl
  refine ⟨g, rfl, by simp [Value.ownBlock], cur, hb, fun k hk => ?_⟩
  have hlt : k * 4 + 1 < inner.length := by omega
  have hc := ho.cells (g := g) rfl (k * 4 + 1) _ (List.getElem?_eq_getElem hlt)
  rw [add_plain, blk_cell hb] at hc
  exact ⟨_, hc⟩
theorem rows_in {xs : List RowT'} (h : Fd.Row fdRow 73 w F v xs) : ∃ A c, v = .slice A xs.length c ∧ RowsOk w F xs.length A := by
  obtain ⟨A, c, e, _⟩ := Fd.row_reads h
  subst e
  refine ⟨A, c, rfl, fun h0 => ?_⟩
  obtain ⟨inner, G', ho, he, rfl⟩ := h
  obtain ⟨g, cap, e, _⟩ := ho.form h0
  cases e
  obtain ⟨cur, hb⟩ := own_typed ho g rfl
  refine ⟨g, rfl, by simp [Value.ownBlock], cur, hb, fun k hk => ?_⟩
  obtain ⟨c0, cm, c1, G0, Gm, G1, rfl, hl0, _, _, hM, _⟩ := Fd.els_at hk he
  have hs : fdRow.k.sz = 2 := rfl
  rw [hs] at hl0
  have hK := k73_open hM.2
  subst hK
  have hc := ho.cells (g := g) rfl (k * 2 + 1) (.int .u32 (xs[k]).f1) (by
    rw [List.getElem?_append_right (by omega), hl0, Nat.add_sub_cancel_left]
    rfl)
  rw [add_plain, blk_cell hb] at hc
  exact ⟨_, hc⟩
theorem RowsOk.mono {A : Option Addr} (h : RowsOk w F n A) (hm : ∀ b ∈ F, b ∈ G) : RowsOk w G n A := fun h0 => by
  obtain ⟨g, e, hg, hi⟩ := h h0
  exact ⟨g, e, hm g hg, hi⟩
theorem res_in {xs : List ResT'} (h : Fd.Row fdResult 71 w F v xs) : ∃ A c, v = .slice A xs.length c ∧ ResOk w F xs A := by
  obtain ⟨A, c, e, _⟩ := Fd.row_reads h
  subst e
  refine ⟨A, c, rfl, fun h0 => ?_⟩
  obtain ⟨inner, G', ho, he, rfl⟩ := h
  obtain ⟨g, cap, e, _⟩ := ho.form h0
  cases e
  obtain ⟨cur, hb⟩ := own_typed ho g rfl
  refine ⟨g, cur, rfl, hb, fun i hi => ?_⟩
  obtain ⟨c0, cm, c1, G0, Gm, G1, rfl, hl0, rfl, _, hM, _⟩ := Fd.els_at hi he
  have hs : fdResult.k.sz = 1 := rfl
  rw [hs, Nat.mul_one] at hl0
  obtain ⟨u, rfl, hrow⟩ := hM
  obtain ⟨B, d, rfl, hr⟩ := rows_in hrow
  have hc := ho.cells (g := g) rfl i (.slice B (xs[i]).f0.length d) (by
    rw [List.getElem?_append_right (by omega), hl0, Nat.sub_self]
    rfl)
  rw [add_plain] at hc
  exact ⟨B, d, hc, hr.mono (fun b hb => by simp [hb])⟩
/-- Where the loops stand. -/
structure CopS (w wr : World) (a gx : Nat) (F : List Nat) (m : MsgT) (u4 u5 : Value) (A4 : Option Addr) (c4 : Nat) (A5 : Option Addr) (c5 : Nat) : Prop where
  bag : ∃ FB, BagAt wr a 3 [m, m] FB ∧ (∀ x ∈ FB, x ∉ F) ∧ ∀ x ∈ FB, w.heap.size ≤ x
  box : wr.heap[w.heap.size]? = some (.cells (msgCells m u4 u5) 38 (0, 0))
  x : wr.heap[gx]? = some (.cells (msgCells m (.slice A4 m.f4.length c4) (.slice A5 m.f5.length c5)) 38 (0, 0))
  ops : OpsOk wr F m.f4.length A4
  res : ResOk wr F m.f5 A5
  out : gx ∉ F ∧ ∀ y ∈ F, w.heap.size < y
  below : Below w.heap.size w wr
theorem CopS.setAny {wr : World} {a gx : Nat} {m : MsgT} {u4 u5 : Value} {A4 A5 : Option Addr} {c4 c5 : Nat} (h : CopS w wr a gx F m u4 u5 A4 c4 A5 c5) {p : Addr} (hp : p.block ∈ F) (u : Value)
    (ho : OpsOk (wr.setCell p u) F m.f4.length A4) (hr : ResOk (wr.setCell p u) F m.f5 A5) : CopS w (wr.setCell p u) a gx F m u4 u5 A4 c4 A5 c5 := by
  obtain ⟨FB, hb, hd, hl⟩ := h.bag
  have hlt := h.out.2 p.block hp
  refine ⟨⟨FB, hb.keeps ((Keeps.refl [p.block] wr).setCell (p := p) (.inl (by simp)) u) (fun b hb' hx => ?_), hd, hl⟩, ?_, ?_, ho, hr, h.out, h.below.setCell (by omega) u⟩
  · rw [List.mem_singleton.1 hx] at hb'
    exact hd _ hb' hp
  · rw [heap_set_ne wr u (by omega)]
    exact h.box
  · rw [heap_set_ne wr (p := p) u (fun e => h.out.1 (by rw [← e]; exact hp))]
    exact h.x
theorem CopS.setKey {wr : World} {a gx g4 : Nat} {m : MsgT} {u4 u5 : Value} {A5 : Option Addr} {c4 c5 : Nat} (h : CopS w wr a gx F m u4 u5 (some ⟨g4, 0, none⟩) c4 A5 c5) (h0 : 0 < m.f4.length) (i : Nat) (u : Value) :
    CopS w (wr.setCell ⟨g4, i, none⟩ u) a gx F m u4 u5 (some ⟨g4, 0, none⟩) c4 A5 c5 := by
  obtain ⟨g, e, hg, hi⟩ := h.ops h0
  cases e
  refine h.setAny (p := ⟨g4, i, none⟩) hg u (fun _ => ⟨g4, rfl, hg, hi.set i u⟩) (fun h5 => ?_)
  obtain ⟨cs4, hb4, _⟩ := hi
  obtain ⟨g5, cur, e5, hb5, hall⟩ := h.res h5
  have hne : g4 ≠ g5 := blk_ne hb4 hb5 (by decide)
  refine ⟨g5, cur, e5, (heap_set_ne wr u hne).trans hb5, fun j hj => ?_⟩
  obtain ⟨B, c, hc, hr⟩ := hall j hj
  refine ⟨B, c, (cell_same (heap_set_ne wr u hne)).trans hc, fun hn => ?_⟩
  obtain ⟨b, eb, hbF, hri⟩ := hr hn
  obtain ⟨cs, hbb, _⟩ := id hri
  exact ⟨b, eb, hbF, hri.same (heap_set_ne wr u (blk_ne hb4 hbb (by decide)))⟩
theorem CopS.setVal {wr : World} {a gx g5 b : Nat} {m : MsgT} {u4 u5 : Value} {A4 : Option Addr} {c4 c5 j d : Nat} (h : CopS w wr a gx F m u4 u5 A4 c4 (some ⟨g5, 0, none⟩) c5) (hj : j < m.f5.length) (hn : 0 < (m.f5[j]).f0.length) (hc : wr.cell? ⟨g5, j, none⟩ = some (.slice (some ⟨b, 0, none⟩) (m.f5[j]).f0.length d)) (i : Nat) (u : Int) :
    CopS w (wr.setCell ⟨b, i, none⟩ (.int .u32 u)) a gx F m u4 u5 A4 c4 (some ⟨g5, 0, none⟩) c5 := by
  obtain ⟨g, cur, e, hb5, hall⟩ := h.res (by omega)
  cases e
  obtain ⟨B, c, hc', hr⟩ := hall j hj
  rw [hc] at hc'
  injection hc' with hc'
  injection hc' with e1 _ _
  subst e1
  obtain ⟨b', eb, hbF, hri⟩ := hr hn
  cases eb
  obtain ⟨cs, hbb, _⟩ := id hri
  have hne : b ≠ g5 := blk_ne hbb hb5 (by decide)
  refine h.setAny (p := ⟨b, i, none⟩) hbF _ (fun h4 => ?_) (fun _ => ⟨g5, cur, rfl, (heap_set_ne wr _ hne).trans hb5, fun k hk => ?_⟩)
  · obtain ⟨g4, e4, hg4, hi⟩ := h.ops h4
    obtain ⟨cs4, hb4, _⟩ := id hi
    exact ⟨g4, e4, hg4, hi.same (heap_set_ne wr _ (blk_ne hbb hb4 (by decide)))⟩
  · obtain ⟨B', c', hk', hr'⟩ := hall k hk
    refine ⟨B', c', (cell_same (heap_set_ne wr _ hne)).trans hk', fun hn' => ?_⟩
    obtain ⟨b2, e2, hb2, hr2⟩ := hr' hn'
    refine ⟨b2, e2, hb2, ?_⟩
    by_cases eb : b = b2
    · subst eb
      exact hr2.set i u
    · exact hr2.same (heap_set_ne wr _ eb)
theorem takeOwn {N : Nat} {L : List MsgT} {x : MsgT} {most : Int} (h : BagB N w g most L) {k : Nat} (hk : L[k]? = some x) (hL : L.length ≤ 65536) :
    Calls Try.prog 25 #[.pointer (some ⟨g, 0, none⟩), .int .i64 k] w fun e w' => ∃ v4 v5 F' Fm, e = .returned (.tuple #[.agg (msgCells x v4 v5), .int .i64 0]) ∧ fdMsg.M w' Fm x (msgCells x v4 v5).toList ∧ BagAt w' g most (L.eraseIdx k) F' ∧ (∀ y ∈ F', y ∉ Fm) ∧ (∀ y ∈ F', N ≤ y) ∧ (∀ y ∈ Fm, N ≤ y) ∧ Below N w w' := by
  obtain ⟨hN, F, h1, h2⟩ := h
  refine (Take_yes w g most L F k x h1 hk hL).mono ?_
  rintro e w' ⟨v4, v5, F', Fm, rfl, hM, r, hn, hk, hl⟩
  refine ⟨v4, v5, F', Fm, rfl, hM, r, fun y hy hz => (List.nodup_append.1 hn).2.2 y hy y hz rfl, fun y hy => h2 y (hl y (List.mem_append_left _ hy)), fun y hy => h2 y (hl y (List.mem_append_right _ hy)), hk.below h2 hN⟩
end
end Go.Proofs.Ytcohodkpppmaoaa.Q
