/-
  What a message owns; slices.Clone of ops, of results, of rows; bags.like: a message in memory of its own.
-/
import Derived.Test.YtcohodkpppmaoaaFoot
import Derived.WalkSpells
import Derived.BigRegion
namespace Go.Proofs.Ytcohodkpppmaoaa.Q
open Go.RowKit Go.Proofs.YtcohodkpppmaoaaW.PrintWords Go.Proofs.YtcohodkpppmaoaaW.PrintLast Go.Proofs.YtcohodkpppmaoaaW.PrintMore
set_option linter.unusedVariables false

abbrev MsgT := S38
abbrev OpT' := S68
abbrev ResT' := S71
abbrev RowT' := S73
def fdOp : Fd OpT' := Fd.flat k68 (fun {w w1 x cs} h => by rw [k68_open h]; exact k68_mk w1 x)
def fdRow : Fd RowT' := Fd.flat k73 (fun {w w1 x cs} h => by rw [k73_open h]; exact k73_mk w1 x)
def fdResult : Fd ResT' where
  k := k71
  M := fun w F x cs => ∃ v, cs = [v] ∧ Fd.Row fdRow 73 w F v x.f0
  read := by
    rintro w F x cs ⟨v, rfl, h⟩
    obtain ⟨A, c, rfl, hl, hC⟩ := Fd.row_reads h
    exact k71_mk w x hl hC
  move := by
    rintro w w1 F x cs hm ⟨v, rfl, h⟩
    exact ⟨v, rfl, Fd.row_move hm h⟩
  lt := by
    rintro w F x cs ⟨v, rfl, h⟩
    exact Fd.row_lt h
def fdMsg : Fd MsgT where
  k := k38
  M := fun w F x cs => ∃ v4 v5 F4 F5, cs = [.int .u8 x.f0, .int .u8 x.f1, .int .u8 x.f2, .int .u32 x.f3, v4, v5] ∧ F = F4 ++ F5 ∧ Fd.Row fdOp 68 w F4 v4 x.f4 ∧ Fd.Row fdResult 71 w F5 v5 x.f5
  read := by
    rintro w F x cs ⟨v4, v5, F4, F5, rfl, rfl, h4, h5⟩
    obtain ⟨A4, c4, rfl, l4, g4⟩ := Fd.row_reads h4
    obtain ⟨A5, c5, rfl, l5, g5⟩ := Fd.row_reads h5
    exact k38_mk w x l4 g4 l5 g5
  move := by
    rintro w w1 F x cs hm ⟨v4, v5, F4, F5, rfl, rfl, h4, h5⟩
    exact ⟨v4, v5, F4, F5, rfl, rfl, Fd.row_move (fun b hb => hm b (List.mem_append_left _ hb)) h4, Fd.row_move (fun b hb => hm b (List.mem_append_right _ hb)) h5⟩
  lt := by
    rintro w F x cs ⟨v4, v5, F4, F5, rfl, rfl, h4, h5⟩ b hb
    rcases List.mem_append.1 hb with hb | hb
    · exact Fd.row_lt h4 b hb
    · exact Fd.row_lt h5 b hb

/-- Elements that own nothing, off a row's cells. -/
theorem els_flat {α : Type} {k : Kd α} {hk : ∀ {w w1 : World} {x cs}, k.K w x cs → k.K w1 x cs} {w w1 : World} : ∀ {xs : List α} {inner : List Value}, Reps (k.K w) k.sz xs inner → Fd.Els (Fd.flat k hk) w1 xs inner []
  | [], inner, h => ⟨List.eq_nil_of_length_eq_zero (by simpa using h.1), rfl⟩
  | x :: xs, inner, h => by
    have hl := h.1
    rw [List.length_cons, Nat.succ_mul] at hl
    refine ⟨inner.take k.sz, inner.drop k.sz, [], [], (List.take_append_drop _ _).symm, rfl, ⟨rfl, hk (w := w) ?_⟩, els_flat (hk := hk) (w := w) ⟨by rw [List.length_drop]; omega, fun j p hj => ?_⟩⟩
    · have := h.2 0 x rfl
      simpa using this
    · have := h.2 (j + 1) p (by simpa using hj)
      rwa [Nat.succ_mul, Nat.add_comm, ← List.drop_drop] at this

theorem infoOp : (Try.prog.info? 68).map (fun i => (i.zero, i.size, i.bytes)) = some (some (.agg #[.int .u8 0, .string ⟨#[]⟩, .string ⟨#[]⟩, .int .u32 0]), 4, 48) := by kernel_rfl
theorem infoRow : (Try.prog.info? 73).map (fun i => (i.zero, i.size, i.bytes)) = some (some (.agg #[.string ⟨#[]⟩, .int .u32 0]), 2, 24) := by kernel_rfl
theorem infoResult : (Try.prog.info? 71).map (fun i => (i.zero, i.size, i.bytes)) = some (some (.agg #[.slice none 0 0]), 1, 24) := by kernel_rfl
theorem infoMsg : (Try.prog.info? 38).map (fun i => (i.zero, i.size, i.bytes)) = some (some (.agg #[.int .u8 0, .int .u8 0, .int .u8 0, .int .u32 0, .slice none 0 0, .slice none 0 0]), 6, 56) := by kernel_rfl
theorem own_empty (W : World) (e : TypeId) (size : Nat) : (W.alloc (.cells #[] e)).ownsRow W.heap.size e size (.slice (some ⟨W.heap.size, 0, none⟩) 0 0) 0 [] := by
  have := World.ownsRow_made (base := W.heap.size) (e := e) (size := size) W #[] 0 (Nat.le_refl _) (Nat.zero_le _) (by simp)
  exact this

set_option maxRecDepth 100000 in
/-- slices.Clone: the row's cells as they were read, in a row of its own. -/
theorem cloneOps_calls (w0 w : World) (hw : Below w0.heap.size w0 w) (A : Option Addr) (c : Nat) (l : List (S68)) (hC : k68.C w0 A l.length l) (hc : l.length ≤ c) (hb : l.length * 48 ≤ 140737488355328) :
    Calls Try.prog 87 #[.slice A l.length c] w fun e w' => ∃ v inner, e = .returned v ∧ w'.ownsRow w.heap.size 68 4 v l.length inner ∧ Reps (k68.K w0) 4 l inner ∧ Below w.heap.size w w' := by
  have HB := Aside0.mk hb
  have HC := Aside0.mk hC
  clear hC hb
  cases A with
  | none =>
    have h0 : l = [] := by
      rcases Nat.eq_zero_or_pos l.length with h | h
      · exact List.eq_nil_of_length_eq_zero h
      · obtain ⟨ad, h, _⟩ := HC.out.2.2 h
        cases h
    subst h0
    have hq := fun w => Lib.run_eql_slice_nil (P := Try.prog) (w := w) 35 68 none 0 c 0 0 Try.underlying35
    go_enter Try.func87, Try.ntmps87
    go_wp2
    go_ret
    exact ⟨_, [], rfl, own_nil w _ _ _, Reps.none _ _, Below.refl _ _⟩
  | some ad =>
    have hq := fun w => Lib.run_eql_slice_nil (P := Try.prog) (w := w) 35 68 (some ad) l.length c 0 0 Try.underlying35
    go_enter Try.func87, Try.ntmps87
    have hO := (show (Kd.fixed k68 w0).R 68 (w.alloc (.cells #[] 68)) w.heap.size (fun _ => True) (.slice (some ⟨w.heap.size, 0, none⟩) 0 0) [] from ⟨fun _ _ => trivial, [], own_empty w _ _, Reps.none _ _⟩)
    have HO := Aside0.mk hO
    have hw1 := below_step hw (below_alloc (Below.refl w.heap.size w) (.cells #[] 68))
    have HR := Aside0.mk (show ReadsRow (k68.K w0) 4 (w.alloc (.cells #[] 68)) (some ad) l.length l from ⟨rfl, HC.out.2.1, fun h => by
      obtain ⟨ad', e1, e2⟩ := HC.out.2.2 h
      refine ⟨ad', e1, fun j p hj => ?_⟩
      obtain ⟨cs, g1, g2, g3⟩ := e2 j p hj
      exact ⟨cs, g1, g2, fun i u hu => cell_later hw1 (g3 i u hu)⟩⟩)
    clear hO hw1
    go_wp2_with (first | (at_builtin; go_loud (refine Kd.R_append_rows (Kd.fixed k68 w0) (w0 := w) w.heap.size rfl _ _ 35 68 (.agg #[.int .u8 0, .string ⟨#[]⟩, .string ⟨#[]⟩, .int .u32 0]) 48 rfl Try.underlying35 infoOp rfl (show 0 < 4 from by decide) (by decide) (.slice (some ⟨w.heap.size, 0, none⟩) 0 0) [] l (some ad) l.length c (fun _ => True) (fun k => False) rfl rfl HO.out HR.out (fun x cs h => h) (fun k hk => hk.elim) (fun _ _ => trivial) (below_alloc (Below.refl w.heap.size w) _) (by simp) (by have := HB.out; simp; omega) ?_); intro v1 w1 ho hb hg hat; have HO1 := Aside0.mk ho; have HB1 := Aside0.mk hb; clear ho hb hg hat))
    go_ret
    obtain ⟨_, inner, h1, h2⟩ := HO1.out
    exact ⟨_, inner, rfl, h1, h2, HB1.out⟩

set_option maxRecDepth 100000 in
/-- slices.Clone: the row's cells as they were read, in a row of its own. -/
theorem cloneResults_calls (w0 w : World) (hw : Below w0.heap.size w0 w) (A : Option Addr) (c : Nat) (l : List (S71)) (hC : k71.C w0 A l.length l) (hc : l.length ≤ c) (hb : l.length * 24 ≤ 140737488355328) :
    Calls Try.prog 88 #[.slice A l.length c] w fun e w' => ∃ v inner, e = .returned v ∧ w'.ownsRow w.heap.size 71 1 v l.length inner ∧ Reps (k71.K w0) 1 l inner ∧ Below w.heap.size w w' := by
  have HB := Aside0.mk hb
  have HC := Aside0.mk hC
  clear hC hb
  cases A with
  | none =>
    have h0 : l = [] := by
      rcases Nat.eq_zero_or_pos l.length with h | h
      · exact List.eq_nil_of_length_eq_zero h
      · obtain ⟨ad, h, _⟩ := HC.out.2.2 h
        cases h
    subst h0
    have hq := fun w => Lib.run_eql_slice_nil (P := Try.prog) (w := w) 36 71 none 0 c 0 0 Try.underlying36
    go_enter Try.func88, Try.ntmps88
    go_wp2
    go_ret
    exact ⟨_, [], rfl, own_nil w _ _ _, Reps.none _ _, Below.refl _ _⟩
  | some ad =>
    have hq := fun w => Lib.run_eql_slice_nil (P := Try.prog) (w := w) 36 71 (some ad) l.length c 0 0 Try.underlying36
    go_enter Try.func88, Try.ntmps88
    have hO := (show (Kd.fixed k71 w0).R 71 (w.alloc (.cells #[] 71)) w.heap.size (fun _ => True) (.slice (some ⟨w.heap.size, 0, none⟩) 0 0) [] from ⟨fun _ _ => trivial, [], own_empty w _ _, Reps.none _ _⟩)
    have HO := Aside0.mk hO
    have hw1 := below_step hw (below_alloc (Below.refl w.heap.size w) (.cells #[] 71))
    have HR := Aside0.mk (show ReadsRow (k71.K w0) 1 (w.alloc (.cells #[] 71)) (some ad) l.length l from ⟨rfl, HC.out.2.1, fun h => by
      obtain ⟨ad', e1, e2⟩ := HC.out.2.2 h
      refine ⟨ad', e1, fun j p hj => ?_⟩
      obtain ⟨cs, g1, g2, g3⟩ := e2 j p hj
      exact ⟨cs, g1, g2, fun i u hu => cell_later hw1 (g3 i u hu)⟩⟩)
    clear hO hw1
    go_wp2_with (first | (at_builtin; go_loud (refine Kd.R_append_rows (Kd.fixed k71 w0) (w0 := w) w.heap.size rfl _ _ 36 71 (.agg #[.slice none 0 0]) 24 rfl Try.underlying36 infoResult rfl (show 0 < 1 from by decide) (by decide) (.slice (some ⟨w.heap.size, 0, none⟩) 0 0) [] l (some ad) l.length c (fun _ => True) (fun k => False) rfl rfl HO.out HR.out (fun x cs h => h) (fun k hk => hk.elim) (fun _ _ => trivial) (below_alloc (Below.refl w.heap.size w) _) (by simp) (by have := HB.out; simp; omega) ?_); intro v1 w1 ho hb hg hat; have HO1 := Aside0.mk ho; have HB1 := Aside0.mk hb; clear ho hb hg hat))
    go_ret
    obtain ⟨_, inner, h1, h2⟩ := HO1.out
    exact ⟨_, inner, rfl, h1, h2, HB1.out⟩

set_option maxRecDepth 100000 in
/-- slices.Clone: the row's cells as they were read, in a row of its own. -/
theorem cloneRows_calls (w0 w : World) (hw : Below w0.heap.size w0 w) (A : Option Addr) (c : Nat) (l : List (S73)) (hC : k73.C w0 A l.length l) (hc : l.length ≤ c) (hb : l.length * 24 ≤ 140737488355328) :
    Calls Try.prog 89 #[.slice A l.length c] w fun e w' => ∃ v inner, e = .returned v ∧ w'.ownsRow w.heap.size 73 2 v l.length inner ∧ Reps (k73.K w0) 2 l inner ∧ Below w.heap.size w w' := by
  have HB := Aside0.mk hb
  have HC := Aside0.mk hC
  clear hC hb
  cases A with
  | none =>
    have h0 : l = [] := by
      rcases Nat.eq_zero_or_pos l.length with h | h
      · exact List.eq_nil_of_length_eq_zero h
      · obtain ⟨ad, h, _⟩ := HC.out.2.2 h
        cases h
    subst h0
    have hq := fun w => Lib.run_eql_slice_nil (P := Try.prog) (w := w) 69 73 none 0 c 0 0 Try.underlying69
    go_enter Try.func89, Try.ntmps89
    go_wp2
    go_ret
    exact ⟨_, [], rfl, own_nil w _ _ _, Reps.none _ _, Below.refl _ _⟩
  | some ad =>
    have hq := fun w => Lib.run_eql_slice_nil (P := Try.prog) (w := w) 69 73 (some ad) l.length c 0 0 Try.underlying69
    go_enter Try.func89, Try.ntmps89
    have hO := (show (Kd.fixed k73 w0).R 73 (w.alloc (.cells #[] 73)) w.heap.size (fun _ => True) (.slice (some ⟨w.heap.size, 0, none⟩) 0 0) [] from ⟨fun _ _ => trivial, [], own_empty w _ _, Reps.none _ _⟩)
    have HO := Aside0.mk hO
    have hw1 := below_step hw (below_alloc (Below.refl w.heap.size w) (.cells #[] 73))
    have HR := Aside0.mk (show ReadsRow (k73.K w0) 2 (w.alloc (.cells #[] 73)) (some ad) l.length l from ⟨rfl, HC.out.2.1, fun h => by
      obtain ⟨ad', e1, e2⟩ := HC.out.2.2 h
      refine ⟨ad', e1, fun j p hj => ?_⟩
      obtain ⟨cs, g1, g2, g3⟩ := e2 j p hj
      exact ⟨cs, g1, g2, fun i u hu => cell_later hw1 (g3 i u hu)⟩⟩)
    clear hO hw1
    go_wp2_with (first | (at_builtin; go_loud (refine Kd.R_append_rows (Kd.fixed k73 w0) (w0 := w) w.heap.size rfl _ _ 69 73 (.agg #[.string ⟨#[]⟩, .int .u32 0]) 24 rfl Try.underlying69 infoRow rfl (show 0 < 2 from by decide) (by decide) (.slice (some ⟨w.heap.size, 0, none⟩) 0 0) [] l (some ad) l.length c (fun _ => True) (fun k => False) rfl rfl HO.out HR.out (fun x cs h => h) (fun k hk => hk.elim) (fun _ _ => trivial) (below_alloc (Below.refl w.heap.size w) _) (by simp) (by have := HB.out; simp; omega) ?_); intro v1 w1 ho hb hg hat; have HO1 := Aside0.mk ho; have HB1 := Aside0.mk hb; clear ho hb hg hat))
    go_ret
    obtain ⟨_, inner, h1, h2⟩ := HO1.out
    exact ⟨_, inner, rfl, h1, h2, HB1.out⟩

theorem alloc_size' (w : World) (o : Obj) : (w.alloc o).heap.size = w.heap.size + 1 := by show (w.heap.push o).size = _; simp
theorem els_fdRow {w w1 : World} {xs : List RowT'} {inner : List Value} (h : Reps (k73.K w) 2 xs inner) : Fd.Els fdRow w1 xs inner [] := els_flat (w := w) (hk := fun {w w1 x cs} h => by rw [k73_open h]; exact k73_mk w1 x) h
theorem els_fdOp {w w1 : World} {xs : List OpT'} {inner : List Value} (h : Reps (k68.K w) 4 xs inner) : Fd.Els fdOp w1 xs inner [] := els_flat (w := w) (hk := fun {w w1 x cs} h => by rw [k68_open h]; exact k68_mk w1 x) h
theorem own_setInner {W : World} {base g n cap : Nat} {e : TypeId} {inner : List Value} (h : W.ownsRow base e 1 (.slice (some ⟨g, 0, none⟩) n cap) n inner) (i : Nat) (u : Value) :
    (W.setCell ⟨g, i, none⟩ u).ownsRow base e 1 (.slice (some ⟨g, 0, none⟩) n cap) n (inner.set i u) := by
  have e1 : ∀ l : List Value, encs (fun v : Value => v) l = l := fun l => List.map_id' l
  rw [← e1 inner] at h
  have h2 := (own_store_of h (i : Int) u).1
  rw [e1, Int.toNat_natCast] at h2
  exact h2
theorem own_innerCell {W : World} {base g n cap : Nat} {e : TypeId} {inner : List Value} (h : W.ownsRow base e 1 (.slice (some ⟨g, 0, none⟩) n cap) n inner) (i : Nat) (hi : i < n) (u : Value) (hu : inner[i]? = some u) :
    W.cell? ⟨g, i, none⟩ = some u ∧ W.frozen? ⟨g, i, none⟩ = false := by
  obtain ⟨cur, hc⟩ := own_typed h g rfl
  refine ⟨?_, blk_frozen hc _⟩
  have := h.cells (g := g) rfl i u hu
  rwa [add_plain] at this
theorem blk6 {w : World} {g t : Nat} {a b c d x y : Value} (h : w.heap[g]? = some (.cells #[a, b, c, d, x, y] t (0, 0))) : (w.cell? ⟨g, 0, none⟩ = some a ∧ w.cell? ⟨g, 1, none⟩ = some b ∧ w.cell? ⟨g, 2, none⟩ = some c ∧ w.cell? ⟨g, 3, none⟩ = some d ∧ w.cell? ⟨g, 4, none⟩ = some x ∧ w.cell? ⟨g, 5, none⟩ = some y) ∧ (w.frozen? ⟨g, 0, none⟩ = false ∧ w.frozen? ⟨g, 1, none⟩ = false ∧ w.frozen? ⟨g, 2, none⟩ = false ∧ w.frozen? ⟨g, 3, none⟩ = false ∧ w.frozen? ⟨g, 4, none⟩ = false ∧ w.frozen? ⟨g, 5, none⟩ = false) :=
  ⟨⟨blk_cell h 0, blk_cell h 1, blk_cell h 2, blk_cell h 3, blk_cell h 4, blk_cell h 5⟩, ⟨blk_frozen h 0, blk_frozen h 1, blk_frozen h 2, blk_frozen h 3, blk_frozen h 4, blk_frozen h 5⟩⟩
/-- How long the lists of a message may be here. -/
def msgB (m : MsgT) : Prop := m.f4.length * 48 ≤ 140737488355328 ∧ m.f5.length * 24 ≤ 140737488355328 ∧ ∀ r ∈ m.f5, r.f0.length * 24 ≤ 140737488355328
def msgCells (m : MsgT) (v4 v5 : Value) : Array Value := #[.int .u8 m.f0, .int .u8 m.f1, .int .u8 m.f2, .int .u32 m.f3, v4, v5]

/-- Where the loop over the results stands: i of them have rows of their own. -/
structure LikeAt (w wr : World) (m : MsgT) (A4 : Option Addr) (c4 : Nat) (F4 : List Nat) (A5 : Option Addr) (c5 : Nat) (i : Nat) : Prop where
  below : Below w.heap.size w wr
  box : wr.heap[w.heap.size]? = some (.cells (msgCells m (.slice A4 m.f4.length c4) (.slice A5 m.f5.length c5)) 38 (0, 0))
  res : wr.heap[w.heap.size + 1]? = some (.cells #[.int .u8 0, .int .u8 0, .int .u8 0, .int .u32 0, .slice none 0 0, .slice none 0 0] 38 (0, 0))
  ops : Fd.Row fdOp 68 wr F4 (.slice A4 m.f4.length c4) m.f4
  rows : ∃ i0 i1 G, wr.ownsRow 0 71 1 (.slice A5 m.f5.length c5) m.f5.length (i0 ++ i1) ∧ Fd.Els fdResult wr (m.f5.take i) i0 G ∧ Reps (k71.K w) 1 (m.f5.drop i) i1 ∧ ((F4 ++ ((Value.slice A5 m.f5.length c5).ownBlock.toList ++ G)).Nodup) ∧ ∀ b ∈ F4 ++ ((Value.slice A5 m.f5.length c5).ownBlock.toList ++ G), w.heap.size + 2 ≤ b

/-- The result that comes next: its cell, as it was read. -/
theorem LikeAt.next {w wr : World} {m : MsgT} {A4 : Option Addr} {c4 : Nat} {F4 : List Nat} {B5 : Option Addr} {c5 i : Nat} (h : LikeAt w wr m A4 c4 F4 B5 c5 i) (hi : i < m.f5.length) :
    ∃ g5, B5 = some ⟨g5, 0, none⟩ ∧ ∃ A c, (m.f5[i]).f0.length ≤ c ∧ k73.C w A (m.f5[i]).f0.length (m.f5[i]).f0 ∧ wr.cell? ⟨g5, i, none⟩ = some (.slice A (m.f5[i]).f0.length c) ∧ wr.frozen? ⟨g5, i, none⟩ = false ∧
      wr.cell? ⟨w.heap.size, 5, none⟩ = some (.slice (some ⟨g5, 0, none⟩) m.f5.length c5) ∧ wr.frozen? ⟨w.heap.size, 5, none⟩ = false := by
  obtain ⟨i0, i1, G, h1, h2, h3, h4, h5⟩ := h.rows
  have hbx := h.box
  obtain ⟨g5, cap, hv, _, _⟩ := h1.form (by omega)
  injection hv with hv1 _ _
  subst hv1
  have hil : i0.length = i := by
    have := Fd.els_len h2
    have hk : fdResult.k.sz = 1 := rfl
    rw [hk, Nat.mul_one, List.length_take] at this
    omega
  have h6 := h3.2 0 (m.f5[i]) (by rw [List.getElem?_drop]; simp)
  rw [Nat.zero_mul, List.drop_zero] at h6
  obtain ⟨A, c, e, hl, hC⟩ := k71_open h6
  have hu : (i0 ++ i1)[i]? = some (.slice A (m.f5[i]).f0.length c) := by
    rw [List.getElem?_append_right (by omega), hil, Nat.sub_self]
    have := congrArg (fun l => l[0]?) e
    simpa [List.getElem?_take] using this
  have h7 := own_innerCell h1 i hi _ hu
  exact ⟨g5, rfl, A, c, hl, hC, h7.1, h7.2, blk_cell hbx 5, blk_frozen hbx _⟩
/-- What a store of rows of its own into result i leaves. -/
theorem LikeAt.step {w wr w1 : World} {m : MsgT} {A4 : Option Addr} {c4 : Nat} {F4 : List Nat} {g5 c5 i : Nat} (h : LikeAt w wr m A4 c4 F4 (some ⟨g5, 0, none⟩) c5 i) (hi : i < m.f5.length) (hb : Below wr.heap.size wr w1) {v : Value} {inner : List Value}
    (ho : w1.ownsRow wr.heap.size 73 2 v (m.f5[i]).f0.length inner) (hr : Reps (k73.K w) 2 (m.f5[i]).f0 inner) : LikeAt w (w1.setCell ⟨g5, i, none⟩ v) m A4 c4 F4 (some ⟨g5, 0, none⟩) c5 (i + 1) := by
  obtain ⟨i0, i1, G, h1, h2, h3, h4, h5⟩ := h.rows
  replace h4 : (F4 ++ g5 :: G).Nodup := h4
  replace h5 : ∀ b ∈ F4 ++ g5 :: G, w.heap.size + 2 ≤ b := h5
  have hg5 : w.heap.size + 2 ≤ g5 := h5 g5 (by simp)
  have hlt5 : g5 < wr.heap.size := own_lt h1 g5 rfl
  have hsz : w.heap.size ≤ wr.heap.size := h.below.size
  have hil : i0.length = i := by
    have := Fd.els_len h2
    have hk : fdResult.k.sz = 1 := rfl
    rw [hk, Nat.mul_one, List.length_take] at this
    omega
  have hl1 : i1.length = m.f5.length - i := by
    have := h3.1
    rw [List.length_drop, Nat.mul_one] at this
    exact this
  match i1, hl1 with
  | [], hl1 => simp at hl1; omega
  | u :: i1', hl1 =>
  have K0 : Keeps [g5] wr (w1.setCell ⟨g5, i, none⟩ v) := (Keeps.of_below hb [g5]).setCell (.inl (by simp)) v
  have own1 : w1.ownsRow 0 71 1 (.slice (some ⟨g5, 0, none⟩) m.f5.length c5) m.f5.length (i0 ++ u :: i1') := pw_own_below h1 hb
  have own2 := own_setInner own1 i v
  have es : (i0 ++ u :: i1').set i v = (i0 ++ [v]) ++ i1' := by
    rw [List.set_append_right _ _ (by omega), hil, Nat.sub_self, List.set_cons_zero, List.append_assoc, List.singleton_append]
  rw [es] at own2
  have hvlt : ∀ k, v.ownBlock = some k → wr.heap.size ≤ k ∧ k < w1.heap.size := ho.lt
  have hrow : Fd.Row fdRow 73 (w1.setCell ⟨g5, i, none⟩ v) v.ownBlock.toList v (m.f5[i]).f0 := by
    refine ⟨inner, [], ?_, els_fdRow hr, by simp⟩
    refine own_setCell (own_less ho (Nat.zero_le _)) ?_ v
    intro e
    have := hvlt g5 e.symm
    omega
  have hold : ∀ b ∈ F4 ++ G, b ∉ [g5] := by
    intro b hb hx
    simp at hx
    subst hx
    have := List.nodup_append.1 h4
    rcases List.mem_append.1 hb with hb | hb
    · exact this.2.2 b hb b (by simp) rfl
    · exact (List.nodup_cons.1 this.2.1).1 hb
  have e1 : m.f5.take (i + 1) = m.f5.take i ++ [m.f5[i]] := List.take_succ_eq_append_getElem hi
  refine ⟨(h.below.trans (hb.mono hsz)).setCell (by show w.heap.size ≤ g5; omega) v, K0.blk h.box (by simp; omega), K0.blk h.res (by simp; omega), Fd.row_keeps h.ops K0 (fun b hb => hold b (List.mem_append_left _ hb)), i0 ++ [v], i1', G ++ v.ownBlock.toList, own2, ?_, ?_, ?_, ?_⟩
  · rw [e1]
    refine Fd.els_append (Fd.els_move (fun b hb => K0.block b (Fd.els_lt h2 b hb) (hold b (List.mem_append_right _ hb))) h2) (Fd.els_one ⟨v, rfl, hrow⟩)
  · refine ⟨by rw [List.length_drop]; simp at hl1; omega, fun j p hj => ?_⟩
    have := h3.2 (j + 1) p (by rw [List.getElem?_drop] at hj ⊢; rw [← hj]; congr 1; omega)
    simpa [Nat.mul_one] using this
  · show (F4 ++ g5 :: (G ++ v.ownBlock.toList)).Nodup
    rw [show F4 ++ g5 :: (G ++ v.ownBlock.toList) = (F4 ++ g5 :: G) ++ v.ownBlock.toList by simp]
    refine List.nodup_append.2 ⟨h4, by cases v.ownBlock <;> simp, ?_⟩
    intro a ha b hb e
    have h6 := hvlt b (by simpa using hb)
    have h7 : a < wr.heap.size := by
      rcases List.mem_append.1 ha with ha | ha
      · exact Fd.row_lt h.ops a ha
      · rcases List.mem_cons.1 ha with ha | ha
        · omega
        · exact Fd.els_lt h2 a ha
    omega
  · intro b hb
    replace hb : b ∈ F4 ++ g5 :: (G ++ v.ownBlock.toList) := hb
    rw [show F4 ++ g5 :: (G ++ v.ownBlock.toList) = (F4 ++ g5 :: G) ++ v.ownBlock.toList by simp] at hb
    rcases List.mem_append.1 hb with hb | hb
    · exact h5 b hb
    · have h6 := hvlt b (by simpa using hb)
      have : w.heap.size + 1 < wr.heap.size := blk_lt h.res
      omega

set_option maxHeartbeats 3200000 in
set_option maxRecDepth 100000 in
/-- bags.like: a message in memory of its own. -/
theorem like_calls (w : World) (m : MsgT) (A4 : Option Addr) (c4 : Nat) (A5 : Option Addr) (c5 : Nat) (hc4 : m.f4.length ≤ c4) (h4 : k68.C w A4 m.f4.length m.f4) (hc5 : m.f5.length ≤ c5) (h5 : k71.C w A5 m.f5.length m.f5) (hB : msgB m) :
    Calls Try.prog 67 #[.agg (msgCells m (.slice A4 m.f4.length c4) (.slice A5 m.f5.length c5))] w fun e w' => ∃ cs F, e = .returned (.agg cs) ∧ fdMsg.M w' F m cs.toList ∧ F.Nodup ∧ (∀ b ∈ F, w.heap.size ≤ b) ∧ Below w.heap.size w w' := by
  have hu := Try.underlying38
  have H4 := Aside0.mk h4
  have H5 := Aside0.mk h5
  have HB := Aside0.mk hB
  have HC5 := Aside0.mk hc5
  clear h4 h5 hB hc5
  unfold msgCells
  go_enter Try.func67, Try.ntmps67
  go_wp2_with fail
  refine (cloneOps_calls w _ (below_alloc (below_alloc (Below.refl w.heap.size w) _) _) A4 c4 m.f4 H4.out hc4 (by have := HB.out.1; omega)).mono ?_
  rintro e w3 ⟨v4, inner4, rfl, ho4, hr4, hb3⟩
  have hW2 : (World.alloc (World.alloc w (.cells #[.int .u8 m.f0, .int .u8 m.f1, .int .u8 m.f2, .int .u32 m.f3, .slice A4 m.f4.length c4, .slice A5 m.f5.length c5] 38)) (.cells #[.int .u8 0, .int .u8 0, .int .u8 0, .int .u32 0, .slice none 0 0, .slice none 0 0] 38)).heap.size = w.heap.size + 2 := by
    show ((w.heap.push _).push _).size = _
    simp
  have bB := blk_below (blk_alloc (blk_new w (.cells #[.int .u8 m.f0, .int .u8 m.f1, .int .u8 m.f2, .int .u32 m.f3, .slice A4 m.f4.length c4, .slice A5 m.f5.length c5] 38)) (.cells #[.int .u8 0, .int .u8 0, .int .u8 0, .int .u32 0, .slice none 0 0, .slice none 0 0] 38)) hb3
  have bR := blk_below (blk_new (w.alloc (.cells #[.int .u8 m.f0, .int .u8 m.f1, .int .u8 m.f2, .int .u32 m.f3, .slice A4 m.f4.length c4, .slice A5 m.f5.length c5] 38)) (.cells #[.int .u8 0, .int .u8 0, .int .u8 0, .int .u32 0, .slice none 0 0, .slice none 0 0] 38)) hb3
  rw [alloc_size'] at bR
  have b3 := Aside0.mk (below_step (below_alloc (below_alloc (Below.refl w.heap.size w) _) _) hb3)
  rw [hW2] at ho4
  have r4 : Fd.Row fdOp 68 w3 v4.ownBlock.toList v4 m.f4 := ⟨inner4, [], own_less ho4 (Nat.zero_le _), els_fdOp hr4, by simp⟩
  have l4 : ∀ k, v4.ownBlock = some k → w.heap.size + 2 ≤ k := fun k hk => (ho4.lt k hk).1
  obtain ⟨B4, d4, rfl⟩ := own_slice ho4
  clear hW2 hb3 ho4 hr4 inner4
  obtain ⟨⟨_, _, _, _, q4, q5⟩, _, _, _, _, g4, _⟩ := blk6 bB
  have BB := Aside0.mk (blk_put bB 4 (.slice B4 m.f4.length d4) (cs' := msgCells m (.slice B4 m.f4.length d4) (.slice A5 m.f5.length c5)) rfl)
  have BR := Aside0.mk (blk_far bR (p := ⟨w.heap.size, 4, none⟩) (by simp) (.slice B4 m.f4.length d4))
  have R4 := Aside0.mk (Fd.row_keeps r4 ((Keeps.refl [w.heap.size] w3).setCell (p := ⟨w.heap.size, 4, none⟩) (.inl (by simp)) (.slice B4 m.f4.length d4)) (fun b hb hx => by
    have := l4 b (by simpa using hb)
    simp at hx
    omega))
  have L4 := Aside0.mk l4
  have B3 := Aside0.mk (b3.out.setCell (p := ⟨w.heap.size, 4, none⟩) (Nat.le_refl _) (.slice B4 m.f4.length d4))
  clear bB bR r4 l4 b3
  go_wp2_with fail
  clear q4 q5 g4
  refine (cloneResults_calls w _ B3.out A5 c5 m.f5 H5.out HC5.out (by have := HB.out.2.1; omega)).mono ?_
  rintro e w4 ⟨v5, inner5, rfl, ho5, hr5, hb4⟩
  have bB := blk_below BB.out hb4
  have s3 : w.heap.size + 1 < (w3.setCell ⟨w.heap.size, 4, none⟩ (.slice B4 m.f4.length d4)).heap.size := blk_lt BR.out
  have l5 : ∀ k, v5.ownBlock = some k → w.heap.size + 2 ≤ k := fun k hk => by have := (ho5.lt k hk).1; omega
  have n5 : ∀ k, v5.ownBlock = some k → ∀ b ∈ (Value.slice B4 m.f4.length d4).ownBlock.toList, b ≠ k := fun k hk b hb e => by
    have := (ho5.lt k hk).1
    have := Fd.row_lt R4.out b hb
    omega
  have ho5' := own_less ho5 (Nat.zero_le _)
  have start : ∀ B5 d5, v5 = .slice B5 m.f5.length d5 → LikeAt w (w4.setCell ⟨w.heap.size, 5, none⟩ v5) m B4 d4 (Value.slice B4 m.f4.length d4).ownBlock.toList B5 d5 0 := by
    rintro B5 d5 rfl
    have K5 : Keeps [w.heap.size] w4 (w4.setCell ⟨w.heap.size, 5, none⟩ (.slice B5 m.f5.length d5)) := (Keeps.refl [w.heap.size] w4).setCell (p := ⟨w.heap.size, 5, none⟩) (.inl (by simp)) _
    refine ⟨(below_step B3.out hb4).setCell (p := ⟨w.heap.size, 5, none⟩) (Nat.le_refl _) _, blk_put bB 5 _ rfl, blk_far (blk_below BR.out hb4) (p := ⟨w.heap.size, 5, none⟩) (by simp) _, Fd.row_keeps (Fd.row_below R4.out hb4) K5 (fun b hb hx => ?_), [], inner5, [], ?_, ⟨rfl, rfl⟩, hr5, ?_, ?_⟩
    · have := L4.out b (by simpa using hb)
      simp at hx
      omega
    · refine own_setCell ho5' (fun e => ?_) _
      have := l5 _ e.symm
      simp at this
      omega
    · rw [List.append_nil]
      refine List.nodup_append.2 ⟨by cases (Value.slice B4 m.f4.length d4).ownBlock <;> simp, by cases (Value.slice B5 m.f5.length d5).ownBlock <;> simp, fun a ha b hb e => ?_⟩
      exact n5 b (by simpa using hb) a ha e
    · intro b hb
      rcases List.mem_append.1 hb with hb | hb
      · exact L4.out b (by simpa using hb)
      · exact l5 b (by simpa using hb)
  obtain ⟨B5, d5, rfl⟩ := own_slice ho5
  have ST := Aside0.mk (start B5 d5 rfl)
  obtain ⟨⟨_, _, _, _, _, q5⟩, _, _, _, _, _, g5⟩ := blk6 bB
  clear start l5 n5 ho5 ho5' hr5 bB inner5 hb4 s3 B3 L4 R4 BB BR
  go_wp2
  go_loopw [16] (fun i wr => ∃ k : Nat, k ≤ m.f5.length ∧ i = .int .i64 k ∧ Aside0 (LikeAt w wr m B4 d4 (Value.slice B4 m.f4.length d4).ownBlock.toList B5 d5 k)) (fun i _ => m.f5.length - (intOf i).toNat)
  case atStart => exact ⟨0, Nat.zero_le _, rfl, ST⟩
  case round =>
    obtain ⟨k, hk, rfl, HL⟩ := hrel
    clear ST q5 g5
    have hn := HB.out.2.1
    by_cases hlt : k < m.f5.length
    · have hlt' : (k : Int) < (m.f5.length : Int) := by omega
      obtain ⟨g5, hg5, A', c', hl', hC', q, f, hbx, hfx⟩ := HL.out.next hlt
      subst hg5
      have HC' := Aside0.mk hC'
      have hr5 := HB.out.2.2 (m.f5[k]) (List.getElem_mem _)
      have e1 : IntKind.i64.wrap ((k : Int) + 1) = (k : Int) + 1 := IntWalk.i64_in _ (by omega)
      have hz0 : w.heap.size < wr.heap.size := blk_lt HL.out.box
      have hz5 : g5 < wr.heap.size := World.block_lt_of_cell? wr _ q
      clear hC' hn
      go_wp2_with fail
      go_region_with (first
        | (go_at_call 89
           refine (cloneRows_calls w _ (below_drew1 (below_alloc HL.out.below _)) A' c' (m.f5[k]).f0 HC'.out hl' (by omega)).mono ?_
           rintro e w5 ⟨v, inner, rfl, ho, hr, hb⟩
           have hb5 := Aside0.mk (below_step (below_drew1 (below_alloc (Below.refl wr.heap.size wr) (.cells #[.slice A' (m.f5[k]).f0.length c'] 71))) hb)
           have HO := Aside0.mk (own_less (b := wr.heap.size + 1) (base := wr.heap.size) (by rw [show wr.heap.size + 1 = (wr.alloc (.cells #[.slice A' (m.f5[k]).f0.length c'] 71)).drew.heap.size from (alloc_size' wr _).symm]; exact ho) (Nat.le_succ _))
           have HR := Aside0.mk hr
           have q1 := cell_later hb5.out q
           have f1 := (hb5.out.frozen (p := ⟨g5, k, none⟩) (World.block_lt_of_cell? wr _ q)).trans f
           have q2 := cell_later hb5.out hbx
           clear ho hr hb
           obtain ⟨Av, cv, rfl⟩ := own_slice HO.out))
      all_goals
        go_wp2
        go_roundw
        case rel => exact ⟨k + 1, by omega, by go_num, ⟨HL.out.step hlt hb5.out HO.out HR.out⟩⟩
        case measure => simp [intOf]; omega
    · obtain ⟨i0, i1, G, h1, h2, h3, h4, h5⟩ := HL.out.rows
      have hkn : k = m.f5.length := by omega
      have bx := HL.out.box
      unfold msgCells at bx
      obtain ⟨⟨q0, q1, q2, q3, q4, q5⟩, _⟩ := blk6 bx
      have br := HL.out.res
      obtain ⟨⟨z0, z1, z2, z3, z4, z5⟩, p0, p1, p2, p3, p4, p5⟩ := blk6 br
      have fin : ∀ W, Keeps [w.heap.size + 1] wr W → fdMsg.M W ((Value.slice B4 m.f4.length d4).ownBlock.toList ++ ((Value.slice B5 m.f5.length d5).ownBlock.toList ++ G)) m (msgCells m (.slice B4 m.f4.length d4) (.slice B5 m.f5.length d5)).toList ∧ Below w.heap.size w W := by
        intro W hK
        have hfar : ∀ b ∈ (Value.slice B4 m.f4.length d4).ownBlock.toList ++ ((Value.slice B5 m.f5.length d5).ownBlock.toList ++ G), b ∉ [w.heap.size + 1] := fun b hb hx => by
          have := h5 b hb
          simp at hx
          omega
        refine ⟨⟨_, _, _, _, rfl, rfl, Fd.row_keeps HL.out.ops hK (fun b hb => hfar b (List.mem_append_left _ hb)), ?_⟩, HL.out.below.trans (hK.below (fun x hx => by simp at hx; omega) (by have := HL.out.below.size; omega))⟩
        rw [hkn, List.take_length] at h2
        rw [hkn, List.drop_length] at h3
        have h6 : i1 = [] := List.eq_nil_of_length_eq_zero (by simpa using h3.1)
        subst h6
        rw [List.append_nil] at h1
        exact Fd.row_keeps ⟨i0, G, h1, h2, rfl⟩ hK (fun b hb => hfar b (List.mem_append_right _ hb))
      have FIN := Aside0.mk fin
      have H45 := Aside0.mk (And.intro h4 h5)
      have BR := Aside0.mk br
      clear fin h1 h2 h3 h4 h5 bx br
      have hn' : ¬ ((k : Int) < (m.f5.length : Int)) := by omega
      clear hkn
      go_wp2
      try simp only [Exit.inBlock, Exit.then]
      refine bodyPost_ret (results_cell_row rfl _ _ (w.heap.size + 1) 38 (msgCells m (.slice B4 m.f4.length d4) (.slice B5 m.f5.length d5)) (0, 0) _ rfl (blk_put (cs := #[.int .u8 m.f0, .int .u8 m.f1, .int .u8 m.f2, .int .u32 m.f3, .slice B4 m.f4.length d4, .slice none 0 0]) (blk_put (cs := #[.int .u8 m.f0, .int .u8 m.f1, .int .u8 m.f2, .int .u32 m.f3, .slice none 0 0, .slice none 0 0]) (blk_put (cs := #[.int .u8 m.f0, .int .u8 m.f1, .int .u8 m.f2, .int .u32 0, .slice none 0 0, .slice none 0 0]) (blk_put (cs := #[.int .u8 m.f0, .int .u8 m.f1, .int .u8 0, .int .u32 0, .slice none 0 0, .slice none 0 0]) (blk_put (cs := #[.int .u8 m.f0, .int .u8 0, .int .u8 0, .int .u32 0, .slice none 0 0, .slice none 0 0]) (blk_put BR.out 0 _ rfl) 1 _ rfl) 2 _ rfl) 3 _ rfl) 4 _ rfl) 5 _ rfl) hu rfl (by kernel_rfl)) rfl ?_
      have hf := FIN.out _ ((((((((Keeps.refl [w.heap.size + 1] wr).setCell (p := ⟨w.heap.size + 1, 0, none⟩) (.inl (by simp)) (.int .u8 m.f0)).setCell (p := ⟨w.heap.size + 1, 1, none⟩) (.inl (by simp)) (.int .u8 m.f1)).setCell (p := ⟨w.heap.size + 1, 2, none⟩) (.inl (by simp)) (.int .u8 m.f2)).setCell (p := ⟨w.heap.size + 1, 3, none⟩) (.inl (by simp)) (.int .u32 m.f3)).setCell (p := ⟨w.heap.size + 1, 4, none⟩) (.inl (by simp)) (.slice B4 m.f4.length d4)).setCell (p := ⟨w.heap.size + 1, 5, none⟩) (.inl (by simp)) (.slice B5 m.f5.length d5)))
      exact ⟨_, rfl, _, hf.1, H45.out.1, fun b hb => by have := H45.out.2 b hb; omega, hf.2⟩

end Go.Proofs.Ytcohodkpppmaoaa.Q
