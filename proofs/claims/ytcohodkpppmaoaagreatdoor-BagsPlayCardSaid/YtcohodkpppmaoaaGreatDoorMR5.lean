/-
  Values that own blocks, and which ones: a row's block and its elements' blocks in a list; what stands outside a list of blocks stays.
  Lists that are kept: what they own before they are written over, then marked, then grown; an append that tells more: a new block leaves all old ones as they were.
  An append that tells which block alone it may turn: the row's own.
  The book's lists of kind Row: one more is kept.
  The book's lists of kind Op: one more is kept.
  The book's lists of kind Result: one more is kept.
  The book's lists of kind Msg: one more is kept.
  The book's kept lists, the six kinds side by side: none has anything of another one's.
  DERIVED: THE SHELF's CONTRACTS AT THIS DUMP, IN PLAIN WORDS (tools/lay-plain.mjs out of 'YtcohodkpppmaoaaGreatDoorShelf.lean', which tools/lay-shelf.mjs wrote): THE SAME DECLARATIONS UNDER THE SAME NAMES: 'import', 'namespace', 'open', 'def', 'theorem' AND NOTHING ELSE: no command of the shelf's: FOR A HAND-IN. Each laying: the table of numbers ('.._ren') and one theorem, a field a fact of the dump's own or the kernel's comparison; each contract: ONE APPLICATION.
  Contracts of layer 1 (keys.Check$1, keys.all, keys.Check, keys.Reserved): what they answer, for every text; nothing that was there changes.
  strconv.FormatUint at base 10, and keys.Marker: the marker of any number; the library's table of powers of ten is laid.
  concordatlaw01.word: a mark as a text.
-/
import Derived.Test.YtcohodkpppmaoaaGreatDoorMR3
import Derived.WalkSpells
import Derived.BigRegion
import Derived.Deep.RegionLaw
import Derived.Shelf.Strings.Builder1
import Derived.Shelf.Strings.Builder2
import Derived.Shelf.Strings.OnBuilder
import Derived.Shelf.Strconv.Itoa0
import Derived.Shelf.Strconv.Itoa1
import Derived.Shelf.LaysM
import Derived.Shelf.Strconv.Itoa2
import Derived.Shelf.Strconv.Itoa3
import Derived.Test.YtcohodkpppmaoaaGreatDoorProg
import Derived.WalkKit
import Derived.KernelRfl
import Derived.Lib.Hide
import Derived.Lib.ItoaMem
import Derived.Lib.ItoaLen
import Derived.Below
set_option linter.unusedSimpArgs false
set_option linter.unusedVariables false
namespace Go.Proofs.YtcohodkpppmaoaaGreatDoor.Q
open Go.RowKit Go.Proofs.YtcohodkpppmaoaaGreatDoorW.PrintWords Go.Proofs.YtcohodkpppmaoaaGreatDoorW.PrintLast Go.Proofs.YtcohodkpppmaoaaGreatDoorW.PrintMore
set_option linter.unusedVariables false

/-- Outside the blocks F the world w' is as w was. -/
structure Keeps (F : List Nat) (w w' : World) : Prop where
  os : w'.os = w.os
  tape : w'.tape = w.tape
  output : w'.output = w.output
  size : w.heap.size ≤ w'.heap.size
  block : ∀ k, k < w.heap.size → k ∉ F → w'.heap[k]? = w.heap[k]?

namespace Keeps
variable {F G : List Nat} {a b c : World} {B : Nat}
theorem refl (F : List Nat) (w : World) : Keeps F w w := ⟨rfl, rfl, rfl, Nat.le_refl _, fun _ _ _ => rfl⟩
theorem of_below (h : Below a.heap.size a b) (F : List Nat) : Keeps F a b := ⟨h.os, h.tape, h.output, h.size, fun k hk _ => h.block k hk⟩
theorem of_grown {row : Option Nat} (h : a.grownBy b row) (hr : ∀ k, row = some k → k ∈ F) : Keeps F a b :=
  ⟨h.os, h.tape, h.output, h.size, fun k hk hF => h.block k hk (fun e => hF (hr k e.symm))⟩
theorem trans (h : Keeps F a b) (k : Keeps G b c) (hG : ∀ x ∈ G, x ∈ F ∨ a.heap.size ≤ x) : Keeps F a c :=
  ⟨k.os.trans h.os, k.tape.trans h.tape, k.output.trans h.output, Nat.le_trans h.size k.size, fun i hi hF => (k.block i (Nat.lt_of_lt_of_le hi h.size) (fun hx => by
    rcases hG i hx with h1 | h1
    · exact hF h1
    · omega)).trans (h.block i hi hF)⟩
theorem mono (h : Keeps F a b) (hF : ∀ x ∈ F, x ∈ G ∨ a.heap.size ≤ x) : Keeps G a b :=
  ⟨h.os, h.tape, h.output, h.size, fun k hk hG => h.block k hk (fun hx => by
    rcases hF k hx with h1 | h1
    · exact hG h1
    · omega)⟩
theorem below (h : Keeps F a b) (hF : ∀ x ∈ F, B ≤ x) (hB : B ≤ a.heap.size) : Below B a b :=
  ⟨h.os, h.tape, h.output, h.size, fun k hk => h.block k (by omega) (fun hx => by have := hF k hx; omega)⟩
theorem setCell (h : Keeps F a b) {p : Addr} (hp : p.block ∈ F ∨ a.heap.size ≤ p.block) (u : Value) : Keeps F a (b.setCell p u) :=
  ⟨h.os, h.tape, h.output, by simpa [World.setCell] using h.size, fun k hk hF => (Below.heap_setCell b p u k (fun e => by
    rcases hp with h1 | h1
    · exact hF (e ▸ h1)
    · omega)).trans (h.block k hk hF)⟩
theorem alloc (h : Keeps F a b) (o : Obj) : Keeps F a (b.alloc o) := h.trans (G := []) (of_below (Below.alloc (Below.refl _ _) (Nat.le_refl _) o) []) (fun _ hx => by cases hx)
theorem drew (h : Keeps F a b) : Keeps F a b.drew := ⟨h.os, h.tape, h.output, h.size, h.block⟩
theorem drewN (h : Keeps F a b) (n : Nat) : Keeps F a (b.drewN n) := h.trans (G := []) (of_below (pw_below_drewN (Below.refl _ _) n) []) (fun _ hx => by cases hx)
/-- A block that is not among them stays. -/
theorem blk (h : Keeps F a b) {g : Nat} {o : Obj} (hb : a.heap[g]? = some o) (hg : g ∉ F) : b.heap[g]? = some o := (h.block g (blk_lt hb) hg).trans hb
end Keeps

/-- A kind whose values own blocks: M w F x cs: the cells cs are x in w, and the blocks F are x's. -/
structure Fd (α : Type) where
  k : Kd α
  M : World → List Nat → α → List Value → Prop
  read : ∀ {w F x cs}, M w F x cs → k.K w x cs
  move : ∀ {w w1 F x cs}, (∀ b ∈ F, w1.heap[b]? = w.heap[b]?) → M w F x cs → M w1 F x cs
  lt : ∀ {w F x cs}, M w F x cs → ∀ b ∈ F, b < w.heap.size

namespace Fd
theorem keeps {α : Type} {d : Fd α} {F G : List Nat} {w w1 : World} {x : α} {cs : List Value} (h : d.M w F x cs) (hk : Keeps G w w1) (hd : ∀ b ∈ F, b ∉ G) : d.M w1 F x cs :=
  d.move (fun b hb => hk.block b (d.lt h b hb) (hd b hb)) h
def scalar {α : Type} (enc : α → Value) (h1 : ∀ x, (enc x).oneCell' = true) : Fd α where
  k := Kd.scalar enc h1
  M := fun _ F x cs => F = [] ∧ cs = [enc x]
  read := fun h => h.2
  move := fun _ h => h
  lt := fun h b hb => by rw [h.1] at hb; cases hb
/-- What owns nothing, as it is read: for kinds without slices. -/
def flat {α : Type} (k : Kd α) (hk : ∀ {w w1 : World} {x cs}, k.K w x cs → k.K w1 x cs) : Fd α where
  k := k
  M := fun w F x cs => F = [] ∧ k.K w x cs
  read := fun h => h.2
  move := fun _ h => ⟨h.1, hk h.2⟩
  lt := fun h b hb => by rw [h.1] at hb; cases hb

section
variable {α : Type} {d : Fd α} {w w1 W : World} {F F0 F1 G : List Nat} {x p : α} {xs ys : List α} {cs ds c : List Value} {e : Nat} {v v1 : Value}
/-- Elements one behind the other, and their blocks. -/
def Els (d : Fd α) (w : World) : List α → List Value → List Nat → Prop
  | [], cs, F => cs = [] ∧ F = []
  | x :: xs, cs, F => ∃ c r F0 F1, cs = c ++ r ∧ F = F0 ++ F1 ∧ d.M w F0 x c ∧ Els d w xs r F1

theorem els_one (h : d.M w F x c) : Els d w [x] c F := ⟨c, [], F, [], by simp, by simp, h, rfl, rfl⟩
theorem els_append : ∀ {xs : List α} {cs : List Value} {F : List Nat}, Els d w xs cs F → Els d w ys ds G → Els d w (xs ++ ys) (cs ++ ds) (F ++ G)
  | [], _, _, h, k => by
    obtain ⟨rfl, rfl⟩ := h
    exact k
  | x :: xs, _, _, h, k => by
    obtain ⟨c, r, F0, F1, rfl, rfl, h1, h2⟩ := h
    exact ⟨c, r ++ ds, F0, F1 ++ G, by rw [List.append_assoc], by rw [List.append_assoc], h1, els_append h2 k⟩
theorem els_split : ∀ {xs : List α} {cs : List Value} {F : List Nat}, Els d w (xs ++ ys) cs F → ∃ c0 c1 F0 F1, cs = c0 ++ c1 ∧ F = F0 ++ F1 ∧ Els d w xs c0 F0 ∧ Els d w ys c1 F1
  | [], cs, F, h => ⟨[], cs, [], F, rfl, rfl, ⟨rfl, rfl⟩, h⟩
  | x :: xs, _, _, h => by
    obtain ⟨c, r, F0, F1, rfl, rfl, h1, h2⟩ := h
    obtain ⟨c0, c1, G0, G1, rfl, rfl, h3, h4⟩ := els_split h2
    exact ⟨c ++ c0, c1, F0 ++ G0, G1, by rw [List.append_assoc], by rw [List.append_assoc], ⟨c, c0, F0, G0, rfl, rfl, h1, h3⟩, h4⟩
theorem els_move : ∀ {xs : List α} {cs : List Value} {F : List Nat}, (∀ b ∈ F, w1.heap[b]? = w.heap[b]?) → Els d w xs cs F → Els d w1 xs cs F
  | [], _, _, _, h => h
  | x :: xs, _, _, hm, h => by
    obtain ⟨c, r, F0, F1, rfl, rfl, h1, h2⟩ := h
    exact ⟨c, r, F0, F1, rfl, rfl, d.move (fun b hb => hm b (List.mem_append_left _ hb)) h1, els_move (fun b hb => hm b (List.mem_append_right _ hb)) h2⟩
theorem els_lt : ∀ {xs : List α} {cs : List Value} {F : List Nat}, Els d w xs cs F → ∀ b ∈ F, b < w.heap.size
  | [], _, _, h, b, hb => by
    rw [h.2] at hb
    cases hb
  | x :: xs, _, _, h, b, hb => by
    obtain ⟨c, r, F0, F1, rfl, rfl, h1, h2⟩ := h
    rcases List.mem_append.1 hb with hb | hb
    · exact d.lt h1 b hb
    · exact els_lt h2 b hb
theorem els_len : ∀ {xs : List α} {cs : List Value} {F : List Nat}, Els d w xs cs F → cs.length = xs.length * d.k.sz
  | [], _, _, h => by
    rw [h.1]
    simp
  | x :: xs, _, _, h => by
    obtain ⟨c, r, F0, F1, rfl, rfl, h1, h2⟩ := h
    rw [List.length_append, d.k.K_len (d.read h1), els_len h2, List.length_cons, Nat.succ_mul, Nat.add_comm]
theorem els_one_cell : ∀ {xs : List α} {cs : List Value} {F : List Nat}, Els d w xs cs F → ∀ u ∈ cs, u.oneCell' = true
  | [], _, _, h, u, hu => by
    rw [h.1] at hu
    cases hu
  | x :: xs, _, _, h, u, hu => by
    obtain ⟨c, r, F0, F1, rfl, rfl, h1, h2⟩ := h
    rcases List.mem_append.1 hu with hu | hu
    · exact d.k.K_one (d.read h1) u hu
    · exact els_one_cell h2 u hu
theorem els_reps : ∀ {xs : List α} {cs : List Value} {F : List Nat}, Els d w xs cs F → Reps (d.k.K w) d.k.sz xs cs
  | [], _, _, h => by
    rw [h.1]
    exact Reps.none _ _
  | x :: xs, cs, F, h => by
    have hl := els_len h
    obtain ⟨c, r, F0, F1, rfl, rfl, h1, h2⟩ := h
    have hc := d.k.K_len (d.read h1)
    refine ⟨hl, fun j p hj => ?_⟩
    cases j with
    | zero =>
      simp at hj
      subst hj
      rw [Nat.zero_mul, List.drop_zero, List.take_left' hc]
      exact d.read h1
    | succ j =>
      have := (els_reps h2).2 j p (by simpa using hj)
      rwa [show (j + 1) * d.k.sz = c.length + j * d.k.sz by rw [hc, Nat.succ_mul, Nat.add_comm], List.drop_append, List.drop_of_length_le (by omega), List.nil_append, Nat.add_sub_cancel_left]
/-- Element i, and what lies ahead of it and behind it. -/
theorem els_at {i : Nat} (hi : i < xs.length) (h : Els d w xs cs F) : ∃ c0 c c1 F0 F' F1, cs = c0 ++ (c ++ c1) ∧ c0.length = i * d.k.sz ∧ F = F0 ++ (F' ++ F1) ∧ Els d w (xs.take i) c0 F0 ∧ d.M w F' (xs[i]) c ∧ Els d w (xs.drop (i + 1)) c1 F1 := by
  have e : xs = xs.take i ++ (xs[i] :: xs.drop (i + 1)) := by rw [← List.drop_eq_getElem_cons hi, List.take_append_drop]
  rw [e] at h
  obtain ⟨c0, c1, F0, F1, rfl, rfl, h1, h2⟩ := els_split h
  obtain ⟨c, r, G0, G1, rfl, rfl, h3, h4⟩ := h2
  refine ⟨c0, c, r, F0, G0, G1, rfl, ?_, rfl, h1, h3, h4⟩
  rw [els_len h1, List.length_take, Nat.min_eq_left (by omega)]

/-- A row of one's own: its block (none if it is nil), and those of its elements. -/
def Row (d : Fd α) (e : Nat) (w : World) (F : List Nat) (v : Value) (xs : List α) : Prop :=
  ∃ inner G, w.ownsRow 0 e d.k.sz v xs.length inner ∧ Els d w xs inner G ∧ F = v.ownBlock.toList ++ G
theorem row_nil (d : Fd α) (e : Nat) (w : World) : Row d e w [] (.slice none 0 0) [] := ⟨[], [], own_nil w 0 e _, ⟨rfl, rfl⟩, rfl⟩
theorem row_lt (h : Row d e w F v xs) : ∀ b ∈ F, b < w.heap.size := by
  obtain ⟨inner, G, ho, he, rfl⟩ := h
  intro b hb
  rcases List.mem_append.1 hb with hb | hb
  · exact own_lt ho b (by simpa using hb)
  · exact els_lt he b hb
theorem row_move (hm : ∀ b ∈ F, w1.heap[b]? = w.heap[b]?) (h : Row d e w F v xs) : Row d e w1 F v xs := by
  obtain ⟨inner, G, ho, he, rfl⟩ := h
  exact ⟨inner, G, own_move ho (fun k hk => hm k (by rw [hk]; simp)), els_move (fun b hb => hm b (List.mem_append_right _ hb)) he, rfl⟩
theorem row_keeps (h : Row d e w F v xs) (hk : Keeps G w w1) (hd : ∀ b ∈ F, b ∉ G) : Row d e w1 F v xs :=
  row_move (fun b hb => hk.block b (row_lt h b hb) (hd b hb)) h
theorem row_below (h : Row d e w F v xs) (hb : Below w.heap.size w w1) : Row d e w1 F v xs := row_keeps h (Keeps.of_below hb []) (fun _ _ hx => by cases hx)
theorem row_reads (h : Row d e w F v xs) : ∃ A c, v = .slice A xs.length c ∧ xs.length ≤ c ∧ d.k.C w A xs.length xs := by
  obtain ⟨inner, G, ho, he, rfl⟩ := h
  exact OwnRow.reads (R := d.k.K w) ⟨inner, ho, els_reps he⟩
end

def slice {α : Type} (e : Nat) (d : Fd α) : Fd (List α) where
  k := Kd.slice e d.k
  M := fun w F xs cs => ∃ v, cs = [v] ∧ Row d e w F v xs
  read := by
    rintro w F xs cs ⟨v, rfl, h⟩
    obtain ⟨A, c, rfl, hl, hC⟩ := row_reads h
    exact ⟨A, c, rfl, hl, hC⟩
  move := by
    rintro w w1 F xs cs hm ⟨v, rfl, h⟩
    exact ⟨v, rfl, row_move hm h⟩
  lt := by
    rintro w F xs cs ⟨v, rfl, h⟩
    exact row_lt h

section
variable {α : Type} {d : Fd α} {w W w1 : World} {F G : List Nat} {p : α} {xs : List α} {cs inner : List Value} {e : Nat} {v v1 : Value}
/-- What an append of one element leaves. -/
theorem row_appended (ho : W.ownsRow 0 e d.k.sz v xs.length inner) (he : Els d W xs inner G) (hp : d.M W F p cs) (hd : ∀ b ∈ G ++ F, some b ≠ v.ownBlock)
    (ho1 : w1.ownsRow 0 e d.k.sz v1 (xs.length + 1) (inner ++ cs)) (hg : W.grownBy w1 v.ownBlock) : Row d e w1 (v1.ownBlock.toList ++ (G ++ F)) v1 (xs ++ [p]) := by
  have hm : ∀ b ∈ G ++ F, w1.heap[b]? = W.heap[b]? := by
    intro b hb
    have hlt : b < W.heap.size := by
      rcases List.mem_append.1 hb with hb | hb
      · exact els_lt he b hb
      · exact d.lt hp b hb
    exact hg.block b hlt (hd b hb)
  refine ⟨inner ++ cs, G ++ F, ?_, els_append (els_move (fun b hb => hm b (List.mem_append_left _ hb)) he) (els_one (d.move (fun b hb => hm b (List.mem_append_right _ hb)) hp)), rfl⟩
  rw [List.length_append]
  exact ho1
end
section
variable {P : Program} {ops : Array Oper} {rest : List Oper} {o : Oper} {a : Act} {Q : Exit → Act → World → Prop} {α : Type}
/-- What follows of an append of one element: the new row and its blocks. -/
theorem row_after {α : Type} {d : Fd α} {W w1 : World} {e : Nat} {v v1 : Value} {xs : List α} {p : α} {cs inner : List Value} {G0 G : List Nat} (hp : d.M W G p cs) (hown : W.ownsRow 0 e d.k.sz v xs.length inner) (he : Els d W xs inner G0) (hnd : ((v.ownBlock.toList ++ G0) ++ G).Nodup)
    (hown1 : w1.ownsRow 0 e d.k.sz v1 (xs.length + 1) (inner ++ cs)) (hg1 : W.grownBy w1 v.ownBlock) (hat1 : v1.ownBlock = v.ownBlock ∨ ∃ b, v1.ownBlock = some b ∧ W.heap.size ≤ b) :
    ∃ F1, Row d e w1 F1 v1 (xs ++ [p]) ∧ F1.Nodup ∧ Keeps (v.ownBlock.toList ++ G0) W w1 ∧ ∀ b ∈ F1, b ∈ v.ownBlock.toList ++ G0 ∨ b ∈ G ∨ W.heap.size ≤ b := by
  have hd : ∀ b ∈ G0 ++ G, some b ≠ v.ownBlock := by
    intro b hb e1
    rw [← e1, List.append_assoc] at hnd
    exact (List.nodup_append.1 hnd).2.2 b (by simp) b hb rfl
  refine ⟨_, row_appended hown he hp hd hown1 hg1, ?_, Keeps.of_grown hg1 (fun k hk => by rw [hk]; simp), ?_⟩
  · rw [List.append_assoc] at hnd
    obtain ⟨_, h2, h3⟩ := List.nodup_append.1 hnd
    rcases hat1 with hat | ⟨b, hat, hb⟩
    · rw [hat]; exact hnd
    · rw [hat]
      refine List.nodup_append.2 ⟨by simp, h2, ?_⟩
      intro x hx y hy exy
      have hxb : x = b := by simpa using hx
      have : y < W.heap.size := by
        rcases List.mem_append.1 hy with hy | hy
        · exact els_lt he y hy
        · exact d.lt hp y hy
      omega
  · intro b hb
    rcases List.mem_append.1 hb with hb | hb
    · rcases hat1 with hat | ⟨b', hat, hb'⟩
      · rw [hat] at hb; exact .inl (List.mem_append_left _ hb)
      · rw [hat] at hb; simp at hb; subst hb; exact .inr (.inr hb')
    · rcases List.mem_append.1 hb with hb | hb
      · exact .inl (List.mem_append_right _ hb)
      · exact .inr (.inl hb)
/-- append(v, x) behind 'at_builtin'; the goal's world is 'W.alloc' of the variadic's box; x's cells are cs, its blocks G. -/
theorem R_append (d : Fd α) {W : World} (hgd : o.guard = none) (s x : Operand) (t e : TypeId) (z : Value) (bytes : Nat)
    (ho : o.op = .call { callee := .builtin .append, args := #[s, x], argTypes := #[t, t] })
    (ht : P.underlying t = some (.slice e)) (hinfo : (P.info? e).map (fun i => (i.zero, i.size, i.bytes)) = some (some z, d.k.sz, bytes)) (hz : z.cells.size = d.k.sz) (hs0 : 0 < d.k.sz) (hb0 : 0 < bytes)
    (v : Value) (xs : List α) (p : α) (cs : List Value) (F G : List Nat) (hs : a.eval s = v) (hx : a.eval x = .slice (some ⟨W.heap.size, 0, none⟩) 1 1) (hp : d.M W G p cs)
    (HO : Row d e W F v xs) (hnd : (F ++ G).Nodup) (hl : (xs.length + 1) * bytes ≤ 140737488355328)
    (h : ∀ v1 w1 F1, Row d e w1 F1 v1 (xs ++ [p]) → F1.Nodup → Keeps F W w1 → (∀ b ∈ F1, b ∈ F ∨ b ∈ G ∨ W.heap.size ≤ b) → wpList P ops Q rest (a.put o.dst v1) w1) :
    wpList P ops Q (o :: rest) a (W.alloc (.cells cs.toArray e)) := by
  obtain ⟨inner, G0, hown, he, rfl⟩ := HO
  refine print_append_cells (w0 := W) 0 hgd s x t e z d.k.sz bytes ho ht hinfo hz hs0 hb0 v xs.length inner cs hs hx (d.k.K_len (d.read hp)) (d.k.K_one (d.read hp)) hown (Below.refl _ _) (Nat.zero_le _) hl ?_
  intro v1 w1 hown1 _ hg1 hat1
  obtain ⟨F1, h1, h2, h3, h4⟩ := row_after hp hown he hnd hown1 hg1 hat1
  exact h v1 w1 F1 h1 h2 h3 h4
end
section
variable {P : Program} {ops : Array Oper} {o : Oper} {a : Act} {Q : Exit → Act → World → Prop} {K : Act → World → Prop} {α : Type}
/-- The same as a step of a region that draws its order (for go_region_law). -/
theorem R_append_step (d : Fd α) {W : World} (hgd : o.guard = none) (s x : Operand) (t e : TypeId) (z : Value) (bytes : Nat)
    (ho : o.op = .call { callee := .builtin .append, args := #[s, x], argTypes := #[t, t] })
    (ht : P.underlying t = some (.slice e)) (hinfo : (P.info? e).map (fun i => (i.zero, i.size, i.bytes)) = some (some z, d.k.sz, bytes)) (hz : z.cells.size = d.k.sz) (hs0 : 0 < d.k.sz) (hb0 : 0 < bytes)
    (v : Value) (xs : List α) (p : α) (cs : List Value) (F G : List Nat) (hs : a.eval s = v) (hx : a.eval x = .slice (some ⟨W.heap.size, 0, none⟩) 1 1) (hp : d.M W G p cs)
    (HO : Row d e W F v xs) (hnd : (F ++ G).Nodup) (hl : (xs.length + 1) * bytes ≤ 140737488355328)
    (h : ∀ v1 w1 F1, Row d e w1 F1 v1 (xs ++ [p]) → F1.Nodup → Keeps F W w1 → (∀ b ∈ F1, b ∈ F ∨ b ∈ G ∨ W.heap.size ≤ b) → K (a.put o.dst v1) w1) :
    if Region.wanted o (yielded ops a.tmps) = true then Oper.wp P o a (W.alloc (.cells cs.toArray e)) K Q else K (a.put o.dst undef) (W.alloc (.cells cs.toArray e)) := by
  obtain ⟨inner, G0, hown, he, rfl⟩ := HO
  refine step_append_cells (w0 := W) 0 (by simp [Region.wanted, hgd]) s x t e z d.k.sz bytes ho ht hinfo hz hs0 hb0 v xs.length inner cs hs hx (d.k.K_len (d.read hp)) (d.k.K_one (d.read hp)) hown (Below.refl _ _) (Nat.zero_le _) hl ?_
  intro v1 w1 hown1 _ hg1 hat1
  obtain ⟨F1, h1, h2, h3, h4⟩ := row_after hp hown he hnd hown1 hg1 hat1
  exact h v1 w1 F1 h1 h2 h3 h4
end
end Fd
end Go.Proofs.YtcohodkpppmaoaaGreatDoor.Q
namespace Go.Proofs.YtcohodkpppmaoaaGreatDoor.Q
open Go.RowKit Go.Proofs.YtcohodkpppmaoaaGreatDoorW.PrintWords Go.Proofs.YtcohodkpppmaoaaGreatDoorW.PrintLast Go.Proofs.YtcohodkpppmaoaaGreatDoorW.PrintMore
set_option linter.unusedVariables false

/-- A kept list: its value, how many it has, its number, and what has grown out of it. -/
structure Ent where
  v : Value
  len : Nat
  num : Int
  long : Value
def isSl (v : Value) : Prop := ∃ A n c, v = .slice A n c
def entCells (x : Ent) : List Value := [x.v, x.long, .int .i64 x.num]
def kEnt : Kd Ent where
  sz := 3
  E := []
  K := fun _ x cs => cs = entCells x ∧ isSl x.v ∧ isSl x.long
  M := fun _ _ _ x cs => cs = entCells x ∧ isSl x.v ∧ isSl x.long
  K_len := fun h => by rw [h.1]; rfl
  K_one := fun h u hu => by
    obtain ⟨rfl, ⟨A, n, c, h1⟩, ⟨B, m, d, h2⟩⟩ := h
    simp only [entCells, List.mem_cons, List.not_mem_nil, or_false] at hu
    rcases hu with rfl | rfl | rfl
    · rw [h1]; rfl
    · rw [h2]; rfl
    · rfl
  K_below := fun _ h => h
  K_of_M := fun h => h
  M_mono := fun _ h => h
  M_bound := fun h => h
  M_move := fun _ h => h
  M_lower := fun _ h => h
theorem own_isSl {w : World} {base n size : Nat} {e : TypeId} {v : Value} {xs : List Value} (h : w.ownsRow base e size v n xs) : isSl v := by
  obtain ⟨A, c, h⟩ := own_slice h
  exact ⟨A, n, c, h⟩

/-- As it came: whatever it holds. -/
def fdA (e : TypeId) (sz : Nat) : Fd Ent where
  k := kEnt
  M := fun w F x cs => cs = entCells x ∧ x.long = .slice none 0 0 ∧ (∃ inner, w.ownsRow 0 e sz x.v x.len inner) ∧ F = x.v.ownBlock.toList
  read := fun h => ⟨h.1, own_isSl h.2.2.1.choose_spec, by rw [h.2.1]; exact ⟨_, _, _, rfl⟩⟩
  move := by
    rintro w w1 F x cs hm ⟨h1, h2, ⟨inner, h3⟩, rfl⟩
    exact ⟨h1, h2, ⟨inner, own_move h3 (fun k hk => hm k (by simp [hk]))⟩, rfl⟩
  lt := by
    rintro w F x cs ⟨h1, h2, ⟨inner, h3⟩, rfl⟩ b hb
    exact own_lt h3 b (by simpa using hb)
/-- All marked. -/
def fdB {α : Type} (d : Fd α) (e : TypeId) (mark : Int → α) : Fd Ent where
  k := kEnt
  M := fun w F x cs => cs = entCells x ∧ x.long = .slice none 0 0 ∧ Fd.Row d e w F x.v (List.replicate x.len (mark x.num))
  read := by
    rintro w F x cs ⟨h1, h2, h3⟩
    refine ⟨h1, ?_, by rw [h2]; exact ⟨_, _, _, rfl⟩⟩
    obtain ⟨A, c, h, _⟩ := Fd.row_reads h3
    exact ⟨A, _, c, h⟩
  move := fun hm h => ⟨h.1, h.2.1, Fd.row_move hm h.2.2⟩
  lt := fun h => Fd.row_lt h.2.2
/-- What holds wherever the blocks F are as they are here. -/
def Stay (F : List Nat) (w : World) (p : World → Prop) : Prop := (∀ b ∈ F, b < w.heap.size) ∧ ∀ w' : World, (∀ b ∈ F, w'.heap[b]? = w.heap[b]?) → p w'
theorem Stay.move {F : List Nat} {w w1 : World} {p : World → Prop} (hm : ∀ b ∈ F, w1.heap[b]? = w.heap[b]?) (h : Stay F w p) : Stay F w1 p :=
  ⟨fun b hb => by
    have h1 := h.1 b hb
    have h2 := hm b hb
    rw [Array.getElem?_eq_getElem h1] at h2
    exact (Array.getElem?_eq_some_iff.1 h2).1, fun w' hw => h.2 w' (fun b hb => (hw b hb).trans (hm b hb))⟩
/-- The list and what has grown out of it read as marks. -/
def Looks {α : Type} (k : Kd α) (mark : Int → α) (x : Ent) (L : Value) (w : World) : Prop :=
  ∃ Av cv Al cl, (x.len = 0 ∨ ∃ gv, Av = some ⟨gv, 0, none⟩) ∧ (∃ gl, Al = some ⟨gl, 0, none⟩) ∧ x.v = .slice Av x.len cv ∧ L = .slice Al (x.len + 40) cl ∧ x.len ≤ cv ∧ x.len + 40 ≤ cl ∧ k.C w Av x.len (List.replicate x.len (mark x.num)) ∧ k.C w Al (x.len + 40) (List.replicate (x.len + 40) (mark x.num))
def longCells (x : Ent) (cs : List Value) : Prop := (∃ L, isSl L ∧ cs = [x.v, L, .int .i64 x.num]) ∧ isSl x.v
def kLong : Kd Ent where
  sz := 3
  E := []
  K := fun _ x cs => longCells x cs
  M := fun _ _ _ x cs => longCells x cs
  K_len := by
    rintro w x cs ⟨⟨L, _, rfl⟩, _⟩
    rfl
  K_one := by
    rintro w x cs ⟨⟨L, ⟨B, m, d, h2⟩, rfl⟩, ⟨A, n, c, h1⟩⟩ u hu
    simp only [List.mem_cons, List.not_mem_nil, or_false] at hu
    rcases hu with rfl | rfl | rfl
    · rw [h1]; rfl
    · rw [h2]; rfl
    · rfl
  K_below := fun _ h => h
  K_of_M := fun h => h
  M_mono := fun _ h => h
  M_bound := fun h => h
  M_move := fun _ h => h
  M_lower := fun _ h => h
def fdC {α : Type} (k : Kd α) (mark : Int → α) : Fd Ent where
  k := kLong
  M := fun w F x cs => ∃ L, cs = [x.v, L, .int .i64 x.num] ∧ Stay F w (Looks k mark x L)
  read := by
    rintro w F x cs ⟨L, h1, h2⟩
    obtain ⟨Av, cv, Al, cl, _, _, h3, h4, _⟩ := h2.2 w (fun _ _ => rfl)
    exact ⟨⟨L, ⟨_, _, _, h4⟩, h1⟩, ⟨_, _, _, h3⟩⟩
  move := by
    rintro w w1 F x cs hm ⟨L, h1, h2⟩
    exact ⟨L, h1, h2.move hm⟩
  lt := by
    rintro w F x cs ⟨L, h1, h2⟩
    exact h2.1

theorem own_setAny {W : World} {base g n cap sz : Nat} {e : TypeId} {inner : List Value} (h : W.ownsRow base e sz (.slice (some ⟨g, 0, none⟩) n cap) n inner) (i : Nat) (u : Value) :
    (W.setCell ⟨g, i, none⟩ u).ownsRow base e sz (.slice (some ⟨g, 0, none⟩) n cap) n (inner.set i u) := by
  obtain ⟨h1, h2⟩ := h
  rcases h2 with ⟨h2, _⟩ | ⟨g', cap', cur, h3, h4, h5, h6, h7, h8, h9⟩
  · cases h2
  · injection h3 with e1 e2 e3
    injection e1 with e1
    injection e1 with e1
    subst e1 e3
    refine ⟨by rw [List.length_set]; exact h1, .inr ⟨g, cap, cur.setIfInBounds i u, rfl, h4, blk_set h5 i u, h6, h7, by simpa using h8, ?_⟩⟩
    rw [Array.toList_setIfInBounds, List.take_set, h9]

section
variable {P : Program}
theorem append_new {W w' : World} (base : Nat) (t ty e : TypeId) (i : TypeInfo) (z : Value) (size bytes : Nat) (ht : P.underlying t = some (.slice e)) (hi : P.info? e = some i) (hz : i.zero = some z)
    (hsize : i.size = size) (hby : i.bytes = bytes) (hzs : z.cells.size = size) (hsz : 0 < size) (v : Value) (n : Nat) (xs : List Value) (hown : W.ownsRow base e size v n xs)
    (a : Addr) (m c : Nat) (news : List Value) (hl : news.length = m * size) (hnews : ∀ j u, news[j]? = some u → W.cell? (a.add j) = some u) (h1 : ∀ u ∈ news, u.oneCell' = true)
    (h63 : n + m ≤ maxLen) (hbytes : (n + m) * bytes ≤ 140737488355328) {v' : Value} (hr : (Builtin.append_ #[t, t] ty #[v, .slice (some a) m c]).run P W = .ok v' w') (hg : W.grownBy w' v.ownBlock) :
    (∃ g cap, v = .slice (some ⟨g, 0, none⟩) n cap ∧ v' = .slice (some ⟨g, 0, none⟩) (n + m) cap) ∨ (W.grownBy w' none ∧ (v.ownBlock = none ∨ ∀ b, v'.ownBlock = some b → W.heap.size ≤ b)) := by
  have hxl := hown.1
  rcases hown.2 with ⟨rfl, _⟩ | ⟨g, cap, cur, rfl, hbg, hgb, hnc, hcm, hcs, htake⟩
  · exact .inr ⟨hg, .inl rfl⟩
  · by_cases hroom : n + m ≤ cap
    · subst hsize
      have hr2 := run_append_room (P := P) (w := W) t ty e i ht hi g n cap cur hgb a m c news hl hnews h1 hroom (by rw [hl, hcs, ← Nat.add_mul]; exact Nat.mul_le_mul_right _ hroom)
      rw [hr2] at hr
      injection hr with h3 h4
      exact .inl ⟨g, cap, rfl, h3.symm⟩
    · have holds : ∀ j u, xs[j]? = some u → W.cell? ((⟨g, 0, none⟩ : Addr).add j) = some u := hown.cells (g := g) rfl
      obtain ⟨v2, w2, hr2, ho2, hg2⟩ := run_append_arg_grows (P := P) (w := W) t ty e i z size bytes ht hi hz hsize hby hzs hsz ⟨g, 0, none⟩ n cap xs hxl holds a m c news hl hnews (by omega) h63 hbytes
      rw [hr2] at hr
      injection hr with h3 h4
      subst h3 h4
      exact .inr ⟨hg2, .inr (fun b hb => own_base ho2 b hb)⟩
end
section
variable {P : Program} {ops : Array Oper} {o : Oper} {a : Act} {Q : Exit → Act → World → Prop} {K : Act → World → Prop}
/-- append(v, x), said of cells; the goal's world is 'W.alloc' of the variadic's box. -/
theorem cells_wp {W : World} (hgd : o.guard = none) (s x : Operand) (t e : TypeId) (z : Value) (size bytes : Nat)
    (ho : o.op = .call { callee := .builtin .append, args := #[s, x], argTypes := #[t, t] })
    (ht : P.underlying t = some (.slice e)) (hinfo : (P.info? e).map (fun i => (i.zero, i.size, i.bytes)) = some (some z, size, bytes)) (hz : z.cells.size = size) (hs0 : 0 < size) (hb0 : 0 < bytes)
    (v : Value) (n : Nat) (xs ys : List Value) (hs : a.eval s = v) (hx : a.eval x = .slice (some ⟨W.heap.size, 0, none⟩) 1 1) (hys : ys.length = size) (h1 : ∀ u ∈ ys, u.oneCell' = true)
    (HO : W.ownsRow 0 e size v n xs) (hl : (n + 1) * bytes ≤ 140737488355328)
    (h : ∀ v1 w1, w1.ownsRow 0 e size v1 (n + 1) (xs ++ ys) → W.grownBy w1 v.ownBlock → ((∃ g cap, v = .slice (some ⟨g, 0, none⟩) n cap ∧ v1 = .slice (some ⟨g, 0, none⟩) (n + 1) cap) ∨ ((∀ b, v1.ownBlock = some b → W.heap.size ≤ b) ∧ Below W.heap.size W w1)) → K (a.put o.dst v1) w1) :
    Oper.wp P o a (W.alloc (.cells ys.toArray e)) K Q := by
  obtain ⟨i0, hi, hzz⟩ := Option.map_eq_some_iff.1 hinfo
  simp only [Prod.mk.injEq] at hzz
  obtain ⟨hz0, hz1, hz2⟩ := hzz
  have hlen : n + 1 ≤ 140737488355328 := Nat.le_trans (Nat.le_mul_of_pos_right _ hb0) hl
  have hnews : ∀ j u, ys[j]? = some u → (W.alloc (.cells ys.toArray e)).cell? ((⟨W.heap.size, 0, none⟩ : Addr).add j) = some u := by
    simpa using World.news_of_block (cs := ys.toArray) (t := e) (fr := (0, 0)) (heap_alloc_new W (.cells ys.toArray e))
  obtain ⟨v1, w1, hr, h2, h3, _, hat⟩ := run_append_own_at (P := P) (w := W.alloc (.cells ys.toArray e)) 0 t o.type e i0 z size bytes ht hi hz0 hz1 hz2 hz hs0 v n xs (HO.alloc _) ⟨W.heap.size, 0, none⟩ 1 1 ys (by rw [hys]; simp) hnews h1 (by simp only [maxLen]; omega) hl (by simp)
  have hsh := append_new (P := P) (W := W.alloc (.cells ys.toArray e)) 0 t o.type e i0 z size bytes ht hi hz0 hz1 hz2 hz hs0 v n xs (HO.alloc _) ⟨W.heap.size, 0, none⟩ 1 1 ys (by rw [hys]; simp) hnews h1 (by simp only [maxLen]; omega) hl hr h3
  have hss : (W.alloc (.cells ys.toArray e)).heap.size = W.heap.size + 1 := by simp
  unfold Oper.wp execOp
  simp only [ho, resolve, invoke, builtin, Sem.run_bind, Sem.run_pure, Result.andThen_ok, List.map_toArray, List.map_cons, List.map_nil, hs, hx, hr]
  refine h v1 w1 h2 (World.grownBy.trans (World.grownBy_alloc W _ _) h3) ?_
  rcases hsh with hq | ⟨hq, hb⟩
  · exact .inl hq
  · have h4 : W.grownBy w1 none := World.grownBy.trans (World.grownBy_alloc W _ _) hq
    refine .inr ⟨fun b hvb => ?_, h4.os, h4.tape, h4.output, h4.size, fun k hk => h4.block k hk (by simp)⟩
    rcases hb with hb | hb
    · rcases hat with hat | hat
      · rw [hat, hb] at hvb
        cases hvb
      · rw [hat] at hvb
        injection hvb with hvb
        omega
    · have := hb b hvb
      omega
end
def chunk (W : World) (g o : Nat) : List Value → World
  | [] => W
  | u :: us => chunk (W.setCell ⟨g, o, none⟩ u) g (o + 1) us
def listChunk (l : List Value) (o : Nat) : List Value → List Value
  | [] => l
  | u :: us => listChunk (l.set o u) (o + 1) us
theorem own_chunk {base g n cap sz : Nat} {e : TypeId} : ∀ (us : List Value) {W : World} {o : Nat} {inner : List Value}, W.ownsRow base e sz (.slice (some ⟨g, 0, none⟩) n cap) n inner →
    (chunk W g o us).ownsRow base e sz (.slice (some ⟨g, 0, none⟩) n cap) n (listChunk inner o us)
  | [], _, _, _, h => h
  | u :: us, _, o, _, h => own_chunk us (own_setAny h o u)
theorem listChunk_eq (c1 : List Value) : ∀ (us old c0 : List Value), old.length = us.length → listChunk (c0 ++ (old ++ c1)) c0.length us = c0 ++ (us ++ c1)
  | [], [], c0, _ => rfl
  | u :: us, x :: old, c0, h => by
    have e : (c0 ++ ((x :: old) ++ c1)).set c0.length u = (c0 ++ [u]) ++ (old ++ c1) := by
      rw [List.set_append_right _ _ (Nat.le_refl _), Nat.sub_self]
      simp
    have h2 := listChunk_eq c1 us old (c0 ++ [u]) (by simpa using h)
    show listChunk ((c0 ++ ((x :: old) ++ c1)).set c0.length u) (c0.length + 1) us = _
    rw [e]
    rw [List.length_append] at h2
    rw [show c0.length + 1 = c0.length + [u].length from rfl, h2]
    simp
theorem keeps_chunk {g : Nat} {F : List Nat} {w : World} (hg : g ∈ F) : ∀ (us : List Value) {W : World} {o : Nat}, Keeps F w W → Keeps F w (chunk W g o us)
  | [], _, _, h => h
  | u :: us, _, o, h => keeps_chunk hg us (h.setCell (p := ⟨g, o, none⟩) (.inl hg) u)

/-- k elements of a row of one's own are marks. -/
def Half {α : Type} (d : Fd α) (e : TypeId) (mk : α) (w : World) (F : List Nat) (v : Value) (n k : Nat) : Prop :=
  ∃ c0 c1 G, w.ownsRow 0 e d.k.sz v n (c0 ++ c1) ∧ Fd.Els d w (List.replicate k mk) c0 G ∧ F = v.ownBlock.toList ++ G
section
variable {α : Type} {d : Fd α} {e : TypeId} {mk : α} {w w1 : World} {F G : List Nat} {v : Value} {n k : Nat}
theorem half_start (h : ∃ inner, w.ownsRow 0 e d.k.sz v n inner) : Half d e mk w v.ownBlock.toList v n 0 := by
  obtain ⟨inner, h⟩ := h
  exact ⟨[], inner, [], h, ⟨rfl, rfl⟩, by simp⟩
theorem half_done (h : Half d e mk w F v n n) : Fd.Row d e w F v (List.replicate n mk) := by
  obtain ⟨c0, c1, G, ho, he, rfl⟩ := h
  have hl := Fd.els_len he
  rw [List.length_replicate] at hl
  have h1 := ho.1
  rw [List.length_append, hl] at h1
  have hc : c1 = [] := List.eq_nil_of_length_eq_zero (by omega)
  subst hc
  rw [List.append_nil] at ho
  exact ⟨c0, G, by rw [List.length_replicate]; exact ho, he, rfl⟩
theorem half_move (hm : ∀ b ∈ F, w1.heap[b]? = w.heap[b]?) (h : Half d e mk w F v n k) : Half d e mk w1 F v n k := by
  obtain ⟨c0, c1, G, ho, he, rfl⟩ := h
  exact ⟨c0, c1, G, own_move ho (fun b hb => hm b (by simp [hb])), Fd.els_move (fun b hb => hm b (List.mem_append_right _ hb)) he, rfl⟩
theorem half_lt (h : Half d e mk w F v n k) : ∀ b ∈ F, b < w.heap.size := by
  obtain ⟨c0, c1, G, ho, he, rfl⟩ := h
  intro b hb
  rcases List.mem_append.1 hb with hb | hb
  · exact own_lt ho b (by simpa using hb)
  · exact Fd.els_lt he b hb
/-- One more. -/
theorem half_step {g cap : Nat} {cs : List Value} (h : Half d e mk w F (.slice (some ⟨g, 0, none⟩) n cap) n k) (hk : k < n) (hm : d.M w G mk cs) (hF : F.Nodup) (hG : ∀ b ∈ G, b ∉ F) :
    Half d e mk (chunk w g (k * d.k.sz) cs) (F ++ G) (.slice (some ⟨g, 0, none⟩) n cap) n (k + 1) := by
  obtain ⟨c0, c1, G0, ho, he, rfl⟩ := h
  have hl := Fd.els_len he
  rw [List.length_replicate] at hl
  have hcl := d.k.K_len (d.read hm)
  have h1 := ho.1
  rw [List.length_append, hl] at h1
  have hle : d.k.sz ≤ c1.length := by
    have : (k + 1) * d.k.sz ≤ n * d.k.sz := Nat.mul_le_mul_right _ hk
    rw [Nat.succ_mul] at this
    omega
  have e1 : c1 = c1.take d.k.sz ++ c1.drop d.k.sz := (List.take_append_drop _ _).symm
  have h2 := own_chunk cs (o := k * d.k.sz) ho
  rw [e1, ← hl, listChunk_eq _ cs (c1.take d.k.sz) c0 (by rw [List.length_take, hcl]; omega), hl] at h2
  have hgo : (Value.slice (some ⟨g, 0, none⟩) n cap).ownBlock = some g := rfl
  rw [hgo] at hF hG
  simp only [Option.toList_some, List.cons_append, List.nil_append, List.nodup_cons] at hF
  have hkp : Keeps [g] w (chunk w g (k * d.k.sz) cs) := keeps_chunk (by simp) cs (Keeps.refl _ _)
  have hkE : ∀ b ∈ G0, (chunk w g (k * d.k.sz) cs).heap[b]? = w.heap[b]? := fun b hb => hkp.block b (Fd.els_lt he b hb) (fun hx => by simp at hx; subst hx; exact hF.1 hb)
  have hkG : ∀ b ∈ G, (chunk w g (k * d.k.sz) cs).heap[b]? = w.heap[b]? := fun b hb => hkp.block b (d.lt hm b hb) (fun hx => by simp at hx; subst hx; exact hG b hb (by simp))
  refine ⟨c0 ++ cs, c1.drop d.k.sz, G0 ++ G, by rw [List.append_assoc]; exact h2, ?_, by rw [hgo]; simp⟩
  rw [List.replicate_succ']
  exact Fd.els_append (Fd.els_move hkE he) (Fd.els_one (d.move hkG hm))
end

structure Mix (dB dA : Fd Ent) (ht : TypeId) (w wr : World) (F : List Nat) (v : Value) (E E' : List Ent) (i : Nat) : Prop where
  row : ∃ c0 c1 G0 G1, wr.ownsRow 0 ht 3 v E.length (c0 ++ c1) ∧ Fd.Els dB wr (E'.take i) c0 G0 ∧ Fd.Els dA wr (E.drop i) c1 G1 ∧ (v.ownBlock.toList ++ (G0 ++ G1)).Nodup ∧ ∀ b ∈ v.ownBlock.toList ++ (G0 ++ G1), b ∈ F ∨ w.heap.size ≤ b
  keep : Keeps F w wr
  len : E'.length = E.length
section
variable {dB dA : Fd Ent} {ht : TypeId} {w wr wr' : World} {F : List Nat} {v : Value} {E E' : List Ent} {i : Nat}
theorem mix_start (h : Fd.Row dA ht w F v E) (hk : dA.k.sz = 3) (hnd : F.Nodup) (hE : E'.length = E.length) : Mix dB dA ht w w F v E E' 0 := by
  obtain ⟨inner, G, ho, he, rfl⟩ := h
  rw [hk] at ho
  exact ⟨⟨[], inner, [], G, ho, ⟨rfl, rfl⟩, he, hnd, fun b hb => .inl hb⟩, Keeps.refl _ _, hE⟩
theorem Mix.below (h : Mix dB dA ht w wr F v E E' i) (hb : Below wr.heap.size wr wr') : Mix dB dA ht w wr' F v E E' i := by
  obtain ⟨⟨c0, c1, G0, G1, ho, e0, e1, nd, sub⟩, hk, hl⟩ := h
  have hm : ∀ b, b < wr.heap.size → wr'.heap[b]? = wr.heap[b]? := fun b hlt => hb.block b hlt
  exact ⟨⟨c0, c1, G0, G1, own_move ho (fun k hk => hm k (own_lt ho k hk)), Fd.els_move (fun b hx => hm b (Fd.els_lt e0 b hx)) e0, Fd.els_move (fun b hx => hm b (Fd.els_lt e1 b hx)) e1, nd, sub⟩, hk.trans (G := []) (Keeps.of_below hb []) (fun _ hx => by cases hx), hl⟩
/-- The entry that comes next. -/
theorem Mix.next (h : Mix dB dA ht w wr F v E E' i) (hB : dB.k.sz = 3) (hi : i < E.length) :
    ∃ c0 cs c1 G0 Gx G1 g cap, v = .slice (some ⟨g, 0, none⟩) E.length cap ∧ wr.ownsRow 0 ht 3 v E.length (c0 ++ (cs ++ c1)) ∧ c0.length = i * 3 ∧ Fd.Els dB wr (E'.take i) c0 G0 ∧ dA.M wr Gx (E[i]) cs ∧ Fd.Els dA wr (E.drop (i + 1)) c1 G1 ∧
      (v.ownBlock.toList ++ (G0 ++ (Gx ++ G1))).Nodup ∧ ∀ b ∈ v.ownBlock.toList ++ (G0 ++ (Gx ++ G1)), b ∈ F ∨ w.heap.size ≤ b := by
  obtain ⟨⟨c0, c1, G0, G1, ho, e0, e1, nd, sub⟩, hk, hl⟩ := h
  rw [List.drop_eq_getElem_cons hi] at e1
  obtain ⟨cs, r, Gx, G2, rfl, rfl, hx, hr⟩ := e1
  obtain ⟨g, cap, rfl, _, _⟩ := ho.form (by omega)
  refine ⟨c0, cs, r, G0, Gx, G2, g, cap, rfl, ho, ?_, e0, hx, hr, nd, sub⟩
  have := Fd.els_len e0
  rw [hB, List.length_take, Nat.min_eq_left (by omega)] at this
  exact this
theorem mix_step {c0 cs' c1 : List Value} {G0 Gx G1 Gx' X : List Nat} (hi : i < E.length) (hl : E'.length = E.length) (hi' : i < E'.length) (e0 : Fd.Els dB wr (E'.take i) c0 G0) (e1 : Fd.Els dA wr (E.drop (i + 1)) c1 G1)
    (nd : (v.ownBlock.toList ++ (G0 ++ (Gx ++ G1))).Nodup) (sub : ∀ b ∈ v.ownBlock.toList ++ (G0 ++ (Gx ++ G1)), b ∈ F ∨ w.heap.size ≤ b) (hv : ∀ b ∈ v.ownBlock.toList, b < wr.heap.size) (keep : Keeps F w wr)
    (hk : Keeps X wr wr') (hX : ∀ b ∈ X, b ∈ Gx ∨ b ∈ v.ownBlock.toList) (ho' : wr'.ownsRow 0 ht 3 v E.length (c0 ++ (cs' ++ c1))) (hx' : dB.M wr' Gx' (E'[i]) cs') (nd' : Gx'.Nodup) (sub' : ∀ b ∈ Gx', b ∈ Gx ∨ wr.heap.size ≤ b) :
    Mix dB dA ht w wr' F v E E' (i + 1) := by
  have l0 := Fd.els_lt e0
  have l1 := Fd.els_lt e1
  obtain ⟨nv, nr, nvr⟩ := List.nodup_append.1 nd
  obtain ⟨n0, nr2, n0r⟩ := List.nodup_append.1 nr
  obtain ⟨nx, n1, nx1⟩ := List.nodup_append.1 nr2
  have m0 : ∀ b ∈ G0, wr'.heap[b]? = wr.heap[b]? := fun b hb => hk.block b (l0 b hb) (fun hx => by
    rcases hX b hx with h | h
    · exact n0r b hb b (List.mem_append_left _ h) rfl
    · exact nvr b h b (List.mem_append_left _ hb) rfl)
  have m1 : ∀ b ∈ G1, wr'.heap[b]? = wr.heap[b]? := fun b hb => hk.block b (l1 b hb) (fun hx => by
    rcases hX b hx with h | h
    · exact nx1 b h b hb rfl
    · exact nvr b h b (List.mem_append_right _ (List.mem_append_right _ hb)) rfl)
  have hws := keep.size
  refine ⟨⟨c0 ++ cs', c1, G0 ++ Gx', G1, by rw [List.append_assoc]; exact ho', ?_, Fd.els_move m1 e1, ?_, ?_⟩, ?_, hl⟩
  · rw [List.take_succ_eq_append_getElem hi']
    exact Fd.els_append (Fd.els_move m0 e0) (Fd.els_one hx')
  · rw [List.append_assoc]
    refine List.nodup_append.2 ⟨nv, List.nodup_append.2 ⟨n0, List.nodup_append.2 ⟨nd', n1, ?_⟩, ?_⟩, ?_⟩
    · intro a ha b hb e
      subst e
      rcases sub' a ha with h | h
      · exact nx1 a h a hb rfl
      · have := l1 a hb
        omega
    · intro a ha b hb e
      subst e
      rcases List.mem_append.1 hb with hb | hb
      · rcases sub' a hb with h | h
        · exact n0r a ha a (List.mem_append_left _ h) rfl
        · have := l0 a ha
          omega
      · exact n0r a ha a (List.mem_append_right _ hb) rfl
    · intro a ha b hb e
      subst e
      rcases List.mem_append.1 hb with hb | hb
      · exact nvr a ha a (List.mem_append_left _ hb) rfl
      · rcases List.mem_append.1 hb with hb | hb
        · rcases sub' a hb with h | h
          · exact nvr a ha a (List.mem_append_right _ (List.mem_append_left _ h)) rfl
          · have := hv a ha
            omega
        · exact nvr a ha a (List.mem_append_right _ (List.mem_append_right _ hb)) rfl
  · intro b hb
    rcases List.mem_append.1 hb with hb | hb
    · exact sub b (List.mem_append_left _ hb)
    · rcases List.mem_append.1 hb with hb | hb
      · rcases List.mem_append.1 hb with hb | hb
        · exact sub b (by simp [hb])
        · rcases sub' b hb with h | h
          · exact sub b (by simp [h])
          · exact .inr (by omega)
      · exact sub b (by simp [hb])
  · refine keep.trans hk (fun x hx => ?_)
    rcases hX x hx with h | h
    · rcases sub x (by simp [h]) with h2 | h2
      · exact .inl h2
      · exact .inr h2
    · rcases sub x (List.mem_append_left _ h) with h2 | h2
      · exact .inl h2
      · exact .inr h2
theorem mix_done (h : Mix dB dA ht w wr F v E E' E.length) (hB : dB.k.sz = 3) : ∃ F', Fd.Row dB ht wr F' v E' ∧ F'.Nodup ∧ Keeps F w wr ∧ ∀ b ∈ F', b ∈ F ∨ w.heap.size ≤ b := by
  obtain ⟨⟨c0, c1, G0, G1, ho, e0, e1, nd, sub⟩, hk, hl⟩ := h
  rw [List.drop_of_length_le (Nat.le_refl _)] at e1
  obtain ⟨rfl, rfl⟩ := e1
  rw [List.take_of_length_le (by omega)] at e0
  rw [List.append_nil] at ho nd sub
  refine ⟨v.ownBlock.toList ++ G0, ⟨c0, G0, by rw [hB, hl]; exact ho, e0, rfl⟩, nd, hk, sub⟩
end
section
variable {α : Type} {d : Fd α} {e : TypeId} {mk : α} {w : World} {F : List Nat} {v : Value} {n k : Nat}
/-- The element that comes next: where it lies. -/
theorem half_cells (h : Half d e mk w F v n k) (hk : k < n) : ∃ (g cap : Nat) (us : List Value), v = .slice (some ⟨g, 0, none⟩) n cap ∧ g < w.heap.size ∧ us.length = d.k.sz ∧ ∀ j u, us[j]? = some u → w.cell? ⟨g, k * d.k.sz + j, none⟩ = some u ∧ w.frozen? ⟨g, k * d.k.sz + j, none⟩ = false := by
  obtain ⟨c0, c1, G, ho, he, rfl⟩ := h
  have hl := Fd.els_len he
  rw [List.length_replicate] at hl
  have h1 := ho.1
  rw [List.length_append, hl] at h1
  have hle : d.k.sz ≤ c1.length := by
    have : (k + 1) * d.k.sz ≤ n * d.k.sz := Nat.mul_le_mul_right _ hk
    rw [Nat.succ_mul] at this
    omega
  obtain ⟨g, cap, rfl, _, _⟩ := ho.form (by omega)
  obtain ⟨cur, hcur⟩ := own_typed ho g rfl
  refine ⟨g, cap, c1.take d.k.sz, rfl, own_lt ho g rfl, by rw [List.length_take]; omega, fun j u hu => ⟨?_, blk_frozen hcur _⟩⟩
  have hj : j < d.k.sz := by
    have := (List.getElem?_eq_some_iff.1 hu).1
    rw [List.length_take] at this
    omega
  rw [List.getElem?_take, if_pos hj] at hu
  have h2 := ho.cells (g := g) rfl (k * d.k.sz + j) u (by rw [List.getElem?_append_right (by omega), hl, Nat.add_sub_cancel_left]; exact hu)
  rwa [add_plain] at h2
end
section
variable {α : Type} {d : Fd α} {e : TypeId} {mk : α} {wo wi w1 : World} {x : Ent} {m : Nat}
/-- Where the loop over one kept list stands: m elements are marks. -/
structure In {α : Type} (d : Fd α) (e : TypeId) (mk : α) (wo wi : World) (x : Ent) (m : Nat) : Prop where
  half : ∃ Fk, Half d e mk wi Fk x.v x.len m ∧ Fk.Nodup ∧ ∀ b ∈ Fk, b ∈ x.v.ownBlock.toList ∨ wo.heap.size ≤ b
  keep : Keeps x.v.ownBlock.toList wo wi
theorem In.start (h : ∃ inner, wo.ownsRow 0 e d.k.sz x.v x.len inner) : In d e mk wo wo x 0 :=
  ⟨⟨_, half_start h, by cases x.v.ownBlock <;> simp, fun b hb => .inl hb⟩, Keeps.refl _ _⟩
theorem In.below (h : In d e mk wo wi x m) (hb : Below wi.heap.size wi w1) : In d e mk wo w1 x m := by
  obtain ⟨⟨Fk, h1, h2, h3⟩, h4⟩ := h
  exact ⟨⟨Fk, half_move (fun b hx => hb.block b (half_lt h1 b hx)) h1, h2, h3⟩, h4.trans (G := []) (Keeps.of_below hb []) (fun _ hx => by cases hx)⟩
theorem In.cells {gx cap : Nat} (h : In d e mk wo wi x m) (hv : x.v = .slice (some ⟨gx, 0, none⟩) x.len cap) (hm : m < x.len) : gx < wi.heap.size ∧ ∃ us : List Value, us.length = d.k.sz ∧ ∀ j u, us[j]? = some u → wi.cell? ⟨gx, m * d.k.sz + j, none⟩ = some u ∧ wi.frozen? ⟨gx, m * d.k.sz + j, none⟩ = false := by
  obtain ⟨⟨Fk, h1, h2, h3⟩, h4⟩ := h
  obtain ⟨g, c, us, ev, hg, hl, hu⟩ := half_cells h1 hm
  have := hv.symm.trans ev
  injection this with e1 _ e2
  injection e1 with e1
  injection e1 with e1
  subst e1
  exact ⟨hg, us, hl, hu⟩
theorem In.slice (h : In d e mk wo wi x m) (hm : m < x.len) : ∃ gx cap, x.v = .slice (some ⟨gx, 0, none⟩) x.len cap := by
  obtain ⟨⟨Fk, h1, h2, h3⟩, h4⟩ := h
  obtain ⟨g, c, us, ev, hg, hl, hu⟩ := half_cells h1 hm
  exact ⟨g, c, ev⟩
theorem In.step {gx cap : Nat} {G : List Nat} {cs : List Value} (h : In d e mk wo wi x m) (hb : Below wi.heap.size wi w1) (hv : x.v = .slice (some ⟨gx, 0, none⟩) x.len cap) (hm : m < x.len) (hM : d.M w1 G mk cs) (hGn : G.Nodup) (hG : ∀ b ∈ G, wi.heap.size ≤ b) :
    In d e mk wo (chunk w1 gx (m * d.k.sz) cs) x (m + 1) := by
  have h' := h.below hb
  obtain ⟨⟨Fk, h1, h2, h3⟩, h4⟩ := h
  obtain ⟨_, h5⟩ := h'
  have hd : ∀ b ∈ G, b ∉ Fk := fun b hb hx => by have := half_lt h1 b hx; have := hG b hb; omega
  have hs := h4.size
  refine ⟨⟨Fk ++ G, ?_, List.nodup_append.2 ⟨h2, hGn, fun a ha b hb e => hd b hb (e ▸ ha)⟩, fun b hb => ?_⟩, keeps_chunk (by rw [hv]; simp [Value.ownBlock]) cs h5⟩
  · have h6 := half_move (fun b hx => hb.block b (half_lt h1 b hx)) h1
    rw [hv] at h6 ⊢
    exact half_step h6 hm hM h2 hd
  · rcases List.mem_append.1 hb with hb | hb
    · exact h3 b hb
    · exact .inr (Nat.le_trans hs (hG b hb))
theorem mix_in {ht : TypeId} {w wr : World} {F : List Nat} {v : Value} {E : List Ent} {k S : Nat} {mark : Int → α} (hS : d.k.sz = S) (M : Mix (fdB d e mark) (fdA e S) ht w wo F v E E k) (hk : k < E.length) (hx : E[k] = x) (hI : In d e (mark x.num) wo wr x x.len) :
    Mix (fdB d e mark) (fdA e S) ht w wr F v E E (k + 1) := by
  subst hx
  have hkp := M.keep
  obtain ⟨c0, cs, c1, G0, Gx, G1, g, cap, rfl, ho, hl0, e0, ⟨rfl, hlong, hox, rfl⟩, e1, nd, sub⟩ := M.next rfl hk
  obtain ⟨⟨Fk, h1, h2, h3⟩, h4⟩ := hI
  have hgo : (Value.slice (some ⟨g, 0, none⟩) E.length cap).ownBlock = some g := rfl
  refine mix_step (X := (E[k]).v.ownBlock.toList) (Gx' := Fk) (cs' := entCells E[k]) hk rfl hk e0 e1 nd sub (fun b hb => own_lt ho b (by simpa using hb)) hkp h4 (fun b hb => .inl hb) (own_move ho (fun b hb => h4.block b (own_lt ho b hb) (fun hx => ?_))) ⟨rfl, hlong, half_done h1⟩ h2 h3
  obtain ⟨_, _, n3⟩ := List.nodup_append.1 nd
  exact n3 b (by simpa using hb) b (by simp [hx]) rfl
end

theorem own_cap {w : World} {base g n m cv cl sz : Nat} {e : TypeId} {xs ys : List Value} (hs : 0 < sz) (h1 : w.ownsRow base e sz (.slice (some ⟨g, 0, none⟩) n cv) n xs) (h2 : w.ownsRow base e sz (.slice (some ⟨g, 0, none⟩) m cl) m ys) : cv = cl := by
  rcases h1.2 with ⟨h, _⟩ | ⟨g1, c1, cur1, e1, _, k1, _, _, s1, _⟩
  · cases h
  rcases h2.2 with ⟨h, _⟩ | ⟨g2, c2, cur2, e2, _, k2, _, _, s2, _⟩
  · cases h
  injection e1 with a1 _ b1
  injection e2 with a2 _ b2
  injection a1 with a1
  injection a1 with a1
  injection a2 with a2
  injection a2 with a2
  subst a1 a2 b1 b2
  rw [k1] at k2
  injection k2 with k2
  injection k2 with k2
  subst k2
  rw [s1] at s2
  exact Nat.eq_of_mul_eq_mul_right hs s2
theorem own_prefix {w : World} {base g n m cap sz : Nat} {e : TypeId} {xs : List Value} (h : w.ownsRow base e sz (.slice (some ⟨g, 0, none⟩) n cap) n xs) (hm : m ≤ n) : w.ownsRow base e sz (.slice (some ⟨g, 0, none⟩) m cap) m (xs.take (m * sz)) := by
  obtain ⟨h1, h2⟩ := h
  have hle : m * sz ≤ n * sz := Nat.mul_le_mul_right _ hm
  rcases h2 with ⟨h, _⟩ | ⟨g1, c1, cur, e1, hb, hh, hn, hc, hs, ht⟩
  · cases h
  injection e1 with a1 _ b1
  injection a1 with a1
  injection a1 with a1
  subst a1 b1
  refine ⟨by rw [List.length_take]; omega, .inr ⟨g, cap, cur, rfl, hb, hh, by omega, hc, hs, ?_⟩⟩
  rw [← ht, List.take_take, Nat.min_eq_left hle]
section
variable {α : Type} {d : Fd α} {e : TypeId} {mk : α} {wo wi w1 W : World} {F : List Nat} {x : Ent} {L : Value} {m : Nat}
/-- Where the loop stands that grows a list: m marks are appended. -/
structure Gr {α : Type} (d : Fd α) (e : TypeId) (mk : α) (wo wi : World) (F : List Nat) (x : Ent) (L : Value) (m : Nat) : Prop where
  row : ∃ cs N, wi.ownsRow 0 e d.k.sz L (x.len + m) cs ∧ Fd.Els d wi (List.replicate (x.len + m) mk) cs N ∧ (x.v.ownBlock.toList ++ N).Nodup ∧ (L.ownBlock.toList ++ N).Nodup ∧ (∀ b ∈ N, b ∈ F ∨ wo.heap.size ≤ b) ∧
    wi.ownsRow 0 e d.k.sz x.v x.len (cs.take (x.len * d.k.sz)) ∧ (L.ownBlock = x.v.ownBlock ∨ ∀ b ∈ L.ownBlock.toList, wo.heap.size ≤ b)
  own : ∀ b ∈ x.v.ownBlock.toList, b ∈ F ∧ b < wo.heap.size
  keep : Keeps F wo wi
theorem Gr.start (h : Fd.Row d e wo F x.v (List.replicate x.len mk)) (hnd : F.Nodup) : Gr d e mk wo wo F x x.v 0 := by
  obtain ⟨inner, G, ho, he, rfl⟩ := h
  rw [List.length_replicate] at ho
  refine ⟨⟨inner, G, ho, he, hnd, hnd, fun b hb => .inl (List.mem_append_right _ hb), ?_, .inl rfl⟩, fun b hb => ⟨List.mem_append_left _ hb, own_lt ho b (by simpa using hb)⟩, Keeps.refl _ _⟩
  rw [List.take_of_length_le (Nat.le_of_eq ho.1)]
  exact ho
theorem Gr.below (h : Gr d e mk wo wi F x L m) (hb : Below wi.heap.size wi w1) : Gr d e mk wo w1 F x L m := by
  obtain ⟨⟨cs, N, ho, he, n1, n2, sub, hx, alt⟩, hw, hk⟩ := h
  exact ⟨⟨cs, N, own_move ho (fun k hk => hb.block k (own_lt ho k hk)), Fd.els_move (fun b hx => hb.block b (Fd.els_lt he b hx)) he, n1, n2, sub, own_move hx (fun k hk => hb.block k (own_lt hx k hk)), alt⟩, hw, hk.trans (G := []) (Keeps.of_below hb []) (fun _ hx => by cases hx)⟩
theorem Gr.len (h : Gr d e mk wo wi F x L m) : ∃ A c, L = .slice A (x.len + m) c := by
  obtain ⟨⟨cs, N, ho, _⟩, _⟩ := h
  exact own_slice ho
section
variable {P : Program} {ops : Array Oper} {o : Oper} {a : Act} {Q : Exit → Act → World → Prop} {K : Act → World → Prop}
/-- One more mark is appended. -/
theorem Gr.wp (h : Gr d e mk wo wi F x L m) (hb : Below wi.heap.size wi W) (hgd : o.guard = none) (s y : Operand) (t : TypeId) (z : Value) (bytes : Nat) (ys : List Value) (G : List Nat)
    (ho : o.op = .call { callee := .builtin .append, args := #[s, y], argTypes := #[t, t] })
    (ht : P.underlying t = some (.slice e)) (hinfo : (P.info? e).map (fun i => (i.zero, i.size, i.bytes)) = some (some z, d.k.sz, bytes)) (hz : z.cells.size = d.k.sz) (hs0 : 0 < d.k.sz) (hb0 : 0 < bytes)
    (hs : a.eval s = L) (hx : a.eval y = .slice (some ⟨W.heap.size, 0, none⟩) 1 1) (hM : d.M W G mk ys) (hGn : G.Nodup) (hG : ∀ b ∈ G, wi.heap.size ≤ b) (hl : (x.len + m + 1) * bytes ≤ 140737488355328)
    (hK : ∀ v1 w1, Gr d e mk wo w1 F x v1 (m + 1) → K (a.put o.dst v1) w1) :
    Oper.wp P o a (W.alloc (.cells ys.toArray e)) K Q := by
  have h' := h.below hb
  have hso : wo.heap.size ≤ wi.heap.size := h.keep.size
  obtain ⟨⟨cs, N, hown, he, n1, n2, sub, hxo, alt⟩, hw, hk⟩ := h
  have hNi := Fd.els_lt he
  have hLi := fun b (hb : b ∈ L.ownBlock.toList) => own_lt hown b (by simpa using hb)
  replace hown := own_move hown (fun k hk => hb.block k (own_lt hown k hk))
  replace he := Fd.els_move (fun b hx => hb.block b (hNi b hx)) he
  replace hxo := own_move hxo (fun k hk => hb.block k (own_lt hxo k hk))
  replace hk := h'.keep
  have hsz := hb.size
  refine cells_wp hgd s y t e z d.k.sz bytes ho ht hinfo hz hs0 hb0 L (x.len + m) cs ys hs hx (d.k.K_len (d.read hM)) (d.k.K_one (d.read hM)) hown hl ?_
  intro v1 w1 hown1 hg1 hsh
  have hlc := hown.1
  have hle : x.len * d.k.sz ≤ cs.length := by rw [hlc]; exact Nat.mul_le_mul_right _ (Nat.le_add_right _ _)
  have hm : ∀ b ∈ N ++ G, w1.heap[b]? = W.heap[b]? := by
    intro b hx
    rcases List.mem_append.1 hx with hx | hx
    · exact hg1.block b (Nat.lt_of_lt_of_le (hNi b hx) hsz) (fun ee => (List.nodup_append.1 n2).2.2 b (by rw [← ee]; simp) b hx rfl)
    · exact hg1.block b (d.lt hM b hx) (fun ee => by have := hLi b (by rw [← ee]; simp); have := hG b hx; omega)
  have nNG : (N ++ G).Nodup := List.nodup_append.2 ⟨(List.nodup_append.1 n2).2.1, hGn, fun p hp q hq ee => by have := hNi p hp; have := hG q hq; omega⟩
  have ltNG : ∀ b ∈ N ++ G, b < W.heap.size := fun b hx => by
    rcases List.mem_append.1 hx with hx | hx
    · exact Nat.lt_of_lt_of_le (hNi b hx) hsz
    · exact d.lt hM b hx
  refine hK v1 w1 ⟨⟨cs ++ ys, N ++ G, hown1, ?_, ?_, ?_, ?_, ?_, ?_⟩, hw, ?_⟩
  · rw [show x.len + (m + 1) = (x.len + m) + 1 from rfl, List.replicate_succ']
    exact Fd.els_append (Fd.els_move (fun b hx => hm b (List.mem_append_left _ hx)) he) (Fd.els_one (d.move (fun b hx => hm b (List.mem_append_right _ hx)) hM))
  · refine List.nodup_append.2 ⟨by cases x.v.ownBlock <;> simp, nNG, fun p hp q hq ee => ?_⟩
    subst ee
    rcases List.mem_append.1 hq with hq | hq
    · exact (List.nodup_append.1 n1).2.2 p hp p hq rfl
    · have := hG p hq
      have := (hw p hp).2
      omega
  · refine List.nodup_append.2 ⟨by cases v1.ownBlock <;> simp, nNG, fun p hp q hq ee => ?_⟩
    subst ee
    rcases hsh with ⟨g, cap, rfl, rfl⟩ | ⟨hv, _⟩
    · rcases List.mem_append.1 hq with hq | hq
      · exact (List.nodup_append.1 n2).2.2 p hp p hq rfl
      · have := hG p hq
        have := hLi p hp
        omega
    · have := hv p (by simpa using hp)
      have := ltNG p hq
      omega
  · intro b hx
    rcases List.mem_append.1 hx with hx | hx
    · exact sub b hx
    · exact .inr (Nat.le_trans hso (hG b hx))
  · rw [List.take_append_of_le_length hle]
    rcases hsh with ⟨g, cap, rfl, rfl⟩ | ⟨_, hbw⟩
    · by_cases hq : x.v.ownBlock = some g
      · have hx2 := hxo.2
        rcases hx2 with ⟨h, _⟩ | ⟨g1, cap1, cur1, e1, _⟩
        · rw [h] at hq; cases hq
        · rw [e1] at hq
          injection hq with hq
          dsimp only at hq
          subst hq
          rw [e1] at hxo ⊢
          have := own_cap hs0 hxo hown
          subst this
          have hp := own_prefix hown1 (m := x.len) (by omega)
          rwa [List.take_append_of_le_length hle] at hp
      · exact own_move hxo (fun k hk => hg1.block k (own_lt hxo k hk) (fun ee => hq (hk.trans ee)))
    · exact own_move hxo (fun k hk => hbw.block k (own_lt hxo k hk))
  · rcases hsh with ⟨g, cap, rfl, rfl⟩ | ⟨hv, _⟩
    · exact alt
    · refine .inr (fun b hx => ?_)
      have := hv b (by simpa using hx)
      omega
  · refine hk.trans (G := L.ownBlock.toList) (Keeps.of_grown hg1 (fun k hk => by rw [hk]; simp)) (fun b hx => ?_)
    rcases alt with alt | alt
    · rw [alt] at hx
      exact .inl (hw b hx).1
    · exact .inr (alt b hx)
/-- The same in a region that goes from first to last. -/
theorem Gr.step {rest : List Oper} (h : Gr d e mk wo wi F x L m) (hb : Below wi.heap.size wi W) (hgd : o.guard = none) (s y : Operand) (t : TypeId) (z : Value) (bytes : Nat) (ys : List Value) (G : List Nat)
    (ho : o.op = .call { callee := .builtin .append, args := #[s, y], argTypes := #[t, t] })
    (ht : P.underlying t = some (.slice e)) (hinfo : (P.info? e).map (fun i => (i.zero, i.size, i.bytes)) = some (some z, d.k.sz, bytes)) (hz : z.cells.size = d.k.sz) (hs0 : 0 < d.k.sz) (hb0 : 0 < bytes)
    (hs : a.eval s = L) (hx : a.eval y = .slice (some ⟨W.heap.size, 0, none⟩) 1 1) (hM : d.M W G mk ys) (hGn : G.Nodup) (hG : ∀ b ∈ G, wi.heap.size ≤ b) (hl : (x.len + m + 1) * bytes ≤ 140737488355328)
    (hK : ∀ v1 w1, Gr d e mk wo w1 F x v1 (m + 1) → wpList P ops Q rest (a.put o.dst v1) w1) :
    wpList P ops Q (o :: rest) a (W.alloc (.cells ys.toArray e)) :=
  wpList_plain hgd fun K hk => Gr.wp h hb hgd s y t z bytes ys G ho ht hinfo hz hs0 hb0 hs hx hM hGn hG hl (fun v1 w1 hg => hk _ _ (hK v1 w1 hg))
end
theorem looks_of {mark : Int → α} {cs : List Value} {N : List Nat} (ho : W.ownsRow 0 e d.k.sz L (x.len + 40) cs) (he : Fd.Els d W (List.replicate (x.len + 40) (mark x.num)) cs N) (hx : W.ownsRow 0 e d.k.sz x.v x.len (cs.take (x.len * d.k.sz))) : Looks d.k mark x L W := by
  have h1 : Fd.Row d e W (L.ownBlock.toList ++ N) L (List.replicate (x.len + 40) (mark x.num)) := ⟨cs, N, by rw [List.length_replicate]; exact ho, he, rfl⟩
  rw [show List.replicate (x.len + 40) (mark x.num) = List.replicate x.len (mark x.num) ++ List.replicate 40 (mark x.num) from (List.replicate_append_replicate).symm] at he
  obtain ⟨c0, c1, N0, N1, rfl, rfl, e0, e1⟩ := Fd.els_split he
  have hl := Fd.els_len e0
  rw [List.length_replicate] at hl
  rw [← hl, List.take_left' rfl] at hx
  have h2 : Fd.Row d e W (x.v.ownBlock.toList ++ N0) x.v (List.replicate x.len (mark x.num)) := ⟨c0, N0, by rw [List.length_replicate]; exact hx, e0, rfl⟩
  obtain ⟨Al, cl, a1, a2, a3⟩ := Fd.row_reads h1
  obtain ⟨Av, cv, b1, b2, b3⟩ := Fd.row_reads h2
  rw [List.length_replicate] at a1 a2 a3 b1 b2 b3
  refine ⟨Av, cv, Al, cl, ?_, ?_, b1, a1, b2, a2, b3, a3⟩
  · rcases hx.2 with ⟨h, h0⟩ | ⟨g, c, cur, h, _⟩
    · exact .inl h0
    · rw [b1] at h
      injection h with h _ _
      exact .inr ⟨g, h⟩
  · rcases ho.2 with ⟨h, h0⟩ | ⟨g, c, cur, h, _⟩
    · omega
    · rw [a1] at h
      injection h with h _ _
      exact ⟨g, h⟩
theorem cell_on {w w' : World} {p : Addr} {v : Value} (hb : Below w.heap.size w w') (h : w.cell? p = some v) : w'.cell? p = some v := (hb.cell (World.block_lt_of_cell? w _ h)).trans h
/-- Element i of a row of marks. -/
theorem marks_at {k : Kd α} {w : World} {g n : Nat} {mk : α} (h : k.C w (some ⟨g, 0, none⟩) n (List.replicate n mk)) (i : Nat) (hi : i < n) : ∃ c, k.K w mk c ∧ ∀ j u, c[j]? = some u → w.cell? ⟨g, i * k.sz + j, none⟩ = some u := by
  obtain ⟨ad, c, e, hl, hK, hc⟩ := Kd.C_get h mk (i : Int) (by omega) (by omega)
  injection e with e
  subst e
  refine ⟨c, ?_, fun j u hu => ?_⟩
  · rwa [show ((i : Int)).toNat = i from rfl, List.getD_eq_getElem?_getD, List.getElem?_replicate_of_lt hi] at hK
  · have h2 := hc j u hu
    rwa [show ((i : Int)).toNat = i from rfl, add_plain] at h2
theorem Gr.done {mark : Int → α} (h : Gr d e (mark x.num) wo wi F x L 40) : ∃ F', Stay F' wi (Looks d.k mark x L) ∧ F'.Nodup ∧ ∀ b ∈ F', b ∈ F ∨ wo.heap.size ≤ b := by
  obtain ⟨⟨cs, N, ho, he, n1, n2, sub, hx, alt⟩, hw, hk⟩ := h
  have go : ∀ F' : List Nat, (∀ b ∈ F', b < wi.heap.size) → (∀ b ∈ x.v.ownBlock.toList ++ (L.ownBlock.toList ++ N), b ∈ F') → Stay F' wi (Looks d.k mark x L) := fun F' hl hs =>
    ⟨hl, fun w' hw' => looks_of (own_move ho (fun k hk => hw' k (hs k (by simp [hk])))) (Fd.els_move (fun b hb => hw' b (hs b (by simp [hb]))) he) (own_move hx (fun k hk => hw' k (hs k (by simp [hk]))))⟩
  have l0 : ∀ b ∈ x.v.ownBlock.toList, b < wi.heap.size := fun b hb => own_lt hx b (by simpa using hb)
  have l1 : ∀ b ∈ L.ownBlock.toList ++ N, b < wi.heap.size := fun b hb => by
    rcases List.mem_append.1 hb with hb | hb
    · exact own_lt ho b (by simpa using hb)
    · exact Fd.els_lt he b hb
  rcases alt with alt | alt
  · refine ⟨L.ownBlock.toList ++ N, go _ l1 (fun b hb => ?_), n2, fun b hb => ?_⟩
    · rcases List.mem_append.1 hb with hb | hb
      · rw [alt]; exact List.mem_append_left _ hb
      · exact hb
    · rcases List.mem_append.1 hb with hb | hb
      · rw [alt] at hb; exact .inl (hw b hb).1
      · exact sub b hb
  · refine ⟨x.v.ownBlock.toList ++ (L.ownBlock.toList ++ N), go _ (fun b hb => ?_) (fun b hb => hb), ?_, fun b hb => ?_⟩
    · rcases List.mem_append.1 hb with hb | hb
      · exact l0 b hb
      · exact l1 b hb
    · refine List.nodup_append.2 ⟨by cases x.v.ownBlock <;> simp, n2, fun p hp q hq ee => ?_⟩
      subst ee
      rcases List.mem_append.1 hq with hq | hq
      · have := alt p hq
        have := (hw p hp).2
        omega
      · exact (List.nodup_append.1 n1).2.2 p hp p hq rfl
    · rcases List.mem_append.1 hb with hb | hb
      · exact .inl (hw b hb).1
      · rcases List.mem_append.1 hb with hb | hb
        · exact .inr (alt b hb)
        · exact sub b hb
/-- One kept list has grown, and is written into its entry. -/
theorem mix_gr {ht : TypeId} {w wr : World} {E : List Ent} {k g cap : Nat} {mark : Int → α} {c0 cs c1 : List Value} {F G0 Gx G1 : List Nat} (hk : k < E.length) (hxe : E[k] = x)
    (ho : wo.ownsRow 0 ht 3 (.slice (some ⟨g, 0, none⟩) E.length cap) E.length (c0 ++ (cs ++ c1))) (hl0 : c0.length = k * 3) (e0 : Fd.Els (fdC d.k mark) wo (E.take k) c0 G0) (hx : (fdB d e mark).M wo Gx x cs) (e1 : Fd.Els (fdB d e mark) wo (E.drop (k + 1)) c1 G1)
    (nd : ((Value.slice (some ⟨g, 0, none⟩) E.length cap).ownBlock.toList ++ (G0 ++ (Gx ++ G1))).Nodup) (sub : ∀ b ∈ (Value.slice (some ⟨g, 0, none⟩) E.length cap).ownBlock.toList ++ (G0 ++ (Gx ++ G1)), b ∈ F ∨ w.heap.size ≤ b) (keep : Keeps F w wo)
    (hG : Gr d e (mark x.num) wo wr Gx x L 40) :
    Mix (fdC d.k mark) (fdB d e mark) ht w (wr.setCell ⟨g, k * 3 + 1, none⟩ L) F (.slice (some ⟨g, 0, none⟩) E.length cap) E E (k + 1) := by
  subst hxe
  obtain ⟨F', hs, hn, hsub⟩ := hG.done
  have hgo : (Value.slice (some ⟨g, 0, none⟩) E.length cap).ownBlock = some g := rfl
  have hgx : g ∉ Gx := fun h => (List.nodup_append.1 nd).2.2 g (by simp [Value.ownBlock]) g (by simp [h]) rfl
  have hgl : g < wo.heap.size := own_lt ho g rfl
  have hgF : g ∉ F' := fun h => by
    rcases hsub g h with h | h
    · exact hgx h
    · omega
  have ho1 := own_move ho (fun b hb => hG.keep.block b (own_lt ho b hb) (fun hx => by rw [hgo] at hb; injection hb with hb; subst hb; exact hgx hx))
  have ho2 := own_setAny ho1 (k * 3 + 1) L
  obtain ⟨rfl, hlong, hrow⟩ := hx
  have hset : (c0 ++ (entCells E[k] ++ c1)).set (k * 3 + 1) L = c0 ++ ([(E[k]).v, L, .int .i64 (E[k]).num] ++ c1) := by
    rw [← hl0, List.set_append_right _ _ (by omega), show c0.length + 1 - c0.length = 1 by omega]
    rfl
  rw [hset] at ho2
  refine mix_step (X := Gx ++ [g]) (Gx' := F') (wr := wo) hk rfl hk e0 e1 nd sub (fun b hb => own_lt ho b (by simpa using hb)) keep ((hG.keep.mono (fun b hb => .inl (by simp [hb]))).setCell (p := ⟨g, k * 3 + 1, none⟩) (.inl (by simp)) L) (fun b hb => ?_) ho2 ⟨L, rfl, hs.move (fun b hb => ?_)⟩ hn hsub
  · rcases List.mem_append.1 hb with hb | hb
    · exact .inl hb
    · exact .inr (by rw [hgo]; simpa using hb)
  · have := (Keeps.refl [g] wr).setCell (p := ⟨g, k * 3 + 1, none⟩) (.inl (by simp)) L
    exact this.block b (hs.1 b hb) (fun hx => by simp at hx; subst hx; exact hgF hb)
end
end Go.Proofs.YtcohodkpppmaoaaGreatDoor.Q
namespace Go.Proofs.YtcohodkpppmaoaaGreatDoor.Q
open Go.RowKit Go.Proofs.YtcohodkpppmaoaaGreatDoorW.PrintWords Go.Proofs.YtcohodkpppmaoaaGreatDoorW.PrintLast Go.Proofs.YtcohodkpppmaoaaGreatDoorW.PrintMore
set_option linter.unusedVariables false
namespace Fd
section
variable {P : Program} {ops : Array Oper} {o : Oper} {a : Act} {Q : Exit → Act → World → Prop} {K : Act → World → Prop} {α : Type}
theorem R_append_stepH (d : Fd α) {W : World} (hgd : o.guard = none) (s x : Operand) (t e : TypeId) (z : Value) (bytes : Nat)
    (ho : o.op = .call { callee := .builtin .append, args := #[s, x], argTypes := #[t, t] })
    (ht : P.underlying t = some (.slice e)) (hinfo : (P.info? e).map (fun i => (i.zero, i.size, i.bytes)) = some (some z, d.k.sz, bytes)) (hz : z.cells.size = d.k.sz) (hs0 : 0 < d.k.sz) (hb0 : 0 < bytes)
    (v : Value) (xs : List α) (p : α) (cs : List Value) (F G : List Nat) (hs : a.eval s = v) (hx : a.eval x = .slice (some ⟨W.heap.size, 0, none⟩) 1 1) (hp : d.M W G p cs)
    (HO : Row d e W F v xs) (hnd : (F ++ G).Nodup) (hl : (xs.length + 1) * bytes ≤ 140737488355328)
    (h : ∀ v1 w1 F1, Row d e w1 F1 v1 (xs ++ [p]) → F1.Nodup → Keeps v.ownBlock.toList W w1 → (∀ b ∈ F1, b ∈ F ∨ b ∈ G ∨ W.heap.size ≤ b) → (∀ b ∈ v1.ownBlock.toList, b ∈ v.ownBlock.toList ∨ W.heap.size ≤ b) → K (a.put o.dst v1) w1) :
    if Region.wanted o (yielded ops a.tmps) = true then Oper.wp P o a (W.alloc (.cells cs.toArray e)) K Q else K (a.put o.dst undef) (W.alloc (.cells cs.toArray e)) := by
  obtain ⟨inner, G0, hown, he, rfl⟩ := HO
  refine step_append_cells (w0 := W) 0 (by simp [Region.wanted, hgd]) s x t e z d.k.sz bytes ho ht hinfo hz hs0 hb0 v xs.length inner cs hs hx (d.k.K_len (d.read hp)) (d.k.K_one (d.read hp)) hown (Below.refl _ _) (Nat.zero_le _) hl ?_
  intro v1 w1 hown1 _ hg1 hat1
  obtain ⟨F1, h1, h2, h3, h4⟩ := row_after hp hown he hnd hown1 hg1 hat1
  refine h v1 w1 F1 h1 h2 (Keeps.of_grown hg1 (fun k hk => by rw [hk]; simp)) h4 (fun b hb => ?_)
  rcases hat1 with hat | ⟨b', hat, hb'⟩
  · rw [hat] at hb
    exact .inl hb
  · rw [hat] at hb
    simp at hb
    subst hb
    exact .inr hb'
end
theorem row_own {α : Type} {d : Fd α} {e : Nat} {w : World} {F : List Nat} {v : Value} {xs : List α} (h : Row d e w F v xs) : ∀ b ∈ v.ownBlock.toList, b ∈ F := by
  obtain ⟨inner, G, _, _, rfl⟩ := h
  exact fun b hb => List.mem_append_left _ hb
end Fd
theorem keep_finH {w W w6 : World} {g : Nat} {F F6 L O O6 : List Nat} (hnd : (g :: F).Nodup) (hL : ∀ b ∈ L, b ∉ g :: F) (hKW : Keeps [g] w W) (hO : ∀ b ∈ O, b ∈ F) (hK : Keeps O W.drew w6) (hl : ∀ b ∈ F6, b ∈ F ∨ b ∈ L ∨ W.drew.heap.size ≤ b) (hv : ∀ b ∈ O6, b ∈ O ∨ W.drew.heap.size ≤ b) (hg : g < w.heap.size) (i : Nat) (u : Value) :
    g ∉ F6 ∧ Keeps (g :: O) w (w6.setCell ⟨g, i, none⟩ u) ∧ (∀ b ∈ F6, b ∈ F ∨ b ∈ L ∨ w.heap.size ≤ b) ∧ ∀ b ∈ O6, b ∈ O ∨ w.heap.size ≤ b := by
  have hs : w.heap.size ≤ W.drew.heap.size := hKW.size
  refine ⟨fun hx => ?_, ?_, fun b hb => ?_, fun b hb => (hv b hb).imp_right (fun h => Nat.le_trans hs h)⟩
  · rcases hl g hx with h | h | h
    · exact (List.nodup_cons.1 hnd).1 h
    · exact hL g h (by simp)
    · omega
  · have h1 : Keeps (g :: O) w W.drew := (hKW.drew).mono (fun x hx => .inl (by simp at hx; simp [hx]))
    exact (h1.trans hK (fun x hx => .inl (by simp [hx]))).setCell (p := ⟨g, i, none⟩) (.inl (by simp)) u
  · rcases hl b hb with h | h | h
    · exact .inl h
    · exact .inr (.inl h)
    · exact .inr (.inr (by omega))
end Go.Proofs.YtcohodkpppmaoaaGreatDoor.Q
namespace Go.Proofs.YtcohodkpppmaoaaGreatDoor.Q
open Go.RowKit Go.Proofs.YtcohodkpppmaoaaGreatDoorW.PrintWords Go.Proofs.YtcohodkpppmaoaaGreatDoorW.PrintLast Go.Proofs.YtcohodkpppmaoaaGreatDoorW.PrintMore
set_option linter.unusedVariables false
theorem infoHeldHRow : (Tryz.prog.info? 184).map (fun i => (i.zero, i.size, i.bytes)) = some (some (.agg #[.slice none 0 0, .slice none 0 0, .int .i64 0]), 3, 56) := by kernel_rfl
set_option maxHeartbeats 3200000 in
set_option maxRecDepth 100000 in
theorem keepRow_callsH (w : World) (g : Nat) (n : Int) (v1 v2 v3 v4 v5 v6 v7 v8 v9 v10 v11 v12 : Value) (hb : w.heap[g]? = some (.cells #[.int .i64 n, v1, v2, v3, v4, v5, v6, v7, v8, v9, v10, v11, v12] 44 (0, 0))) (E : List Ent) (F : List Nat) (HR : Fd.Row (fdA 148 2) 184 w F v5 E) (hnd : (g :: F).Nodup)
    (A : Option Addr) (len c : Nat) (inner : List Value) (ho : w.ownsRow 0 148 2 (.slice A len c) len inner) (hl : ∀ b ∈ (Value.slice A len c).ownBlock.toList, b ∉ g :: F) (hE : E.length ≤ 1000000000) (h0 : 0 ≤ n) (h1 : n ≤ 1000000000000) :
    Calls Tryz.prog 208 #[.pointer (some ⟨g, 0, none⟩), .slice A len c] w fun e w' => ∃ F' v', e = .returned (.tuple #[]) ∧ w'.heap[g]? = some (.cells #[.int .i64 (n + 1), v1, v2, v3, v4, v', v6, v7, v8, v9, v10, v11, v12] 44 (0, 0)) ∧
      Fd.Row (fdA 148 2) 184 w' F' v' (E ++ [⟨.slice A len c, len, n + 1, .slice none 0 0⟩]) ∧ (g :: F').Nodup ∧ Keeps (g :: v5.ownBlock.toList) w w' ∧ (∀ b ∈ F', b ∈ F ∨ b ∈ (Value.slice A len c).ownBlock.toList ∨ w.heap.size ≤ b) ∧ ∀ b ∈ v'.ownBlock.toList, b ∈ v5.ownBlock.toList ∨ w.heap.size ≤ b := by
  obtain ⟨A1, c1, ev, hc1, _⟩ := Fd.row_reads HR
  subst ev
  have hu := Tryz.underlying44
  have q0 := blk_cell hb 0
  have q1 := blk_cell hb 5
  have p0 := blk_frozen hb 0
  have p1 := blk_frozen hb 5
  have hg : g < w.heap.size := blk_lt hb
  have hgF : g ∉ F := (List.nodup_cons.1 hnd).1
  have hw1 : IntKind.i64.wrap (n + 1) = n + 1 := IntWalk.i64_in _ (by omega)
  have K0 := (Keeps.refl [g] w).setCell (p := ⟨g, 0, none⟩) (.inl (by simp)) (.int .i64 (n + 1))
  have R0 := Fd.row_keeps HR K0 (fun b hbF hx => by simp at hx; subst hx; exact hgF hbF)
  have M0 : (fdA 148 2).M (w.setCell ⟨g, 0, none⟩ (.int .i64 (n + 1))) (Value.slice A len c).ownBlock.toList ⟨.slice A len c, len, n + 1, .slice none 0 0⟩ [.slice A len c, .slice none 0 0, .int .i64 (n + 1)] :=
    ⟨rfl, rfl, ⟨inner, own_move ho (fun k hk => K0.block k (own_lt ho k hk) (fun hx => by simp at hx; subst hx; exact hl k (by simp [hk]) (by simp)))⟩, rfl⟩
  have HOW := Aside0.mk (Fd.row_own HR)
  have HK := Aside0.mk K0
  have HR0 := Aside0.mk R0
  have HM := Aside0.mk M0
  have HB := Aside0.mk (blk_put (cs' := #[.int .i64 (n + 1), v1, v2, v3, v4, .slice A1 E.length c1, v6, v7, v8, v9, v10, v11, v12]) hb 0 (.int .i64 (n + 1)) rfl)
  have HL := Aside0.mk hl
  have HND := Aside0.mk hnd
  have HG := Aside0.mk hgF
  clear HR K0 R0 M0 hb hl ho hnd hgF
  go_enter Tryz.func208, Tryz.ntmps208
  go_wp2_with fail
  obtain ⟨W, hW⟩ : ∃ W, W = w.setCell ⟨g, 0, none⟩ (.int .i64 (n + 1)) := ⟨_, rfl⟩
  rw [← hW] at HK HR0 HM HB ⊢
  clear hW q0 q1 p0 p1
  have q0 := blk_cell HB.out 0
  have q1 := blk_cell HB.out 5
  have p1 := blk_frozen HB.out 5
  have hlt : g < W.heap.size := blk_lt HB.out
  have hlB : ∀ b ∈ (Value.slice A len c).ownBlock.toList, b < W.heap.size := fun b hx => (fdA 148 2).lt HM.out b hx
  have HN := Aside0.mk (show (F ++ (Value.slice A len c).ownBlock.toList).Nodup from List.nodup_append.2 ⟨(List.nodup_cons.1 HND.out).2, by cases (Value.slice A len c).ownBlock <;> simp, fun a ha b hx e => HL.out b hx (by subst e; simp [ha])⟩)
  have HRD := Aside0.mk (show Fd.Row (fdA 148 2) 184 W.drew F (.slice A1 E.length c1) E from Fd.row_move (w := W) (w1 := W.drew) (fun _ _ => rfl) HR0.out)
  have HMD := Aside0.mk (show (fdA 148 2).M W.drew (Value.slice A len c).ownBlock.toList ⟨.slice A len c, len, n + 1, .slice none 0 0⟩ [.slice A len c, .slice none 0 0, .int .i64 (n + 1)] from (fdA 148 2).move (w := W) (w1 := W.drew) (fun _ _ => rfl) HM.out)
  have HBD := Aside0.mk (show W.drew.heap[g]? = some (.cells #[.int .i64 (n + 1), v1, v2, v3, v4, .slice A1 E.length c1, v6, v7, v8, v9, v10, v11, v12] 44 (0, 0)) from HB.out)
  have HKD := Aside0.mk (HK.out.drew)
  clear hlB HR0 HM
  go_region_law ((refine Fd.R_append_stepH (W := W.drew) (fdA 148 2) rfl (.tmp 15) (.tmp 22) 35 184 (.agg #[.slice none 0 0, .slice none 0 0, .int .i64 0]) 56 rfl Tryz.underlying35 infoHeldHRow rfl (show 0 < 3 from by decide) (by decide) (.slice A1 E.length c1) E ⟨.slice A len c, len, n + 1, .slice none 0 0⟩ [.slice A len c, .slice none 0 0, .int .i64 (n + 1)] F (Value.slice A len c).ownBlock.toList (by simp [Act.eval]) (by simp [Act.eval]) HMD.out HRD.out HN.out (by omega) ?_; intro v' w6 F6 h1 h2 h3 h4 h5; obtain ⟨A2, c2, ev2, _⟩ := Fd.row_reads h1; rw [List.length_append, show ([(⟨.slice A len c, len, n + 1, .slice none 0 0⟩ : Ent)] : List Ent).length = 1 from rfl] at ev2; subst ev2; have bk6 := h3.blk HBD.out (fun hx => HG.out (HOW.out _ hx)); have j1 := blk_frozen bk6 5; have j0 := blk_cell bk6 5; have hlt6 := blk_lt bk6; have BK6 := Aside0.mk bk6; have R6 := Aside0.mk h1; have N6 := Aside0.mk h2; have K6 := Aside0.mk h3; have L6 := Aside0.mk h4; have V6 := Aside0.mk h5; clear h1 h2 h3 h4 h5 bk6))
  all_goals
    go_wp2
    go_end0
    obtain ⟨z1, z2, z3, z4⟩ := keep_finH HND.out HL.out HK.out HOW.out K6.out L6.out V6.out hg 5 (.slice A2 (E.length + 1) c2)
    exact ⟨F6, _, rfl, blk_put BK6.out 5 _ rfl, Fd.row_keeps R6.out ((Keeps.refl [g] w6).setCell (p := ⟨g, 5, none⟩) (.inl (by simp)) _) (fun b hb hx => by simp at hx; subst hx; exact z1 hb), List.nodup_cons.2 ⟨z1, N6.out⟩, z2, z3, z4⟩
end Go.Proofs.YtcohodkpppmaoaaGreatDoor.Q
namespace Go.Proofs.YtcohodkpppmaoaaGreatDoor.Q
open Go.RowKit Go.Proofs.YtcohodkpppmaoaaGreatDoorW.PrintWords Go.Proofs.YtcohodkpppmaoaaGreatDoorW.PrintLast Go.Proofs.YtcohodkpppmaoaaGreatDoorW.PrintMore
set_option linter.unusedVariables false
theorem infoHeldHOp : (Tryz.prog.info? 187).map (fun i => (i.zero, i.size, i.bytes)) = some (some (.agg #[.slice none 0 0, .slice none 0 0, .int .i64 0]), 3, 56) := by kernel_rfl
set_option maxHeartbeats 3200000 in
set_option maxRecDepth 100000 in
theorem keepOp_callsH (w : World) (g : Nat) (n : Int) (v1 v2 v3 v4 v5 v6 v7 v8 v9 v10 v11 v12 : Value) (hb : w.heap[g]? = some (.cells #[.int .i64 n, v1, v2, v3, v4, v5, v6, v7, v8, v9, v10, v11, v12] 44 (0, 0))) (E : List Ent) (F : List Nat) (HR : Fd.Row (fdA 82 4) 187 w F v6 E) (hnd : (g :: F).Nodup)
    (A : Option Addr) (len c : Nat) (inner : List Value) (ho : w.ownsRow 0 82 4 (.slice A len c) len inner) (hl : ∀ b ∈ (Value.slice A len c).ownBlock.toList, b ∉ g :: F) (hE : E.length ≤ 1000000000) (h0 : 0 ≤ n) (h1 : n ≤ 1000000000000) :
    Calls Tryz.prog 137 #[.pointer (some ⟨g, 0, none⟩), .slice A len c] w fun e w' => ∃ F' v', e = .returned (.tuple #[]) ∧ w'.heap[g]? = some (.cells #[.int .i64 (n + 1), v1, v2, v3, v4, v5, v', v7, v8, v9, v10, v11, v12] 44 (0, 0)) ∧
      Fd.Row (fdA 82 4) 187 w' F' v' (E ++ [⟨.slice A len c, len, n + 1, .slice none 0 0⟩]) ∧ (g :: F').Nodup ∧ Keeps (g :: v6.ownBlock.toList) w w' ∧ (∀ b ∈ F', b ∈ F ∨ b ∈ (Value.slice A len c).ownBlock.toList ∨ w.heap.size ≤ b) ∧ ∀ b ∈ v'.ownBlock.toList, b ∈ v6.ownBlock.toList ∨ w.heap.size ≤ b := by
  obtain ⟨A1, c1, ev, hc1, _⟩ := Fd.row_reads HR
  subst ev
  have hu := Tryz.underlying44
  have q0 := blk_cell hb 0
  have q1 := blk_cell hb 6
  have p0 := blk_frozen hb 0
  have p1 := blk_frozen hb 6
  have hg : g < w.heap.size := blk_lt hb
  have hgF : g ∉ F := (List.nodup_cons.1 hnd).1
  have hw1 : IntKind.i64.wrap (n + 1) = n + 1 := IntWalk.i64_in _ (by omega)
  have K0 := (Keeps.refl [g] w).setCell (p := ⟨g, 0, none⟩) (.inl (by simp)) (.int .i64 (n + 1))
  have R0 := Fd.row_keeps HR K0 (fun b hbF hx => by simp at hx; subst hx; exact hgF hbF)
  have M0 : (fdA 82 4).M (w.setCell ⟨g, 0, none⟩ (.int .i64 (n + 1))) (Value.slice A len c).ownBlock.toList ⟨.slice A len c, len, n + 1, .slice none 0 0⟩ [.slice A len c, .slice none 0 0, .int .i64 (n + 1)] :=
    ⟨rfl, rfl, ⟨inner, own_move ho (fun k hk => K0.block k (own_lt ho k hk) (fun hx => by simp at hx; subst hx; exact hl k (by simp [hk]) (by simp)))⟩, rfl⟩
  have HOW := Aside0.mk (Fd.row_own HR)
  have HK := Aside0.mk K0
  have HR0 := Aside0.mk R0
  have HM := Aside0.mk M0
  have HB := Aside0.mk (blk_put (cs' := #[.int .i64 (n + 1), v1, v2, v3, v4, v5, .slice A1 E.length c1, v7, v8, v9, v10, v11, v12]) hb 0 (.int .i64 (n + 1)) rfl)
  have HL := Aside0.mk hl
  have HND := Aside0.mk hnd
  have HG := Aside0.mk hgF
  clear HR K0 R0 M0 hb hl ho hnd hgF
  go_enter Tryz.func137, Tryz.ntmps137
  go_wp2_with fail
  obtain ⟨W, hW⟩ : ∃ W, W = w.setCell ⟨g, 0, none⟩ (.int .i64 (n + 1)) := ⟨_, rfl⟩
  rw [← hW] at HK HR0 HM HB ⊢
  clear hW q0 q1 p0 p1
  have q0 := blk_cell HB.out 0
  have q1 := blk_cell HB.out 6
  have p1 := blk_frozen HB.out 6
  have hlt : g < W.heap.size := blk_lt HB.out
  have hlB : ∀ b ∈ (Value.slice A len c).ownBlock.toList, b < W.heap.size := fun b hx => (fdA 82 4).lt HM.out b hx
  have HN := Aside0.mk (show (F ++ (Value.slice A len c).ownBlock.toList).Nodup from List.nodup_append.2 ⟨(List.nodup_cons.1 HND.out).2, by cases (Value.slice A len c).ownBlock <;> simp, fun a ha b hx e => HL.out b hx (by subst e; simp [ha])⟩)
  have HRD := Aside0.mk (show Fd.Row (fdA 82 4) 187 W.drew F (.slice A1 E.length c1) E from Fd.row_move (w := W) (w1 := W.drew) (fun _ _ => rfl) HR0.out)
  have HMD := Aside0.mk (show (fdA 82 4).M W.drew (Value.slice A len c).ownBlock.toList ⟨.slice A len c, len, n + 1, .slice none 0 0⟩ [.slice A len c, .slice none 0 0, .int .i64 (n + 1)] from (fdA 82 4).move (w := W) (w1 := W.drew) (fun _ _ => rfl) HM.out)
  have HBD := Aside0.mk (show W.drew.heap[g]? = some (.cells #[.int .i64 (n + 1), v1, v2, v3, v4, v5, .slice A1 E.length c1, v7, v8, v9, v10, v11, v12] 44 (0, 0)) from HB.out)
  have HKD := Aside0.mk (HK.out.drew)
  clear hlB HR0 HM
  go_region_law ((refine Fd.R_append_stepH (W := W.drew) (fdA 82 4) rfl (.tmp 15) (.tmp 22) 36 187 (.agg #[.slice none 0 0, .slice none 0 0, .int .i64 0]) 56 rfl Tryz.underlying36 infoHeldHOp rfl (show 0 < 3 from by decide) (by decide) (.slice A1 E.length c1) E ⟨.slice A len c, len, n + 1, .slice none 0 0⟩ [.slice A len c, .slice none 0 0, .int .i64 (n + 1)] F (Value.slice A len c).ownBlock.toList (by simp [Act.eval]) (by simp [Act.eval]) HMD.out HRD.out HN.out (by omega) ?_; intro v' w6 F6 h1 h2 h3 h4 h5; obtain ⟨A2, c2, ev2, _⟩ := Fd.row_reads h1; rw [List.length_append, show ([(⟨.slice A len c, len, n + 1, .slice none 0 0⟩ : Ent)] : List Ent).length = 1 from rfl] at ev2; subst ev2; have bk6 := h3.blk HBD.out (fun hx => HG.out (HOW.out _ hx)); have j1 := blk_frozen bk6 6; have j0 := blk_cell bk6 6; have hlt6 := blk_lt bk6; have BK6 := Aside0.mk bk6; have R6 := Aside0.mk h1; have N6 := Aside0.mk h2; have K6 := Aside0.mk h3; have L6 := Aside0.mk h4; have V6 := Aside0.mk h5; clear h1 h2 h3 h4 h5 bk6))
  all_goals
    go_wp2
    go_end0
    obtain ⟨z1, z2, z3, z4⟩ := keep_finH HND.out HL.out HK.out HOW.out K6.out L6.out V6.out hg 6 (.slice A2 (E.length + 1) c2)
    exact ⟨F6, _, rfl, blk_put BK6.out 6 _ rfl, Fd.row_keeps R6.out ((Keeps.refl [g] w6).setCell (p := ⟨g, 6, none⟩) (.inl (by simp)) _) (fun b hb hx => by simp at hx; subst hx; exact z1 hb), List.nodup_cons.2 ⟨z1, N6.out⟩, z2, z3, z4⟩
end Go.Proofs.YtcohodkpppmaoaaGreatDoor.Q
namespace Go.Proofs.YtcohodkpppmaoaaGreatDoor.Q
open Go.RowKit Go.Proofs.YtcohodkpppmaoaaGreatDoorW.PrintWords Go.Proofs.YtcohodkpppmaoaaGreatDoorW.PrintLast Go.Proofs.YtcohodkpppmaoaaGreatDoorW.PrintMore
set_option linter.unusedVariables false
theorem infoHeldHResult : (Tryz.prog.info? 199).map (fun i => (i.zero, i.size, i.bytes)) = some (some (.agg #[.slice none 0 0, .slice none 0 0, .int .i64 0]), 3, 56) := by kernel_rfl
set_option maxHeartbeats 3200000 in
set_option maxRecDepth 100000 in
theorem keepResult_callsH (w : World) (g : Nat) (n : Int) (v1 v2 v3 v4 v5 v6 v7 v8 v9 v10 v11 v12 : Value) (hb : w.heap[g]? = some (.cells #[.int .i64 n, v1, v2, v3, v4, v5, v6, v7, v8, v9, v10, v11, v12] 44 (0, 0))) (E : List Ent) (F : List Nat) (HR : Fd.Row (fdA 145 1) 199 w F v9 E) (hnd : (g :: F).Nodup)
    (A : Option Addr) (len c : Nat) (inner : List Value) (ho : w.ownsRow 0 145 1 (.slice A len c) len inner) (hl : ∀ b ∈ (Value.slice A len c).ownBlock.toList, b ∉ g :: F) (hE : E.length ≤ 1000000000) (h0 : 0 ≤ n) (h1 : n ≤ 1000000000000) :
    Calls Tryz.prog 150 #[.pointer (some ⟨g, 0, none⟩), .slice A len c] w fun e w' => ∃ F' v', e = .returned (.tuple #[]) ∧ w'.heap[g]? = some (.cells #[.int .i64 (n + 1), v1, v2, v3, v4, v5, v6, v7, v8, v', v10, v11, v12] 44 (0, 0)) ∧
      Fd.Row (fdA 145 1) 199 w' F' v' (E ++ [⟨.slice A len c, len, n + 1, .slice none 0 0⟩]) ∧ (g :: F').Nodup ∧ Keeps (g :: v9.ownBlock.toList) w w' ∧ (∀ b ∈ F', b ∈ F ∨ b ∈ (Value.slice A len c).ownBlock.toList ∨ w.heap.size ≤ b) ∧ ∀ b ∈ v'.ownBlock.toList, b ∈ v9.ownBlock.toList ∨ w.heap.size ≤ b := by
  obtain ⟨A1, c1, ev, hc1, _⟩ := Fd.row_reads HR
  subst ev
  have hu := Tryz.underlying44
  have q0 := blk_cell hb 0
  have q1 := blk_cell hb 9
  have p0 := blk_frozen hb 0
  have p1 := blk_frozen hb 9
  have hg : g < w.heap.size := blk_lt hb
  have hgF : g ∉ F := (List.nodup_cons.1 hnd).1
  have hw1 : IntKind.i64.wrap (n + 1) = n + 1 := IntWalk.i64_in _ (by omega)
  have K0 := (Keeps.refl [g] w).setCell (p := ⟨g, 0, none⟩) (.inl (by simp)) (.int .i64 (n + 1))
  have R0 := Fd.row_keeps HR K0 (fun b hbF hx => by simp at hx; subst hx; exact hgF hbF)
  have M0 : (fdA 145 1).M (w.setCell ⟨g, 0, none⟩ (.int .i64 (n + 1))) (Value.slice A len c).ownBlock.toList ⟨.slice A len c, len, n + 1, .slice none 0 0⟩ [.slice A len c, .slice none 0 0, .int .i64 (n + 1)] :=
    ⟨rfl, rfl, ⟨inner, own_move ho (fun k hk => K0.block k (own_lt ho k hk) (fun hx => by simp at hx; subst hx; exact hl k (by simp [hk]) (by simp)))⟩, rfl⟩
  have HOW := Aside0.mk (Fd.row_own HR)
  have HK := Aside0.mk K0
  have HR0 := Aside0.mk R0
  have HM := Aside0.mk M0
  have HB := Aside0.mk (blk_put (cs' := #[.int .i64 (n + 1), v1, v2, v3, v4, v5, v6, v7, v8, .slice A1 E.length c1, v10, v11, v12]) hb 0 (.int .i64 (n + 1)) rfl)
  have HL := Aside0.mk hl
  have HND := Aside0.mk hnd
  have HG := Aside0.mk hgF
  clear HR K0 R0 M0 hb hl ho hnd hgF
  go_enter Tryz.func150, Tryz.ntmps150
  go_wp2_with fail
  obtain ⟨W, hW⟩ : ∃ W, W = w.setCell ⟨g, 0, none⟩ (.int .i64 (n + 1)) := ⟨_, rfl⟩
  rw [← hW] at HK HR0 HM HB ⊢
  clear hW q0 q1 p0 p1
  have q0 := blk_cell HB.out 0
  have q1 := blk_cell HB.out 9
  have p1 := blk_frozen HB.out 9
  have hlt : g < W.heap.size := blk_lt HB.out
  have hlB : ∀ b ∈ (Value.slice A len c).ownBlock.toList, b < W.heap.size := fun b hx => (fdA 145 1).lt HM.out b hx
  have HN := Aside0.mk (show (F ++ (Value.slice A len c).ownBlock.toList).Nodup from List.nodup_append.2 ⟨(List.nodup_cons.1 HND.out).2, by cases (Value.slice A len c).ownBlock <;> simp, fun a ha b hx e => HL.out b hx (by subst e; simp [ha])⟩)
  have HRD := Aside0.mk (show Fd.Row (fdA 145 1) 199 W.drew F (.slice A1 E.length c1) E from Fd.row_move (w := W) (w1 := W.drew) (fun _ _ => rfl) HR0.out)
  have HMD := Aside0.mk (show (fdA 145 1).M W.drew (Value.slice A len c).ownBlock.toList ⟨.slice A len c, len, n + 1, .slice none 0 0⟩ [.slice A len c, .slice none 0 0, .int .i64 (n + 1)] from (fdA 145 1).move (w := W) (w1 := W.drew) (fun _ _ => rfl) HM.out)
  have HBD := Aside0.mk (show W.drew.heap[g]? = some (.cells #[.int .i64 (n + 1), v1, v2, v3, v4, v5, v6, v7, v8, .slice A1 E.length c1, v10, v11, v12] 44 (0, 0)) from HB.out)
  have HKD := Aside0.mk (HK.out.drew)
  clear hlB HR0 HM
  go_region_law ((refine Fd.R_append_stepH (W := W.drew) (fdA 145 1) rfl (.tmp 15) (.tmp 22) 39 199 (.agg #[.slice none 0 0, .slice none 0 0, .int .i64 0]) 56 rfl Tryz.underlying39 infoHeldHResult rfl (show 0 < 3 from by decide) (by decide) (.slice A1 E.length c1) E ⟨.slice A len c, len, n + 1, .slice none 0 0⟩ [.slice A len c, .slice none 0 0, .int .i64 (n + 1)] F (Value.slice A len c).ownBlock.toList (by simp [Act.eval]) (by simp [Act.eval]) HMD.out HRD.out HN.out (by omega) ?_; intro v' w6 F6 h1 h2 h3 h4 h5; obtain ⟨A2, c2, ev2, _⟩ := Fd.row_reads h1; rw [List.length_append, show ([(⟨.slice A len c, len, n + 1, .slice none 0 0⟩ : Ent)] : List Ent).length = 1 from rfl] at ev2; subst ev2; have bk6 := h3.blk HBD.out (fun hx => HG.out (HOW.out _ hx)); have j1 := blk_frozen bk6 9; have j0 := blk_cell bk6 9; have hlt6 := blk_lt bk6; have BK6 := Aside0.mk bk6; have R6 := Aside0.mk h1; have N6 := Aside0.mk h2; have K6 := Aside0.mk h3; have L6 := Aside0.mk h4; have V6 := Aside0.mk h5; clear h1 h2 h3 h4 h5 bk6))
  all_goals
    go_wp2
    go_end0
    obtain ⟨z1, z2, z3, z4⟩ := keep_finH HND.out HL.out HK.out HOW.out K6.out L6.out V6.out hg 9 (.slice A2 (E.length + 1) c2)
    exact ⟨F6, _, rfl, blk_put BK6.out 9 _ rfl, Fd.row_keeps R6.out ((Keeps.refl [g] w6).setCell (p := ⟨g, 9, none⟩) (.inl (by simp)) _) (fun b hb hx => by simp at hx; subst hx; exact z1 hb), List.nodup_cons.2 ⟨z1, N6.out⟩, z2, z3, z4⟩
end Go.Proofs.YtcohodkpppmaoaaGreatDoor.Q
namespace Go.Proofs.YtcohodkpppmaoaaGreatDoor.Q
open Go.RowKit Go.Proofs.YtcohodkpppmaoaaGreatDoorW.PrintWords Go.Proofs.YtcohodkpppmaoaaGreatDoorW.PrintLast Go.Proofs.YtcohodkpppmaoaaGreatDoorW.PrintMore
set_option linter.unusedVariables false
theorem infoHeldHMsg : (Tryz.prog.info? 170).map (fun i => (i.zero, i.size, i.bytes)) = some (some (.agg #[.slice none 0 0, .slice none 0 0, .int .i64 0]), 3, 56) := by kernel_rfl
set_option maxHeartbeats 3200000 in
set_option maxRecDepth 100000 in
theorem keepMsg_callsH (w : World) (g : Nat) (n : Int) (v1 v2 v3 v4 v5 v6 v7 v8 v9 v10 v11 v12 : Value) (hb : w.heap[g]? = some (.cells #[.int .i64 n, v1, v2, v3, v4, v5, v6, v7, v8, v9, v10, v11, v12] 44 (0, 0))) (E : List Ent) (F : List Nat) (HR : Fd.Row (fdA 50 6) 170 w F v10 E) (hnd : (g :: F).Nodup)
    (A : Option Addr) (len c : Nat) (inner : List Value) (ho : w.ownsRow 0 50 6 (.slice A len c) len inner) (hl : ∀ b ∈ (Value.slice A len c).ownBlock.toList, b ∉ g :: F) (hE : E.length ≤ 1000000000) (h0 : 0 ≤ n) (h1 : n ≤ 1000000000000) :
    Calls Tryz.prog 73 #[.pointer (some ⟨g, 0, none⟩), .slice A len c] w fun e w' => ∃ F' v', e = .returned (.tuple #[]) ∧ w'.heap[g]? = some (.cells #[.int .i64 (n + 1), v1, v2, v3, v4, v5, v6, v7, v8, v9, v', v11, v12] 44 (0, 0)) ∧
      Fd.Row (fdA 50 6) 170 w' F' v' (E ++ [⟨.slice A len c, len, n + 1, .slice none 0 0⟩]) ∧ (g :: F').Nodup ∧ Keeps (g :: v10.ownBlock.toList) w w' ∧ (∀ b ∈ F', b ∈ F ∨ b ∈ (Value.slice A len c).ownBlock.toList ∨ w.heap.size ≤ b) ∧ ∀ b ∈ v'.ownBlock.toList, b ∈ v10.ownBlock.toList ∨ w.heap.size ≤ b := by
  obtain ⟨A1, c1, ev, hc1, _⟩ := Fd.row_reads HR
  subst ev
  have hu := Tryz.underlying44
  have q0 := blk_cell hb 0
  have q1 := blk_cell hb 10
  have p0 := blk_frozen hb 0
  have p1 := blk_frozen hb 10
  have hg : g < w.heap.size := blk_lt hb
  have hgF : g ∉ F := (List.nodup_cons.1 hnd).1
  have hw1 : IntKind.i64.wrap (n + 1) = n + 1 := IntWalk.i64_in _ (by omega)
  have K0 := (Keeps.refl [g] w).setCell (p := ⟨g, 0, none⟩) (.inl (by simp)) (.int .i64 (n + 1))
  have R0 := Fd.row_keeps HR K0 (fun b hbF hx => by simp at hx; subst hx; exact hgF hbF)
  have M0 : (fdA 50 6).M (w.setCell ⟨g, 0, none⟩ (.int .i64 (n + 1))) (Value.slice A len c).ownBlock.toList ⟨.slice A len c, len, n + 1, .slice none 0 0⟩ [.slice A len c, .slice none 0 0, .int .i64 (n + 1)] :=
    ⟨rfl, rfl, ⟨inner, own_move ho (fun k hk => K0.block k (own_lt ho k hk) (fun hx => by simp at hx; subst hx; exact hl k (by simp [hk]) (by simp)))⟩, rfl⟩
  have HOW := Aside0.mk (Fd.row_own HR)
  have HK := Aside0.mk K0
  have HR0 := Aside0.mk R0
  have HM := Aside0.mk M0
  have HB := Aside0.mk (blk_put (cs' := #[.int .i64 (n + 1), v1, v2, v3, v4, v5, v6, v7, v8, v9, .slice A1 E.length c1, v11, v12]) hb 0 (.int .i64 (n + 1)) rfl)
  have HL := Aside0.mk hl
  have HND := Aside0.mk hnd
  have HG := Aside0.mk hgF
  clear HR K0 R0 M0 hb hl ho hnd hgF
  go_enter Tryz.func73, Tryz.ntmps73
  go_wp2_with fail
  obtain ⟨W, hW⟩ : ∃ W, W = w.setCell ⟨g, 0, none⟩ (.int .i64 (n + 1)) := ⟨_, rfl⟩
  rw [← hW] at HK HR0 HM HB ⊢
  clear hW q0 q1 p0 p1
  have q0 := blk_cell HB.out 0
  have q1 := blk_cell HB.out 10
  have p1 := blk_frozen HB.out 10
  have hlt : g < W.heap.size := blk_lt HB.out
  have hlB : ∀ b ∈ (Value.slice A len c).ownBlock.toList, b < W.heap.size := fun b hx => (fdA 50 6).lt HM.out b hx
  have HN := Aside0.mk (show (F ++ (Value.slice A len c).ownBlock.toList).Nodup from List.nodup_append.2 ⟨(List.nodup_cons.1 HND.out).2, by cases (Value.slice A len c).ownBlock <;> simp, fun a ha b hx e => HL.out b hx (by subst e; simp [ha])⟩)
  have HRD := Aside0.mk (show Fd.Row (fdA 50 6) 170 W.drew F (.slice A1 E.length c1) E from Fd.row_move (w := W) (w1 := W.drew) (fun _ _ => rfl) HR0.out)
  have HMD := Aside0.mk (show (fdA 50 6).M W.drew (Value.slice A len c).ownBlock.toList ⟨.slice A len c, len, n + 1, .slice none 0 0⟩ [.slice A len c, .slice none 0 0, .int .i64 (n + 1)] from (fdA 50 6).move (w := W) (w1 := W.drew) (fun _ _ => rfl) HM.out)
  have HBD := Aside0.mk (show W.drew.heap[g]? = some (.cells #[.int .i64 (n + 1), v1, v2, v3, v4, v5, v6, v7, v8, v9, .slice A1 E.length c1, v11, v12] 44 (0, 0)) from HB.out)
  have HKD := Aside0.mk (HK.out.drew)
  clear hlB HR0 HM
  go_region_law ((refine Fd.R_append_stepH (W := W.drew) (fdA 50 6) rfl (.tmp 15) (.tmp 22) 40 170 (.agg #[.slice none 0 0, .slice none 0 0, .int .i64 0]) 56 rfl Tryz.underlying40 infoHeldHMsg rfl (show 0 < 3 from by decide) (by decide) (.slice A1 E.length c1) E ⟨.slice A len c, len, n + 1, .slice none 0 0⟩ [.slice A len c, .slice none 0 0, .int .i64 (n + 1)] F (Value.slice A len c).ownBlock.toList (by simp [Act.eval]) (by simp [Act.eval]) HMD.out HRD.out HN.out (by omega) ?_; intro v' w6 F6 h1 h2 h3 h4 h5; obtain ⟨A2, c2, ev2, _⟩ := Fd.row_reads h1; rw [List.length_append, show ([(⟨.slice A len c, len, n + 1, .slice none 0 0⟩ : Ent)] : List Ent).length = 1 from rfl] at ev2; subst ev2; have bk6 := h3.blk HBD.out (fun hx => HG.out (HOW.out _ hx)); have j1 := blk_frozen bk6 10; have j0 := blk_cell bk6 10; have hlt6 := blk_lt bk6; have BK6 := Aside0.mk bk6; have R6 := Aside0.mk h1; have N6 := Aside0.mk h2; have K6 := Aside0.mk h3; have L6 := Aside0.mk h4; have V6 := Aside0.mk h5; clear h1 h2 h3 h4 h5 bk6))
  all_goals
    go_wp2
    go_end0
    obtain ⟨z1, z2, z3, z4⟩ := keep_finH HND.out HL.out HK.out HOW.out K6.out L6.out V6.out hg 10 (.slice A2 (E.length + 1) c2)
    exact ⟨F6, _, rfl, blk_put BK6.out 10 _ rfl, Fd.row_keeps R6.out ((Keeps.refl [g] w6).setCell (p := ⟨g, 10, none⟩) (.inl (by simp)) _) (fun b hb hx => by simp at hx; subst hx; exact z1 hb), List.nodup_cons.2 ⟨z1, N6.out⟩, z2, z3, z4⟩
end Go.Proofs.YtcohodkpppmaoaaGreatDoor.Q
namespace Go.Proofs.YtcohodkpppmaoaaGreatDoor.Q
open Go.RowKit Go.Proofs.YtcohodkpppmaoaaGreatDoorW.PrintWords Go.Proofs.YtcohodkpppmaoaaGreatDoorW.PrintLast Go.Proofs.YtcohodkpppmaoaaGreatDoorW.PrintMore
set_option linter.unusedVariables false
/-- One kind's kept lists, as they stand: how they lie, their blocks, the list of them. -/
structure Kin where
  d : Fd Ent
  t : Nat
  F : List Nat
  v : Value
  E : List Ent
def allF (l : List Kin) : List Nat := l.flatMap (·.F)
structure Held (w0 w : World) (g : Nat) (bc : Array Value) (l : List Kin) : Prop where
  base : Below w0.heap.size w0 w
  cell : w.heap[g]? = some (.cells bc 44 (0, 0))
  rows : ∀ x ∈ l, Fd.Row x.d x.t w x.F x.v x.E
  nd : (g :: allF l).Nodup
  far : ∀ b ∈ g :: allF l, w0.heap.size ≤ b
section
variable {w0 w w' : World} {g : Nat} {bc bc' : Array Value} {pre post l : List Kin} {x : Kin} {d : Fd Ent} {t : Nat} {F' : List Nat} {v' : Value} {E' : List Ent}
theorem allF_mid (pre post : List Kin) (x : Kin) : allF (pre ++ x :: post) = allF pre ++ (x.F ++ allF post) := by simp [allF, List.flatMap_append]
theorem mem_allF {b : Nat} (hy : x ∈ l) (hb : b ∈ x.F) : b ∈ allF l := List.mem_flatMap.2 ⟨x, hy, hb⟩
theorem Held.nd_at (h : Held w0 w g bc (pre ++ x :: post)) : x.F.Nodup := by
  have h1 := (List.nodup_cons.1 h.nd).2
  rw [allF_mid] at h1
  exact (List.nodup_append.1 (List.nodup_append.1 h1).2.1).1
theorem Held.off_at (h : Held w0 w g bc (pre ++ x :: post)) : g ∉ x.F := fun hx => (List.nodup_cons.1 h.nd).1 (mem_allF (by simp) hx)
theorem Held.far_at (h : Held w0 w g bc (pre ++ x :: post)) : ∀ b ∈ x.F, w0.heap.size ≤ b := fun b hb => h.far b (List.mem_cons_of_mem _ (mem_allF (x := x) (by simp) hb))
theorem Held.row_at (h : Held w0 w g bc (pre ++ x :: post)) : Fd.Row x.d x.t w x.F x.v x.E := h.rows x (by simp)
/-- What one kind's step leaves, whatever of the book's own block it has written. -/
theorem Held.step0 (h : Held w0 w g bc (pre ++ x :: post)) (hc : w'.heap[g]? = some (.cells bc' 44 (0, 0))) (hr : Fd.Row d t w' F' v' E') (hn : F'.Nodup) (L : List Nat) (hk : Keeps (g :: x.F) w w') (hL : ∀ b ∈ L, b ∉ g :: allF (pre ++ x :: post)) (hLf : ∀ b ∈ L, w0.heap.size ≤ b) (hs : ∀ b ∈ F', b ∈ x.F ∨ b ∈ L ∨ w.heap.size ≤ b) (hg : g ∉ F') :
    Held w0 w' g bc' (pre ++ ⟨d, t, F', v', E'⟩ :: post) := by
  have hsz := h.base.size
  have hlt : ∀ y ∈ pre ++ x :: post, ∀ b ∈ y.F, b < w.heap.size := fun y hy b hb => Fd.row_lt (h.rows y hy) b hb
  have hnd := (List.nodup_cons.1 h.nd).2
  have hgn := (List.nodup_cons.1 h.nd).1
  have hL' : ∀ b ∈ L, b ∉ allF (pre ++ x :: post) := fun b hb hx => hL b hb (List.mem_cons_of_mem _ hx)
  rw [allF_mid] at hnd hgn hL'
  obtain ⟨n1, n2, n3⟩ := List.nodup_append.1 hnd
  obtain ⟨m1, m2, m3⟩ := List.nodup_append.1 n2
  have hoth : ∀ y, (y ∈ pre ∨ y ∈ post) → ∀ b ∈ y.F, b ∉ g :: x.F := by
    intro y hy b hb hx
    rcases List.mem_cons.1 hx with rfl | hx
    · refine hgn ?_
      rcases hy with hy | hy
      · exact List.mem_append_left _ (mem_allF hy hb)
      · exact List.mem_append_right _ (List.mem_append_right _ (mem_allF hy hb))
    · rcases hy with hy | hy
      · exact n3 b (mem_allF hy hb) b (List.mem_append_left _ hx) rfl
      · exact m3 b hx b (mem_allF hy hb) rfl
  have hnew : ∀ b ∈ F', ∀ y, (y ∈ pre ∨ y ∈ post) → b ∉ y.F := by
    intro b hb y hy hx
    rcases hs b hb with h1 | h1 | h1
    · exact hoth y hy b hx (List.mem_cons_of_mem _ h1)
    · refine hL' b h1 ?_
      rcases hy with hy | hy
      · exact List.mem_append_left _ (mem_allF hy hx)
      · exact List.mem_append_right _ (List.mem_append_right _ (mem_allF hy hx))
    · have := hlt y (by rcases hy with hy | hy <;> simp [hy]) b hx
      omega
  refine ⟨h.base.trans (hk.below (fun b hb => ?_) hsz), hc, ?_, ?_, ?_⟩
  · rcases List.mem_cons.1 hb with rfl | hb
    · exact h.far _ (by simp)
    · exact h.far_at b hb
  · intro y hy
    simp only [List.mem_append, List.mem_cons] at hy
    rcases hy with hy | rfl | hy
    · exact Fd.row_keeps (h.rows y (by simp [hy])) hk (hoth y (.inl hy))
    · exact hr
    · exact Fd.row_keeps (h.rows y (by simp [hy])) hk (hoth y (.inr hy))
  · rw [allF_mid]
    refine List.nodup_cons.2 ⟨fun hx => ?_, List.nodup_append.2 ⟨n1, List.nodup_append.2 ⟨hn, m2, ?_⟩, ?_⟩⟩
    · rcases List.mem_append.1 hx with hx | hx
      · exact hgn (List.mem_append_left _ hx)
      · rcases List.mem_append.1 hx with hx | hx
        · exact hg hx
        · exact hgn (List.mem_append_right _ (List.mem_append_right _ hx))
    · intro a ha b hb e
      subst e
      obtain ⟨y, hy, hb⟩ := List.mem_flatMap.1 hb
      exact hnew a ha y (.inr hy) hb
    · intro a ha b hb e
      subst e
      rcases List.mem_append.1 hb with hb | hb
      · obtain ⟨y, hy, ha⟩ := List.mem_flatMap.1 ha
        exact hnew a hb y (.inl hy) ha
      · exact n3 a ha a (List.mem_append_right _ hb) rfl
  · intro b hb
    rw [allF_mid] at hb
    rcases List.mem_cons.1 hb with rfl | hb
    · exact h.far _ (by simp)
    · rcases List.mem_append.1 hb with hb | hb
      · exact h.far b (List.mem_cons_of_mem _ (by rw [allF_mid]; exact List.mem_append_left _ hb))
      · rcases List.mem_append.1 hb with hb | hb
        · rcases hs b hb with h1 | h1 | h1
          · exact h.far_at b h1
          · exact hLf b h1
          · omega
        · exact h.far b (List.mem_cons_of_mem _ (by rw [allF_mid]; exact List.mem_append_right _ (List.mem_append_right _ hb)))
/-- The same with the book's own block as it was. -/
theorem Held.step (h : Held w0 w g bc (pre ++ x :: post)) (hr : Fd.Row d t w' F' v' E') (hn : F'.Nodup) (hk : Keeps x.F w w') (hs : ∀ b ∈ F', b ∈ x.F ∨ w.heap.size ≤ b) :
    Held w0 w' g bc (pre ++ ⟨d, t, F', v', E'⟩ :: post) := by
  have hg : g < w.heap.size := blk_lt h.cell
  refine h.step0 (L := []) (hk.blk h.cell h.off_at) hr hn (hk.mono (fun b hb => .inl (List.mem_cons_of_mem _ hb))) (fun _ hx => by cases hx) (fun _ hx => by cases hx) (fun b hb => (hs b hb).imp_right .inr) (fun hx => ?_)
  rcases hs g hx with h1 | h1
  · exact h.off_at h1
  · omega
/-- What the book has not. -/
theorem Held.keeps (h : Held w0 w g bc l) {G : List Nat} (hk : Keeps G w w') (hG : ∀ b ∈ G, b ∉ g :: allF l) (hGf : ∀ b ∈ G, w0.heap.size ≤ b) : Held w0 w' g bc l :=
  ⟨h.base.trans (hk.below hGf h.base.size), hk.blk h.cell (fun hx => hG g hx (by simp)), fun x hx => Fd.row_keeps (h.rows x hx) hk (fun b hb hg => hG b hg (List.mem_cons_of_mem _ (mem_allF hx hb))), h.nd, h.far⟩
theorem Held.below (h : Held w0 w g bc l) (hb : Below w.heap.size w w') : Held w0 w' g bc l := h.keeps (G := []) (Keeps.of_below hb []) (fun _ hx => by cases hx) (fun _ hx => by cases hx)
theorem Held.on1 {k1 k2 k3 k4 : Kin} (h : Held w0 w g bc [k1, k2, k3, k4]) : Fd.Row k1.d k1.t w k1.F k1.v k1.E ∧ k1.F.Nodup ∧ g ∉ k1.F ∧ ∀ b ∈ k1.F, w0.heap.size ≤ b :=
  ⟨Held.row_at (pre := []) (x := k1) (post := [k2, k3, k4]) h, Held.nd_at (pre := []) (x := k1) (post := [k2, k3, k4]) h, Held.off_at (pre := []) (x := k1) (post := [k2, k3, k4]) h, Held.far_at (pre := []) (x := k1) (post := [k2, k3, k4]) h⟩
theorem Held.step1 {k1 k2 k3 k4 : Kin} (h : Held w0 w g bc [k1, k2, k3, k4]) (hr : Fd.Row d t w' F' v' E') (hn : F'.Nodup) (hk : Keeps k1.F w w') (hs : ∀ b ∈ F', b ∈ k1.F ∨ w.heap.size ≤ b) : Held w0 w' g bc [⟨d, t, F', v', E'⟩, k2, k3, k4] :=
  Held.step (pre := []) (x := k1) (post := [k2, k3, k4]) h hr hn hk hs
theorem Held.on2 {k1 k2 k3 k4 : Kin} (h : Held w0 w g bc [k1, k2, k3, k4]) : Fd.Row k2.d k2.t w k2.F k2.v k2.E ∧ k2.F.Nodup ∧ g ∉ k2.F ∧ ∀ b ∈ k2.F, w0.heap.size ≤ b :=
  ⟨Held.row_at (pre := [k1]) (x := k2) (post := [k3, k4]) h, Held.nd_at (pre := [k1]) (x := k2) (post := [k3, k4]) h, Held.off_at (pre := [k1]) (x := k2) (post := [k3, k4]) h, Held.far_at (pre := [k1]) (x := k2) (post := [k3, k4]) h⟩
theorem Held.step2 {k1 k2 k3 k4 : Kin} (h : Held w0 w g bc [k1, k2, k3, k4]) (hr : Fd.Row d t w' F' v' E') (hn : F'.Nodup) (hk : Keeps k2.F w w') (hs : ∀ b ∈ F', b ∈ k2.F ∨ w.heap.size ≤ b) : Held w0 w' g bc [k1, ⟨d, t, F', v', E'⟩, k3, k4] :=
  Held.step (pre := [k1]) (x := k2) (post := [k3, k4]) h hr hn hk hs
theorem Held.on3 {k1 k2 k3 k4 : Kin} (h : Held w0 w g bc [k1, k2, k3, k4]) : Fd.Row k3.d k3.t w k3.F k3.v k3.E ∧ k3.F.Nodup ∧ g ∉ k3.F ∧ ∀ b ∈ k3.F, w0.heap.size ≤ b :=
  ⟨Held.row_at (pre := [k1, k2]) (x := k3) (post := [k4]) h, Held.nd_at (pre := [k1, k2]) (x := k3) (post := [k4]) h, Held.off_at (pre := [k1, k2]) (x := k3) (post := [k4]) h, Held.far_at (pre := [k1, k2]) (x := k3) (post := [k4]) h⟩
theorem Held.step3 {k1 k2 k3 k4 : Kin} (h : Held w0 w g bc [k1, k2, k3, k4]) (hr : Fd.Row d t w' F' v' E') (hn : F'.Nodup) (hk : Keeps k3.F w w') (hs : ∀ b ∈ F', b ∈ k3.F ∨ w.heap.size ≤ b) : Held w0 w' g bc [k1, k2, ⟨d, t, F', v', E'⟩, k4] :=
  Held.step (pre := [k1, k2]) (x := k3) (post := [k4]) h hr hn hk hs
theorem Held.on4 {k1 k2 k3 k4 : Kin} (h : Held w0 w g bc [k1, k2, k3, k4]) : Fd.Row k4.d k4.t w k4.F k4.v k4.E ∧ k4.F.Nodup ∧ g ∉ k4.F ∧ ∀ b ∈ k4.F, w0.heap.size ≤ b :=
  ⟨Held.row_at (pre := [k1, k2, k3]) (x := k4) (post := []) h, Held.nd_at (pre := [k1, k2, k3]) (x := k4) (post := []) h, Held.off_at (pre := [k1, k2, k3]) (x := k4) (post := []) h, Held.far_at (pre := [k1, k2, k3]) (x := k4) (post := []) h⟩
theorem Held.step4 {k1 k2 k3 k4 : Kin} (h : Held w0 w g bc [k1, k2, k3, k4]) (hr : Fd.Row d t w' F' v' E') (hn : F'.Nodup) (hk : Keeps k4.F w w') (hs : ∀ b ∈ F', b ∈ k4.F ∨ w.heap.size ≤ b) : Held w0 w' g bc [k1, k2, k3, ⟨d, t, F', v', E'⟩] :=
  Held.step (pre := [k1, k2, k3]) (x := k4) (post := []) h hr hn hk hs
end
end Go.Proofs.YtcohodkpppmaoaaGreatDoor.Q
namespace Go.Proofs
open Go.Shelf
def Tryz.laysM171_ren : Go.Shelf.Ren := ⟨fun | 171 => 215 | 243 => 223 | 246 => 226 | 283 => 209 | 284 => 210 | 285 => 211 | 286 => 212 | 129 => 217 | 317 => 216 | 318 => 218 | 319 => 219 | 320 => 220 | 337 => 224 | 338 => 225 | n => n, fun | 3 => 3 | 9 => 9 | 2 => 2 | 4 => 4 | 171 => 248 | 0 => 0 | 53 => 159 | 37 => 67 | 5 => 5 | 173 => 251 | 212 => 255 | 51 => 46 | 20 => 20 | 213 => 256 | 46 => 232 | 232 => 262 | 233 => 263 | n => n, fun | 17 => 0 | 18 => 2 | 19 => 3 | n => n⟩
theorem Tryz.laysM171 : Go.Proofs.LaysM.n171 Tryz.prog Tryz.laysM171_ren := {
  mixed := by kernel_rfl
  f129 := Tryz.func217.trans (congrArg some (by kernel_rfl))
  f171 := Tryz.func215.trans (congrArg some (by kernel_rfl))
  f243 := Tryz.func223.trans (congrArg some (by kernel_rfl))
  f246 := Tryz.func226.trans (congrArg some (by kernel_rfl))
  f283 := Tryz.func209.trans (congrArg some (by kernel_rfl))
  f284 := Tryz.func210.trans (congrArg some (by kernel_rfl))
  f285 := Tryz.func211.trans (congrArg some (by kernel_rfl))
  f286 := Tryz.func212.trans (congrArg some (by kernel_rfl))
  f317 := Tryz.func216.trans (congrArg some (by kernel_rfl))
  f318 := Tryz.func218.trans (congrArg some (by kernel_rfl))
  f319 := Tryz.func219.trans (congrArg some (by kernel_rfl))
  f320 := Tryz.func220.trans (congrArg some (by kernel_rfl))
  f337 := Tryz.func224.trans (congrArg some (by kernel_rfl))
  f338 := Tryz.func225.trans (congrArg some (by kernel_rfl))
  t0 := Tryz.underlying0
  a0 := Tryz.isAgg0
  z0 := Tryz.sizeOf0
  v0 := Tryz.zeroValue0
  t2 := Tryz.underlying2
  a2 := Tryz.isAgg2
  z2 := Tryz.sizeOf2
  v2 := Tryz.zeroValue2
  t3 := Tryz.underlying3
  a3 := Tryz.isAgg3
  z3 := Tryz.sizeOf3
  v3 := Tryz.zeroValue3
  t4 := Tryz.underlying4
  a4 := Tryz.isAgg4
  z4 := Tryz.sizeOf4
  v4 := Tryz.zeroValue4
  t5 := Tryz.underlying5
  a5 := Tryz.isAgg5
  z5 := Tryz.sizeOf5
  v5 := Tryz.zeroValue5
  t9 := Tryz.underlying9
  a9 := Tryz.isAgg9
  z9 := Tryz.sizeOf9
  v9 := Tryz.zeroValue9
  t20 := Tryz.underlying20
  a20 := Tryz.isAgg20
  z20 := Tryz.sizeOf20
  v20 := Tryz.zeroValue20
  t37 := Tryz.underlying67
  a37 := Tryz.isAgg67
  z37 := Tryz.sizeOf67
  v37 := Tryz.zeroValue67
  t46 := Tryz.underlying232
  a46 := Tryz.isAgg232
  z46 := Tryz.sizeOf232
  v46 := Tryz.zeroValue232
  t51 := Tryz.underlying46
  a51 := Tryz.isAgg46
  z51 := Tryz.sizeOf46
  v51 := Tryz.zeroValue46
  t53 := Tryz.underlying159
  a53 := Tryz.isAgg159
  z53 := Tryz.sizeOf159
  v53 := Tryz.zeroValue159
  t171 := Tryz.underlying248
  a171 := Tryz.isAgg248
  z171 := Tryz.sizeOf248
  v171 := Tryz.zeroValue248
  t173 := Tryz.underlying251
  a173 := Tryz.isAgg251
  z173 := Tryz.sizeOf251
  v173 := Tryz.zeroValue251
  t212 := Tryz.underlying255
  a212 := Tryz.isAgg255
  z212 := Tryz.sizeOf255
  v212 := Tryz.zeroValue255
  t213 := Tryz.underlying256
  a213 := Tryz.isAgg256
  z213 := Tryz.sizeOf256
  t232 := Tryz.underlying262
  a232 := Tryz.isAgg262
  z232 := Tryz.sizeOf262
  v232 := Tryz.zeroValue262
  t233 := Tryz.underlying263
  a233 := Tryz.isAgg263
  z233 := Tryz.sizeOf263
  v233 := Tryz.zeroValue263
  g17 := by kernel_rfl
  g18 := by kernel_rfl
  g19 := by kernel_rfl
  i0 := by kernel_rfl
  i2 := by kernel_rfl
  i3 := by kernel_rfl
  i4 := by kernel_rfl
  i5 := by kernel_rfl
  i9 := by kernel_rfl
  i20 := by kernel_rfl
  i37 := by kernel_rfl
  i46 := by kernel_rfl
  i51 := by kernel_rfl
  i53 := by kernel_rfl
  i171 := by kernel_rfl
  i173 := by kernel_rfl
  i212 := by kernel_rfl
  i232 := by kernel_rfl
  i233 := by kernel_rfl
  m17 := by kernel_rfl
  m18 := by kernel_rfl
  m19 := by kernel_rfl }
open Go.RowKit Go.Sort Go.Lib in
/-- strconv.Itoa: "Itoa is equivalent to FormatInt(int64(i), 10).": i's DECIMAL NUMERAL ('Lib.itoa': a '-' where i is negative, then the digits), FOR EVERY int. The world behind the call: the world before it, new blocks behind the heap (the library's 'var a [24]byte'), draws. (LAID: no walk: one application.) -/
theorem Tryz.strconv_Itoa (n : Int) (h0 : -9223372036854775808 ≤ n) (h1 : n ≤ 9223372036854775807) (w : World) (htab : Lib.TabIs Tryz.prog w "internal/strconv.uint64pow10" .u64 Lib.pow10Tab) :
    Calls Tryz.prog 215 #[.int .i64 n] w fun e w' => e = .returned (.string ⟨(Lib.itoa n).toArray⟩) ∧ ∃ k os, w' = grow (w.drewN k) os := Any.strconv_Itoa Tryz.laysM171 n h0 h1 w htab
end Go.Proofs
namespace Go.Proofs.YtcohodkpppmaoaaGreatDoor
open Go.RowKit

def keyByte (c : UInt8) : Bool := (97 ≤ c.toNat && c.toNat ≤ 122) || (48 ≤ c.toNat && c.toNat ≤ 57) || c.toNat == 95
def keyRune (c : Int) : Bool := (decide (97 ≤ c) && decide (c ≤ 122)) || (decide (48 ≤ c) && decide (c ≤ 57)) || (c == 95)
def keyChars (l : List UInt8) : Bool := l.all keyByte
def isKey (s : ByteArray) : Bool := decide (1 ≤ s.size) && decide (s.size ≤ 16) && keyChars s.data.toList
theorem keyRune_byte (c : UInt8) : keyRune (c.toNat : Int) = keyByte c := by
  unfold keyRune keyByte
  rw [Bool.eq_iff_iff]
  simp
  omega
theorem keyRune_high (c : Int) (h : 128 ≤ c) : keyRune c = false := by
  unfold keyRune
  rw [Bool.eq_false_iff]
  simp
  omega


theorem ret_bool {a b : Bool} (h : a = b) : Ending.returned (.bool a) = Ending.returned (.bool b) := by rw [h]
theorem below_iter {B : Nat} {a w : World} (h : Below B a w) (hB : B ≤ w.heap.size) (s : ByteArray) (p : Nat) : Below B a (w.iter s p) := h.alloc hB _

theorem keyRune_calls (c : Int) (w : World) :
    Calls Tryz.prog 189 #[.int .i32 c] w fun e w' => e = .returned (.bool (keyRune c)) ∧ w = w' := by
  go_enter Tryz.func189, Tryz.ntmps189
  go_wp2
  all_goals
    go_ret
    refine ⟨ret_bool ?_, rfl⟩
    unfold keyRune
    rw [Bool.eq_iff_iff]
    simp
    omega


theorem keyChars_take_succ (s : ByteArray) (p : Nat) (h : p < s.size) : keyChars (s.data.toList.take (p + 1)) = (keyChars (s.data.toList.take p) && keyByte (s[p]'h)) := by
  have e : s.data.toList.take (p + 1) = s.data.toList.take p ++ [s[p]'h] := by
    rw [List.take_succ_eq_append_getElem (by simpa using h)]; rfl
  rw [e]
  simp [keyChars]
theorem keyChars_no (s : ByteArray) (p : Nat) (h : p < s.size) (hk : keyByte (s[p]'h) = false) : keyChars s.data.toList = false := by
  rw [Bool.eq_false_iff]
  intro ha
  unfold keyChars at ha
  rw [List.all_eq_true] at ha
  have := ha (s[p]'h) (by
    have : s[p]'h = s.data.toList[p]'(by simpa using h) := rfl
    rw [this]; exact List.getElem_mem _)
  rw [hk] at this
  cases this

set_option maxRecDepth 100000 in
theorem all_calls (s : ByteArray) (w : World) (hs : s.size ≤ maxLen) :
    Calls Tryz.prog 188 #[.string s, .func (.func 189) #[] #[]] w fun e w' => e = .returned (.bool (keyChars s.data.toList)) ∧ Below w.heap.size w w' := by
  unfold maxLen at hs
  go_enter Tryz.func188, Tryz.ntmps188
  go_wp2
  go_loopw [4] (fun n wr => ∃ pos : Nat, wr = w.iter s pos ∧ n = .bool false ∧ pos ≤ s.size ∧ keyChars (s.data.toList.take pos) = true) (fun _ wr => s.size - wr.iterPos w.heap.size)
  case atStart => exact ⟨0, rfl, rfl, by omega, rfl⟩
  case round =>
    obtain ⟨pos, rfl, rfl, hp, hk⟩ := hrel
    have HK := Lib.hid hk; clear hk
    by_cases hlt : pos < s.size
    · by_cases ha : (s[pos]'hlt).toNat < 128
      · have hnx : ∀ ty, (Instr.next (.pointer (some ⟨w.heap.size, 0, none⟩)) true ty).run Tryz.prog (w.iter s pos) = _ := fun ty => run_next_ascii w s pos ty hlt ha
        obtain ⟨c, hc⟩ : ∃ c : Int, c = ((s[pos]'hlt).toNat : Int) := ⟨_, rfl⟩
        rw [← hc] at hnx
        have HC := Lib.hid hc; clear hc
        cases hb : keyRune c with
        | true =>
          have HB := Lib.hid hb; clear hb
          go_wp2_with fail
          refine (keyRune_calls c _).mono ?_
          rintro e w' ⟨rfl, rfl⟩
          rw [HB.out]
          go_wp2
          go_roundw
          case rel => exact ⟨pos + 1, rfl, rfl, by omega, by rw [keyChars_take_succ s pos hlt, HK.out, ← keyRune_byte, ← HC.out, HB.out]; rfl⟩
          case measure => simp; omega
        | false =>
          have HB := Lib.hid hb; clear hb
          go_wp2_with fail
          refine (keyRune_calls c _).mono ?_
          rintro e w' ⟨rfl, rfl⟩
          rw [HB.out]
          go_wp2
          go_ret
          exact ⟨ret_bool (by rw [keyChars_no s pos hlt (by rw [← keyRune_byte, ← HC.out, HB.out])]), below_iter (Below.refl _ _) (Nat.le_refl _) _ _⟩
      · have hnx : ∀ ty, (Instr.next (.pointer (some ⟨w.heap.size, 0, none⟩)) true ty).run Tryz.prog (w.iter s pos) = _ := fun ty => run_next_any w s pos ty hlt
        have hh := decode_high s pos hlt (by omega)
        have hno : keyChars s.data.toList = false := keyChars_no s pos hlt (by rw [← keyRune_byte]; exact keyRune_high _ (by omega))
        obtain ⟨c, hc⟩ : ∃ c : Nat, c = (Utf8.decode s pos).1 := ⟨_, rfl⟩
        rw [← hc] at hnx hh
        have HC := Lib.hid hc; clear hc
        have HN := Lib.hid hno; clear hno
        have HR := Lib.hid (keyRune_high (c : Int) (by omega))
        go_wp2_with fail
        refine (keyRune_calls (c : Int) _).mono ?_
        rintro e w' ⟨rfl, rfl⟩
        rw [HR.out]
        go_wp2
        go_ret
        exact ⟨ret_bool (by rw [HN.out]), below_iter (Below.refl _ _) (Nat.le_refl _) _ _⟩
    · have hnx : ∀ ty, (Instr.next (.pointer (some ⟨w.heap.size, 0, none⟩)) true ty).run Tryz.prog (w.iter s pos) = _ := fun ty => run_next_end w s pos ty hlt
      go_wp2
      go_ret
      have e1 : s.data.toList.take pos = s.data.toList := List.take_of_length_le (by simp; omega)
      have hk := HK.out
      rw [e1] at hk
      exact ⟨ret_bool hk.symm, below_iter (Below.refl _ _) (Nat.le_refl _) _ _⟩


theorem isKey_empty (s : ByteArray) (h : s.size = 0) : isKey s = false := by unfold isKey; simp [h]


theorem toList_size (s : ByteArray) (h : s.toList = []) : s.size = 0 := by
  rw [ByteArray.toList_eq] at h
  have h2 := congrArg List.length h
  rw [Array.length_toList] at h2
  exact h2
theorem size_toList (s : ByteArray) (h : s.size = 0) : s.toList = [] := by
  rw [ByteArray.toList_eq]
  exact List.eq_nil_of_length_eq_zero (by rw [Array.length_toList]; exact h)

set_option maxRecDepth 100000 in
theorem check_calls (s : ByteArray) (w : World) :
    Calls Tryz.prog 112 #[.string s] w fun e w' => e = .returned (.bool (isKey s)) ∧ Below w.heap.size w w' := by
  by_cases h0 : s.toList = []
  · have H := Lib.hid (isKey_empty s (toList_size s h0))
    go_enter Tryz.func112, Tryz.ntmps112
    go_wp2
    go_ret
    exact ⟨ret_bool H.out.symm, Below.refl _ _⟩
  · have h0' : !s.toList.isEmpty := by simpa using h0
    by_cases h1 : (s.size : Int) ≤ 16
    · have hs : s.size ≤ maxLen := by unfold maxLen; omega
      have hz : 1 ≤ s.size := by
        rcases Nat.eq_zero_or_pos s.size with h | h
        · exact absurd (size_toList s h) h0
        · exact h
      have H := Lib.hid (show keyChars s.data.toList = isKey s by unfold isKey; simp [hz, show s.size ≤ 16 by omega])
      clear hz
      go_enter Tryz.func112, Tryz.ntmps112
      go_wp2_with fail
      refine (all_calls s _ hs).mono ?_
      rintro e w' ⟨rfl, hb⟩
      rw [H.out]
      go_wp2
      go_ret
      exact ⟨rfl, hb⟩
    · have H := Lib.hid (show isKey s = false by unfold isKey; simp [show ¬ s.size ≤ 16 by omega])
      go_enter Tryz.func112, Tryz.ntmps112
      go_wp2
      go_ret
      exact ⟨ret_bool H.out.symm, Below.refl _ _⟩

namespace Q
/-- keys.Check, as the printed texts call it. -/
def keys_Check.f (a0 : ByteArray) : Option Bool := some (isKey a0)
theorem keys_Check.calls (a0 : ByteArray) (r : Bool) (w : World) (h : keys_Check.f a0 = some r) :
    Calls Tryz.prog 112 #[.string a0] w fun e w' => e = .returned (.bool r) ∧ Below w.heap.size w w' := by
  have e : isKey a0 = r := Option.some.inj h
  subst e
  exact check_calls a0 w
end Q
end Go.Proofs.YtcohodkpppmaoaaGreatDoor
namespace Go.Proofs.YtcohodkpppmaoaaGreatDoor
open Go.RowKit Go.Sort Go.Lib
set_option linter.unusedVariables false

/-- The table is there. -/
def TabOk (w : World) : Prop := Lib.TabIs Tryz.prog w "internal/strconv.uint64pow10" .u64 Lib.pow10Tab
theorem TabOk.below {w w1 : World} (h : TabOk w) (hb : Below w.heap.size w w1) : TabOk w1 := by
  unfold TabOk Lib.TabIs World.var? at *
  cases hg : Tryz.prog.globalNamed "internal/strconv.uint64pow10" with
  | none => simp [hg] at h
  | some g =>
    simp only [hg, Option.bind_some] at h ⊢
    have hlt : g < w.heap.size := by
      rcases Nat.lt_or_ge g w.heap.size with h' | h'
      · exact h'
      · rw [Array.getElem?_eq_none h'] at h; simp at h
    rw [hb.block g hlt]
    exact h
theorem digits_few (u : Nat) (hu : u < 18446744073709551616) : (Lib.decDigits u).length ≤ 20 := by
  rw [Lib.decDigits_length]
  by_cases h : u = 0
  · subst h; simp [Lib.nDigits]
  · have := Lib.numDigits_eq u (by omega) hu
    split at this <;> omega
end Go.Proofs.YtcohodkpppmaoaaGreatDoor
namespace Go.Proofs.YtcohodkpppmaoaaGreatDoor.Q
open Go.RowKit
end Go.Proofs.YtcohodkpppmaoaaGreatDoor.Q
namespace Go.Proofs.YtcohodkpppmaoaaGreatDoor.Q
open Go.RowKit Go.Proofs.YtcohodkpppmaoaaGreatDoorW.PrintWords Go.Proofs.YtcohodkpppmaoaaGreatDoorW.PrintLast Go.Proofs.YtcohodkpppmaoaaGreatDoorW.PrintMore
set_option linter.unusedVariables false
theorem grow_below (w : World) (os : Array Obj) : Below w.heap.size w (Go.Sort.grow w os) := by
  refine ⟨rfl, rfl, rfl, by simp [Go.Sort.grow], fun k hk => ?_⟩
  show (w.heap ++ os)[k]? = _
  rw [Array.getElem?_append_left hk]
def wordOf (n : Int) : ByteArray := (⟨#[35]⟩ : ByteArray) ++ (⟨(Lib.itoa n).toArray⟩ : ByteArray)
def concordatlaw01_word.f (n : Int) : Option ByteArray := if 0 ≤ n ∧ n ≤ 1000000000000000 then some (wordOf n) else none
set_option maxRecDepth 100000 in
theorem word_calls (n : Int) (h0 : 0 ≤ n) (h1 : n ≤ 1000000000000000) (w : World) (htab : TabOk w) :
    Calls Tryz.prog 207 #[.int .i64 n] w fun e w' => e = .returned (.string (wordOf n)) ∧ Below w.heap.size w w' := by
  have hi : Lib.itoa n = Lib.decDigits n.toNat := if_neg (by omega)
  have hl : ¬ 9223372036854775807 < 1 + (Lib.itoa n).length := by have := digits_few n.toNat (by omega); rw [hi]; omega
  have HT := Aside0.mk htab
  clear htab hi
  go_enter Tryz.func207, Tryz.ntmps207
  go_wp2_with fail
  refine (Tryz.strconv_Itoa n (by omega) (by omega) w HT.out).mono ?_
  rintro e w' ⟨rfl, k, os, rfl⟩
  have HB := Aside0.mk (below_step (pw_below_drewN (Below.refl w.heap.size w) k) (grow_below (w.drewN k) os))
  go_wp2
  go_ret
  exact ⟨rfl, HB.out⟩
theorem concordatlaw01_word.calls (a0 : Int) (r : ByteArray) (w : World) (h : concordatlaw01_word.f a0 = some r) (hT0_ : TabOk w) : Calls Tryz.prog 207 #[.int .i64 a0] w fun e w' => e = .returned (.string r) ∧ Below w.heap.size w w' := by
  unfold concordatlaw01_word.f at h
  split at h
  case isFalse => cases h
  rename_i hb
  have hg := Option.some.inj h
  subst hg
  exact word_calls a0 hb.1 hb.2 w hT0_
end Go.Proofs.YtcohodkpppmaoaaGreatDoor.Q
