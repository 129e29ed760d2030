/-
  A bag told by what it holds alone; concordatlaw08.alive: it answers true.
-/
import Derived.Test.YtcohodkpppmaoaaLaw8
namespace Go.Proofs.Ytcohodkpppmaoaa.Q
open Go.RowKit Go.Proofs.YtcohodkpppmaoaaW.PrintWords Go.Proofs.YtcohodkpppmaoaaW.PrintLast Go.Proofs.YtcohodkpppmaoaaW.PrintMore
set_option linter.unusedVariables false

/-- A bag whose blocks were made since w0; w0's are as they were. -/
def BagW (w0 w : World) (g : Nat) (most : Int) (L : List MsgT) : Prop := ∃ F, BagAt w g most L F ∧ (∀ b ∈ F, w0.heap.size ≤ b) ∧ Below w0.heap.size w0 w
section
variable {w0 w w1 : World} {g : Nat} {most : Int} {L L' : List MsgT} {m x : MsgT}
theorem BagW.below (h : BagW w0 w g most L) (hb : Below w.heap.size w w1) : BagW w0 w1 g most L := by
  obtain ⟨F, h1, h2, h3⟩ := h
  exact ⟨F, h1.below hb, h2, below_step h3 hb⟩
theorem BagW.back (h : BagW w0 w g most L) : Below w0.heap.size w0 w := by
  obtain ⟨F, h1, h2, h3⟩ := h
  exact h3
theorem bagW_step {F F' : List Nat} (h2 : ∀ b ∈ F, w0.heap.size ≤ b) (h3 : Below w0.heap.size w0 w) (r : BagAt w1 g most L' F') (k : Keeps F w w1) (l : ∀ b ∈ F', b ∈ F ∨ w.heap.size ≤ b) : BagW w0 w1 g most L' :=
  ⟨F', r, fun b hb => (l b hb).elim (h2 b) (fun h => Nat.le_trans h3.size h), h3.trans (k.below h2 h3.size)⟩
theorem newW (w : World) (most : Int) (h1 : 1 ≤ most) (h2 : most ≤ 256) : Calls Try.prog 31 #[.int .i64 most] w fun e w' => ∃ g, e = .returned (.tuple #[.pointer (some ⟨g, 0, none⟩), .int .i64 0]) ∧ BagW w w' g most [] := by
  refine (new_yes w most h1 h2).mono ?_
  rintro e w' ⟨g, F, rfl, h3, h4, h5⟩
  exact ⟨g, rfl, F, h3, h4, h5⟩
theorem addW (h : BagW w0 w g most L) (hne : (L.length : Int) ≠ most) (hL : L.length ≤ 65536) {v4 v5 : Value} (hm : MsgIn w m v4 v5) (hB : msgB m) :
    Calls Try.prog 26 #[.pointer (some ⟨g, 0, none⟩), .agg (msgCells m v4 v5)] w fun e w' => e = .returned (.int .i64 0) ∧ BagW w0 w' g most (L ++ [m]) := by
  obtain ⟨F, h1, h2, h3⟩ := h
  refine (Add_yes w g most L F m v4 v5 h1 hne hL hm hB).mono ?_
  rintro e w' ⟨F', rfl, r, k, l⟩
  exact ⟨rfl, bagW_step h2 h3 r k l⟩
theorem addFullW (h : BagW w0 w g most L) (hne : (L.length : Int) = most) {v4 v5 : Value} (hm : MsgIn w m v4 v5) :
    Calls Try.prog 26 #[.pointer (some ⟨g, 0, none⟩), .agg (msgCells m v4 v5)] w fun e w' => e = .returned (.int .i64 5) ∧ Below w.heap.size w w' := by
  obtain ⟨F, h1, h2, h3⟩ := h
  exact Add_no w g most L F m v4 v5 h1 hne hm
theorem copyW (h : BagW w0 w g most L) {k : Nat} (hk : L[k]? = some x) (hne : (L.length : Int) ≠ most) (hL : L.length ≤ 65536) (hB : msgB x) :
    Calls Try.prog 27 #[.pointer (some ⟨g, 0, none⟩), .int .i64 k] w fun e w' => e = .returned (.int .i64 0) ∧ BagW w0 w' g most (L ++ [x]) := by
  obtain ⟨F, h1, h2, h3⟩ := h
  refine (Copy_yes w g most L F k x h1 hk hne hL hB).mono ?_
  rintro e w' ⟨F', rfl, r, k, l⟩
  exact ⟨rfl, bagW_step h2 h3 r k l⟩
theorem copyFullW (h : BagW w0 w g most L) {k : Nat} (hk : L[k]? = some x) (hne : (L.length : Int) = most) (hL : L.length ≤ 65536) :
    Calls Try.prog 27 #[.pointer (some ⟨g, 0, none⟩), .int .i64 k] w fun e w' => e = .returned (.int .i64 5) ∧ Below w.heap.size w w' := by
  obtain ⟨F, h1, h2, h3⟩ := h
  exact Copy_full w g most L F k x h1 hk hne hL
theorem copyNoW (h : BagW w0 w g most L) {i : Int} (hi : ¬ (0 ≤ i ∧ i < (L.length : Int))) :
    Calls Try.prog 27 #[.pointer (some ⟨g, 0, none⟩), .int .i64 i] w fun e w' => e = .returned (.int .i64 1) ∧ w = w' := by
  obtain ⟨F, h1, h2, h3⟩ := h
  exact Copy_no w g most L F i h1 hi
theorem takeW (h : BagW w0 w g most L) {k : Nat} (hk : L[k]? = some x) (hL : L.length ≤ 65536) :
    Calls Try.prog 25 #[.pointer (some ⟨g, 0, none⟩), .int .i64 k] w fun e w' => ∃ v4 v5, e = .returned (.tuple #[.agg (msgCells x v4 v5), .int .i64 0]) ∧ MsgIn w' x v4 v5 ∧ BagW w0 w' g most (L.eraseIdx k) := by
  obtain ⟨F, h1, h2, h3⟩ := h
  refine (Take_yes w g most L F k x h1 hk hL).mono ?_
  rintro e w' ⟨v4, v5, F', Fm, rfl, hM, r, hn, hk, hl⟩
  refine ⟨v4, v5, rfl, ?_, bagW_step h2 h3 r hk (fun b hb => .inl (hl b (List.mem_append_left _ hb)))⟩
  obtain ⟨a, b, e, hmi⟩ := MsgIn.of_M hM
  have e1 : msgCells x v4 v5 = msgCells x a b := Array.ext' e
  unfold msgCells at e1
  simp at e1
  rw [e1.1, e1.2]
  exact hmi
theorem takeNoW (h : BagW w0 w g most L) {i : Int} (hi : ¬ (0 ≤ i ∧ i < (L.length : Int))) :
    Calls Try.prog 25 #[.pointer (some ⟨g, 0, none⟩), .int .i64 i] w fun e w' => e = .returned (.tuple #[.agg #[.int .u8 0, .int .u8 0, .int .u8 0, .int .u32 0, .slice none 0 0, .slice none 0 0], .int .i64 1]) ∧ Below w.heap.size w w' := by
  obtain ⟨F, h1, h2, h3⟩ := h
  exact Take_no w g most L F i h1 hi
theorem listW (h : BagW w0 w g most L) (hL : L.length ≤ 65536) (hB : ∀ m ∈ L, msgB m) :
    Calls Try.prog 28 #[.pointer (some ⟨g, 0, none⟩)] w fun e w' => ∃ A c, e = .returned (.slice A L.length c) ∧ L.length ≤ c ∧ k38.C w' A L.length L ∧ Below w.heap.size w w' := by
  obtain ⟨F, h1, h2, h3⟩ := h
  refine (List_calls w g most L F h1 hL hB).mono ?_
  rintro e w' ⟨v, rfl, hb, FL, hrow, _⟩
  obtain ⟨A, c, rfl, hlc, hC⟩ := Fd.row_reads hrow
  exact ⟨A, c, rfl, hlc, hC, hb⟩
theorem isW (h : BagW w0 w g most L) (hL : L.length ≤ 65536) (hB : ∀ m ∈ L, msgB m) (xs : List Int) (A : Option Addr) (c : Nat) (hC : (Kd.int .u32).C w A xs.length xs) (hc : xs.length ≤ c) :
    Calls Try.prog 32 #[.pointer (some ⟨g, 0, none⟩), .slice A xs.length c] w fun e w' => e = .returned (.bool (decide (gs L = xs))) ∧ Below w.heap.size w w' := by
  obtain ⟨F, h1, h2, h3⟩ := h
  exact is_calls w g most L F h1 hL hB xs A c hC hc
end

theorem c_lit {w : World} {g t : Nat} {fr : Nat × Nat} (k : IntKind) (xs : List Int) {cells : Array Value} (hb : w.heap[g]? = some (.cells cells t fr)) (hc : cells = (nums k xs).toArray) (hn : xs.length ≤ 9223372036854775807) : (Kd.int k).C w (some ⟨g, 0, none⟩) xs.length xs := by
  subst hc
  refine ⟨rfl, hn, fun _ => ⟨_, rfl, fun j p hj => ⟨[.int k p], rfl, rfl, fun i u hu => ?_⟩⟩⟩
  match i with
  | 0 =>
    simp at hu
    subst hu
    have h1 : (Kd.int k).sz = 1 := rfl
    rw [h1, Nat.mul_one, Nat.add_zero, add_plain]
    simp [World.cell?, hb, nums, List.getElem?_map, hj]
  | i + 1 => simp at hu

/-- A message of which nothing but its number is told. -/
def bare (n : Int) : MsgT := ⟨0, 0, 0, n, [], []⟩
theorem bare_in (w : World) (n : Int) : MsgIn w (bare n) (.slice none 0 0) (.slice none 0 0) := ⟨none, 0, none, 0, rfl, rfl, Nat.le_refl _, Kd.C_nil _ _, Nat.le_refl _, Kd.C_nil _ _⟩
theorem bare_B (n : Int) : msgB (bare n) := ⟨by simp [bare], by simp [bare], fun r hr => by simp [bare] at hr⟩

set_option maxHeartbeats 3200000 in
set_option maxRecDepth 100000 in
theorem alive_calls (w : World) : Calls Try.prog 29 #[] w fun e w' => e = .returned (.bool true) ∧ Below w.heap.size w w' := by
  go_enter Try.func29, Try.ntmps29
  go_wp2_with fail
  refine (newW w 3 (by decide) (by decide)).mono ?_
  rintro e w1 ⟨g, rfl, hW⟩
  have W1 := Aside0.mk hW
  clear hW
  go_wp2_with fail
  refine (new_no w1 257 (by decide)).mono ?_
  rintro e w' ⟨rfl, rfl⟩
  go_wp2_with fail
  refine (addW (m := bare 1) (v4 := .slice none 0 0) (v5 := .slice none 0 0) W1.out (by decide) (by decide) (bare_in _ _) (bare_B _)).mono ?_
  rintro e w2 ⟨rfl, hW⟩
  have W2 := Aside0.mk hW
  clear hW W1
  go_wp2_with fail
  refine (addW (m := bare 2) (v4 := .slice none 0 0) (v5 := .slice none 0 0) W2.out (by decide) (by decide) (bare_in _ _) (bare_B _)).mono ?_
  rintro e w3 ⟨rfl, hW⟩
  have W3 := Aside0.mk hW
  clear hW W2
  go_wp2_with fail
  refine (copyW (k := 0) (x := bare 1) W3.out rfl (by decide) (by decide) (bare_B _)).mono ?_
  rintro e w4 ⟨rfl, hW⟩
  have W4 := Aside0.mk hW
  clear hW W3
  go_wp2_with fail
  refine (isW (W4.out.below (below_alloc (Below.refl w4.heap.size w4) _)) (by decide) (fun m hm => by simp at hm; rcases hm with rfl | rfl | rfl <;> exact bare_B _) [1, 2, 1] (some ⟨w4.heap.size, 0, none⟩) 3 (c_lit .u32 [1, 2, 1] (blk_new w4 _) rfl (by decide)) (by decide)).mono ?_
  rintro e w5 ⟨rfl, hb⟩
  rw [show decide (gs ([] ++ [bare 1] ++ [bare 2] ++ [bare 1]) = [1, 2, 1]) = true from rfl]
  have W5 := Aside0.mk ((W4.out.below (below_alloc (Below.refl w4.heap.size w4) _)).below hb)
  clear hb W4
  go_wp2_with fail
  refine (copyFullW (k := 0) (x := bare 1) W5.out rfl (by decide) (by decide)).mono ?_
  rintro e w6 ⟨rfl, hb⟩
  have W6 := Aside0.mk (W5.out.below hb)
  clear hb W5
  go_wp2_with fail
  refine (addFullW (m := bare 3) (v4 := .slice none 0 0) (v5 := .slice none 0 0) W6.out (by decide) (bare_in _ _)).mono ?_
  rintro e w7 ⟨rfl, hb⟩
  have W7 := Aside0.mk (W6.out.below hb)
  clear hb W6
  go_wp2_with fail
  refine (takeW (k := 1) (x := bare 2) W7.out rfl (by decide)).mono ?_
  rintro e w8 ⟨x4, x5, rfl, hmi, hW⟩
  have W8 := Aside0.mk hW
  obtain ⟨⟨A4, d4, A5, d5, rfl, rfl, _⟩⟩ := hmi
  clear hW W7
  unfold msgCells bare
  go_wp2_with fail
  have hbw := below_alloc (Below.refl w8.heap.size w8) (.cells #[.int .u8 0, .int .u8 0, .int .u8 0, .int .u32 2, .slice A4 0 d4, .slice A5 0 d5] 38)
  refine (takeNoW (i := 2) (W8.out.below hbw) (by decide)).mono ?_
  rintro e w9 ⟨rfl, hb⟩
  have W9 := Aside0.mk ((W8.out.below hbw).below hb)
  have q3 := cell_later hb (blk_cell (blk_new w8 (.cells #[.int .u8 0, .int .u8 0, .int .u8 0, .int .u32 2, .slice A4 0 d4, .slice A5 0 d5] 38)) 3)
  have hz9 : w8.heap.size < w9.heap.size := by
    have := hb.size
    rw [alloc_size'] at this
    omega
  have BB9 := Aside0.mk (W9.out.back)
  clear hb W8 hbw
  go_wp2_with fail
  refine (isW (W9.out.below (below_alloc (below_alloc (Below.refl w9.heap.size w9) _) _)) (by decide) (fun m hm => by
    have hm' : m = bare 1 ∨ m = bare 1 := by simpa using hm
    rcases hm' with rfl | rfl <;> exact bare_B _) [1, 1] (some ⟨w9.heap.size + 1, 0, none⟩) 2 (c_lit .u32 [1, 1] (by
      have := blk_new (w9.alloc (.cells #[.int .u8 0, .int .u8 0, .int .u8 0, .int .u32 0, .slice none 0 0, .slice none 0 0] 38)) (.cells #[.int .u32 1, .int .u32 1] 24)
      rw [alloc_size'] at this
      exact this) rfl (by decide)) (by decide)).mono ?_
  rintro e w10 ⟨rfl, hb⟩
  rw [show decide (gs ((([] : List MsgT) ++ [bare 1] ++ [bare 2] ++ [bare 1]).eraseIdx 1) = [1, 1]) = true from rfl]
  have W10 := Aside0.mk ((W9.out.below (below_alloc (below_alloc (Below.refl w9.heap.size w9) (.cells #[.int .u8 0, .int .u8 0, .int .u8 0, .int .u32 0, .slice none 0 0, .slice none 0 0] 38)) (.cells #[.int .u32 1, .int .u32 1] 24))).below hb)
  clear hb W9
  go_wp2_with fail
  refine (copyNoW (i := -1) W10.out (by decide)).mono ?_
  rintro e w' ⟨rfl, rfl⟩
  go_wp2
  go_ret
  exact ⟨rfl, W10.out.back⟩
end Go.Proofs.Ytcohodkpppmaoaa.Q
