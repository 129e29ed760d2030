/-
  Contracts of layer 8 (bags): Take at a place where there is none; a bag that is not there; Copy.
-/
import Derived.Test.YtcohodkpppmaoaaTake
namespace Go.Proofs.Ytcohodkpppmaoaa.Q
open Go.RowKit Go.Proofs.YtcohodkpppmaoaaW.PrintWords Go.Proofs.YtcohodkpppmaoaaW.PrintLast Go.Proofs.YtcohodkpppmaoaaW.PrintMore
set_option linter.unusedVariables false

/-- A place where there is none: nothing is taken. -/
theorem Take_no (w : World) (g : Nat) (most : Int) (L : List MsgT) (F : List Nat) (i : Int) (hR : BagAt w g most L F) (hi : ¬ (0 ≤ i ∧ i < (L.length : Int))) :
    Calls Try.prog 25 #[.pointer (some ⟨g, 0, none⟩), .int .i64 i] w fun e w' => e = .returned (.tuple #[.agg #[.int .u8 0, .int .u8 0, .int .u8 0, .int .u32 0, .slice none 0 0, .slice none 0 0], .int .i64 1]) ∧ Below w.heap.size w w' := by
  obtain ⟨h, G, hg, ⟨v, hb, hr⟩, rfl, hnd⟩ := hR
  obtain ⟨A, c, rfl, _⟩ := Fd.row_reads hr
  have hu := Try.underlying38
  have q0 := blk_cell hg 0
  have p0 := blk_cell hb 0
  have HHA := Aside0.mk (show hasB i L.length = false by unfold hasB; rw [Bool.eq_false_iff]; simpa using hi)
  clear hg hb hr hnd hi
  go_enter Try.func25, Try.ntmps25
  go_wp2_with fail
  refine (ask_calls _ g h L.length c A i (cell_later (below_alloc (Below.refl w.heap.size w) _) q0) (cell_later (below_alloc (Below.refl w.heap.size w) _) p0)).mono ?_
  rintro e w' ⟨rfl, rfl⟩
  rw [HHA.out, if_neg (by decide)]
  go_wp2
  try simp only [Exit.inBlock, Exit.then]
  refine bodyPost_ret (results_ct rfl _ _ w.heap.size 38 #[.int .u8 0, .int .u8 0, .int .u8 0, .int .u32 0, .slice none 0 0, .slice none 0 0] (0, 0) _ rfl (blk_new w _) hu rfl (by kernel_rfl)) rfl ?_
  exact ⟨rfl, below_alloc (Below.refl _ _) _⟩
theorem ask_none (w : World) (i : Int) : Calls Try.prog 63 #[.pointer none, .int .i64 i] w fun e w' => e = .returned (.int .i64 2) ∧ w = w' := by
  go_enter Try.func63, Try.ntmps63
  go_wp2_with fail
  refine (there_none _).mono ?_
  rintro e w' ⟨rfl, rfl⟩
  go_wp2
  go_ret
  exact ⟨rfl, rfl⟩
theorem ask_empty (w : World) (g : Nat) (hg : w.cell? ⟨g, 0, none⟩ = some (.pointer none)) (i : Int) : Calls Try.prog 63 #[.pointer (some ⟨g, 0, none⟩), .int .i64 i] w fun e w' => e = .returned (.int .i64 2) ∧ w = w' := by
  go_enter Try.func63, Try.ntmps63
  go_wp2_with fail
  refine (there_empty _ g hg).mono ?_
  rintro e w' ⟨rfl, rfl⟩
  go_wp2
  go_ret
  exact ⟨rfl, rfl⟩
/-- A bag that is not there, or that no call made. -/
def NoBag (w : World) (p : Option Addr) : Prop := p = none ∨ ∃ g, p = some ⟨g, 0, none⟩ ∧ w.cell? ⟨g, 0, none⟩ = some (.pointer none)
theorem NoBag.below {w w1 : World} {p : Option Addr} (h : NoBag w p) (hb : Below w.heap.size w w1) : NoBag w1 p := by
  rcases h with h | ⟨g, h, hc⟩
  · exact .inl h
  · exact .inr ⟨g, h, cell_later hb hc⟩
theorem ask_nobag (w : World) (p : Option Addr) (hp : NoBag w p) (i : Int) : Calls Try.prog 63 #[.pointer p, .int .i64 i] w fun e w' => e = .returned (.int .i64 2) ∧ w = w' := by
  rcases hp with rfl | ⟨g, rfl, hc⟩
  · exact ask_none w i
  · exact ask_empty w g hc i
theorem Take_nobag (w : World) (p : Option Addr) (hp : NoBag w p) (i : Int) :
    Calls Try.prog 25 #[.pointer p, .int .i64 i] w fun e w' => e = .returned (.tuple #[.agg #[.int .u8 0, .int .u8 0, .int .u8 0, .int .u32 0, .slice none 0 0, .slice none 0 0], .int .i64 2]) ∧ Below w.heap.size w w' := by
  have hu := Try.underlying38
  have HP := Aside0.mk hp
  clear hp
  go_enter Try.func25, Try.ntmps25
  go_wp2_with fail
  refine (ask_nobag _ p (HP.out.below (below_alloc (Below.refl w.heap.size w) _)) i).mono ?_
  rintro e w' ⟨rfl, rfl⟩
  go_wp2
  try simp only [Exit.inBlock, Exit.then]
  refine bodyPost_ret (results_ct rfl _ _ w.heap.size 38 #[.int .u8 0, .int .u8 0, .int .u8 0, .int .u32 0, .slice none 0 0, .slice none 0 0] (0, 0) _ rfl (blk_new w _) hu rfl (by kernel_rfl)) rfl ?_
  exact ⟨rfl, below_alloc (Below.refl _ _) _⟩
theorem Copy_nobag (w : World) (p : Option Addr) (hp : NoBag w p) (i : Int) :
    Calls Try.prog 27 #[.pointer p, .int .i64 i] w fun e w' => e = .returned (.int .i64 2) ∧ w = w' := by
  have HP := Aside0.mk hp
  clear hp
  go_enter Try.func27, Try.ntmps27
  go_wp2_with fail
  refine (ask_nobag _ p HP.out i).mono ?_
  rintro e w' ⟨rfl, rfl⟩
  go_wp2
  go_ret
  exact ⟨rfl, rfl⟩
theorem there_nobag (w : World) (p : Option Addr) (hp : NoBag w p) : Calls Try.prog 65 #[.pointer p] w fun e w' => e = .returned (.bool false) ∧ w = w' := by
  rcases hp with rfl | ⟨g, rfl, hc⟩
  · exact there_none w
  · exact there_empty w g hc
theorem List_nobag (w : World) (p : Option Addr) (hp : NoBag w p) :
    Calls Try.prog 28 #[.pointer p] w fun e w' => e = .returned (.slice none 0 0) ∧ w = w' := by
  have HP := Aside0.mk hp
  clear hp
  go_enter Try.func28, Try.ntmps28
  go_wp2_with fail
  refine (there_nobag _ p HP.out).mono ?_
  rintro e w' ⟨rfl, rfl⟩
  go_wp2
  go_ret
  exact ⟨rfl, rfl⟩
theorem Add_nobag (w : World) (p : Option Addr) (hp : NoBag w p) (m : MsgT) (v4 v5 : Value) (hm : MsgIn w m v4 v5) :
    Calls Try.prog 26 #[.pointer p, .agg (msgCells m v4 v5)] w fun e w' => e = .returned (.int .i64 2) ∧ Below w.heap.size w w' := by
  rcases hp with rfl | ⟨g, rfl, hc⟩
  · exact Add_none w m v4 v5 hm
  · exact Add_empty w g hc m v4 v5 hm

/-! ### Copy -/
set_option maxHeartbeats 3200000 in
set_option maxRecDepth 100000 in
theorem Copy_yes (w : World) (g : Nat) (most : Int) (L : List MsgT) (F : List Nat) (k : Nat) (x : MsgT) (hR : BagAt w g most L F) (hk : L[k]? = some x) (hne : (L.length : Int) ≠ most) (hL : L.length ≤ 65536) (hB : msgB x) :
    Calls Try.prog 27 #[.pointer (some ⟨g, 0, none⟩), .int .i64 k] w (AddedPost w g most L F x) := by
  have HR := Aside0.mk hR
  obtain ⟨h, G, hg, hr, rfl, hnd⟩ := hR
  obtain ⟨gl, c, v4, v5, c0, c1, G0, Gm, G1, hb, ho, h0, hE0, hM, hE1, rfl⟩ := hr.open_ hk
  have hkl : k < L.length := (List.getElem?_eq_some_iff.1 hk).1
  have hkn : (k : Int) < (L.length : Int) := by omega
  have q0 := blk_cell hg 0
  have p0 := blk_cell hb 0
  have HHA := Aside0.mk (show hasB (k : Int) L.length = true by unfold hasB; simp; omega)
  obtain ⟨k0, k1, k2, k3, k4, k5⟩ := cells_at ho h0
  have hMI : MsgIn w x v4 v5 := by
    obtain ⟨a, b, e, hmi⟩ := MsgIn.of_M hM
    have e1 : msgCells x v4 v5 = msgCells x a b := Array.ext' e
    unfold msgCells at e1
    simp at e1
    rw [e1.1, e1.2]
    exact hmi
  have HMI := Aside0.mk hMI
  have HB := Aside0.mk hB
  have HNE := Aside0.mk hne
  obtain ⟨⟨A4, d4, A5, d5, e4, e5, _⟩⟩ := hMI
  subst e4; subst e5
  clear hg hb ho h0 hE0 hE1 hM hnd hk hr hB hne
  go_enter Try.func27, Try.ntmps27
  go_wp2_with fail
  refine (ask_calls _ g h L.length c (some ⟨gl, 0, none⟩) (k : Int) q0 p0).mono ?_
  rintro e w' ⟨rfl, rfl⟩
  rw [HHA.out, if_pos rfl]
  go_wp2_with fail
  refine (Add_yes _ g most L _ x _ _ HR.out HNE.out hL HMI.out HB.out).mono ?_
  rintro e w5 ⟨F', rfl, r5, k5, l5⟩
  have R5 := Aside0.mk (And.intro r5 (And.intro k5 l5))
  clear r5 k5 l5
  go_wp2
  go_ret
  exact ⟨F', rfl, R5.out.1, R5.out.2.1, R5.out.2.2⟩
set_option maxRecDepth 100000 in
theorem Copy_full (w : World) (g : Nat) (most : Int) (L : List MsgT) (F : List Nat) (k : Nat) (x : MsgT) (hR : BagAt w g most L F) (hk : L[k]? = some x) (hne : (L.length : Int) = most) (hL : L.length ≤ 65536) :
    Calls Try.prog 27 #[.pointer (some ⟨g, 0, none⟩), .int .i64 k] w fun e w' => e = .returned (.int .i64 5) ∧ Below w.heap.size w w' := by
  have HR := Aside0.mk hR
  obtain ⟨h, G, hg, hr, rfl, hnd⟩ := hR
  obtain ⟨gl, c, v4, v5, c0, c1, G0, Gm, G1, hb, ho, h0, hE0, hM, hE1, rfl⟩ := hr.open_ hk
  have hkl : k < L.length := (List.getElem?_eq_some_iff.1 hk).1
  have hkn : (k : Int) < (L.length : Int) := by omega
  have q0 := blk_cell hg 0
  have p0 := blk_cell hb 0
  have HHA := Aside0.mk (show hasB (k : Int) L.length = true by unfold hasB; simp; omega)
  obtain ⟨k0, k1, k2, k3, k4, k5⟩ := cells_at ho h0
  have hMI : MsgIn w x v4 v5 := by
    obtain ⟨a, b, e, hmi⟩ := MsgIn.of_M hM
    have e1 : msgCells x v4 v5 = msgCells x a b := Array.ext' e
    unfold msgCells at e1
    simp at e1
    rw [e1.1, e1.2]
    exact hmi
  have HMI := Aside0.mk hMI
  have HNE := Aside0.mk hne
  obtain ⟨⟨A4, d4, A5, d5, e4, e5, _⟩⟩ := hMI
  subst e4; subst e5
  clear hg hb ho h0 hE0 hE1 hM hnd hk hr hne
  go_enter Try.func27, Try.ntmps27
  go_wp2_with fail
  refine (ask_calls _ g h L.length c (some ⟨gl, 0, none⟩) (k : Int) q0 p0).mono ?_
  rintro e w' ⟨rfl, rfl⟩
  rw [HHA.out, if_pos rfl]
  go_wp2_with fail
  refine (Add_no _ g most L _ x _ _ HR.out HNE.out HMI.out).mono ?_
  rintro e w5 ⟨rfl, hb5⟩
  have B5 := Aside0.mk hb5
  clear hb5
  go_wp2
  go_ret
  exact ⟨rfl, B5.out⟩
theorem Copy_no (w : World) (g : Nat) (most : Int) (L : List MsgT) (F : List Nat) (i : Int) (hR : BagAt w g most L F) (hi : ¬ (0 ≤ i ∧ i < (L.length : Int))) :
    Calls Try.prog 27 #[.pointer (some ⟨g, 0, none⟩), .int .i64 i] w fun e w' => e = .returned (.int .i64 1) ∧ w = w' := by
  obtain ⟨h, G, hg, ⟨v, hb, hr⟩, rfl, hnd⟩ := hR
  obtain ⟨A, c, rfl, _⟩ := Fd.row_reads hr
  have q0 := blk_cell hg 0
  have p0 := blk_cell hb 0
  have HHA := Aside0.mk (show hasB i L.length = false by unfold hasB; rw [Bool.eq_false_iff]; simpa using hi)
  clear hg hb hr hnd hi
  go_enter Try.func27, Try.ntmps27
  go_wp2_with fail
  refine (ask_calls _ g h L.length c A i q0 p0).mono ?_
  rintro e w' ⟨rfl, rfl⟩
  rw [HHA.out, if_neg (by decide)]
  go_wp2
  go_ret
  exact ⟨rfl, rfl⟩
end Go.Proofs.Ytcohodkpppmaoaa.Q
