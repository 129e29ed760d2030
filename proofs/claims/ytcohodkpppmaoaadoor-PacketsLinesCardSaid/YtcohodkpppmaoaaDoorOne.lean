
/-
  One op, one change, one row off the reader.
-/
import Derived.Test.YtcohodkpppmaoaaDoorRd
namespace Go.Proofs.YtcohodkpppmaoaaDoor.Q
open Go.RowKit Go.Proofs.YtcohodkpppmaoaaDoorW.PrintWords Go.Proofs.YtcohodkpppmaoaaDoorW.PrintLast Go.Proofs.YtcohodkpppmaoaaDoorW.PrintMore
set_option linter.unusedVariables false

def opR (s : RdS) : S62 := ⟨numR s 1 % 256, textR (takeS s 1), textR (textS (takeS s 1)), numR (textS (textS (takeS s 1))) 4⟩
def opS (s : RdS) : RdS := takeS (textS (textS (takeS s 1))) 4
def rowR (s : RdS) : S93 := ⟨textR s, numR (textS s) 4⟩
def rowS (s : RdS) : RdS := takeS (textS s) 4

/-- What was there, and is not the reader's block, stays: a cell. -/
theorem keep_cells {w w1 : World} {g b t : Nat} {cs : Array Value} (hb : w.heap[b]? = some (.cells cs t (0, 0))) (hne : b ≠ g) (hK : KeepBut w w1 g none) : w1.heap[b]? = some (.cells cs t (0, 0)) := hK.blk hb hne (by simp)

theorem Rd.alloc {w0 w : World} {g : Nat} {s : RdS} (h : Rd w0 w g s) (o : Obj) : Rd w0 (w.alloc o) g s := h.grown (below_alloc (Below.refl _ _) o)
theorem Rd.set {w0 w : World} {g b : Nat} {s : RdS} (h : Rd w0 w g s) (hb : g ≠ b) (h0 : w0.heap.size ≤ b) (j : Nat) (u : Value) : Rd w0 (w.setCell ⟨b, j, none⟩ u) g s := by
  obtain ⟨A, c, hr, h1, h2, h3⟩ := h.row
  exact ⟨h.below.setCell h0 _, h.far, ⟨A, c, blk_far hr hb u, h1, h2, h3⟩, h.bytes⟩
theorem Rd.lt {w0 w : World} {g : Nat} {s : RdS} (h : Rd w0 w g s) : g < w.heap.size := by
  obtain ⟨A, c, hr, _⟩ := h.row
  exact blk_lt hr
theorem keep_new {w W : World} {g b : Nat} (h : KeepBut w W g none) (hb : w.heap.size ≤ b) (j : Nat) (u : Value) : KeepBut w (W.setCell ⟨b, j, none⟩ u) g none := keep_far h (p := ⟨b, j, none⟩) hb u
theorem keep_then {w w1 w2 : World} {g : Nat} (h : KeepBut w w1 g none) (k : KeepBut w1 w2 g none) : KeepBut w w2 g none := h.trans k (.inl rfl)

theorem blk4 {w : World} {g t : Nat} {a b c d : Value} (h : w.heap[g]? = some (.cells #[a, b, c, d] t (0, 0))) : (w.cell? ⟨g, 0, none⟩ = some a ∧ w.cell? ⟨g, 1, none⟩ = some b ∧ w.cell? ⟨g, 2, none⟩ = some c ∧ w.cell? ⟨g, 3, none⟩ = some d) ∧ (w.frozen? ⟨g, 0, none⟩ = false ∧ w.frozen? ⟨g, 1, none⟩ = false ∧ w.frozen? ⟨g, 2, none⟩ = false ∧ w.frozen? ⟨g, 3, none⟩ = false) :=
  ⟨⟨blk_cell h 0, blk_cell h 1, blk_cell h 2, blk_cell h 3⟩, ⟨blk_frozen h 0, blk_frozen h 1, blk_frozen h 2, blk_frozen h 3⟩⟩
theorem blk3 {w : World} {g t : Nat} {a b c : Value} (h : w.heap[g]? = some (.cells #[a, b, c] t (0, 0))) : (w.cell? ⟨g, 0, none⟩ = some a ∧ w.cell? ⟨g, 1, none⟩ = some b ∧ w.cell? ⟨g, 2, none⟩ = some c) ∧ (w.frozen? ⟨g, 0, none⟩ = false ∧ w.frozen? ⟨g, 1, none⟩ = false ∧ w.frozen? ⟨g, 2, none⟩ = false) :=
  ⟨⟨blk_cell h 0, blk_cell h 1, blk_cell h 2⟩, ⟨blk_frozen h 0, blk_frozen h 1, blk_frozen h 2⟩⟩
theorem blk2 {w : World} {g t : Nat} {a b : Value} (h : w.heap[g]? = some (.cells #[a, b] t (0, 0))) : (w.cell? ⟨g, 0, none⟩ = some a ∧ w.cell? ⟨g, 1, none⟩ = some b) ∧ (w.frozen? ⟨g, 0, none⟩ = false ∧ w.frozen? ⟨g, 1, none⟩ = false) :=
  ⟨⟨blk_cell h 0, blk_cell h 1⟩, ⟨blk_frozen h 0, blk_frozen h 1⟩⟩

set_option maxHeartbeats 1600000 in
set_option maxRecDepth 100000 in
theorem oneOp_calls (w0 w : World) (g : Nat) (s : RdS) (h : Rd w0 w g s) :
    Calls Tryd.prog 65 #[.pointer (some ⟨g, 0, none⟩)] w fun e w' => e = .returned (.agg #[.int .u8 (opR s).f0, .string (opR s).f1, .string (opR s).f2, .int .u32 (opR s).f3]) ∧ Rd w0 w' g (opS s) ∧ KeepBut w w' g none := by
  unfold opR opS
  dsimp only
  have hu := Tryd.underlying62
  have H := Aside0.mk h
  have hlt : g < w.heap.size := h.lt
  have h0 : w0.heap.size ≤ w.heap.size := h.below.size
  have hgb : g ≠ w.heap.size := by omega
  clear h
  go_enter Tryd.func65, Tryd.ntmps65
  go_wp2_with fail
  refine (number_calls w0 _ g s 1 (by omega) (H.out.alloc _)).mono ?_
  rintro e w1 ⟨rfl, hR, hK⟩
  have B1 := keep_cells (blk_new w (.cells #[.int .u8 0, .string ⟨#[]⟩, .string ⟨#[]⟩, .int .u32 0] 62)) (Ne.symm hgb) hK
  have K1 := Aside0.mk (keep_then (KeepBut.of_below (below_alloc (Below.refl w.heap.size w) (.cells #[.int .u8 0, .string ⟨#[]⟩, .string ⟨#[]⟩, .int .u32 0] 62)) g none) hK)
  have R1 := Aside0.mk hR
  clear hR hK
  obtain ⟨⟨c0, c1, c2, c3⟩, f0, f1, f2, f3⟩ := blk4 B1
  have B1' := Aside0.mk (blk_put B1 0 (.int .u8 (numR s 1 % 256)) (cs' := #[.int .u8 (numR s 1 % 256), .string ⟨#[]⟩, .string ⟨#[]⟩, .int .u32 0]) rfl)
  clear B1
  go_wp2_with fail
  clear c0 c1 c2 c3 f0 f1 f2 f3
  refine (text_calls w0 _ g _ (R1.out.set hgb h0 0 _)).mono ?_
  rintro e w2 ⟨rfl, hR, hK⟩
  have R2 := Aside0.mk hR
  have K2 := Aside0.mk (keep_then (keep_new K1.out (Nat.le_refl _) 0 _) hK)
  have B2 := Aside0.mk (keep_cells B1'.out (Ne.symm hgb) hK)
  clear hR hK B1' R1 K1
  go_wp2_with fail
  refine (text_calls w0 _ g _ R2.out).mono ?_
  rintro e w3 ⟨rfl, hR, hK⟩
  have R3 := Aside0.mk hR
  have K3 := Aside0.mk (keep_then K2.out hK)
  have B3 := keep_cells B2.out (Ne.symm hgb) hK
  clear hR hK B2 R2 K2
  obtain ⟨⟨c0, c1, c2, c3⟩, f0, f1, f2, f3⟩ := blk4 B3
  have B3' := Aside0.mk (blk_put (blk_put B3 1 (.string (textR (takeS s 1))) rfl) 2 (.string (textR (textS (takeS s 1)))) (cs' := #[.int .u8 (numR s 1 % 256), .string (textR (takeS s 1)), .string (textR (textS (takeS s 1))), .int .u32 0]) rfl)
  clear B3
  go_wp2_with fail
  clear c0 c1 c2 c3 f0 f1 f2 f3
  refine (number_calls w0 _ g _ 4 (by omega) ((R3.out.set hgb h0 1 _).set hgb h0 2 _)).mono ?_
  rintro e w4 ⟨rfl, hR, hK⟩
  have R4 := Aside0.mk hR
  have K4 := Aside0.mk (keep_then (keep_new (keep_new K3.out (Nat.le_refl _) 1 _) (Nat.le_refl _) 2 _) hK)
  have B4 := keep_cells B3'.out (Ne.symm hgb) hK
  clear hR hK B3' R3 K3
  obtain ⟨⟨c0, c1, c2, c3⟩, f0, f1, f2, f3⟩ := blk4 B4
  have B4' := Aside0.mk B4
  clear B4
  go_wp2
  try simp only [Exit.inBlock, Exit.then]
  refine bodyPost_ret (results_cell_row rfl _ _ w.heap.size 62 _ (0, 0) _ rfl (blk_put (cs' := #[.int .u8 (numR s 1 % 256), .string (textR (takeS s 1)), .string (textR (textS (takeS s 1))), .int .u32 (numR (textS (textS (takeS s 1))) 4)]) (blk_put (cs' := #[.int .u8 (numR s 1 % 256), .string (textR (takeS s 1)), .string (textR (textS (takeS s 1))), .int .u32 (numR (textS (textS (takeS s 1))) 4)]) (blk_put (cs' := #[.int .u8 (numR s 1 % 256), .string (textR (takeS s 1)), .string (textR (textS (takeS s 1))), .int .u32 (numR (textS (textS (takeS s 1))) 4)]) (blk_put (cs' := #[.int .u8 (numR s 1 % 256), .string (textR (takeS s 1)), .string (textR (textS (takeS s 1))), .int .u32 (numR (textS (textS (takeS s 1))) 4)]) (blk_put (cs' := #[.int .u8 (numR s 1 % 256), .string (textR (takeS s 1)), .string (textR (textS (takeS s 1))), .int .u32 (numR (textS (textS (takeS s 1))) 4)]) B4'.out 3 _ rfl) 0 _ rfl) 1 _ rfl) 2 _ rfl) 3 _ rfl) hu rfl (by kernel_rfl)) rfl ?_
  refine ⟨rfl, ?_, ?_⟩
  · repeat (first | exact R4.out | refine Rd.set ?_ hgb h0 _ _)
  · repeat (first | exact K4.out | refine keep_new ?_ (Nat.le_refl _) _ _)

set_option maxHeartbeats 1600000 in
set_option maxRecDepth 100000 in
theorem oneRow_calls (w0 w : World) (g b : Nat) (s : RdS) (h : Rd w0 w g s) (hb : w.heap[b]? = some (.cells #[.pointer (some ⟨g, 0, none⟩)] 107 (0, 0))) (hne : b ≠ g) :
    Calls Tryd.prog 71 #[.pointer (some ⟨b, 0, none⟩)] w fun e w' => e = .returned (.agg #[.string (rowR s).f0, .int .u32 (rowR s).f1]) ∧ Rd w0 w' g (rowS s) ∧ KeepBut w w' g none := by
  unfold rowR rowS
  dsimp only
  have hu := Tryd.underlying93
  have H := Aside0.mk h
  have hlt : g < w.heap.size := h.lt
  have hlb : b < w.heap.size := blk_lt hb
  have h0 : w0.heap.size ≤ w.heap.size := h.below.size
  have hgb : g ≠ w.heap.size := by omega
  have hbb : b ≠ w.heap.size := by omega
  have hcb : w.cell? ⟨b, 0, none⟩ = some (.pointer (some ⟨g, 0, none⟩)) := blk_cell hb 0
  have HBB := Aside0.mk hb
  clear h hb
  go_enter Tryd.func71, Tryd.ntmps71
  go_wp2_with fail
  go_region_with (first
    | (go_at_call 67
       refine (text_calls w0 _ g s (drew_rd (H.out.alloc _))).mono ?_
       rintro e w1 ⟨rfl, hR, hK⟩
       have B1 := Aside0.mk (keep_cells (blk_drew (blk_new w (.cells #[.string ⟨#[]⟩, .int .u32 0] 93))) (Ne.symm hgb) hK)
       have K1 := Aside0.mk (keep_then (keep_drew (KeepBut.of_below (below_alloc (Below.refl w.heap.size w) (.cells #[.string ⟨#[]⟩, .int .u32 0] 93)) g none)) hK)
       have R1 := Aside0.mk hR
       have hcb1 : w1.cell? ⟨b, 0, none⟩ = some (.pointer (some ⟨g, 0, none⟩)) := blk_cell (keep_cells (blk_drew (blk_alloc HBB.out _)) hne hK) 0
       clear hR hK)
    | (go_at_call 66
       refine (number_calls w0 _ g _ 4 (by omega) R1.out).mono ?_
       rintro e w2 ⟨rfl, hR, hK⟩
       have K2 := Aside0.mk (keep_then K1.out hK)
       have R2 := Aside0.mk hR
       have B2 := keep_cells B1.out (Ne.symm hgb) hK
       obtain ⟨⟨c0, c1⟩, f0, f1⟩ := blk2 B2
       have B2' := Aside0.mk (blk_put (blk_put B2 0 (.string (textR s)) rfl) 1 (.int .u32 (numR (textS s) 4)) (cs' := #[.string (textR s), .int .u32 (numR (textS s) 4)]) rfl)
       clear hR hK B2))
  all_goals
    go_wp2
    try simp only [Exit.inBlock, Exit.then]
    refine bodyPost_ret (results_cell_row rfl _ _ w.heap.size 93 _ (0, 0) _ rfl (blk_put (cs' := #[.string (textR s), .int .u32 (numR (textS s) 4)]) (blk_put (cs' := #[.string (textR s), .int .u32 (numR (textS s) 4)]) B2'.out 0 _ rfl) 1 _ rfl) hu rfl (by kernel_rfl)) rfl ?_
    refine ⟨rfl, ?_, ?_⟩
    · repeat (first | exact R2.out | refine Rd.set ?_ hgb h0 _ _)
    · repeat (first | exact K2.out | refine keep_new ?_ (Nat.le_refl _) _ _)

end Go.Proofs.YtcohodkpppmaoaaDoor.Q
