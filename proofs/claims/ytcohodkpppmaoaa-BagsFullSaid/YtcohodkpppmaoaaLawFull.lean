/-
  concordatlaw08.BagsFull, walked: it answers true for every two numbers and every message.
-/
import Derived.Test.YtcohodkpppmaoaaBagB
namespace Go.Proofs.Ytcohodkpppmaoaa.Q
open Go.RowKit Go.Proofs.YtcohodkpppmaoaaW.PrintWords Go.Proofs.YtcohodkpppmaoaaW.PrintLast Go.Proofs.YtcohodkpppmaoaaW.PrintMore
set_option linter.unusedVariables false

/-- The message, its number set. -/
def setG (m : MsgT) (i : Int) : MsgT := ⟨m.f0, m.f1, m.f2, i, m.f4, m.f5⟩
def msgsTo (m : MsgT) (k : Nat) : List MsgT := (List.range k).map fun i : Nat => setG m (i : Int)
theorem msgsTo_length (m : MsgT) (k : Nat) : (msgsTo m k).length = k := by simp [msgsTo]
theorem msgsTo_succ (m : MsgT) (k : Nat) : msgsTo m (k + 1) = msgsTo m k ++ [setG m k] := by simp [msgsTo, List.range_succ]
theorem msgsTo_get (m : MsgT) {k j : Nat} (h : j < k) : (msgsTo m k)[j]? = some (setG m j) := by simp [msgsTo, h]
theorem setG_B {m : MsgT} (h : msgB m) (i : Int) : msgB (setG m i) := h
theorem msgsTo_B {m : MsgT} (h : msgB m) (k : Nat) : ∀ x ∈ msgsTo m k, msgB x := by
  intro x hx
  obtain ⟨i, _, rfl⟩ := List.mem_map.1 hx
  exact h
theorem setG_in {w : World} {m : MsgT} {v4 v5 : Value} (h : MsgIn w m v4 v5) (i : Int) : MsgIn w (setG m i) v4 v5 := ⟨h.read⟩
theorem mem_eraseIdx {α : Type} {l : List α} {k : Nat} {x : α} (h : x ∈ l.eraseIdx k) : x ∈ l := List.mem_of_mem_eraseIdx h

theorem blk_same_cell {w w' : World} {b o : Nat} {v : Value} (h : w'.heap[b]? = w.heap[b]?) (hc : w.cell? ⟨b, o, none⟩ = some v) : w'.cell? ⟨b, o, none⟩ = some v := by
  unfold World.cell? at hc ⊢
  simpa only [h] using hc
structure FullAt (w wr : World) (g n : Nat) (m : MsgT) (v4 v5 : Value) (k : Nat) (i : Int) : Prop where
  bag : BagB (w.heap.size + 1) wr g n (msgsTo m k)
  box : wr.heap[w.heap.size]? = some (.cells (msgCells (setG m i) v4 v5) 38 (0, 0))
  below : Below w.heap.size w wr

set_option maxHeartbeats 3200000 in
set_option maxRecDepth 100000 in
theorem BagsFull_calls (w : World) (most at_ : Int) (m : MsgT) (v4 v5 : Value) (hm : MsgIn w m v4 v5) (hB : msgB m) (hok : msgOk m) (h0 : 0 ≤ most) (h1 : most ≤ 255) (a0 : 0 ≤ at_) (a1 : at_ ≤ 255) :
    Calls Try.prog 10 #[.int .u8 most, .int .u8 at_, .agg (msgCells m v4 v5)] w fun e w' => e = .returned (.bool true) ∧ Below w.heap.size w w' := by
  obtain ⟨s, hs⟩ := msgSize_any m hok
  have HS := Aside0.mk hs
  have HMI := Aside0.mk hm
  have HMB := Aside0.mk hB
  obtain ⟨n, hn⟩ : ∃ n : Nat, 1 + most % 60 = (n : Int) := ⟨(1 + most % 60).toNat, by omega⟩
  have hn1 : 1 ≤ n := by omega
  have hn2 : n ≤ 60 := by omega
  obtain ⟨j, hj⟩ : ∃ j : Nat, at_ % (n : Int) = (j : Int) := ⟨(at_ % (n : Int)).toNat, by rw [Int.toNat_of_nonneg (Int.emod_nonneg _ (by omega))]⟩
  have hjn : j < n := by
    have := Int.emod_lt_of_pos at_ (show (0 : Int) < n by omega)
    omega
  have HJ := Aside0.mk hj
  have HN := Aside0.mk hn
  obtain ⟨⟨A4, d4, A5, d5, e4, e5, _⟩⟩ := hm
  subst e4; subst e5
  clear hs hB hj
  unfold msgCells
  go_enter Try.func10, Try.ntmps10
  go_wp2_with fail
  refine (alive_calls _).mono ?_
  rintro e w1 ⟨rfl, hb1⟩
  have B1 := Aside0.mk (below_step (below_alloc (Below.refl w.heap.size w) _) hb1)
  have bx := blk_below (blk_new w (.cells (msgCells m (.slice A4 m.f4.length d4) (.slice A5 m.f5.length d5)) 38)) hb1
  unfold msgCells at bx
  have BX := Aside0.mk bx
  obtain ⟨⟨q0, q1, q2, q3, q4, q5⟩, p0, p1, p2, p3, p4, p5⟩ := blk6 bx
  clear hb1 bx
  go_wp2_with fail
  refine (HS.out _ _ _ (HMI.out.below B1.out)).mono ?_
  rintro e w2 ⟨rfl, hb2⟩
  have B2 := Aside0.mk (below_step B1.out hb2)
  have BX2 := Aside0.mk (blk_below BX.out hb2)
  clear hb2 q0 q1 q2 q3 q4 q5 p0 p1 p2 p3 p4 p5
  by_cases hbig : 3000 < s
  · have hbig' := decide_eq_true hbig
    go_wp2_with fail
    refine (alive_calls _).mono ?_
    rintro e w3 ⟨rfl, hb3⟩
    have B3 := Aside0.mk (below_step B2.out hb3)
    clear hb3
    go_wp2
    go_ret
    exact ⟨rfl, B3.out⟩
  · have hbig' := decide_eq_false hbig
    clear HS
    go_wp2_with fail
    refine (newB (N := w.heap.size + 1) _ (n : Int) (by omega) (by omega) (Nat.succ_le_of_lt (blk_lt BX2.out))).mono ?_
    rintro e w3 ⟨g, rfl, hW, hb3⟩
    have ST := Aside0.mk (show FullAt w w3 g n m (.slice A4 m.f4.length d4) (.slice A5 m.f5.length d5) 0 m.f3 from ⟨hW, blk_below BX2.out hb3, below_step B2.out hb3⟩)
    clear hW hb3 B1 BX B2 BX2
    go_wp2
    go_loopw [10] (fun i wr => ∃ (k : Nat) (z : Int), k ≤ n ∧ i = .int .i64 k ∧ (k = 0 ∨ z = (k : Int) - 1) ∧ Aside0 (FullAt w wr g n m (.slice A4 m.f4.length d4) (.slice A5 m.f5.length d5) k z)) (fun i _ => n - (intOf i).toNat)
    case atStart => exact ⟨0, m.f3, Nat.zero_le _, rfl, .inl rfl, ST⟩
    case round =>
      clear ST
      obtain ⟨k, z, hk, rfl, hz, HF⟩ := hrel
      have HZ := Aside0.mk hz
      clear hz
      by_cases hlt : k < n
      · have hlt' : (k : Int) < (n : Int) := by omega
        have bx := HF.out.box
        unfold msgCells setG at bx
        obtain ⟨⟨q0, q1, q2, q3, q4, q5⟩, p0, p1, p2, p3, p4, p5⟩ := blk6 bx
        have BX := Aside0.mk (blk_put bx 3 (.int .u32 (k : Int)) (cs' := msgCells (setG m k) (.slice A4 m.f4.length d4) (.slice A5 m.f5.length d5)) rfl)
        have BG := Aside0.mk (HF.out.bag.set (p := ⟨w.heap.size, 3, none⟩) (Nat.lt_succ_self _) (.int .u32 (k : Int)))
        have BL := Aside0.mk (HF.out.below.setCell (p := ⟨w.heap.size, 3, none⟩) (Nat.le_refl _) (.int .u32 (k : Int)))
        have hne : ((msgsTo m k).length : Int) ≠ (n : Int) := by rw [msgsTo_length]; omega
        have HNE := Aside0.mk hne
        clear bx hne
        go_wp2_with fail
        refine (addB (m := setG m k) BG.out HNE.out (by rw [msgsTo_length]; omega) (v4 := .slice A4 m.f4.length d4) (v5 := .slice A5 m.f5.length d5) (setG_in (HMI.out.below BL.out) _) (setG_B HMB.out _)).mono ?_
        rintro e w4 ⟨rfl, hW, hb4⟩
        have W4 := Aside0.mk hW
        have B4 := Aside0.mk hb4
        have BX4 := Aside0.mk ((hb4.block w.heap.size (Nat.lt_succ_self _)).trans BX.out)
        clear hW hb4 q0 q1 q2 q3 q4 q5 p0 p1 p2 p3 p4 p5
        go_wp2
        go_roundw
        case rel => exact ⟨k + 1, k, by omega, by go_num, .inr (by omega), ⟨by rw [msgsTo_succ]; exact W4.out, BX4.out, BL.out.trans (B4.out.mono (Nat.le_succ _))⟩⟩
        case measure => simp [intOf]; omega
      · obtain rfl : k = n := by omega
        have hz : z = (k : Int) - 1 := by rcases HZ.out with h | h <;> omega
        subst hz
        have HLT := Aside0.mk hlt
        clear hlt hk HZ
        have hlen := msgsTo_length m k
        have hB := Aside0.mk (msgsTo_B HMB.out k)
        have BG := Aside0.mk HF.out.bag
        have BL := Aside0.mk HF.out.below
        have bx := HF.out.box
        unfold msgCells setG at bx
        have BX := Aside0.mk bx
        have HLEN := Aside0.mk hlen
        clear bx hlen HF
        go_wp2_with fail
        refine (tellB BG.out (by rw [HLEN.out]; omega) hB.out).mono ?_
        rintro e w4 ⟨A, c, rfl, hc, hC, hb⟩
        have HC := Aside0.mk hC
        have G4 := Aside0.mk (BG.out.below hb)
        have B4 := Aside0.mk (below_step BL.out hb)
        have X4 := Aside0.mk (blk_below BX.out hb)
        clear hC hb BG BL BX
        go_wp2_with fail
        refine (takeNoB (i := -1) G4.out (by omega)).mono ?_
        rintro e w5 ⟨rfl, hb⟩
        have hbb := hb.trans (below_alloc (Below.refl w5.heap.size w5) (.cells #[.int .u8 0, .int .u8 0, .int .u8 0, .int .u32 0, .slice none 0 0, .slice none 0 0] 38) |>.mono hb.size)
        have G5 := Aside0.mk (G4.out.below hbb)
        have B5 := Aside0.mk (below_step B4.out hbb)
        have X5 := Aside0.mk (blk_below X4.out hbb)
        have C5 := Aside0.mk (Kd.C_below HC.out hbb)
        clear hb hbb G4 B4 X4 HC
        go_wp2_with fail
        refine (takeNoB (i := (k : Int)) G5.out (by rw [HLEN.out]; omega)).mono ?_
        rintro e w6 ⟨rfl, hb⟩
        have hbb := hb.trans (below_alloc (Below.refl w6.heap.size w6) (.cells #[.int .u8 0, .int .u8 0, .int .u8 0, .int .u32 0, .slice none 0 0, .slice none 0 0] 38) |>.mono hb.size)
        have G6 := Aside0.mk (G5.out.below hbb)
        have B6 := Aside0.mk (below_step B5.out hbb)
        have X6 := Aside0.mk (blk_below X5.out hbb)
        have C6 := Aside0.mk (Kd.C_below C5.out hbb)
        obtain ⟨⟨q0, q1, q2, q3, q4, q5⟩, _⟩ := blk6 X5.out
        replace q0 := cell_later hb q0
        replace q1 := cell_later hb q1
        replace q2 := cell_later hb q2
        replace q3 := cell_later hb q3
        replace q4 := cell_later hb q4
        replace q5 := cell_later hb q5
        have hz6 : w.heap.size < w6.heap.size := World.block_lt_of_cell? w6 _ q0
        clear hb hbb G5 B5 X5 C5
        go_wp2_with fail
        refine (addFullB (m := setG m ((k : Int) - 1)) G6.out (by rw [HLEN.out]) (v4 := .slice A4 m.f4.length d4) (v5 := .slice A5 m.f5.length d5) (setG_in (HMI.out.below B6.out) _)).mono ?_
        rintro e w7 ⟨rfl, hb⟩
        have G7 := Aside0.mk (G6.out.below hb)
        have B7 := Aside0.mk (below_step B6.out hb)
        have X7 := Aside0.mk (blk_below X6.out hb)
        have C7 := Aside0.mk (Kd.C_below C6.out hb)
        clear hb G6 B6 X6 C6 q0 q1 q2 q3 q4 q5 hz6
        go_wp2_with fail
        refine (copyFullB (k := 0) (x := setG m ((0 : Nat) : Int)) G7.out (msgsTo_get m (by omega)) (by rw [HLEN.out]) (by rw [HLEN.out]; omega)).mono ?_
        rintro e w8 ⟨rfl, hb⟩
        have G8 := Aside0.mk (G7.out.below hb)
        have B8 := Aside0.mk (below_step B7.out hb)
        have X8 := Aside0.mk (blk_below X7.out hb)
        have C8 := Aside0.mk (Kd.C_below C7.out hb)
        clear hb G7 B7 X7 C7
        go_wp2_with fail
        refine (copyNoB (i := (k : Int)) G8.out (by rw [HLEN.out]; omega)).mono ?_
        rintro e w' ⟨rfl, rfl⟩
        go_wp2_with fail
        refine (tellB G8.out (by rw [HLEN.out]; omega) hB.out).mono ?_
        rintro e w9 ⟨A', c', rfl, hc', hC', hb⟩
        have HC' := Aside0.mk hC'
        have G9 := Aside0.mk (G8.out.below hb)
        have B9 := Aside0.mk (below_step B8.out hb)
        have X9 := Aside0.mk (blk_below X8.out hb)
        have C9 := Aside0.mk (Kd.C_below C8.out hb)
        clear hC' hb G8 B8 X8 C8
        go_wp2_with fail
        refine (sameIds_calls _ (gs (msgsTo m k)) (gs (msgsTo m k)) A' A c' c HC'.out hc' C9.out hc).mono ?_
        rintro e w10 ⟨rfl, hb⟩
        rw [decide_eq_true rfl]
        have G10 := Aside0.mk (G9.out.below hb)
        have B10 := Aside0.mk (below_step B9.out hb)
        have X10 := Aside0.mk (blk_below X9.out hb)
        clear hb G9 B9 X9 C9 HC'
        have hj := HJ.out
        go_wp2_with fail
        refine (takeB (k := j) (x := setG m (j : Int)) G10.out (msgsTo_get m hjn) (by rw [HLEN.out]; omega)).mono ?_
        rintro e w12 ⟨y4, y5, rfl, hy, hW, hb⟩
        obtain ⟨⟨E4, f4, E5, f5, rfl, rfl, _⟩⟩ := hy
        have G12 := Aside0.mk hW
        have B12 := Aside0.mk (B10.out.trans (hb.mono (Nat.le_succ _)))
        have X12 := Aside0.mk ((hb.block w.heap.size (Nat.lt_succ_self _)).trans X10.out)
        clear hW hb G10 B10 X10
        have hle : ((msgsTo m k).eraseIdx j).length = k - 1 := by rw [List.length_eraseIdx_of_lt (by rw [HLEN.out]; exact hjn), HLEN.out]
        have HLE := Aside0.mk hle
        clear hle
        unfold msgCells setG
        go_wp2_with fail
        have hbw := below_drew1 (below_alloc (Below.refl w12.heap.size w12) (.cells #[.int .u8 m.f0, .int .u8 m.f1, .int .u8 m.f2, .int .u32 (j : Int), .slice E4 m.f4.length f4, .slice E5 m.f5.length f5] 38))
        have HNW := Aside0.mk (show (w12.alloc (.cells #[.int .u8 m.f0, .int .u8 m.f1, .int .u8 m.f2, .int .u32 (j : Int), .slice E4 m.f4.length f4, .slice E5 m.f5.length f5] 38)).drew.cell? ⟨w12.heap.size, 3, none⟩ = some (.int .u32 (j : Int)) from (blk6 (blk_new w12 (.cells #[.int .u8 m.f0, .int .u8 m.f1, .int .u8 m.f2, .int .u32 (j : Int), .slice E4 m.f4.length f4, .slice E5 m.f5.length f5] 38))).1.2.2.2.1)
        have S0 : (fun w' : World => w'.cell? ⟨w.heap.size, 0, none⟩ = some (.int .u8 m.f0) ∧ w'.cell? ⟨w.heap.size, 1, none⟩ = some (.int .u8 m.f1) ∧ w'.cell? ⟨w.heap.size, 2, none⟩ = some (.int .u8 m.f2) ∧ w'.cell? ⟨w.heap.size, 3, none⟩ = some (.int .u32 ((k : Int) - 1)) ∧ w'.cell? ⟨w.heap.size, 4, none⟩ = some (.slice A4 m.f4.length d4) ∧ w'.cell? ⟨w.heap.size, 5, none⟩ = some (.slice A5 m.f5.length d5) ∧ w'.cell? ⟨w12.heap.size, 3, none⟩ = some (.int .u32 (j : Int))) (w12.alloc (.cells #[.int .u8 m.f0, .int .u8 m.f1, .int .u8 m.f2, .int .u32 (j : Int), .slice E4 m.f4.length f4, .slice E5 m.f5.length f5] 38)).drew := by
          obtain ⟨⟨q0, q1, q2, q3, q4, q5⟩, _⟩ := blk6 (blk_below X12.out hbw)
          exact ⟨q0, q1, q2, q3, q4, q5, HNW.out⟩
        have HS0 := Aside0.mk S0
        have HBW := Aside0.mk hbw
        clear hbw S0
        have ht : Int.tmod at_ (k : Int) = (j : Int) := by rw [Int.tmod_eq_emod_of_nonneg a0]; exact HJ.out
        have hk0 : ((k : Int) == 0) = false := beq_eq_false_iff_ne.2 (by omega)
        have hk0' : ¬ (k : Int) = 0 := by omega
        have hk0n : ¬ k = 0 := by omega
        have hk0b : (k == 0) = false := beq_eq_false_iff_ne.2 hk0n
        have hwt : IntKind.i64.wrap (Int.tmod at_ (k : Int)) = (j : Int) := by rw [ht]; exact IntWalk.i64_in _ (by omega)
        have hwa : IntKind.i64.wrap at_ = at_ := IntWalk.i64_in _ (by omega)
        have hwe : IntKind.i64.wrap (at_ % (k : Int)) = (j : Int) := by rw [HJ.out]; exact IntWalk.i64_in _ (by omega)
        have hwj : IntKind.i64.wrap (j : Int) = (j : Int) := IntWalk.i64_in _ (by omega)
        have hwu : IntKind.u32.wrap (j : Int) = (j : Int) := by rw [IntKind.wrap_u32]; omega
        first | (go_region_held3 (fun w' : World => w'.cell? ⟨w.heap.size, 0, none⟩ = some (.int .u8 m.f0) ∧ w'.cell? ⟨w.heap.size, 1, none⟩ = some (.int .u8 m.f1) ∧ w'.cell? ⟨w.heap.size, 2, none⟩ = some (.int .u8 m.f2) ∧ w'.cell? ⟨w.heap.size, 3, none⟩ = some (.int .u32 ((k : Int) - 1)) ∧ w'.cell? ⟨w.heap.size, 4, none⟩ = some (.slice A4 m.f4.length d4) ∧ w'.cell? ⟨w.heap.size, 5, none⟩ = some (.slice A5 m.f5.length d5) ∧ w'.cell? ⟨w12.heap.size, 3, none⟩ = some (.int .u32 (j : Int))) (first | exact HS0.out | exact HS1.out | exact HS2.out) (first
                   | (go_at_call 26
                      refine (addLater (m := setG m ((k : Int) - 1)) G12.out HBW.out (by rw [HLE.out]; omega) (by rw [HLE.out]; omega) (v4 := .slice A4 m.f4.length d4) (v5 := .slice A5 m.f5.length d5) (setG_in (HMI.out.below (below_step B12.out HBW.out)) _) (setG_B HMB.out _)).mono ?_
                      rintro e w13 ⟨rfl, hW, hb, hmid⟩
                      have G13 := Aside0.mk hW
                      have B13 := Aside0.mk ((below_step B12.out HBW.out).trans (hb.mono (Nat.le_succ _)))
                      have HS1 := Aside0.mk (show (fun w' : World => w'.cell? ⟨w.heap.size, 0, none⟩ = some (.int .u8 m.f0) ∧ w'.cell? ⟨w.heap.size, 1, none⟩ = some (.int .u8 m.f1) ∧ w'.cell? ⟨w.heap.size, 2, none⟩ = some (.int .u8 m.f2) ∧ w'.cell? ⟨w.heap.size, 3, none⟩ = some (.int .u32 ((k : Int) - 1)) ∧ w'.cell? ⟨w.heap.size, 4, none⟩ = some (.slice A4 m.f4.length d4) ∧ w'.cell? ⟨w.heap.size, 5, none⟩ = some (.slice A5 m.f5.length d5) ∧ w'.cell? ⟨w12.heap.size, 3, none⟩ = some (.int .u32 (j : Int))) w13 from ⟨cell_low hb (Nat.lt_succ_self _) HS0.out.1, cell_low hb (Nat.lt_succ_self _) HS0.out.2.1, cell_low hb (Nat.lt_succ_self _) HS0.out.2.2.1, cell_low hb (Nat.lt_succ_self _) HS0.out.2.2.2.1, cell_low hb (Nat.lt_succ_self _) HS0.out.2.2.2.2.1, cell_low hb (Nat.lt_succ_self _) HS0.out.2.2.2.2.2.1, blk_same_cell (hmid w12.heap.size (Nat.le_refl _) (by show _ < (w12.alloc _).heap.size; rw [alloc_size']; omega)) HS0.out.2.2.2.2.2.2⟩)
                      clear hW hb hmid G12)
                   | (go_at_call 26
                      refine (addFullB (m := setG m ((k : Int) - 1)) G13.out (by rw [List.length_append, HLE.out]; simp; omega) (v4 := .slice A4 m.f4.length d4) (v5 := .slice A5 m.f5.length d5) (setG_in (HMI.out.below B13.out) _)).mono ?_
                      rintro e w14 ⟨rfl, hb⟩
                      have G14 := Aside0.mk (G13.out.below hb)
                      have B14 := Aside0.mk (below_step B13.out hb)
                      have HS2 := Aside0.mk (show (fun w' : World => w'.cell? ⟨w.heap.size, 0, none⟩ = some (.int .u8 m.f0) ∧ w'.cell? ⟨w.heap.size, 1, none⟩ = some (.int .u8 m.f1) ∧ w'.cell? ⟨w.heap.size, 2, none⟩ = some (.int .u8 m.f2) ∧ w'.cell? ⟨w.heap.size, 3, none⟩ = some (.int .u32 ((k : Int) - 1)) ∧ w'.cell? ⟨w.heap.size, 4, none⟩ = some (.slice A4 m.f4.length d4) ∧ w'.cell? ⟨w.heap.size, 5, none⟩ = some (.slice A5 m.f5.length d5) ∧ w'.cell? ⟨w12.heap.size, 3, none⟩ = some (.int .u32 (j : Int))) w14 from ⟨cell_low (hb.mono G13.out.1) (Nat.lt_succ_self _) HS1.out.1, cell_low (hb.mono G13.out.1) (Nat.lt_succ_self _) HS1.out.2.1, cell_low (hb.mono G13.out.1) (Nat.lt_succ_self _) HS1.out.2.2.1, cell_low (hb.mono G13.out.1) (Nat.lt_succ_self _) HS1.out.2.2.2.1, cell_low (hb.mono G13.out.1) (Nat.lt_succ_self _) HS1.out.2.2.2.2.1, cell_low (hb.mono G13.out.1) (Nat.lt_succ_self _) HS1.out.2.2.2.2.2.1, (hb.cell (World.block_lt_of_cell? _ _ HS1.out.2.2.2.2.2.2)).trans HS1.out.2.2.2.2.2.2⟩)
                      clear hb G13))) | fail "held3"
        all_goals
          go_wp2_with fail
          refine (listB G14.out (by rw [List.length_append, HLE.out]; simp; omega) (fun x hx => by
            rcases List.mem_append.1 hx with hx | hx
            · exact hB.out x (mem_eraseIdx hx)
            · have : x = setG m ((k : Int) - 1) := by simpa using hx
              subst this
              exact setG_B HMB.out _)).mono ?_
          rintro e w15 ⟨A9, c9, rfl, _, _, hb⟩
          have B15 := Aside0.mk (below_step B14.out hb)
          rw [show ((msgsTo m k).eraseIdx j ++ [setG m ((k : Int) - 1)]).length = k from by rw [List.length_append, HLE.out]; simp; omega]
          clear hb
          go_wp2
          go_ret
          exact ⟨by simp, B15.out⟩
end Go.Proofs.Ytcohodkpppmaoaa.Q
