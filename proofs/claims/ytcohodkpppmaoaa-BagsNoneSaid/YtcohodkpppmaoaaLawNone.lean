/-
  concordatlaw08.BagsNone, walked: it answers true for every message and every place.
-/
import Derived.Test.YtcohodkpppmaoaaTake2
namespace Go.Proofs.Ytcohodkpppmaoaa.Q
open Go.RowKit Go.Proofs.YtcohodkpppmaoaaW.PrintWords Go.Proofs.YtcohodkpppmaoaaW.PrintLast Go.Proofs.YtcohodkpppmaoaaW.PrintMore
set_option linter.unusedVariables false

/-- Where the loop over the two bags stands. -/
structure NoneAt (w wr : World) (m : MsgT) (v4 v5 : Value) : Prop where
  below : Below w.heap.size w wr
  msg : wr.heap[w.heap.size]? = some (.cells (msgCells m v4 v5) 38 (0, 0))
  bag : wr.heap[w.heap.size + 1]? = some (.cells #[.pointer none] 42 (0, 0))
  two : wr.heap[w.heap.size + 2]? = some (.cells #[.pointer none, .pointer (some ⟨w.heap.size + 1, 0, none⟩)] 39 (0, 0))
theorem NoneAt.step {w wr w1 : World} {m : MsgT} {v4 v5 : Value} (h : NoneAt w wr m v4 v5) (hb : Below wr.heap.size wr w1) : NoneAt w w1 m v4 v5 :=
  ⟨below_step h.below hb, blk_below h.msg hb, blk_below h.bag hb, blk_below h.two hb⟩
theorem NoneAt.at_ {w wr : World} {m : MsgT} {v4 v5 : Value} (h : NoneAt w wr m v4 v5) {k : Nat} (hk : k < 2) : ∃ p, wr.cell? ⟨w.heap.size + 2, k, none⟩ = some (.pointer p) ∧ NoBag wr p := by
  match k, hk with
  | 0, _ => exact ⟨_, blk_cell h.two 0, .inl rfl⟩
  | 1, _ => exact ⟨_, blk_cell h.two 1, .inr ⟨_, rfl, blk_cell h.bag 0⟩⟩
set_option maxHeartbeats 3200000 in
set_option maxRecDepth 100000 in
theorem BagsNone_calls (w : World) (m : MsgT) (v4 v5 : Value) (i : Int) (hm : MsgIn w m v4 v5) :
    Calls Try.prog 5 #[.agg (msgCells m v4 v5), .int .i64 i] w fun e w' => e = .returned (.bool true) ∧ Below w.heap.size w w' := by
  have HMI := Aside0.mk hm
  obtain ⟨⟨A4, d4, A5, d5, e4, e5, _⟩⟩ := hm
  subst e4; subst e5
  unfold msgCells
  go_enter Try.func5, Try.ntmps5
  go_wp2
  go_loopw [6] (fun j wr => ∃ (k : Nat), k ≤ 2 ∧ j = .int .i64 k ∧ Aside0 (NoneAt w wr m (.slice A4 m.f4.length d4) (.slice A5 m.f5.length d5))) (fun j _ => 2 - (intOf j).toNat)
  case atStart =>
    refine ⟨0, by omega, rfl, ⟨below_alloc (below_alloc (below_alloc (Below.refl _ _) _) _) _, blk_alloc (blk_alloc (blk_new w _) _) _, ?_, ?_⟩⟩
    · have := blk_new (w.alloc (.cells (msgCells m (.slice A4 m.f4.length d4) (.slice A5 m.f5.length d5)) 38)) (.cells #[.pointer none] 42)
      rw [alloc_size'] at this
      exact blk_alloc this _
    · have := blk_new ((w.alloc (.cells (msgCells m (.slice A4 m.f4.length d4) (.slice A5 m.f5.length d5)) 38)).alloc (.cells #[.pointer none] 42)) (.cells #[.pointer none, .pointer (some ⟨w.heap.size + 1, 0, none⟩)] 39)
      rw [alloc_size', alloc_size'] at this
      exact this
  case round =>
    obtain ⟨k, hk, rfl, HN⟩ := hrel
    by_cases hlt : k < 2
    · have hlt' : (k : Int) < 2 := by omega
      obtain ⟨p, hc, hp⟩ := HN.out.at_ hlt
      have HP := Aside0.mk hp
      have bm := HN.out.msg
      unfold msgCells at bm
      obtain ⟨⟨m0, m1, m2, m3, m4, m5⟩, _⟩ := blk6 bm
      have HBM := Aside0.mk bm
      have hz2 : w.heap.size + 2 < wr.heap.size := blk_lt HN.out.two
      have hk0 : (0 : Int) ≤ (k : Int) := by omega
      clear hp bm
      go_wp2_with fail
      refine (Take_nobag _ p HP.out i).mono ?_
      rintro e w1 ⟨rfl, hb1⟩
      have B1 := Aside0.mk hb1
      have HP1 := Aside0.mk (HP.out.below hb1)
      have N1 := Aside0.mk (HN.out.step hb1)
      replace hc := cell_later hb1 hc
      replace m0 := cell_later hb1 m0
      replace m1 := cell_later hb1 m1
      replace m2 := cell_later hb1 m2
      replace m3 := cell_later hb1 m3
      replace m4 := cell_later hb1 m4
      replace m5 := cell_later hb1 m5
      have hz1 : w.heap.size + 2 < w1.heap.size := Nat.lt_of_lt_of_le hz2 hb1.size
      clear hb1
      go_wp2_with fail
      have hbw := below_drew1 (below_alloc (Below.refl w1.heap.size w1) (.cells #[.int .u8 0, .int .u8 0, .int .u8 0, .int .u32 0, .slice none 0 0, .slice none 0 0] 38))
      have bz := blk_drew (blk_new w1 (.cells #[.int .u8 0, .int .u8 0, .int .u8 0, .int .u32 0, .slice none 0 0, .slice none 0 0] 38))
      have S0 : (fun w' : World => w'.cell? ⟨w.heap.size + 2, k, none⟩ = some (.pointer p) ∧ w'.cell? ⟨w.heap.size, 0, none⟩ = some (.int .u8 m.f0) ∧ w'.cell? ⟨w.heap.size, 1, none⟩ = some (.int .u8 m.f1) ∧ w'.cell? ⟨w.heap.size, 2, none⟩ = some (.int .u8 m.f2) ∧ w'.cell? ⟨w.heap.size, 3, none⟩ = some (.int .u32 m.f3) ∧ w'.cell? ⟨w.heap.size, 4, none⟩ = some (.slice A4 m.f4.length d4) ∧ w'.cell? ⟨w.heap.size, 5, none⟩ = some (.slice A5 m.f5.length d5) ∧ w'.cell? ⟨w1.heap.size, 0, none⟩ = some (.int .u8 0) ∧ w'.cell? ⟨w1.heap.size, 3, none⟩ = some (.int .u32 0)) (w1.alloc (.cells #[.int .u8 0, .int .u8 0, .int .u8 0, .int .u32 0, .slice none 0 0, .slice none 0 0] 38)).drew :=
        ⟨cell_later hbw hc, cell_later hbw m0, cell_later hbw m1, cell_later hbw m2, cell_later hbw m3, cell_later hbw m4, cell_later hbw m5, blk_cell bz 0, blk_cell bz 3⟩
      have HS0 := Aside0.mk S0
      have HBW := Aside0.mk hbw
      clear hbw bz S0
      go_region_held3 (fun w' : World => w'.cell? ⟨w.heap.size + 2, k, none⟩ = some (.pointer p) ∧ w'.cell? ⟨w.heap.size, 0, none⟩ = some (.int .u8 m.f0) ∧ w'.cell? ⟨w.heap.size, 1, none⟩ = some (.int .u8 m.f1) ∧ w'.cell? ⟨w.heap.size, 2, none⟩ = some (.int .u8 m.f2) ∧ w'.cell? ⟨w.heap.size, 3, none⟩ = some (.int .u32 m.f3) ∧ w'.cell? ⟨w.heap.size, 4, none⟩ = some (.slice A4 m.f4.length d4) ∧ w'.cell? ⟨w.heap.size, 5, none⟩ = some (.slice A5 m.f5.length d5) ∧ w'.cell? ⟨w1.heap.size, 0, none⟩ = some (.int .u8 0) ∧ w'.cell? ⟨w1.heap.size, 3, none⟩ = some (.int .u32 0)) (first | exact HS0.out | exact HS2.out) (first
        | (go_at_call 26
           refine (Add_nobag _ p (HP1.out.below HBW.out) m _ _ (HMI.out.below (below_step N1.out.below HBW.out))).mono ?_
           rintro e w2 ⟨rfl, hb2⟩
           have HB3 := Aside0.mk (below_step HBW.out hb2)
           have HP2 := Aside0.mk (HP1.out.below HB3.out)
           have N2 := Aside0.mk (N1.out.step HB3.out)
           have HS2 := Aside0.mk (show (fun w' : World => w'.cell? ⟨w.heap.size + 2, k, none⟩ = some (.pointer p) ∧ w'.cell? ⟨w.heap.size, 0, none⟩ = some (.int .u8 m.f0) ∧ w'.cell? ⟨w.heap.size, 1, none⟩ = some (.int .u8 m.f1) ∧ w'.cell? ⟨w.heap.size, 2, none⟩ = some (.int .u8 m.f2) ∧ w'.cell? ⟨w.heap.size, 3, none⟩ = some (.int .u32 m.f3) ∧ w'.cell? ⟨w.heap.size, 4, none⟩ = some (.slice A4 m.f4.length d4) ∧ w'.cell? ⟨w.heap.size, 5, none⟩ = some (.slice A5 m.f5.length d5) ∧ w'.cell? ⟨w1.heap.size, 0, none⟩ = some (.int .u8 0) ∧ w'.cell? ⟨w1.heap.size, 3, none⟩ = some (.int .u32 0)) w2 from ⟨cell_later hb2 HS0.out.1, cell_later hb2 HS0.out.2.1, cell_later hb2 HS0.out.2.2.1, cell_later hb2 HS0.out.2.2.2.1, cell_later hb2 HS0.out.2.2.2.2.1, cell_later hb2 HS0.out.2.2.2.2.2.1, cell_later hb2 HS0.out.2.2.2.2.2.2.1, cell_later hb2 HS0.out.2.2.2.2.2.2.2.1, cell_later hb2 HS0.out.2.2.2.2.2.2.2.2⟩)
           clear hb2)
        | (go_at_call 27
           refine (Copy_nobag _ p HP2.out i).mono ?_
           rintro e w' ⟨rfl, rfl⟩)
        | (go_at_call 28
           refine (List_nobag _ p HP2.out).mono ?_
           rintro e w' ⟨rfl, rfl⟩))
      all_goals
        go_wp2
        go_roundw
        case rel => exact ⟨k + 1, by omega, by go_num, ⟨N2.out⟩⟩
        case measure => simp [intOf]; omega
    · go_wp2
      go_ret
      exact ⟨rfl, HN.out.below⟩
end Go.Proofs.Ytcohodkpppmaoaa.Q
