/-
  Contracts of layer 8 (bags): List: all messages, in memory of their own.
-/
import Derived.Test.YtcohodkpppmaoaaTake2
namespace Go.Proofs.Ytcohodkpppmaoaa.Q
open Go.RowKit Go.Proofs.YtcohodkpppmaoaaW.PrintWords Go.Proofs.YtcohodkpppmaoaaW.PrintLast Go.Proofs.YtcohodkpppmaoaaW.PrintMore
set_option linter.unusedVariables false

/-- Rows made since w. -/
def MadeMsgs (w wr : World) (v : Value) (L : List MsgT) : Prop := Below w.heap.size w wr ∧ ∃ F, Fd.Row fdMsg 38 wr F v L ∧ F.Nodup ∧ ∀ b ∈ F, w.heap.size ≤ b
def ListPost (w : World) (L : List MsgT) (e : Ending) (w' : World) : Prop := ∃ v, e = .returned v ∧ MadeMsgs w w' v L
set_option maxHeartbeats 3200000 in
set_option maxRecDepth 100000 in
theorem List_calls (w : World) (g : Nat) (most : Int) (L : List MsgT) (F : List Nat) (hR : BagAt w g most L F) (hL : L.length ≤ 65536) (hB : ∀ m ∈ L, msgB m) :
    Calls Try.prog 28 #[.pointer (some ⟨g, 0, none⟩)] w (ListPost w L) := by
  obtain ⟨h, G, hg, hr, rfl, hnd⟩ := hR
  have HR := Aside0.mk hr
  obtain ⟨v, hb, hrow⟩ := hr
  obtain ⟨A, c, rfl, _⟩ := Fd.row_reads hrow
  have q0 := blk_cell hg 0
  have p0 := blk_cell hb 0
  have HB := Aside0.mk hB
  clear hg hb hrow hnd hB
  go_enter Try.func28, Try.ntmps28
  go_wp2_with fail
  refine (there_yes _ g h q0).mono ?_
  rintro e w' ⟨rfl, rfl⟩
  go_wp2
  go_loopw [2, 16] (fun l i wr => ∃ (k : Nat) (v : Value), k ≤ L.length ∧ i = .int .i64 k ∧ v = l ∧ Aside0 (MadeMsgs w wr v (L.take k))) (fun _ i _ => L.length - (intOf i).toNat)
  case atStart => exact ⟨0, .slice none 0 0, Nat.zero_le _, rfl, rfl, ⟨Below.refl _ _, [], Fd.row_nil _ _ _, by simp, fun b hb => by cases hb⟩⟩
  case round =>
    obtain ⟨k, v, hk, rfl, rfl, HM⟩ := hrel
    by_cases hlt : k < L.length
    · have hlt' : (k : Int) < (L.length : Int) := by omega
      obtain ⟨x, hx⟩ : ∃ x, L[k]? = some x := ⟨L[k], List.getElem?_eq_getElem hlt⟩
      obtain ⟨gl, c', v4, v5, c0, c1, G0, Gm, G1, hb, ho, h0, hE0, hXM, hE1, rfl⟩ := HR.out.open_ hx
      obtain ⟨hA, hc⟩ : A = some ⟨gl, 0, none⟩ ∧ c = c' := by
        have := (blk_cell hb 0).symm.trans p0
        simp at this
        exact ⟨this.1.symm, this.2.symm⟩
      subst hA; subst hc
      obtain ⟨k0, k1, k2, k3, k4, k5⟩ := cells_at ho h0
      have bl := HM.out.1
      replace k0 := cell_later bl k0
      replace k1 := cell_later bl k1
      replace k2 := cell_later bl k2
      replace k3 := cell_later bl k3
      replace k4 := cell_later bl k4
      replace k5 := cell_later bl k5
      have hMI : MsgIn w x v4 v5 := by
        obtain ⟨a, b, e, hmi⟩ := MsgIn.of_M hXM
        have e1 : msgCells x v4 v5 = msgCells x a b := Array.ext' e
        unfold msgCells at e1
        simp at e1
        rw [e1.1, e1.2]
        exact hmi
      have HMI := Aside0.mk hMI
      have hxB := HB.out x (List.mem_of_getElem? hx)
      have HXB := Aside0.mk hxB
      have HX := Aside0.mk hx
      obtain ⟨⟨A4, d4, A5, d5, e4, e5, _⟩⟩ := hMI
      subst e4; subst e5
      clear hb ho h0 hE0 hE1 hXM bl hxB hx
      go_wp2_with fail
      refine (liked _ x (HMI.out.below (below_step HM.out.1 (below_alloc (Below.refl wr.heap.size wr) _))) HXB.out).mono ?_
      rintro e w5 ⟨x4, x5, F5, rfl, hM5, hn5, hl5, hb5⟩
      have M5 := Aside0.mk hM5
      have N5 := Aside0.mk hn5
      have B5 := Aside0.mk (below_step (below_alloc (Below.refl wr.heap.size wr) _) hb5)
      have L5 := Aside0.mk (show ∀ b ∈ F5, wr.heap.size ≤ b from fun b hb => Nat.le_trans (below_alloc (Below.refl wr.heap.size wr) _).size (hl5 b hb))
      obtain ⟨hbl, FF, hrr, hnn, hll⟩ := HM.out
      have RR := Aside0.mk hrr
      have NN := Aside0.mk hnn
      have LL := Aside0.mk hll
      have BL := Aside0.mk hbl
      have hlen : (L.take k).length = k := by rw [List.length_take]; omega
      have HLEN := Aside0.mk hlen
      clear hM5 hn5 hl5 hb5 hbl hrr hnn hll hlen
      unfold msgCells
      go_wp2_with (first | (at_builtin; (refine Fd.R_append fdMsg rfl (.tmp 20) (.tmp 23) 48 38 (.agg #[.int .u8 0, .int .u8 0, .int .u8 0, .int .u32 0, .slice none 0 0, .slice none 0 0]) 56 rfl Try.underlying48 infoMsg rfl (show 0 < 6 from by decide) (by decide) v (L.take k) x [.int .u8 x.f0, .int .u8 x.f1, .int .u8 x.f2, .int .u32 x.f3, x4, x5] FF F5 rfl rfl M5.out (Fd.row_below RR.out B5.out) (nodup_new NN.out N5.out (Fd.row_lt RR.out) L5.out) (by rw [HLEN.out]; omega) ?_); intro v1 w6 F6 h1 h2 h3 h4; have R6 := Aside0.mk h1; have N6 := Aside0.mk h2; have K6 := Aside0.mk h3; have L6 := Aside0.mk h4; clear h1 h2 h3 h4))
      go_roundw
      case rel =>
        refine ⟨k + 1, v1, by omega, by go_num, rfl, ⟨?_, F6, ?_, N6.out, ?_⟩⟩
        · exact (below_step BL.out B5.out).trans (K6.out.below LL.out (below_step BL.out B5.out).size)
        · have hxx : L[k] = x := by have := HX.out; rw [List.getElem?_eq_getElem hlt] at this; exact Option.some.inj this
          rw [List.take_succ_eq_append_getElem hlt, hxx]
          exact R6.out
        · intro b hb
          rcases L6.out b hb with h1 | h1 | h1
          · exact LL.out b h1
          · have := L5.out b h1
            have := BL.out.size
            omega
          · have := (below_step BL.out B5.out).size
            omega
      case measure => simp [intOf]; omega
    · go_wp2
      go_ret
      have e2 : L.take k = L := List.take_of_length_le (by omega)
      have hm := HM.out
      rw [e2] at hm
      exact ⟨_, rfl, hm⟩
end Go.Proofs.Ytcohodkpppmaoaa.Q
