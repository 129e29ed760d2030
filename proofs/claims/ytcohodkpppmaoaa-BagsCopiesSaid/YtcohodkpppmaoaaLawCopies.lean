/-
  concordatlaw08.BagsCopies, walked: it answers true for every message.
-/
import Derived.Test.YtcohodkpppmaoaaCopies
namespace Go.Proofs.Ytcohodkpppmaoaa.Q
open Go.RowKit Go.Proofs.YtcohodkpppmaoaaW.PrintWords Go.Proofs.YtcohodkpppmaoaaW.PrintLast Go.Proofs.YtcohodkpppmaoaaW.PrintMore
set_option linter.unusedVariables false
set_option maxHeartbeats 6400000 in
set_option maxRecDepth 100000 in
theorem BagsCopies_calls (w : World) (m : MsgT) (v4 v5 : Value) (hm : MsgIn w m v4 v5) (hB : msgB m) (hok : msgOk m) :
    Calls Try.prog 8 #[.agg (msgCells m v4 v5)] w fun e w' => e = .returned (.bool true) ∧ Below w.heap.size w w' := by
  obtain ⟨s, hs⟩ := msgSize_any m hok
  have HS := Aside0.mk hs
  have HMI := Aside0.mk hm
  have HMB := Aside0.mk hB
  obtain ⟨⟨Z4, e4c, Z5, e5c, e4, e5, _⟩⟩ := hm
  subst e4; subst e5
  have l4 : (m.f4.length : Int) ≤ 140737488355328 := by have := hB.1; omega
  have l5 : (m.f5.length : Int) ≤ 140737488355328 := by have := hB.2.1; omega
  clear hs hB
  unfold msgCells
  go_enter Try.func8, Try.ntmps8
  go_wp2_with fail
  refine (alive_calls _).mono ?_
  rintro e w1 ⟨rfl, hb1⟩
  have B1 := Aside0.mk (below_step (below_alloc (Below.refl w.heap.size w) _) hb1)
  have bx := blk_below (blk_new w (.cells (msgCells m (.slice Z4 m.f4.length e4c) (.slice Z5 m.f5.length e5c)) 38)) hb1
  unfold msgCells at bx
  have BX := Aside0.mk bx
  obtain ⟨⟨q0, q1, q2, q3, q4, q5⟩, p0, p1, p2, p3, p4, p5⟩ := blk6 bx
  clear hb1 bx p0 p1 p2 p3 p4 p5
  go_wp2_with fail
  refine (HS.out _ _ _ (HMI.out.below B1.out)).mono ?_
  rintro e w2 ⟨rfl, hb2⟩
  have B2 := Aside0.mk (below_step B1.out hb2)
  have BX2 := Aside0.mk (blk_below BX.out hb2)
  clear hb2 q0 q1 q2 q3 q4 q5
  by_cases hbig : 3000 < s
  · have hbig' := decide_eq_true hbig
    go_wp2_with fail
    refine (alive_calls _).mono ?_
    rintro e w3 ⟨rfl, hb3⟩
    have B3 := Aside0.mk (below_step B2.out hb3)
    clear hb3
    go_wp2
    go_ret
    exact ⟨rfl, B3.out⟩
  have hbig' := decide_eq_false hbig
  clear HS
  go_wp2_with fail
  refine (newB (N := w.heap.size + 1) _ 3 (by decide) (by decide) (Nat.succ_le_of_lt (blk_lt BX2.out))).mono ?_
  rintro e w3 ⟨a, rfl, hW, hb3⟩
  have G3 := Aside0.mk hW
  have B3 := Aside0.mk (below_step B2.out hb3)
  have X3 := Aside0.mk (blk_below BX2.out hb3)
  obtain ⟨⟨q0, q1, q2, q3, q4, q5⟩, _⟩ := blk6 X3.out
  clear hW hb3 B1 BX B2 BX2 hbig hbig'
  go_wp2_with fail
  refine (addB (m := m) G3.out (by decide) (by decide) (v4 := .slice Z4 m.f4.length e4c) (v5 := .slice Z5 m.f5.length e5c) (HMI.out.below B3.out) HMB.out).mono ?_
  rintro e w4 ⟨rfl, hW, hb⟩
  have G4 := Aside0.mk (show BagB (w.heap.size + 1) w4 a 3 [m] from hW)
  have B4 := Aside0.mk (B3.out.trans (hb.mono (Nat.le_succ _)))
  have X4 := Aside0.mk ((hb.block w.heap.size (Nat.lt_succ_self _)).trans X3.out)
  clear hW hb G3 B3 X3 q0 q1 q2 q3 q4 q5
  go_wp2_with fail
  refine (copyB (k := 0) (x := m) G4.out rfl (by simp) (by simp) HMB.out).mono ?_
  rintro e w5 ⟨rfl, hW, hb⟩
  have G5 := Aside0.mk (show BagB (w.heap.size + 1) w5 a 3 [m, m] from hW)
  have B5 := Aside0.mk (B4.out.trans (hb.mono (Nat.le_succ _)))
  have X5 := Aside0.mk ((hb.block w.heap.size (Nat.lt_succ_self _)).trans X4.out)
  clear hW hb G4 B4 X4
  go_wp2_with fail
  refine (copyB (k := 1) (x := m) G5.out rfl (by simp) (by simp) HMB.out).mono ?_
  rintro e w6 ⟨rfl, hW, hb⟩
  have G6 := Aside0.mk (show BagB (w.heap.size + 1) w6 a 3 [m, m, m] from hW)
  have B6 := Aside0.mk (B5.out.trans (hb.mono (Nat.le_succ _)))
  have X6 := Aside0.mk ((hb.block w.heap.size (Nat.lt_succ_self _)).trans X5.out)
  clear hW hb G5 B5 X5
  go_wp2_with fail
  refine (takeOwn (k := 1) (x := m) G6.out rfl (by simp)).mono ?_
  rintro e w7 ⟨y4, y5, FB, Fm, rfl, hM, hbag, hdis, hlB, hlm, hb⟩
  have hbag' : BagAt w7 a 3 [m, m] FB := hbag
  have B7 := Aside0.mk (B6.out.trans (hb.mono (Nat.le_succ _)))
  have X7 := Aside0.mk ((hb.block w.heap.size (Nat.lt_succ_self _)).trans X6.out)
  obtain ⟨w4', w5', F4, F5, ec, rfl, hr4, hr5⟩ := id hM
  have ec' : msgCells m y4 y5 = msgCells m w4' w5' := Array.ext' ec
  unfold msgCells at ec'
  simp at ec'
  obtain ⟨rfl, rfl⟩ := ec'
  obtain ⟨A4, c4, rfl, ho4⟩ := ops_in hr4
  obtain ⟨A5, c5, rfl, ho5⟩ := res_in hr5
  have MI7 := Aside0.mk (msgIn_of_M hM)
  have ST := Aside0.mk (show ∀ w8, Below w7.heap.size w7 w8 → w8.heap[w7.heap.size]? = some (.cells (msgCells m (.slice A4 m.f4.length c4) (.slice A5 m.f5.length c5)) 38 (0, 0)) → CopS w w8 a w7.heap.size (F4 ++ F5) m (.slice Z4 m.f4.length e4c) (.slice Z5 m.f5.length e5c) A4 c4 A5 c5 from fun w8 hb8 hx8 => by
    have hmv : ∀ b ∈ F4 ++ F5, w8.heap[b]? = w7.heap[b]? := fun b hb => hb8.block b (fdMsg.lt hM b hb)
    refine ⟨⟨FB, hbag'.below hb8, hdis, fun x hx => by have := hlB x hx; omega⟩, blk_below X7.out hb8, hx8, fun h0 => ?_, ?_, ⟨fun hx => by have := fdMsg.lt hM _ hx; omega, fun y hy => hlm y hy⟩, below_step B7.out hb8⟩
    · obtain ⟨g, e, hg, hi⟩ := ho4 h0
      exact ⟨g, e, List.mem_append_left _ hg, hi.same (hmv g (List.mem_append_left _ hg))⟩
    · obtain ⟨A5', c5', e5', ho5'⟩ := res_in (Fd.row_below hr5 hb8)
      cases e5'
      intro h0
      obtain ⟨g, cur, e, hb5, hall⟩ := ho5' h0
      refine ⟨g, cur, e, hb5, fun i hi => ?_⟩
      obtain ⟨B, c, hc, hr⟩ := hall i hi
      exact ⟨B, c, hc, hr.mono (fun b hb => List.mem_append_right _ hb)⟩)
  clear hM hbag hbag' hdis hlB hlm hb hr4 hr5 ho4 ho5 ec G6 B6 X6
  obtain ⟨⟨q0, q1, q2, q3, q4, q5⟩, _⟩ := blk6 X7.out
  have hzz : w.heap.size < w7.heap.size := blk_lt X7.out
  unfold msgCells
  go_wp2_with fail
  have hb8 := below_alloc (Below.refl w7.heap.size w7) (.cells #[.int .u8 m.f0, .int .u8 m.f1, .int .u8 m.f2, .int .u32 m.f3, .slice A4 m.f4.length c4, .slice A5 m.f5.length c5] 38)
  have M8 := blk_new w7 (.cells #[.int .u8 m.f0, .int .u8 m.f1, .int .u8 m.f2, .int .u32 m.f3, .slice A4 m.f4.length c4, .slice A5 m.f5.length c5] 38)
  refine (sameMsg_true _ m _ _ _ _ (MI7.out.below hb8) (HMI.out.below (below_step B7.out hb8)) HMB.out).mono ?_
  rintro e w9 ⟨rfl, hb9⟩
  have ST9 := Aside0.mk (ST.out w9 (below_step hb8 hb9) (blk_below M8 hb9))
  clear hb8 M8 hb9 ST MI7 B7 X7 q0 q1 q2 q3 q4 q5
  go_wp2
  go_loopw [7] (fun i wr => ∃ (k : Nat), k ≤ m.f4.length ∧ i = .int .i64 k ∧ Aside0 (CopS w wr a w7.heap.size (F4 ++ F5) m (.slice Z4 m.f4.length e4c) (.slice Z5 m.f5.length e5c) A4 c4 A5 c5)) (fun i _ => m.f4.length - (intOf i).toNat)
  case atStart => exact ⟨0, Nat.zero_le _, rfl, ST9⟩
  case round =>
    clear ST9
    obtain ⟨k, hk, rfl, HF⟩ := hrel
    have hx := HF.out.x
    unfold msgCells at hx
    obtain ⟨⟨x0, x1, x2, x3, x4, x5⟩, _⟩ := blk6 hx
    clear hx
    by_cases hlt : k < m.f4.length
    · have hlt' : (k : Int) < (m.f4.length : Int) := by omega
      have hk0 : (0 : Int) ≤ (k : Int) := by omega
      obtain ⟨g4, e4, hg4, cs, hcs, hcell⟩ := HF.out.ops (by omega)
      subst e4
      obtain ⟨u, hu⟩ := hcell k hlt
      have hc := (blk_cell hcs (k * 4 + 1)).trans hu
      have hf := blk_frozen hcs (k * 4 + 1)
      have KS := Aside0.mk (HF.out.setKey (by omega) (k * 4 + 1) (.string ⟨#[99, 104, 97, 110, 103, 101, 100]⟩))
      clear hcs hcell hu
      go_wp2
      go_roundw
      case rel => exact ⟨k + 1, by omega, by go_num, KS⟩
      case measure => simp [intOf]; omega
    · have hlt' : ¬ (k : Int) < (m.f4.length : Int) := by omega
      have ST := Aside0.mk HF.out
      clear HF
      go_wp2
      go_loopw [8] (fun i wr => ∃ (k : Nat), k ≤ m.f5.length ∧ i = .int .i64 k ∧ Aside0 (CopS w wr a w7.heap.size (F4 ++ F5) m (.slice Z4 m.f4.length e4c) (.slice Z5 m.f5.length e5c) A4 c4 A5 c5)) (fun i _ => m.f5.length - (intOf i).toNat)
      case atStart => exact ⟨0, Nat.zero_le _, rfl, ST⟩
      case round =>
        clear ST
        obtain ⟨i, hi, rfl, HF⟩ := hrel
        have hx := HF.out.x
        unfold msgCells at hx
        obtain ⟨⟨x0, x1, x2, x3, x4, x5⟩, _⟩ := blk6 hx
        clear hx
        by_cases hil : i < m.f5.length
        · have hil' : (i : Int) < (m.f5.length : Int) := by omega
          have hi0 : (0 : Int) ≤ (i : Int) := by omega
          obtain ⟨g5, cur, e5, _⟩ := HF.out.res (by omega)
          subst e5
          obtain ⟨r, hr⟩ : ∃ r, (m.f5[i]).f0.length = r := ⟨_, rfl⟩
          have hrl : (r : Int) ≤ 140737488355328 := by
            have := HMB.out.2.2 (m.f5[i]) (List.getElem_mem _)
            omega
          have ST := Aside0.mk HF.out
          have HR := Aside0.mk hr
          clear HF hr
          go_wp2
          clear x0 x1 x2 x3 x4 x5
          go_loopw [9] (fun z wr => ∃ (k : Nat), k ≤ r ∧ z = .int .i64 k ∧ Aside0 (CopS w wr a w7.heap.size (F4 ++ F5) m (.slice Z4 m.f4.length e4c) (.slice Z5 m.f5.length e5c) A4 c4 (some ⟨g5, 0, none⟩) c5)) (fun z _ => r - (intOf z).toNat)
          case atStart => exact ⟨0, Nat.zero_le _, rfl, ST⟩
          case round =>
            clear ST
            obtain ⟨k, hk, rfl, HF⟩ := hrel
            have hx := HF.out.x
            unfold msgCells at hx
            obtain ⟨⟨x0, x1, x2, x3, x4, x5⟩, _⟩ := blk6 hx
            clear hx
            obtain ⟨g, cur, e5, hb5, hall⟩ := HF.out.res (by omega)
            cases e5
            obtain ⟨B, d, hc, hrok⟩ := hall i hil
            have HC := Aside0.mk hc
            rw [HR.out] at hc
            clear hb5 hall
            by_cases hkl : k < r
            · have hkl' : (k : Int) < (r : Int) := by omega
              have hk0 : (0 : Int) ≤ (k : Int) := by omega
              have hn : 0 < (m.f5[i]).f0.length := by rw [HR.out]; omega
              obtain ⟨b, eb, _, cs, hcs, hcell⟩ := hrok hn
              subst eb
              obtain ⟨u, hu⟩ := hcell k (by rw [HR.out]; exact hkl)
              have hc2 := (blk_cell hcs (k * 2 + 1)).trans hu
              have hf2 := blk_frozen hcs (k * 2 + 1)
              have HN := Aside0.mk hn
              clear hcs hcell hu hrok hn
              go_wp2
              go_roundw
              case rel => exact ⟨k + 1, by omega, by go_num, Aside0.mk (HF.out.setVal hil HN.out HC.out (k * 2 + 1) _)⟩
              case measure => simp [intOf]; omega
            · have hkl' : ¬ (k : Int) < (r : Int) := by omega
              clear hrok
              go_wp2
              go_roundw
              case rel => exact ⟨i + 1, by omega, by go_num, HF⟩
              case measure => simp [intOf]; omega
        · have hil' : ¬ (i : Int) < (m.f5.length : Int) := by omega
          obtain ⟨FB, hbag, _, hlB⟩ := HF.out.bag
          have X9 := Aside0.mk HF.out.box
          have BL := Aside0.mk HF.out.below
          have BG := Aside0.mk hbag
          clear hbag HF
          go_wp2_with fail
          refine (List_calls _ a 3 [m, m] FB BG.out (by simp) (by
            intro x hx
            have : x = m := by simpa using hx
            rw [this]
            exact HMB.out)).mono ?_
          rintro e w11 ⟨v, rfl, hb11, FL, hrow, _, hl⟩
          obtain ⟨LA, lc, rfl, hlc, _⟩ := Fd.row_reads hrow
          have hL := show Listed 0 w11 LA lc [m, m] from ⟨FL, hrow, fun _ _ => Nat.zero_le _⟩
          obtain ⟨gl, D4, d4, D5, d5, e, ha, hh0⟩ := hL.open_ (k := 0) (x := m) rfl
          subst e
          obtain ⟨gl', E4, f4, E5, f5, e, hb, hh1⟩ := hL.open_ (k := 1) (x := m) rfl
          cases e
          have B11 := Aside0.mk (below_step BL.out hb11)
          have X11 := Aside0.mk (blk_below X9.out hb11)
          have HA := Aside0.mk ha
          have HBB := Aside0.mk hb
          have M0 := Aside0.mk hh0.msgIn
          have M1 := Aside0.mk hh1.msgIn
          have h2 : [m, m].length = 2 := rfl
          rw [h2]
          clear hb11 hrow hl hL ha hb hh0 hh1 BL X9 BG hlB h2
          go_wp2_with fail
          have hd := below_drew1 (Below.refl w11.heap.size w11)
          have HS0 := Aside0.mk (show (fun w' : World => w'.cell? ⟨gl, 0, none⟩ = some (.int .u8 m.f0) ∧ w'.cell? ⟨gl, 1, none⟩ = some (.int .u8 m.f1) ∧ w'.cell? ⟨gl, 2, none⟩ = some (.int .u8 m.f2) ∧ w'.cell? ⟨gl, 3, none⟩ = some (.int .u32 m.f3) ∧ w'.cell? ⟨gl, 4, none⟩ = some (.slice D4 m.f4.length d4) ∧ w'.cell? ⟨gl, 5, none⟩ = some (.slice D5 m.f5.length d5) ∧ w'.cell? ⟨gl, 6, none⟩ = some (.int .u8 m.f0) ∧ w'.cell? ⟨gl, 7, none⟩ = some (.int .u8 m.f1) ∧ w'.cell? ⟨gl, 8, none⟩ = some (.int .u8 m.f2) ∧ w'.cell? ⟨gl, 9, none⟩ = some (.int .u32 m.f3) ∧ w'.cell? ⟨gl, 10, none⟩ = some (.slice E4 m.f4.length f4) ∧ w'.cell? ⟨gl, 11, none⟩ = some (.slice E5 m.f5.length f5) ∧ w'.cell? ⟨w.heap.size, 0, none⟩ = some (.int .u8 m.f0) ∧ w'.cell? ⟨w.heap.size, 1, none⟩ = some (.int .u8 m.f1) ∧ w'.cell? ⟨w.heap.size, 2, none⟩ = some (.int .u8 m.f2) ∧ w'.cell? ⟨w.heap.size, 3, none⟩ = some (.int .u32 m.f3) ∧ w'.cell? ⟨w.heap.size, 4, none⟩ = some (.slice Z4 m.f4.length e4c) ∧ w'.cell? ⟨w.heap.size, 5, none⟩ = some (.slice Z5 m.f5.length e5c)) w11.drew from by
            obtain ⟨⟨y0, y1, y2, y3, y4, y5⟩, _⟩ := blk6 X11.out
            obtain ⟨a0, a1, a2, a3, a4, a5⟩ := HA.out
            obtain ⟨b0, b1, b2, b3, b4, b5⟩ := HBB.out
            exact ⟨a0, a1, a2, a3, a4, a5, b0, b1, b2, b3, b4, b5, y0, y1, y2, y3, y4, y5⟩)
          have B12 := Aside0.mk (below_step B11.out hd)
          have M02 := Aside0.mk (M0.out.below hd)
          have M12 := Aside0.mk (M1.out.below hd)
          clear hd B11 M0 M1 X11 HA HBB
          first | (go_region_held3 (fun w' : World => w'.cell? ⟨gl, 0, none⟩ = some (.int .u8 m.f0) ∧ w'.cell? ⟨gl, 1, none⟩ = some (.int .u8 m.f1) ∧ w'.cell? ⟨gl, 2, none⟩ = some (.int .u8 m.f2) ∧ w'.cell? ⟨gl, 3, none⟩ = some (.int .u32 m.f3) ∧ w'.cell? ⟨gl, 4, none⟩ = some (.slice D4 m.f4.length d4) ∧ w'.cell? ⟨gl, 5, none⟩ = some (.slice D5 m.f5.length d5) ∧ w'.cell? ⟨gl, 6, none⟩ = some (.int .u8 m.f0) ∧ w'.cell? ⟨gl, 7, none⟩ = some (.int .u8 m.f1) ∧ w'.cell? ⟨gl, 8, none⟩ = some (.int .u8 m.f2) ∧ w'.cell? ⟨gl, 9, none⟩ = some (.int .u32 m.f3) ∧ w'.cell? ⟨gl, 10, none⟩ = some (.slice E4 m.f4.length f4) ∧ w'.cell? ⟨gl, 11, none⟩ = some (.slice E5 m.f5.length f5) ∧ w'.cell? ⟨w.heap.size, 0, none⟩ = some (.int .u8 m.f0) ∧ w'.cell? ⟨w.heap.size, 1, none⟩ = some (.int .u8 m.f1) ∧ w'.cell? ⟨w.heap.size, 2, none⟩ = some (.int .u8 m.f2) ∧ w'.cell? ⟨w.heap.size, 3, none⟩ = some (.int .u32 m.f3) ∧ w'.cell? ⟨w.heap.size, 4, none⟩ = some (.slice Z4 m.f4.length e4c) ∧ w'.cell? ⟨w.heap.size, 5, none⟩ = some (.slice Z5 m.f5.length e5c)) (first | exact HS0.out | exact HS1.out | exact HS2.out) (first
                 | (go_at_call 35
                    refine (sameMsg_true _ m _ _ _ _ M02.out (HMI.out.below B12.out) HMB.out).mono ?_
                    rintro e w13 ⟨rfl, hb⟩
                    have M13 := Aside0.mk (M12.out.below hb)
                    have B13 := Aside0.mk (below_step B12.out hb)
                    have HS1 := Aside0.mk (show (fun w' : World => w'.cell? ⟨gl, 0, none⟩ = some (.int .u8 m.f0) ∧ w'.cell? ⟨gl, 1, none⟩ = some (.int .u8 m.f1) ∧ w'.cell? ⟨gl, 2, none⟩ = some (.int .u8 m.f2) ∧ w'.cell? ⟨gl, 3, none⟩ = some (.int .u32 m.f3) ∧ w'.cell? ⟨gl, 4, none⟩ = some (.slice D4 m.f4.length d4) ∧ w'.cell? ⟨gl, 5, none⟩ = some (.slice D5 m.f5.length d5) ∧ w'.cell? ⟨gl, 6, none⟩ = some (.int .u8 m.f0) ∧ w'.cell? ⟨gl, 7, none⟩ = some (.int .u8 m.f1) ∧ w'.cell? ⟨gl, 8, none⟩ = some (.int .u8 m.f2) ∧ w'.cell? ⟨gl, 9, none⟩ = some (.int .u32 m.f3) ∧ w'.cell? ⟨gl, 10, none⟩ = some (.slice E4 m.f4.length f4) ∧ w'.cell? ⟨gl, 11, none⟩ = some (.slice E5 m.f5.length f5) ∧ w'.cell? ⟨w.heap.size, 0, none⟩ = some (.int .u8 m.f0) ∧ w'.cell? ⟨w.heap.size, 1, none⟩ = some (.int .u8 m.f1) ∧ w'.cell? ⟨w.heap.size, 2, none⟩ = some (.int .u8 m.f2) ∧ w'.cell? ⟨w.heap.size, 3, none⟩ = some (.int .u32 m.f3) ∧ w'.cell? ⟨w.heap.size, 4, none⟩ = some (.slice Z4 m.f4.length e4c) ∧ w'.cell? ⟨w.heap.size, 5, none⟩ = some (.slice Z5 m.f5.length e5c)) w13 from ⟨cell_later hb HS0.out.1, cell_later hb HS0.out.2.1, cell_later hb HS0.out.2.2.1, cell_later hb HS0.out.2.2.2.1, cell_later hb HS0.out.2.2.2.2.1, cell_later hb HS0.out.2.2.2.2.2.1, cell_later hb HS0.out.2.2.2.2.2.2.1, cell_later hb HS0.out.2.2.2.2.2.2.2.1, cell_later hb HS0.out.2.2.2.2.2.2.2.2.1, cell_later hb HS0.out.2.2.2.2.2.2.2.2.2.1, cell_later hb HS0.out.2.2.2.2.2.2.2.2.2.2.1, cell_later hb HS0.out.2.2.2.2.2.2.2.2.2.2.2.1, cell_later hb HS0.out.2.2.2.2.2.2.2.2.2.2.2.2.1, cell_later hb HS0.out.2.2.2.2.2.2.2.2.2.2.2.2.2.1, cell_later hb HS0.out.2.2.2.2.2.2.2.2.2.2.2.2.2.2.1, cell_later hb HS0.out.2.2.2.2.2.2.2.2.2.2.2.2.2.2.2.1, cell_later hb HS0.out.2.2.2.2.2.2.2.2.2.2.2.2.2.2.2.2.1, cell_later hb HS0.out.2.2.2.2.2.2.2.2.2.2.2.2.2.2.2.2.2⟩)
                    clear hb M12 B12 HS0)
                 | (go_at_call 35
                    refine (sameMsg_true _ m _ _ _ _ M13.out (HMI.out.below B13.out) HMB.out).mono ?_
                    rintro e w14 ⟨rfl, hb⟩
                    have B14 := Aside0.mk (below_step B13.out hb)
                    have HS2 := Aside0.mk (show (fun w' : World => w'.cell? ⟨gl, 0, none⟩ = some (.int .u8 m.f0) ∧ w'.cell? ⟨gl, 1, none⟩ = some (.int .u8 m.f1) ∧ w'.cell? ⟨gl, 2, none⟩ = some (.int .u8 m.f2) ∧ w'.cell? ⟨gl, 3, none⟩ = some (.int .u32 m.f3) ∧ w'.cell? ⟨gl, 4, none⟩ = some (.slice D4 m.f4.length d4) ∧ w'.cell? ⟨gl, 5, none⟩ = some (.slice D5 m.f5.length d5) ∧ w'.cell? ⟨gl, 6, none⟩ = some (.int .u8 m.f0) ∧ w'.cell? ⟨gl, 7, none⟩ = some (.int .u8 m.f1) ∧ w'.cell? ⟨gl, 8, none⟩ = some (.int .u8 m.f2) ∧ w'.cell? ⟨gl, 9, none⟩ = some (.int .u32 m.f3) ∧ w'.cell? ⟨gl, 10, none⟩ = some (.slice E4 m.f4.length f4) ∧ w'.cell? ⟨gl, 11, none⟩ = some (.slice E5 m.f5.length f5) ∧ w'.cell? ⟨w.heap.size, 0, none⟩ = some (.int .u8 m.f0) ∧ w'.cell? ⟨w.heap.size, 1, none⟩ = some (.int .u8 m.f1) ∧ w'.cell? ⟨w.heap.size, 2, none⟩ = some (.int .u8 m.f2) ∧ w'.cell? ⟨w.heap.size, 3, none⟩ = some (.int .u32 m.f3) ∧ w'.cell? ⟨w.heap.size, 4, none⟩ = some (.slice Z4 m.f4.length e4c) ∧ w'.cell? ⟨w.heap.size, 5, none⟩ = some (.slice Z5 m.f5.length e5c)) w14 from ⟨cell_later hb HS1.out.1, cell_later hb HS1.out.2.1, cell_later hb HS1.out.2.2.1, cell_later hb HS1.out.2.2.2.1, cell_later hb HS1.out.2.2.2.2.1, cell_later hb HS1.out.2.2.2.2.2.1, cell_later hb HS1.out.2.2.2.2.2.2.1, cell_later hb HS1.out.2.2.2.2.2.2.2.1, cell_later hb HS1.out.2.2.2.2.2.2.2.2.1, cell_later hb HS1.out.2.2.2.2.2.2.2.2.2.1, cell_later hb HS1.out.2.2.2.2.2.2.2.2.2.2.1, cell_later hb HS1.out.2.2.2.2.2.2.2.2.2.2.2.1, cell_later hb HS1.out.2.2.2.2.2.2.2.2.2.2.2.2.1, cell_later hb HS1.out.2.2.2.2.2.2.2.2.2.2.2.2.2.1, cell_later hb HS1.out.2.2.2.2.2.2.2.2.2.2.2.2.2.2.1, cell_later hb HS1.out.2.2.2.2.2.2.2.2.2.2.2.2.2.2.2.1, cell_later hb HS1.out.2.2.2.2.2.2.2.2.2.2.2.2.2.2.2.2.1, cell_later hb HS1.out.2.2.2.2.2.2.2.2.2.2.2.2.2.2.2.2.2⟩)
                    clear hb M13 B13 HS1))) | fail "held3"
          all_goals
            go_wp2
            go_ret
            exact ⟨rfl, B14.out⟩
end Go.Proofs.Ytcohodkpppmaoaa.Q
