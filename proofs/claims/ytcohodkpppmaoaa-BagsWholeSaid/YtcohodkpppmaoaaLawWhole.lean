/-
  concordatlaw08.BagsWhole, walked: it answers true for every messages, from which end they are taken.
-/
import Derived.Test.YtcohodkpppmaoaaBagB
namespace Go.Proofs.Ytcohodkpppmaoaa.Q
open Go.RowKit Go.Proofs.YtcohodkpppmaoaaW.PrintWords Go.Proofs.YtcohodkpppmaoaaW.PrintLast Go.Proofs.YtcohodkpppmaoaaW.PrintMore
set_option linter.unusedVariables false

/-- A message of a list that is read: its cells. -/
theorem read_at {w : World} {A : Option Addr} {L : List MsgT} (hC : k38.C w A L.length L) {k : Nat} {x : MsgT} (hx : L[k]? = some x) :
    ∃ ad A4 c4 A5 c5, A = some ad ∧ (w.cell? (ad.add (k * 6)) = some (.int .u8 x.f0) ∧ w.cell? ⟨(ad.add (k * 6)).block, (ad.add (k * 6)).off + 1, none⟩ = some (.int .u8 x.f1) ∧ w.cell? ⟨(ad.add (k * 6)).block, (ad.add (k * 6)).off + 2, none⟩ = some (.int .u8 x.f2) ∧ w.cell? ⟨(ad.add (k * 6)).block, (ad.add (k * 6)).off + 3, none⟩ = some (.int .u32 x.f3) ∧
      w.cell? ⟨(ad.add (k * 6)).block, (ad.add (k * 6)).off + 4, none⟩ = some (.slice A4 x.f4.length c4) ∧ w.cell? ⟨(ad.add (k * 6)).block, (ad.add (k * 6)).off + 5, none⟩ = some (.slice A5 x.f5.length c5)) ∧ MsgIn w x (.slice A4 x.f4.length c4) (.slice A5 x.f5.length c5) := by
  obtain ⟨hk, hx'⟩ := List.getElem?_eq_some_iff.1 hx
  obtain ⟨ad, A4, c4, A5, c5, e, h0, h1, h2, h3, h4, h5, l4, g4, l5, g5⟩ := at_T38 hC (k : Int) (by omega) (by omega)
  have hr : rd_T38 L (k : Int) = x := by
    unfold rd_T38
    rw [Int.toNat_natCast, List.getD_eq_getElem?_getD, hx]
    rfl
  rw [hr] at h0 h1 h2 h3 h4 h5 l4 g4 l5 g5
  rw [Int.toNat_natCast] at h0 h1 h2 h3 h4 h5
  exact ⟨ad, A4, c4, A5, c5, e, ⟨h0, h1, h2, h3, h4, h5⟩, ⟨_, _, _, _, rfl, rfl, l4, g4, l5, g5⟩⟩

theorem addr_add0 (ad : Addr) : ad.add 0 = ad := by
  cases ad
  simp [Addr.add]
/-- What is left when k of them have been taken. -/
def left (L : List MsgT) (last : Bool) (k : Nat) : List MsgT := if last = true then L.take (L.length - k) else L.drop k
set_option maxHeartbeats 6400000 in
set_option maxRecDepth 100000 in
theorem BagsWhole_calls (w : World) (L : List MsgT) (A : Option Addr) (c : Nat) (last : Bool) (hC : k38.C w A L.length L) (hc : L.length ≤ c) (hl : L.length ≤ many) (hB : ∀ m ∈ L, msgB m) (hok : ∀ m ∈ L, msgOk m) :
    Calls Try.prog 7 #[.slice A L.length c, .bool last] w fun e w' => e = .returned (.bool true) ∧ Below w.heap.size w w' := by
  obtain ⟨s, hs⟩ := msgsSize_any L hl hok
  have HS := Aside0.mk hs
  have HC := Aside0.mk hC
  have HB := Aside0.mk hB
  clear hs hC hB hok
  go_enter Try.func7, Try.ntmps7
  go_wp2_with fail
  refine (alive_calls _).mono ?_
  rintro e w1 ⟨rfl, hb1⟩
  have B1 := Aside0.mk hb1
  clear hb1
  by_cases hbig : (30 : Int) < (L.length : Int)
  · have hbig' := decide_eq_true hbig
    go_wp2_with fail
    refine (alive_calls _).mono ?_
    rintro e w3 ⟨rfl, hb3⟩
    have B3 := Aside0.mk (below_step B1.out hb3)
    clear hb3
    go_wp2
    go_ret
    exact ⟨rfl, B3.out⟩
  have hbig' := decide_eq_false hbig
  go_wp2_with fail
  refine (HS.out _ A c (Kd.C_below HC.out B1.out) hc).mono ?_
  rintro e w2 ⟨rfl, hb2⟩
  have B2 := Aside0.mk (below_step B1.out hb2)
  clear hb2 B1 HS
  by_cases hs3 : 3000 < s
  · have hs3' := decide_eq_true hs3
    go_wp2_with fail
    refine (alive_calls _).mono ?_
    rintro e w3 ⟨rfl, hb3⟩
    have B3 := Aside0.mk (below_step B2.out hb3)
    clear hb3
    go_wp2
    go_ret
    exact ⟨rfl, B3.out⟩
  have hs3' := decide_eq_false hs3
  by_cases hz : L.length = 0
  · have hz' : ((L.length : Int) == 0) = true := by rw [hz]; rfl
    have HZ := Aside0.mk hz
    clear hz
    go_wp2_with fail
    refine (alive_calls _).mono ?_
    rintro e w3 ⟨rfl, hb3⟩
    have B3 := Aside0.mk (below_step B2.out hb3)
    clear hb3
    go_wp2
    go_ret
    exact ⟨rfl, B3.out⟩
  have hz' : ((L.length : Int) == 0) = false := beq_eq_false_iff_ne.2 (by omega)
  have hn30 : L.length ≤ 30 := by omega
  have hn1 : 1 ≤ L.length := by omega
  clear hz
  go_wp2_with fail
  refine (newB (N := w.heap.size) _ (L.length : Int) (by omega) (by omega) B2.out.size).mono ?_
  rintro e w3 ⟨g, rfl, hW, hb3⟩
  have ST := Aside0.mk (show BagB w.heap.size w3 g (L.length : Int) (L.take 0) ∧ Below w.heap.size w w3 from ⟨by simpa using hW, below_step B2.out hb3⟩)
  clear hW hb3 B2 hz' hbig hbig' hs3 hs3'
  go_wp2
  go_loopw [7] (fun i wr => ∃ (k : Nat), k ≤ L.length ∧ i = .int .i64 k ∧ Aside0 (BagB w.heap.size wr g (L.length : Int) (L.take k) ∧ Below w.heap.size w wr)) (fun i _ => L.length - (intOf i).toNat)
  case atStart => exact ⟨0, Nat.zero_le _, rfl, ST⟩
  case round =>
    clear ST
    obtain ⟨k, hk, rfl, HF⟩ := hrel
    by_cases hlt : k < L.length
    · have hlt' : (k : Int) < (L.length : Int) := by omega
      have hk0 : (0 : Int) ≤ (k : Int) := by omega
      have hx := List.getElem?_eq_getElem hlt
      obtain ⟨ad, A4, c4, A5, c5, e, ⟨q0, q1, q2, q3, q4, q5⟩, hmi⟩ := read_at (Kd.C_below HC.out HF.out.2) hx
      subst e
      have HMI := Aside0.mk hmi
      have hne : ((L.take k).length : Int) ≠ (L.length : Int) := by rw [List.length_take]; omega
      have HNE := Aside0.mk hne
      have HX := Aside0.mk (HB.out (L[k]) (List.getElem_mem _))
      have HTK := Aside0.mk (List.take_succ_eq_append_getElem hlt)
      clear hmi hne hx
      go_wp2_with fail
      refine (addB (m := L[k]) HF.out.1 HNE.out (by rw [List.length_take]; omega) HMI.out HX.out).mono ?_
      rintro e w4 ⟨rfl, hW, hb4⟩
      have W4 := Aside0.mk (And.intro hW hb4)
      clear hW hb4 q0 q1 q2 q3 q4 q5
      go_wp2
      go_roundw
      case rel => exact ⟨k + 1, by omega, by go_num, ⟨by rw [HTK.out]; exact W4.out.1, HF.out.2.trans W4.out.2⟩⟩
      case measure => simp [intOf]; omega
    · obtain ⟨hG, hBl⟩ := HF.out
      rw [List.take_of_length_le (by omega)] at hG
      have G := Aside0.mk hG
      have BL := Aside0.mk hBl
      have hx := List.getElem?_eq_getElem (show 0 < L.length by omega)
      obtain ⟨ad, A4, c4, A5, c5, e, ⟨q0, q1, q2, q3, q4, q5⟩, hmi⟩ := read_at (Kd.C_below HC.out hBl) hx
      subst e
      have HMI := Aside0.mk hmi
      rw [Nat.zero_mul, addr_add0] at q0 q1 q2 q3 q4 q5
      clear hmi hx hG hBl HF
      go_wp2_with fail
      refine (addFullB (m := L[0]) G.out rfl HMI.out).mono ?_
      rintro e w4 ⟨rfl, hb⟩
      have G4 := Aside0.mk (G.out.below hb)
      have B4 := Aside0.mk (below_step BL.out hb)
      clear hb G BL q0 q1 q2 q3 q4 q5 HMI
      go_wp2_with fail
      refine (listB G4.out (by omega) HB.out).mono ?_
      rintro e w5 ⟨A', c', rfl, hc', hC', hb⟩
      have HC' := Aside0.mk hC'
      have G5 := Aside0.mk (G4.out.below hb)
      have B5 := Aside0.mk (below_step B4.out hb)
      clear hC' hb G4 B4
      go_wp2_with fail
      refine (sameMsgs_true _ L A' (some ad) c' c HC'.out hc' (Kd.C_below HC.out B5.out) hc HB.out).mono ?_
      rintro e w6 ⟨rfl, hb⟩
      have ST := Aside0.mk (show BagB w.heap.size w6 g (L.length : Int) (left L last 0) ∧ Below w.heap.size w w6 from ⟨by
        have := G5.out.below hb
        unfold left
        cases last <;> simp [this], below_step B5.out hb⟩)
      clear hb G5 B5 HC'
      go_wp2
      go_loopw [8] (fun i wr => ∃ (k : Nat), k ≤ L.length ∧ i = .int .i64 k ∧ Aside0 (BagB w.heap.size wr g (L.length : Int) (left L last k) ∧ Below w.heap.size w wr)) (fun i _ => L.length - (intOf i).toNat)
      case atStart => exact ⟨0, Nat.zero_le _, rfl, ST⟩
      case round =>
        clear ST
        obtain ⟨q, hq, rfl, HF⟩ := hrel
        by_cases hlt2 : q < L.length
        · have hlt' : (q : Int) < (L.length : Int) := by omega
          have hq0 : (0 : Int) ≤ (q : Int) := by omega
          have hx := List.getElem?_eq_getElem hlt2
          obtain ⟨_, A4, c4, A5, c5, e, ⟨q0, q1, q2, q3, q4, q5⟩, hmi⟩ := read_at HC.out hx
          cases e
          replace q0 := cell_later HF.out.2 q0
          replace q1 := cell_later HF.out.2 q1
          replace q2 := cell_later HF.out.2 q2
          replace q3 := cell_later HF.out.2 q3
          replace q4 := cell_later HF.out.2 q4
          replace q5 := cell_later HF.out.2 q5
          cases last with
          | false =>
            have hLq : (left L false q)[0]? = some (L[q]) := by
              unfold left
              rw [if_neg (by decide), List.getElem?_drop]
              simp
            have hle : left L false (q + 1) = (left L false q).eraseIdx 0 := by
              unfold left
              rw [if_neg (by decide), if_neg (by decide), List.eraseIdx_zero, List.tail_drop]
            have hlen : (left L false q).length ≤ 65536 := by unfold left; rw [if_neg (by decide), List.length_drop]; omega
            have HMI := Aside0.mk hmi
            have HX := Aside0.mk (HB.out (L[q]) (List.getElem_mem _))
            have HLQ := Aside0.mk hLq
            have HLE := Aside0.mk hle
            clear hmi hx hLq hle
            go_wp2_with fail
            have hbw := below_alloc (Below.refl wr.heap.size wr) (.cells #[.int .u8 (L[q]).f0, .int .u8 (L[q]).f1, .int .u8 (L[q]).f2, .int .u32 (L[q]).f3, .slice A4 (L[q]).f4.length c4, .slice A5 (L[q]).f5.length c5] 38)
            refine (takeLater (k := 0) (x := L[q]) HF.out.1 hbw HLQ.out hlen).mono ?_
            rintro e w7 ⟨y4, y5, rfl, hy, hG7, hb7, hk7⟩
            have bw7 := (hk7 wr.heap.size (Nat.le_refl _) (by rw [alloc_size']; omega)).trans (blk_new wr (.cells #[.int .u8 (L[q]).f0, .int .u8 (L[q]).f1, .int .u8 (L[q]).f2, .int .u32 (L[q]).f3, .slice A4 (L[q]).f4.length c4, .slice A5 (L[q]).f5.length c5] 38))
            have W7 := Aside0.mk (And.intro hG7 ((HF.out.2.trans (hbw.mono HF.out.2.size)).trans hb7))
            have HY := Aside0.mk hy
            obtain ⟨⟨E4, f4, E5, f5, rfl, rfl, _⟩⟩ := hy
            obtain ⟨⟨z0, z1, z2, z3, z4, z5⟩, _⟩ := blk6 bw7
            have hzz : wr.heap.size < w7.heap.size := blk_lt bw7
            clear hG7 hb7 hk7 bw7 hbw q0 q1 q2 q3 q4 q5
            unfold msgCells
            go_wp2_with fail
            have hb8 := below_alloc (Below.refl w7.heap.size w7) (.cells #[.int .u8 (L[q]).f0, .int .u8 (L[q]).f1, .int .u8 (L[q]).f2, .int .u32 (L[q]).f3, .slice E4 (L[q]).f4.length f4, .slice E5 (L[q]).f5.length f5] 38)
            refine (sameMsg_true _ (L[q]) _ _ _ _ (HY.out.below hb8) (HMI.out.below (below_step W7.out.2 hb8)) HX.out).mono ?_
            rintro e w9 ⟨rfl, hb9⟩
            have W9 := Aside0.mk (And.intro (W7.out.1.below (below_step hb8 hb9)) (below_step W7.out.2 (below_step hb8 hb9)))
            clear hb8 hb9 z0 z1 z2 z3 z4 z5 hzz
            go_wp2
            go_roundw
            case rel => exact ⟨q + 1, by omega, by go_num, ⟨by rw [HLE.out]; exact W9.out.1, W9.out.2⟩⟩
            case measure => simp [intOf]; omega
          | true =>
            obtain ⟨p, hp⟩ : ∃ p : Nat, (L.length : Int) - 1 - (q : Int) = (p : Int) := ⟨L.length - 1 - q, by omega⟩
            have hpl : p < L.length := by omega
            have hpl' : (p : Int) < (L.length : Int) := by omega
            have hp0 : (0 : Int) ≤ (p : Int) := by omega
            have hpq : p = L.length - q - 1 := by omega
            have hxp := List.getElem?_eq_getElem hpl
            have hLq : (left L true q)[p]? = some (L[p]) := by
              unfold left
              rw [if_pos rfl, List.getElem?_take, if_pos (by omega)]
              exact hxp
            have hle : left L true (q + 1) = (left L true q).eraseIdx p := by
              unfold left
              rw [if_pos rfl, if_pos rfl, List.eraseIdx_eq_take_drop_succ, List.take_take, List.drop_of_length_le (by rw [List.length_take]; omega), List.append_nil]
              congr 1
              omega
            have hlen : (left L true q).length ≤ 65536 := by unfold left; rw [if_pos rfl, List.length_take]; omega
            obtain ⟨_, B4, d4, B5, d5, e', ⟨r0, r1, r2, r3, r4, r5⟩, hmi'⟩ := read_at HC.out hxp
            cases e'
            replace r0 := cell_later HF.out.2 r0
            replace r1 := cell_later HF.out.2 r1
            replace r2 := cell_later HF.out.2 r2
            replace r3 := cell_later HF.out.2 r3
            replace r4 := cell_later HF.out.2 r4
            replace r5 := cell_later HF.out.2 r5
            have HP := Aside0.mk hpq
            have hlow := World.block_lt_of_cell? _ _ r0
            clear hpq hxp
            clear hmi
            have hmi := hmi'
            clear hmi'
            have HMI := Aside0.mk hmi
            have HX := Aside0.mk (HB.out (L[p]) (List.getElem_mem _))
            have HLQ := Aside0.mk hLq
            have HLE := Aside0.mk hle
            clear hmi hx hLq hle
            go_wp2_with fail
            have hbw := below_alloc (Below.refl wr.heap.size wr) (.cells #[.int .u8 (L[p]).f0, .int .u8 (L[p]).f1, .int .u8 (L[p]).f2, .int .u32 (L[p]).f3, .slice B4 (L[p]).f4.length d4, .slice B5 (L[p]).f5.length d5] 38)
            refine (takeLater (k := p) (x := L[p]) HF.out.1 hbw HLQ.out hlen).mono ?_
            rintro e w7 ⟨y4, y5, rfl, hy, hG7, hb7, hk7⟩
            have bw7 := (hk7 wr.heap.size (Nat.le_refl _) (by rw [alloc_size']; omega)).trans (blk_new wr (.cells #[.int .u8 (L[p]).f0, .int .u8 (L[p]).f1, .int .u8 (L[p]).f2, .int .u32 (L[p]).f3, .slice B4 (L[p]).f4.length d4, .slice B5 (L[p]).f5.length d5] 38))
            have W7 := Aside0.mk (And.intro hG7 ((HF.out.2.trans (hbw.mono HF.out.2.size)).trans hb7))
            have HY := Aside0.mk hy
            obtain ⟨⟨E4, f4, E5, f5, rfl, rfl, _⟩⟩ := hy
            obtain ⟨⟨z0, z1, z2, z3, z4, z5⟩, _⟩ := blk6 bw7
            have hzz : wr.heap.size < w7.heap.size := blk_lt bw7
            clear hG7 hb7 hk7 bw7 hbw q0 q1 q2 q3 q4 q5 r0 r1 r2 r3 r4 r5
            unfold msgCells
            go_wp2_with fail
            have hb8 := below_alloc (Below.refl w7.heap.size w7) (.cells #[.int .u8 (L[p]).f0, .int .u8 (L[p]).f1, .int .u8 (L[p]).f2, .int .u32 (L[p]).f3, .slice E4 (L[p]).f4.length f4, .slice E5 (L[p]).f5.length f5] 38)
            refine (sameMsg_true _ (L[p]) _ _ _ _ (HY.out.below hb8) (HMI.out.below (below_step W7.out.2 hb8)) HX.out).mono ?_
            rintro e w9 ⟨rfl, hb9⟩
            have W9 := Aside0.mk (And.intro (W7.out.1.below (below_step hb8 hb9)) (below_step W7.out.2 (below_step hb8 hb9)))
            clear hb8 hb9 z0 z1 z2 z3 z4 z5 hzz
            go_wp2
            go_roundw
            case rel => exact ⟨q + 1, by omega, by go_num, ⟨by rw [HLE.out]; exact W9.out.1, W9.out.2⟩⟩
            case measure => simp [intOf]; omega
        · have hle : left L last q = [] := by
            unfold left
            cases last with
            | false => rw [if_neg (by decide), List.drop_of_length_le (by omega)]
            | true => rw [if_pos rfl, show L.length - q = 0 by omega, List.take_zero]
          have hG := HF.out.1
          rw [hle] at hG
          have G := Aside0.mk hG
          have HL0 := Aside0.mk hle
          clear hG hle
          go_wp2_with fail
          refine (listB G.out (by decide) (fun m hm => by cases hm)).mono ?_
          rintro e w7 ⟨A9, c9, rfl, _, _, hb⟩
          have B7 := Aside0.mk (below_step HF.out.2 hb)
          clear hb
          go_wp2
          go_ret
          exact ⟨rfl, B7.out⟩
end Go.Proofs.Ytcohodkpppmaoaa.Q
