/-
  concordatlaw08.BagsTwo, walked: it answers true for every messages and every bytes.
-/
import Derived.Test.YtcohodkpppmaoaaBagTwo
namespace Go.Proofs.Ytcohodkpppmaoaa.Q
open Go.RowKit Go.Proofs.YtcohodkpppmaoaaW.PrintWords Go.Proofs.YtcohodkpppmaoaaW.PrintLast Go.Proofs.YtcohodkpppmaoaaW.PrintMore
set_option linter.unusedVariables false

/-- A message of a list that is read: its cells. -/
theorem read_at2 {w : World} {A : Option Addr} {L : List MsgT} (hC : k38.C w A L.length L) {k : Nat} {x : MsgT} (hx : L[k]? = some x) :
    ∃ ad A4 c4 A5 c5, A = some ad ∧ (w.cell? (ad.add (k * 6)) = some (.int .u8 x.f0) ∧ w.cell? ⟨(ad.add (k * 6)).block, (ad.add (k * 6)).off + 1, none⟩ = some (.int .u8 x.f1) ∧ w.cell? ⟨(ad.add (k * 6)).block, (ad.add (k * 6)).off + 2, none⟩ = some (.int .u8 x.f2) ∧ w.cell? ⟨(ad.add (k * 6)).block, (ad.add (k * 6)).off + 3, none⟩ = some (.int .u32 x.f3) ∧
      w.cell? ⟨(ad.add (k * 6)).block, (ad.add (k * 6)).off + 4, none⟩ = some (.slice A4 x.f4.length c4) ∧ w.cell? ⟨(ad.add (k * 6)).block, (ad.add (k * 6)).off + 5, none⟩ = some (.slice A5 x.f5.length c5)) ∧ MsgIn w x (.slice A4 x.f4.length c4) (.slice A5 x.f5.length c5) := by
  obtain ⟨hk, hx'⟩ := List.getElem?_eq_some_iff.1 hx
  obtain ⟨ad, A4, c4, A5, c5, e, h0, h1, h2, h3, h4, h5, l4, g4, l5, g5⟩ := at_T38 hC (k : Int) (by omega) (by omega)
  have hr : rd_T38 L (k : Int) = x := by
    unfold rd_T38
    rw [Int.toNat_natCast, List.getD_eq_getElem?_getD, hx]
    rfl
  rw [hr] at h0 h1 h2 h3 h4 h5 l4 g4 l5 g5
  rw [Int.toNat_natCast] at h0 h1 h2 h3 h4 h5
  exact ⟨ad, A4, c4, A5, c5, e, ⟨h0, h1, h2, h3, h4, h5⟩, ⟨_, _, _, _, rfl, rfl, l4, g4, l5, g5⟩⟩
theorem byte_at {w : World} {A : Option Addr} {T : List Int} (hC : (Kd.int .u8).C w A T.length T) {k : Nat} (hk : k < T.length) : ∃ ad, A = some ad ∧ w.cell? (ad.add k) = some (.int .u8 T[k]) := by
  obtain ⟨ad, e, h⟩ := Kd.at_int hC (k : Int) (by omega) (by omega)
  rw [Int.toNat_natCast] at h
  refine ⟨ad, e, ?_⟩
  rw [h]
  unfold rd
  simp [hk]
/-- Where the second loop stands. -/
structure BothAt (w wr : World) (a b : Nat) (L La Lb : List MsgT) (k : Nat) : Prop where
  la : La.length + k = L.length
  lb : Lb.length = k
  ba : ∀ m ∈ La, msgB m
  bb : ∀ m ∈ Lb, msgB m
  two : TwoB w.heap.size wr.heap.size wr a b 20 La Lb
  below : Below w.heap.size w wr
set_option maxHeartbeats 6400000 in
set_option maxRecDepth 100000 in
theorem BagsTwo_calls (w : World) (L : List MsgT) (A : Option Addr) (c : Nat) (T : List Int) (B : Option Addr) (d : Nat) (hC : k38.C w A L.length L) (hc : L.length ≤ c) (hD : (Kd.int .u8).C w B T.length T) (hd : T.length ≤ d) (hT : ∀ t ∈ T, 0 ≤ t ∧ t ≤ 255)
    (hl : L.length ≤ many) (hB : ∀ m ∈ L, msgB m) (hok : ∀ m ∈ L, msgOk m) :
    Calls Try.prog 9 #[.slice A L.length c, .slice B T.length d] w fun e w' => e = .returned (.bool true) ∧ Below w.heap.size w w' := by
  obtain ⟨s, hs⟩ := msgsSize_any L hl hok
  have HS := Aside0.mk hs
  have HC := Aside0.mk hC
  have HB := Aside0.mk hB
  have HD := Aside0.mk hD
  have HT := Aside0.mk hT
  clear hs hC hB hok hD hT
  go_enter Try.func9, Try.ntmps9
  go_wp2_with fail
  refine (alive_calls _).mono ?_
  rintro e w1 ⟨rfl, hb1⟩
  have B1 := Aside0.mk hb1
  clear hb1
  by_cases hbig : (20 : Int) < (L.length : Int)
  · have hbig' := decide_eq_true hbig
    go_wp2_with fail
    refine (alive_calls _).mono ?_
    rintro e w3 ⟨rfl, hb3⟩
    have B3 := Aside0.mk (below_step B1.out hb3)
    clear hb3
    go_wp2
    go_ret
    exact ⟨rfl, B3.out⟩
  have hbig' := decide_eq_false hbig
  go_wp2_with fail
  refine (HS.out _ A c (Kd.C_below HC.out B1.out) hc).mono ?_
  rintro e w2 ⟨rfl, hb2⟩
  have B2 := Aside0.mk (below_step B1.out hb2)
  clear hb2 B1 HS
  by_cases hs3 : 3000 < s
  · have hs3' := decide_eq_true hs3
    go_wp2_with fail
    refine (alive_calls _).mono ?_
    rintro e w3 ⟨rfl, hb3⟩
    have B3 := Aside0.mk (below_step B2.out hb3)
    clear hb3
    go_wp2
    go_ret
    exact ⟨rfl, B3.out⟩
  have hs3' := decide_eq_false hs3
  by_cases ht : (100 : Int) < (T.length : Int)
  · have ht' := decide_eq_true ht
    go_wp2_with fail
    refine (alive_calls _).mono ?_
    rintro e w3 ⟨rfl, hb3⟩
    have B3 := Aside0.mk (below_step B2.out hb3)
    clear hb3
    go_wp2
    go_ret
    exact ⟨rfl, B3.out⟩
  have ht' := decide_eq_false ht
  have hn20 : L.length ≤ 20 := by omega
  have ht100 : T.length ≤ 100 := by omega
  go_wp2_with fail
  refine (newB (N := w.heap.size) _ 20 (by decide) (by decide) B2.out.size).mono ?_
  rintro e w3 ⟨a, rfl, hW, hb3⟩
  have A3 := Aside0.mk hW
  have B3 := Aside0.mk (below_step B2.out hb3)
  clear hW hb3 B2 hbig hbig' hs3 hs3' ht ht'
  go_wp2_with fail
  refine (new_yes _ 20 (by decide) (by decide)).mono ?_
  rintro e w4 ⟨b, Fb, rfl, hb, hl4, hb4⟩
  have ST := Aside0.mk (show TwoB w.heap.size w4.heap.size w4 a b 20 (L.take 0) [] ∧ Below w.heap.size w w4 from ⟨by simpa using two_new A3.out hb hl4 hb4, below_step B3.out hb4⟩)
  clear hb hl4 hb4 A3 B3
  go_wp2
  go_loopw [9] (fun i wr => ∃ (k : Nat), k ≤ L.length ∧ i = .int .i64 k ∧ Aside0 (TwoB w.heap.size wr.heap.size wr a b 20 (L.take k) [] ∧ Below w.heap.size w wr)) (fun i _ => L.length - (intOf i).toNat)
  case atStart => exact ⟨0, Nat.zero_le _, rfl, ST⟩
  case round =>
    clear ST
    obtain ⟨k, hk, rfl, HF⟩ := hrel
    by_cases hlt : k < L.length
    · have hlt' : (k : Int) < (L.length : Int) := by omega
      have hk0 : (0 : Int) ≤ (k : Int) := by omega
      have hx := List.getElem?_eq_getElem hlt
      obtain ⟨ad, A4, c4, A5, c5, e, ⟨q0, q1, q2, q3, q4, q5⟩, hmi⟩ := read_at2 (Kd.C_below HC.out HF.out.2) hx
      subst e
      have HMI := Aside0.mk hmi
      have hne : ((L.take k).length : Int) ≠ 20 := by rw [List.length_take]; omega
      have HNE := Aside0.mk hne
      have HX := Aside0.mk (HB.out (L[k]) (List.getElem_mem _))
      have HTK := Aside0.mk (List.take_succ_eq_append_getElem hlt)
      clear hmi hne hx
      go_wp2_with fail
      refine (twoAdd (m := L[k]) HF.out.1 HNE.out (by rw [List.length_take]; omega) HMI.out HX.out).mono ?_
      rintro e w4 ⟨rfl, hW, hb4, _⟩
      have W4 := Aside0.mk (And.intro hW hb4)
      clear hW hb4 q0 q1 q2 q3 q4 q5
      go_wp2
      go_roundw
      case rel => exact ⟨k + 1, by omega, by go_num, ⟨by rw [HTK.out]; exact W4.out.1, HF.out.2.trans W4.out.2⟩⟩
      case measure => simp [intOf]; omega
    · obtain ⟨hG, hBl⟩ := HF.out
      rw [List.take_of_length_le (by omega)] at hG
      have ST := Aside0.mk (show BothAt w wr a b L L [] 0 from ⟨rfl, rfl, HB.out, fun _ h => by simp at h, hG, hBl⟩)
      clear hG hBl HF
      go_wp2
      go_loopw [10] (fun i wr => ∃ (k : Nat) (La Lb : List MsgT), i = .int .i64 k ∧ Aside0 (BothAt w wr a b L La Lb k)) (fun i _ => L.length - (intOf i).toNat)
      case atStart => exact ⟨0, L, [], rfl, ST⟩
      case round =>
        clear ST
        obtain ⟨q, La, Lb, rfl, HF⟩ := hrel
        have hla := HF.out.la
        have hlb := HF.out.lb
        by_cases hq : q < L.length
        · have hq' : (q : Int) < (L.length : Int) := by omega
          have hq0 : (0 : Int) ≤ (q : Int) := by omega
          by_cases hqt : q < T.length
          · have hqt' : (q : Int) < (T.length : Int) := by omega
            obtain ⟨bd, eB, hbt⟩ := byte_at (Kd.C_below HD.out HF.out.below) hqt
            subst eB
            obtain ⟨t, et⟩ : ∃ t, T[q] = t := ⟨_, rfl⟩
            have htb := HT.out (T[q]) (List.getElem_mem _)
            rw [et] at hbt htb
            have ht0 : 0 ≤ t := htb.1
            have ht1 : t ≤ 255 := htb.2
            have hla1 : 1 ≤ La.length := by omega
            obtain ⟨j, hj⟩ : ∃ j : Nat, t % (La.length : Int) = (j : Int) := ⟨(t % (La.length : Int)).toNat, by rw [Int.toNat_of_nonneg (Int.emod_nonneg _ (by omega))]⟩
            have hjl : j < La.length := by
              have := Int.emod_lt_of_pos t (show (0 : Int) < La.length by omega)
              omega
            have hjl' : (j : Int) < (La.length : Int) := by omega
            have hj0 : (0 : Int) ≤ (j : Int) := by omega
            have hsub : (L.length : Int) - (q : Int) = (La.length : Int) := by omega
            have HBT := Aside0.mk hbt
            clear hbt htb et
            go_wp2_with fail
            refine (twoList HF.out.two (by omega) HF.out.ba).mono ?_
            rintro e w5 ⟨A5, c5, rfl, hc5, hL5, hb5⟩
            have L5 := Aside0.mk hL5
            have T5 := Aside0.mk (HF.out.two.below hb5)
            have B5 := Aside0.mk hb5
            have hx := List.getElem?_eq_getElem hjl
            have HX := Aside0.mk hx
            obtain ⟨gl, A4, c4, A6, c6, e, ⟨q0, q1, q2, q3, q4, q5⟩, hheld⟩ := hL5.open_ hx
            subst e
            have HH := Aside0.mk hheld
            have hbt := cell_later hb5 HBT.out
            clear hL5 hb5 hx hheld
            go_wp2_with fail
            have hbw := below_alloc (Below.refl w5.heap.size w5) (.cells #[.int .u8 (La[j]).f0, .int .u8 (La[j]).f1, .int .u8 (La[j]).f2, .int .u32 (La[j]).f3, .slice A4 (La[j]).f4.length c4, .slice A6 (La[j]).f5.length c6] 38)
            have X6 := Aside0.mk (blk_new w5 (.cells #[.int .u8 (La[j]).f0, .int .u8 (La[j]).f1, .int .u8 (La[j]).f2, .int .u32 (La[j]).f3, .slice A4 (La[j]).f4.length c4, .slice A6 (La[j]).f5.length c6] 38))
            have H6 := Aside0.mk (HH.out.mid (Mid.below hbw _))
            have S5 := Aside0.mk B5.out.size
            refine (twoTake (k := j) (x := La[j]) (T5.out.below hbw) HX.out (by omega)).mono ?_
            rintro e w7 ⟨y4, y5, rfl, hy, hT7, hb7, hm7⟩
            have H7 := Aside0.mk (H6.out.mid hm7)
            have Y7 := Aside0.mk hy
            have T7 := Aside0.mk hT7
            have B7 := Aside0.mk (((HF.out.below.trans (B5.out.mono HF.out.below.size)).trans (hbw.mono (Nat.le_trans HF.out.below.size S5.out))).trans hb7)
            have X7 := Aside0.mk ((hm7 w5.heap.size S5.out (by rw [alloc_size']; omega)).trans X6.out)
            obtain ⟨⟨E4, f4, E5, f5, rfl, rfl, _⟩⟩ := hy
            have x7 := X7.out
            obtain ⟨⟨z0, z1, z2, z3, z4, z5⟩, _⟩ := blk6 x7
            have hzz : w5.heap.size < w7.heap.size := blk_lt x7
            clear hT7 hb7 hm7 hbw H6 X6 T5 HH x7 q0 q1 q2 q3 q4 q5 hbt
            unfold msgCells
            go_wp2_with fail
            have hb8 := below_alloc (Below.refl w7.heap.size w7) (.cells #[.int .u8 (La[j]).f0, .int .u8 (La[j]).f1, .int .u8 (La[j]).f2, .int .u32 (La[j]).f3, .slice E4 (La[j]).f4.length f4, .slice E5 (La[j]).f5.length f5] 38)
            have M8 := blk_new w7 (.cells #[.int .u8 (La[j]).f0, .int .u8 (La[j]).f1, .int .u8 (La[j]).f2, .int .u32 (La[j]).f3, .slice E4 (La[j]).f4.length f4, .slice E5 (La[j]).f5.length f5] 38)
            have HBX := Aside0.mk (HF.out.ba (La[j]) (List.getElem_mem _))
            refine (sameMsg_true _ (La[j]) _ _ _ _ (Y7.out.below hb8) ((H7.out.mid (Mid.below hb8 _)).msgIn) HBX.out).mono ?_
            rintro e w9 ⟨rfl, hb9⟩
            have hb79 := below_step hb8 hb9
            have H9 := Aside0.mk (H7.out.mid (Mid.below hb79 _))
            have Y9 := Aside0.mk (Y7.out.below hb79)
            have T9 := Aside0.mk (T7.out.below hb79)
            have B9 := Aside0.mk (below_step B7.out hb79)
            have X9 := Aside0.mk (blk_below X7.out hb79)
            have m9 := blk_below M8 hb9
            obtain ⟨⟨z0, z1, z2, z3, z4, z5⟩, _⟩ := blk6 m9
            clear hb8 M8 hb9 hb79 H7 Y7 T7 B7 X7 m9
            go_wp2_with fail
            refine (twoAdd (m := La[j]) (T9.out.swap) (by rw [HF.out.lb]; omega) (by rw [HF.out.lb]; omega) Y9.out HBX.out).mono ?_
            rintro e w10 ⟨rfl, hT10, hb10, hm10⟩
            have H10 := Aside0.mk (H9.out.mid hm10)
            have T10 := Aside0.mk hT10
            have B10 := Aside0.mk (B9.out.trans hb10)
            have X10 := Aside0.mk ((hm10 w5.heap.size S5.out (by have := blk_lt X9.out; omega)).trans X9.out)
            clear hT10 hb10 hm10 z0 z1 z2 z3 z4 z5 H9 Y9 T9 B9 X9
            have hlt : (Lb ++ [La[j]]).length = q + 1 := by rw [List.length_append, HF.out.lb]; rfl
            have HLT := Aside0.mk hlt
            have hbb : ∀ m ∈ Lb ++ [La[j]], msgB m := fun m hm => by
              rcases List.mem_append.1 hm with hm | hm
              · exact HF.out.bb m hm
              · rw [List.mem_singleton.1 hm]
                exact HBX.out
            have HBB := Aside0.mk hbb
            clear hlt hbb
            go_wp2_with fail
            refine (twoList T10.out (by rw [HLT.out]; omega) HBB.out).mono ?_
            rintro e w11 ⟨A11, c11, rfl, hc11, hL11, hb11⟩
            rw [HLT.out]
            have T11 := Aside0.mk (T10.out.below hb11).swap
            have B11 := Aside0.mk (below_step B10.out hb11)
            have X11 := Aside0.mk (blk_below X10.out hb11)
            have H11 := Aside0.mk (H10.out.mid (Mid.below hb11 _))
            obtain ⟨gt, D4, d4, D5, d5, e, hcells, hheld⟩ := hL11.open_ (k := q) (x := La[j]) (by rw [List.getElem?_append_right (by rw [HF.out.lb]; omega), HF.out.lb, Nat.sub_self]; rfl)
            subst e
            have Z11 := Aside0.mk hcells
            have Y11 := Aside0.mk hheld.msgIn
            clear hL11 hb11 hcells hheld T10 B10 X10 H10
            obtain ⟨n1, hn1⟩ : ∃ n1, La.length = n1 + 1 := ⟨La.length - 1, by omega⟩
            have hle : (La.eraseIdx j).length = n1 := by rw [List.length_eraseIdx_of_lt hjl]; omega
            have HLE := Aside0.mk hle
            have hbe : ∀ m ∈ La.eraseIdx j, msgB m := fun m hm => HF.out.ba m (List.mem_of_mem_eraseIdx hm)
            have HBE := Aside0.mk hbe
            have hw1 : IntKind.i64.wrap ((q : Int) + 1) = (q : Int) + 1 := IntWalk.i64_in _ (by omega)
            have hw2 : IntKind.i64.wrap ((L.length : Int) - (q : Int)) = (La.length : Int) := by rw [hsub]; exact IntWalk.i64_in _ (by omega)
            have hw3 : IntKind.i64.wrap ((La.length : Int) - 1) = (n1 : Int) := by rw [IntWalk.i64_in _ (by omega)]; omega
            have hw4 : IntKind.i64.wrap (La.length : Int) = (La.length : Int) := IntWalk.i64_in _ (by omega)
            have hqq : (q : Int) < (q : Int) + 1 := by omega
            have hqn : q < q + 1 := by omega
            have HN1 := Aside0.mk hn1
            clear hle hbe hn1
            go_wp2_with fail
            have hd := below_drew1 (Below.refl w11.heap.size w11)
            have HS0 := Aside0.mk (show (fun w' : World => w'.cell? ⟨gt, q * 6, none⟩ = some (.int .u8 (La[j]).f0) ∧ w'.cell? ⟨gt, q * 6 + 1, none⟩ = some (.int .u8 (La[j]).f1) ∧ w'.cell? ⟨gt, q * 6 + 2, none⟩ = some (.int .u8 (La[j]).f2) ∧ w'.cell? ⟨gt, q * 6 + 3, none⟩ = some (.int .u32 (La[j]).f3) ∧ w'.cell? ⟨gt, q * 6 + 4, none⟩ = some (.slice D4 (La[j]).f4.length d4) ∧ w'.cell? ⟨gt, q * 6 + 5, none⟩ = some (.slice D5 (La[j]).f5.length d5) ∧ w'.cell? ⟨w5.heap.size, 0, none⟩ = some (.int .u8 (La[j]).f0) ∧ w'.cell? ⟨w5.heap.size, 1, none⟩ = some (.int .u8 (La[j]).f1) ∧ w'.cell? ⟨w5.heap.size, 2, none⟩ = some (.int .u8 (La[j]).f2) ∧ w'.cell? ⟨w5.heap.size, 3, none⟩ = some (.int .u32 (La[j]).f3) ∧ w'.cell? ⟨w5.heap.size, 4, none⟩ = some (.slice A4 (La[j]).f4.length c4) ∧ w'.cell? ⟨w5.heap.size, 5, none⟩ = some (.slice A6 (La[j]).f5.length c6)) w11.drew from by
              obtain ⟨⟨y0, y1, y2, y3, y4, y5⟩, _⟩ := blk6 X11.out
              obtain ⟨z0, z1, z2, z3, z4, z5⟩ := Z11.out
              exact ⟨z0, z1, z2, z3, z4, z5, y0, y1, y2, y3, y4, y5⟩)
            have T12 := Aside0.mk (T11.out.below hd)
            have B12 := Aside0.mk (below_step B11.out hd)
            have H12 := Aside0.mk (H11.out.mid (Mid.below hd _))
            have Y12 := Aside0.mk (Y11.out.below hd)
            clear hd T11 B11 H11 Y11 X11 Z11
            first | (go_region_held3 (fun w' : World => w'.cell? ⟨gt, q * 6, none⟩ = some (.int .u8 (La[j]).f0) ∧ w'.cell? ⟨gt, q * 6 + 1, none⟩ = some (.int .u8 (La[j]).f1) ∧ w'.cell? ⟨gt, q * 6 + 2, none⟩ = some (.int .u8 (La[j]).f2) ∧ w'.cell? ⟨gt, q * 6 + 3, none⟩ = some (.int .u32 (La[j]).f3) ∧ w'.cell? ⟨gt, q * 6 + 4, none⟩ = some (.slice D4 (La[j]).f4.length d4) ∧ w'.cell? ⟨gt, q * 6 + 5, none⟩ = some (.slice D5 (La[j]).f5.length d5) ∧ w'.cell? ⟨w5.heap.size, 0, none⟩ = some (.int .u8 (La[j]).f0) ∧ w'.cell? ⟨w5.heap.size, 1, none⟩ = some (.int .u8 (La[j]).f1) ∧ w'.cell? ⟨w5.heap.size, 2, none⟩ = some (.int .u8 (La[j]).f2) ∧ w'.cell? ⟨w5.heap.size, 3, none⟩ = some (.int .u32 (La[j]).f3) ∧ w'.cell? ⟨w5.heap.size, 4, none⟩ = some (.slice A4 (La[j]).f4.length c4) ∧ w'.cell? ⟨w5.heap.size, 5, none⟩ = some (.slice A6 (La[j]).f5.length c6)) (first | exact HS0.out | exact HS1.out | exact HS2.out) (first
                   | (go_at_call 35
                      refine (sameMsg_true _ (La[j]) _ _ _ _ Y12.out H12.out.msgIn HBX.out).mono ?_
                      rintro e w13 ⟨rfl, hb⟩
                      have T13 := Aside0.mk (T12.out.below hb)
                      have B13 := Aside0.mk (below_step B12.out hb)
                      have HS1 := Aside0.mk (show (fun w' : World => w'.cell? ⟨gt, q * 6, none⟩ = some (.int .u8 (La[j]).f0) ∧ w'.cell? ⟨gt, q * 6 + 1, none⟩ = some (.int .u8 (La[j]).f1) ∧ w'.cell? ⟨gt, q * 6 + 2, none⟩ = some (.int .u8 (La[j]).f2) ∧ w'.cell? ⟨gt, q * 6 + 3, none⟩ = some (.int .u32 (La[j]).f3) ∧ w'.cell? ⟨gt, q * 6 + 4, none⟩ = some (.slice D4 (La[j]).f4.length d4) ∧ w'.cell? ⟨gt, q * 6 + 5, none⟩ = some (.slice D5 (La[j]).f5.length d5) ∧ w'.cell? ⟨w5.heap.size, 0, none⟩ = some (.int .u8 (La[j]).f0) ∧ w'.cell? ⟨w5.heap.size, 1, none⟩ = some (.int .u8 (La[j]).f1) ∧ w'.cell? ⟨w5.heap.size, 2, none⟩ = some (.int .u8 (La[j]).f2) ∧ w'.cell? ⟨w5.heap.size, 3, none⟩ = some (.int .u32 (La[j]).f3) ∧ w'.cell? ⟨w5.heap.size, 4, none⟩ = some (.slice A4 (La[j]).f4.length c4) ∧ w'.cell? ⟨w5.heap.size, 5, none⟩ = some (.slice A6 (La[j]).f5.length c6)) w13 from ⟨cell_later hb HS0.out.1, cell_later hb HS0.out.2.1, cell_later hb HS0.out.2.2.1, cell_later hb HS0.out.2.2.2.1, cell_later hb HS0.out.2.2.2.2.1, cell_later hb HS0.out.2.2.2.2.2.1, cell_later hb HS0.out.2.2.2.2.2.2.1, cell_later hb HS0.out.2.2.2.2.2.2.2.1, cell_later hb HS0.out.2.2.2.2.2.2.2.2.1, cell_later hb HS0.out.2.2.2.2.2.2.2.2.2.1, cell_later hb HS0.out.2.2.2.2.2.2.2.2.2.2.1, cell_later hb HS0.out.2.2.2.2.2.2.2.2.2.2.2⟩)
                      clear hb T12 B12 HS0)
                   | (go_at_call 28
                      refine (twoList T13.out (by rw [HLE.out]; have := HN1.out; omega) HBE.out).mono ?_
                      rintro e w14 ⟨A12, c12, rfl, _, _, hb⟩
                      rw [HLE.out]
                      have T14 := Aside0.mk (T13.out.below hb)
                      have B14 := Aside0.mk (below_step B13.out hb)
                      have HS2 := Aside0.mk (show (fun w' : World => w'.cell? ⟨gt, q * 6, none⟩ = some (.int .u8 (La[j]).f0) ∧ w'.cell? ⟨gt, q * 6 + 1, none⟩ = some (.int .u8 (La[j]).f1) ∧ w'.cell? ⟨gt, q * 6 + 2, none⟩ = some (.int .u8 (La[j]).f2) ∧ w'.cell? ⟨gt, q * 6 + 3, none⟩ = some (.int .u32 (La[j]).f3) ∧ w'.cell? ⟨gt, q * 6 + 4, none⟩ = some (.slice D4 (La[j]).f4.length d4) ∧ w'.cell? ⟨gt, q * 6 + 5, none⟩ = some (.slice D5 (La[j]).f5.length d5) ∧ w'.cell? ⟨w5.heap.size, 0, none⟩ = some (.int .u8 (La[j]).f0) ∧ w'.cell? ⟨w5.heap.size, 1, none⟩ = some (.int .u8 (La[j]).f1) ∧ w'.cell? ⟨w5.heap.size, 2, none⟩ = some (.int .u8 (La[j]).f2) ∧ w'.cell? ⟨w5.heap.size, 3, none⟩ = some (.int .u32 (La[j]).f3) ∧ w'.cell? ⟨w5.heap.size, 4, none⟩ = some (.slice A4 (La[j]).f4.length c4) ∧ w'.cell? ⟨w5.heap.size, 5, none⟩ = some (.slice A6 (La[j]).f5.length c6)) w14 from ⟨cell_later hb HS1.out.1, cell_later hb HS1.out.2.1, cell_later hb HS1.out.2.2.1, cell_later hb HS1.out.2.2.2.1, cell_later hb HS1.out.2.2.2.2.1, cell_later hb HS1.out.2.2.2.2.2.1, cell_later hb HS1.out.2.2.2.2.2.2.1, cell_later hb HS1.out.2.2.2.2.2.2.2.1, cell_later hb HS1.out.2.2.2.2.2.2.2.2.1, cell_later hb HS1.out.2.2.2.2.2.2.2.2.2.1, cell_later hb HS1.out.2.2.2.2.2.2.2.2.2.2.1, cell_later hb HS1.out.2.2.2.2.2.2.2.2.2.2.2⟩)
                      clear hb T13 B13 HS1))) | fail "held3"
            all_goals
              clear hw1 hw2 hw3 hw4 hqq hqn
              go_wp2
              go_roundw
              case rel => exact ⟨q + 1, La.eraseIdx j, Lb ++ [La[j]], by go_num, ⟨by rw [HLE.out]; have := HF.out.la; have := HN1.out; omega, HLT.out, HBE.out, HBB.out, T14.out.top, B14.out⟩⟩
              case measure => simp [intOf]; omega
          · have hqt' : ¬ (q : Int) < (T.length : Int) := by omega
            have BL := Aside0.mk HF.out.below
            go_wp2
            go_ret
            exact ⟨rfl, BL.out⟩
        · have hq' : ¬ (q : Int) < (L.length : Int) := by omega
          have BL := Aside0.mk HF.out.below
          go_wp2
          go_ret
          exact ⟨rfl, BL.out⟩
end Go.Proofs.Ytcohodkpppmaoaa.Q
