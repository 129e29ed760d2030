/-
  concordatlaw08.BagsCount, walked: it answers true for every number and every acts.
-/
import Derived.Test.YtcohodkpppmaoaaCount
namespace Go.Proofs.Ytcohodkpppmaoaa.Q
open Go.RowKit Go.Proofs.YtcohodkpppmaoaaW.PrintWords Go.Proofs.YtcohodkpppmaoaaW.PrintLast Go.Proofs.YtcohodkpppmaoaaW.PrintMore
set_option linter.unusedVariables false
/-- An act of a list that is read: its cells. -/
theorem read_act {w : World} {A : Option Addr} {L : List ActT} (hC : k58.C w A L.length L) {k : Nat} {x : ActT} (hx : L[k]? = some x) :
    ∃ ad A4 c4 A5 c5, A = some ad ∧ (w.cell? (ad.add (k * 8)) = some (.int .u8 x.f0) ∧ w.cell? ⟨(ad.add (k * 8)).block, (ad.add (k * 8)).off + 1, none⟩ = some (.int .u8 x.f1.f0) ∧ w.cell? ⟨(ad.add (k * 8)).block, (ad.add (k * 8)).off + 2, none⟩ = some (.int .u8 x.f1.f1) ∧ w.cell? ⟨(ad.add (k * 8)).block, (ad.add (k * 8)).off + 3, none⟩ = some (.int .u8 x.f1.f2) ∧
      w.cell? ⟨(ad.add (k * 8)).block, (ad.add (k * 8)).off + 4, none⟩ = some (.int .u32 x.f1.f3) ∧ w.cell? ⟨(ad.add (k * 8)).block, (ad.add (k * 8)).off + 5, none⟩ = some (.slice A4 x.f1.f4.length c4) ∧ w.cell? ⟨(ad.add (k * 8)).block, (ad.add (k * 8)).off + 6, none⟩ = some (.slice A5 x.f1.f5.length c5) ∧ w.cell? ⟨(ad.add (k * 8)).block, (ad.add (k * 8)).off + 7, none⟩ = some (.int .i64 x.f2)) := by
  obtain ⟨hk, hx'⟩ := List.getElem?_eq_some_iff.1 hx
  obtain ⟨ad, A4, c4, A5, c5, e, h0, h1, h2, h3, h4, h5, h6, h7, _⟩ := at_T58 hC (k : Int) (by omega) (by omega)
  have hr : rd_T58 L (k : Int) = x := by
    unfold rd_T58
    rw [Int.toNat_natCast, List.getD_eq_getElem?_getD, hx]
    rfl
  rw [hr] at h0 h1 h2 h3 h4 h5 h6 h7
  rw [Int.toNat_natCast] at h0 h1 h2 h3 h4 h5 h6 h7
  exact ⟨ad, A4, c4, A5, c5, e, ⟨h0, h1, h2, h3, h4, h5, h6, h7⟩⟩
theorem msgNil (w : World) (s i : Int) : MsgIn w (⟨s, 0, 0, i, [], []⟩ : MsgT) (.slice none 0 0) (.slice none 0 0) := by
  refine ⟨none, 0, none, 0, rfl, rfl, Nat.le_refl _, ?_, Nat.le_refl _, ?_⟩
  · obtain ⟨A, c, e, _, h⟩ := Fd.row_reads (Fd.row_nil fdOp 68 w)
    cases e
    exact h
  · obtain ⟨A, c, e, _, h⟩ := Fd.row_reads (Fd.row_nil fdResult 71 w)
    cases e
    exact h
theorem msgB_nil {s i : Int} : msgB (⟨s, 0, 0, i, [], []⟩ : MsgT) := ⟨by simp, by simp, fun r hr => by simp at hr⟩
/-- Where the loop stands. -/
structure CountS (w wr : World) (g : Nat) (most : Int) (Lm : List MsgT) (v : Value) (k : Nat) : Prop where
  at_ : CountAt w.heap.size wr g most Lm v (gs Lm)
  len : Lm.length ≤ k
  upto : (Lm.length : Int) ≤ most
  mB : ∀ m ∈ Lm, msgB m
  below : Below w.heap.size w wr
set_option maxHeartbeats 6400000 in
set_option maxRecDepth 100000 in
theorem BagsCount_calls (w : World) (most : Int) (L : List ActT) (A : Option Addr) (c : Nat) (hC : k58.C w A L.length L) (hc : L.length ≤ c) (h0 : 0 ≤ most) (h1 : most ≤ 255)
    (hl : L.length ≤ many) (hok : ∀ a ∈ L, msgOk a.f1) :
    Calls Try.prog 6 #[.int .u8 most, .slice A L.length c] w fun e w' => e = .returned (.bool true) ∧ Below w.heap.size w w' := by
  obtain ⟨r, hr⟩ := great_any L hl hok
  have HR := Aside0.mk hr
  have HC := Aside0.mk hC
  clear hr hC hok
  go_enter Try.func6, Try.ntmps6
  go_wp2_with fail
  refine (alive_calls _).mono ?_
  rintro e w1 ⟨rfl, hb1⟩
  have B1 := Aside0.mk hb1
  clear hb1
  go_wp2_with fail
  refine (HR.out _ A c (Kd.C_below HC.out B1.out) hc).mono ?_
  rintro e w2 ⟨rfl, hb2⟩
  have B2 := Aside0.mk (below_step B1.out hb2)
  clear hb2 B1 HR
  cases r with
  | true =>
    go_wp2_with fail
    refine (alive_calls _).mono ?_
    rintro e w3 ⟨rfl, hb3⟩
    have B3 := Aside0.mk (below_step B2.out hb3)
    clear hb3
    go_wp2
    go_ret
    exact ⟨rfl, B3.out⟩
  | false =>
    by_cases hbig : (100 : Int) < (L.length : Int)
    · have hbig' := decide_eq_true hbig
      go_wp2_with fail
      refine (alive_calls _).mono ?_
      rintro e w3 ⟨rfl, hb3⟩
      have B3 := Aside0.mk (below_step B2.out hb3)
      clear hb3
      go_wp2
      go_ret
      exact ⟨rfl, B3.out⟩
    have hbig' := decide_eq_false hbig
    have hn100 : L.length ≤ 100 := by omega
    obtain ⟨q, hq⟩ : ∃ q, 1 + most = q := ⟨_, rfl⟩
    have hq1 : 1 ≤ q := by omega
    have hq2 : q ≤ 256 := by omega
    go_wp2_with fail
    refine (newB (N := w.heap.size) _ q hq1 hq2 B2.out.size).mono ?_
    rintro e w3 ⟨g, rfl, hW, hb3⟩
    have ST := Aside0.mk (show CountS w w3 g q [] (.slice none 0 0) 0 from ⟨count_new hW, Nat.le_refl _, by show (0 : Int) ≤ q; omega, fun _ h => by simp at h, below_step B2.out hb3⟩)
    clear hW hb3 B2 hbig hbig'
    go_wp2
    go_loopw [8, 9] (fun o i wr => ∃ (k : Nat) (Lm : List MsgT) (v : Value), k ≤ L.length ∧ i = .int .i64 k ∧ v = o ∧ Aside0 (CountS w wr g q Lm v k)) (fun _ i _ => L.length - (intOf i).toNat)
    case atStart => exact ⟨0, [], _, Nat.zero_le _, rfl, rfl, ST⟩
    case round =>
      clear ST
      obtain ⟨k, Lm, v, hk, rfl, rfl, HF⟩ := hrel
      by_cases hlt : k < L.length
      · have hlt' : (k : Int) < (L.length : Int) := by omega
        have hk0 : (0 : Int) ≤ (k : Int) := by omega
        obtain ⟨ad, A4, c4, A5, c5, e, q0, q1, q2, q3, q4, q5, q6, q7⟩ := read_act (Kd.C_below HC.out HF.out.below) (List.getElem?_eq_getElem hlt)
        subst e
        have hgl : (gs Lm).length = Lm.length := by simp [gs]
        obtain ⟨V, d, ev, hd, hv⟩ := HF.out.at_.reads
        rw [hgl] at ev hd
        subst ev
        have HV := Aside0.mk hv
        obtain ⟨x, hx⟩ : ∃ x, L[k] = x := ⟨_, rfl⟩
        rw [hx] at q0 q1 q2 q3 q4 q5 q6 q7
        obtain ⟨at_, hat⟩ : ∃ z, x.f2 = z := ⟨_, rfl⟩
        obtain ⟨kd, hkd⟩ : ∃ z, x.f0 = z := ⟨_, rfl⟩
        rw [hat] at q7
        rw [hkd] at q0
        obtain ⟨t, ht⟩ : ∃ t, Int.tmod kd 5 = t := ⟨_, rfl⟩
        have HGL := Aside0.mk hgl
        clear hgl
        have hlm : Lm.length ≤ 100 := by have := HF.out.len; omega
        have hbw := below_alloc (Below.refl wr.heap.size wr) (.cells #[.int .u8 kd, .int .u8 x.f1.f0, .int .u8 x.f1.f1, .int .u8 x.f1.f2, .int .u32 x.f1.f3, .slice A4 x.f1.f4.length c4, .slice A5 x.f1.f5.length c5, .int .i64 at_] 58)
        have CW := Aside0.mk (HF.out.at_.below hbw)
        have BW := Aside0.mk (below_step HF.out.below hbw)
        have CV := Aside0.mk (Kd.C_below HV.out hbw)
        clear hv hbw
        by_cases hm0 : 0 ≤ at_
        · by_cases hm1 : at_ < (Lm.length : Int)
          · by_cases k0 : t = 0
            · as_aux_lemma =>
                subst k0
                have hmi : MsgIn (wr.alloc (.cells #[.int .u8 kd, .int .u8 x.f1.f0, .int .u8 x.f1.f1, .int .u8 x.f1.f2, .int .u32 x.f1.f3, .slice A4 x.f1.f4.length c4, .slice A5 x.f1.f5.length c5, .int .i64 at_] 58)) (⟨x.f1.f0, 0, 0, (k : Int), [], []⟩ : MsgT) (.slice none 0 0) (.slice none 0 0) := msgNil _ _ _
                have HMI := Aside0.mk hmi
                clear hmi
                by_cases hfull : (Lm.length : Int) = q
                · have hnl : ¬ (Lm.length : Int) < q := by omega
                  go_wp2_with fail
                  refine (addFullB (m := ⟨x.f1.f0, 0, 0, (k : Int), [], []⟩) CW.out.bag hfull HMI.out).mono ?_
                  rintro e w5 ⟨rfl, hb5⟩
                  have C5 := Aside0.mk (CW.out.below hb5)
                  have B5 := Aside0.mk (below_step BW.out hb5)
                  have V5 := Aside0.mk (Kd.C_below CV.out hb5)
                  clear hb5 CW BW CV q0 q1 q2 q3 q4 q5 q6 q7
                  go_wp2_with fail
                  have his := isB C5.out.bag (by omega) HF.out.mB (gs Lm) V d V5.out (by rw [HGL.out]; exact hd)
                  rw [HGL.out] at his
                  refine his.mono ?_
                  clear his
                  rintro e w8 ⟨rfl, hb8⟩
                  rw [decide_eq_true rfl]
                  have C8 := Aside0.mk (C5.out.below hb8)
                  have B8 := Aside0.mk (below_step B5.out hb8)
                  clear hb8 C5 B5 V5
                  go_wp2
                  go_roundw
                  case rel => exact ⟨k + 1, Lm, _, by omega, by go_num, rfl, ⟨C8.out, by have := HF.out.len; omega, HF.out.upto, HF.out.mB, B8.out⟩⟩
                  case measure => simp [intOf]; omega
                · have hne : (Lm.length : Int) < q := by have := HF.out.upto; omega
                  go_wp2_with fail
                  refine (cAdd (m := ⟨x.f1.f0, 0, 0, (k : Int), [], []⟩) CW.out hfull (by omega) HMI.out msgB_nil).mono ?_
                  rintro e w5 ⟨rfl, hC5, hb5⟩
                  obtain ⟨hN, F, Fw, g1, g2, gn, gd, gl1, gl2⟩ := hC5
                  have GG := Aside0.mk (And.intro hN (And.intro g1 (And.intro gd (And.intro gl1 gl2))))
                  have G2 := Aside0.mk g2
                  have GN := Aside0.mk gn
                  have B5 := Aside0.mk (BW.out.trans hb5)
                  have HGS := Aside0.mk (show gs (Lm ++ [(⟨x.f1.f0, 0, 0, (k : Int), [], []⟩ : MsgT)]) = gs Lm ++ [(k : Int)] by simp [gs])
                  clear hN g1 g2 gn gd gl1 gl2 hb5 CW BW CV q0 q1 q2 q3 q4 q5 q6 q7
                  go_wp2_with (first
                    | (at_builtin
                       refine Fd.R_append fdU32 rfl (.tmp 89) (.tmp 92) 56 24 (.int .u32 0) 4 rfl Try.underlying56 infoU32 rfl (show 0 < 1 from by decide) (by decide) (.slice V Lm.length d) (gs Lm) (k : Int) [.int .u32 (k : Int)] Fw [] (by simp [Act.eval]) (by simp [Act.eval]) ⟨rfl, rfl⟩ G2.out (by rw [List.append_nil]; exact GN.out) (by rw [HGL.out]; omega) ?_
                       intro v1 w6 F1 r1 r2 r3 r4
                       have hcr := count_row GG.out.1 GG.out.2.1 GG.out.2.2.1 GG.out.2.2.2.1 GG.out.2.2.2.2 r1 r2 r3 (fun b hb => by rcases r4 b hb with h | h | h; exact .inl h; (simp at h); exact .inr h)
                       rw [← HGS.out] at hcr
                       have C6 := Aside0.mk hcr.1
                       have B6 := Aside0.mk (B5.out.trans hcr.2)
                       obtain ⟨V1, d1, ev1, hd1, hv1⟩ := hcr.1.reads
                       rw [show (gs (Lm ++ [(⟨x.f1.f0, 0, 0, (k : Int), [], []⟩ : MsgT)])).length = Lm.length + 1 by simp [gs]] at ev1 hd1
                       subst ev1
                       have V6 := Aside0.mk hv1
                       clear hcr r1 r2 r3 r4 G2 GN GG B5 hv1))
                  have his := isB C6.out.bag (by simp; omega) (fun y hy => by
                    rcases List.mem_append.1 hy with hy | hy
                    · exact HF.out.mB y hy
                    · rw [List.mem_singleton.1 hy]
                      exact msgB_nil) _ V1 d1 V6.out (by simp [gs]; exact hd1)
                  rw [show (gs (Lm ++ [(⟨x.f1.f0, 0, 0, (k : Int), [], []⟩ : MsgT)])).length = Lm.length + 1 by simp [gs]] at his
                  refine his.mono ?_
                  clear his
                  rintro e w8 ⟨rfl, hb8⟩
                  rw [decide_eq_true rfl]
                  have C8 := Aside0.mk (C6.out.below hb8)
                  have B8 := Aside0.mk (below_step B6.out hb8)
                  clear hb8 C6 B6 V6
                  go_wp2
                  go_roundw
                  case rel => exact ⟨k + 1, Lm ++ [⟨x.f1.f0, 0, 0, (k : Int), [], []⟩], _, by omega, by go_num, rfl, ⟨C8.out, by have := HF.out.len; simp; omega, by simp; omega, (fun y hy => by
                    rcases List.mem_append.1 hy with hy | hy
                    · exact HF.out.mB y hy
                    · rw [List.mem_singleton.1 hy]
                      exact msgB_nil), B8.out⟩⟩
                  case measure => simp [intOf]; omega
            by_cases k1 : t = 1
            · as_aux_lemma =>
                subst k1
                have hmi : MsgIn (wr.alloc (.cells #[.int .u8 kd, .int .u8 x.f1.f0, .int .u8 x.f1.f1, .int .u8 x.f1.f2, .int .u32 x.f1.f3, .slice A4 x.f1.f4.length c4, .slice A5 x.f1.f5.length c5, .int .i64 at_] 58)) (⟨x.f1.f0, 0, 0, (k : Int), [], []⟩ : MsgT) (.slice none 0 0) (.slice none 0 0) := msgNil _ _ _
                have HMI := Aside0.mk hmi
                clear hmi
                by_cases hfull : (Lm.length : Int) = q
                · have hnl : ¬ (Lm.length : Int) < q := by omega
                  go_wp2_with fail
                  refine (addFullB (m := ⟨x.f1.f0, 0, 0, (k : Int), [], []⟩) CW.out.bag hfull HMI.out).mono ?_
                  rintro e w5 ⟨rfl, hb5⟩
                  have C5 := Aside0.mk (CW.out.below hb5)
                  have B5 := Aside0.mk (below_step BW.out hb5)
                  have V5 := Aside0.mk (Kd.C_below CV.out hb5)
                  clear hb5 CW BW CV q0 q1 q2 q3 q4 q5 q6 q7
                  go_wp2_with fail
                  have his := isB C5.out.bag (by omega) HF.out.mB (gs Lm) V d V5.out (by rw [HGL.out]; exact hd)
                  rw [HGL.out] at his
                  refine his.mono ?_
                  clear his
                  rintro e w8 ⟨rfl, hb8⟩
                  rw [decide_eq_true rfl]
                  have C8 := Aside0.mk (C5.out.below hb8)
                  have B8 := Aside0.mk (below_step B5.out hb8)
                  clear hb8 C5 B5 V5
                  go_wp2
                  go_roundw
                  case rel => exact ⟨k + 1, Lm, _, by omega, by go_num, rfl, ⟨C8.out, by have := HF.out.len; omega, HF.out.upto, HF.out.mB, B8.out⟩⟩
                  case measure => simp [intOf]; omega
                · have hne : (Lm.length : Int) < q := by have := HF.out.upto; omega
                  go_wp2_with fail
                  refine (cAdd (m := ⟨x.f1.f0, 0, 0, (k : Int), [], []⟩) CW.out hfull (by omega) HMI.out msgB_nil).mono ?_
                  rintro e w5 ⟨rfl, hC5, hb5⟩
                  obtain ⟨hN, F, Fw, g1, g2, gn, gd, gl1, gl2⟩ := hC5
                  have GG := Aside0.mk (And.intro hN (And.intro g1 (And.intro gd (And.intro gl1 gl2))))
                  have G2 := Aside0.mk g2
                  have GN := Aside0.mk gn
                  have B5 := Aside0.mk (BW.out.trans hb5)
                  have HGS := Aside0.mk (show gs (Lm ++ [(⟨x.f1.f0, 0, 0, (k : Int), [], []⟩ : MsgT)]) = gs Lm ++ [(k : Int)] by simp [gs])
                  clear hN g1 g2 gn gd gl1 gl2 hb5 CW BW CV q0 q1 q2 q3 q4 q5 q6 q7
                  go_wp2_with (first
                    | (at_builtin
                       refine Fd.R_append fdU32 rfl (.tmp 89) (.tmp 92) 56 24 (.int .u32 0) 4 rfl Try.underlying56 infoU32 rfl (show 0 < 1 from by decide) (by decide) (.slice V Lm.length d) (gs Lm) (k : Int) [.int .u32 (k : Int)] Fw [] (by simp [Act.eval]) (by simp [Act.eval]) ⟨rfl, rfl⟩ G2.out (by rw [List.append_nil]; exact GN.out) (by rw [HGL.out]; omega) ?_
                       intro v1 w6 F1 r1 r2 r3 r4
                       have hcr := count_row GG.out.1 GG.out.2.1 GG.out.2.2.1 GG.out.2.2.2.1 GG.out.2.2.2.2 r1 r2 r3 (fun b hb => by rcases r4 b hb with h | h | h; exact .inl h; (simp at h); exact .inr h)
                       rw [← HGS.out] at hcr
                       have C6 := Aside0.mk hcr.1
                       have B6 := Aside0.mk (B5.out.trans hcr.2)
                       obtain ⟨V1, d1, ev1, hd1, hv1⟩ := hcr.1.reads
                       rw [show (gs (Lm ++ [(⟨x.f1.f0, 0, 0, (k : Int), [], []⟩ : MsgT)])).length = Lm.length + 1 by simp [gs]] at ev1 hd1
                       subst ev1
                       have V6 := Aside0.mk hv1
                       clear hcr r1 r2 r3 r4 G2 GN GG B5 hv1))
                  have his := isB C6.out.bag (by simp; omega) (fun y hy => by
                    rcases List.mem_append.1 hy with hy | hy
                    · exact HF.out.mB y hy
                    · rw [List.mem_singleton.1 hy]
                      exact msgB_nil) _ V1 d1 V6.out (by simp [gs]; exact hd1)
                  rw [show (gs (Lm ++ [(⟨x.f1.f0, 0, 0, (k : Int), [], []⟩ : MsgT)])).length = Lm.length + 1 by simp [gs]] at his
                  refine his.mono ?_
                  clear his
                  rintro e w8 ⟨rfl, hb8⟩
                  rw [decide_eq_true rfl]
                  have C8 := Aside0.mk (C6.out.below hb8)
                  have B8 := Aside0.mk (below_step B6.out hb8)
                  clear hb8 C6 B6 V6
                  go_wp2
                  go_roundw
                  case rel => exact ⟨k + 1, Lm ++ [⟨x.f1.f0, 0, 0, (k : Int), [], []⟩], _, by omega, by go_num, rfl, ⟨C8.out, by have := HF.out.len; simp; omega, by simp; omega, (fun y hy => by
                    rcases List.mem_append.1 hy with hy | hy
                    · exact HF.out.mB y hy
                    · rw [List.mem_singleton.1 hy]
                      exact msgB_nil), B8.out⟩⟩
                  case measure => simp [intOf]; omega
            by_cases k2 : t = 2
            · as_aux_lemma =>
                subst k2
                obtain ⟨j, rfl⟩ : ∃ j : Nat, at_ = (j : Int) := ⟨at_.toNat, by omega⟩
                have hj : j < Lm.length := by omega
                obtain ⟨xm, hxm⟩ : ∃ xm, Lm[j]? = some xm := ⟨Lm[j], List.getElem?_eq_getElem hj⟩
                have HXM := Aside0.mk hxm
                clear hxm
                go_wp2_with fail
                refine (cTakeBox HF.out.at_ (.cells #[.int .u8 kd, .int .u8 x.f1.f0, .int .u8 x.f1.f1, .int .u8 x.f1.f2, .int .u32 x.f1.f3, .slice A4 x.f1.f4.length c4, .slice A5 x.f1.f5.length c5, .int .i64 (j : Int)] 58) HXM.out (by omega)).mono ?_
                rintro e w5 ⟨v4, v5, rfl, hM, hC5, hb5, hx5⟩
                obtain ⟨⟨E4, f4, E5, f5, rfl, rfl, _⟩⟩ := hM
                obtain ⟨V', d', ev, hd', hv5⟩ := hC5.reads
                have e3 := ev
                injection e3 with e4 e5 e6
                subst e4 e6
                clear ev e5
                have hbt := below_alloc (Below.refl w5.heap.size w5) (.cells #[.int .u8 xm.f0, .int .u8 xm.f1, .int .u8 xm.f2, .int .u32 xm.f3, .slice E4 xm.f4.length f4, .slice E5 xm.f5.length f5] 38)
                have hB5 : Below w.heap.size w (w5.alloc (.cells #[.int .u8 xm.f0, .int .u8 xm.f1, .int .u8 xm.f2, .int .u32 xm.f3, .slice E4 xm.f4.length f4, .slice E5 xm.f5.length f5] 38)) := (BW.out.trans hb5).trans (hbt.mono hC5.1)
                have C5 := Aside0.mk (hC5.below hbt)
                have B5 := Aside0.mk hB5
                have V5 := Aside0.mk (Kd.C_below hv5 hbt)
                have X5 := Aside0.mk (blk_below hx5 hbt)
                have hx7 : w5.cell? ⟨wr.heap.size, 7, none⟩ = some (.int .i64 (j : Int)) := blk_cell hx5 7
                have hgj : (gs Lm)[j]? = some xm.f3 := by simp [gs, HXM.out]
                obtain ⟨aV, cs, eV, hcl, hKc, hcell⟩ := Kd.C_get hv5 0 (j : Int) (by omega) (by rw [HGL.out]; omega)
                subst eV
                have e1 : cs = [.int .u32 xm.f3] := by
                  have h : cs = [.int .u32 ((gs Lm).getD (j : Int).toNat 0)] := hKc
                  rw [h, Int.toNat_natCast, List.getD_eq_getElem?_getD, hgj]
                  rfl
                subst e1
                have hxv := hcell 0 (.int .u32 xm.f3) rfl
                simp only [Int.toNat_natCast, Nat.mul_one, Nat.add_zero, show (Kd.int .u32).sz = 1 from rfl] at hxv
                have hxlt := World.block_lt_of_cell? w5 _ hx7
                have hvlt := World.block_lt_of_cell? w5 _ hxv
                clear hC5 hb5 hx5 hv5 hcl hKc hcell hbt hB5 hgj CW BW CV q0 q1 q2 q3 q4 q5 q6 q7
                unfold msgCells
                go_wp2_with fail
                go_quiet (fail)
                rename_i nq
                have hdn := pw_below_drewN (Below.refl (w5.alloc (.cells #[.int .u8 xm.f0, .int .u8 xm.f1, .int .u8 xm.f2, .int .u32 xm.f3, .slice E4 xm.f4.length f4, .slice E5 xm.f5.length f5] 38)).heap.size (w5.alloc (.cells #[.int .u8 xm.f0, .int .u8 xm.f1, .int .u8 xm.f2, .int .u32 xm.f3, .slice E4 xm.f4.length f4, .slice E5 xm.f5.length f5] 38))) nq
                obtain ⟨W, hW⟩ : ∃ W, W = (w5.alloc (.cells #[.int .u8 xm.f0, .int .u8 xm.f1, .int .u8 xm.f2, .int .u32 xm.f3, .slice E4 xm.f4.length f4, .slice E5 xm.f5.length f5] 38)).drewN nq := ⟨_, rfl⟩
                rw [← hW] at hdn
                have C6 := Aside0.mk (C5.out.below hdn)
                have B6 := Aside0.mk (below_step B5.out hdn)
                have V6 := Aside0.mk (Kd.C_below V5.out hdn)
                have HS0 := Aside0.mk (show W.cell? ⟨wr.heap.size, 7, none⟩ = some (.int .i64 (j : Int)) from blk_cell (blk_below X5.out hdn) 7)
                have HLT := Aside0.mk (show wr.heap.size < W.heap.size from World.block_lt_of_cell? W _ HS0.out)
                rw [← hW]
                clear hdn hW hx7 hxv hxlt hvlt B5 V5 X5 C5
                obtain ⟨iu, hiu, hsz⟩ : ∃ i, Try.prog.info? 24 = some i ∧ i.size = 1 := by
                  obtain ⟨i0, hi, hzz⟩ := Option.map_eq_some_iff.1 infoU32
                  simp only [Prod.mk.injEq] at hzz
                  exact ⟨i0, hi, hzz.2.1⟩
                have hs1 := cut_to (P := Try.prog) 56 24 .i64 Try.underlying56 hiu (some aV) Lm.length d (j : Int) hm0 (by omega) hd
                have hs2 := cut_from (P := Try.prog) 56 24 .i64 Try.underlying56 hiu 1 hsz (some aV) Lm.length d ((j : Int) + 1) (by omega) (by omega)
                rw [show ((j : Int) + 1).toNat = j + 1 by omega] at hs2
                simp only [Int.toNat_natCast, Nat.mul_one] at hs1 hs2
                obtain ⟨A1, hA1⟩ : ∃ A1, A1 = if d = j + 1 then some aV else Option.map (fun x => x.add (j + 1)) (some aV) := ⟨_, rfl⟩
                rw [← hA1] at hs2
                have BD := Aside0.mk (below_drew (Below.refl W.heap.size W))
                have R1 := Aside0.mk (show ReadsRow ((Kd.int .u32).K W.drew) 1 W.drew (some aV) j ((gs Lm).take j) from by
                  have h := Kd.C_take (Kd.C_below V6.out BD.out) (m := j) (by rw [HGL.out]; omega)
                  rwa [show ((gs Lm).take j).length = j by rw [List.length_take, HGL.out]; omega] at h)
                have R2 := Aside0.mk (show (Kd.int .u32).C W A1 (Lm.length - (j + 1)) ((gs Lm).drop (j + 1)) from by
                  have h := Kd.C_drop V6.out (m := j + 1) (c := d) (by rw [HGL.out]; omega) (by rw [HGL.out]; exact hd)
                  rw [show ((gs Lm).drop (j + 1)).length = Lm.length - (j + 1) by rw [List.length_drop, HGL.out]] at h
                  rw [hA1]
                  rw [show (j + 1) * (Kd.int .u32).sz = j + 1 from Nat.mul_one _] at h
                  exact h)
                clear hA1
                go_wp2_with fail
                have hwj : IntKind.i64.wrap ((j : Int) + 1) = (j : Int) + 1 := IntWalk.i64_in _ (by omega)
                have hj1 : (0 : Int) ≤ (j : Int) + 1 := by omega
                have hj2 : (j : Int) + 1 ≤ (Lm.length : Int) := by omega
                first | (go_region_held3 (fun w' : World => w'.cell? ⟨wr.heap.size, 7, none⟩ = some (.int .i64 (j : Int))) (first | exact HS0.out | exact HS1.out | exact HS2.out) (first
                    | (refine Kd.R_append_rows_step (Kd.int .u32) (w0 := W) W.heap.size (by rfl) (.const (.slice none 0 0)) (.tmp 132) 56 24 (.int .u32 0) 4 (by rfl) Try.underlying56 infoU32 rfl (by decide) (by decide) (.slice none 0 0) [] ((gs Lm).take j) (some aV) j d (fun _ => True) (fun _ => False) (by rfl) (by rfl) (Kd.R_nil _ _ _ _ _) R1.out (fun _ _ h => h) (fun _ h => h.elim) (fun _ _ => trivial) BD.out (Nat.le_refl _) (by simp; omega) ?_
                       intro v1 w7 r1 r2 r3 r4
                       have R7 := Aside0.mk r1
                       have B7 := Aside0.mk r2
                       have HS1 := Aside0.mk ((r2.cell (p := ⟨wr.heap.size, 7, none⟩) HLT.out).trans HS0.out)
                       clear r1 r2 r3 r4)
                    | (refine Kd.R_append_rows_step (Kd.int .u32) (w0 := W) W.heap.size (by rfl) (.tmp 133) (.tmp 138) 56 24 (.int .u32 0) 4 (by rfl) Try.underlying56 infoU32 rfl (by decide) (by decide) _ ([] ++ (gs Lm).take j) ((gs Lm).drop (j + 1)) A1 (Lm.length - (j + 1)) (d - (j + 1)) (fun _ => True) (fun _ => False) (by rfl) (by rfl) R7.out (Kd.C_below R2.out B7.out) (fun _ _ h => h) (fun _ h => h.elim) (fun _ _ => trivial) B7.out B7.out.size (by simp; omega) ?_
                       intro v2 w8 r1 r2 r3 r4
                       have R8 := Aside0.mk r1
                       have B8 := Aside0.mk r2
                       have HS2 := Aside0.mk ((r2.cell (p := ⟨wr.heap.size, 7, none⟩) HLT.out).trans HS0.out)
                       clear r1 r2 r3 r4))) | fail "held3"
                have hgs : gs (Lm.eraseIdx j) = ([] ++ (gs Lm).take j) ++ (gs Lm).drop (j + 1) := by simp [gs, List.eraseIdx_eq_take_drop_succ, List.map_take, List.map_drop]
                have hc8 := count_fresh C6.out B8.out R8.out
                rw [← hgs] at hc8
                have hle : (gs (Lm.eraseIdx j)).length = Lm.length - 1 := by simp [gs, List.length_eraseIdx_of_lt hj]
                obtain ⟨V2, d2, ev2, hd2, hv2⟩ := hc8.reads
                rw [hle] at ev2 hd2
                subst ev2
                have HLE := Aside0.mk hle
                have hl2 : (Lm.eraseIdx j).length = Lm.length - 1 := List.length_eraseIdx_of_lt hj
                have HL2 := Aside0.mk hl2
                have C9 := Aside0.mk hc8
                have V9 := Aside0.mk hv2
                have B9 := Aside0.mk (below_step B6.out B8.out)
                clear hgs hc8 hle hl2 hv2 hs1 hs2 R1 R2 R7 R8 B7 B8 BD C6 B6 V6 HS0 HS1 HS2 hwj hiu hsz
                go_wp2_with fail
                have his := isB C9.out.bag (by rw [HL2.out]; omega) (fun y hy => HF.out.mB y (List.mem_of_mem_eraseIdx hy)) _ V2 d2 V9.out (by rw [HLE.out]; exact hd2)
                rw [HLE.out] at his
                refine his.mono ?_
                clear his
                rintro e w9 ⟨rfl, hb9⟩
                rw [decide_eq_true rfl]
                have C10 := Aside0.mk (C9.out.below hb9)
                have B10 := Aside0.mk (below_step B9.out hb9)
                clear hb9 C9 V9 B9
                go_wp2
                go_roundw
                case rel => exact ⟨k + 1, Lm.eraseIdx j, _, by omega, by go_num, rfl, ⟨C10.out, by rw [HL2.out]; have := HF.out.len; omega, by rw [HL2.out]; have := HF.out.upto; omega, fun y hy => HF.out.mB y (List.mem_of_mem_eraseIdx hy), B10.out⟩⟩
                case measure => simp [intOf]; omega
            by_cases k3 : t = 3
            · as_aux_lemma =>
                subst k3
                obtain ⟨j, rfl⟩ : ∃ j : Nat, at_ = (j : Int) := ⟨at_.toNat, by omega⟩
                have hj : j < Lm.length := by omega
                obtain ⟨xm, hxm⟩ : ∃ xm, Lm[j]? = some xm := ⟨Lm[j], List.getElem?_eq_getElem hj⟩
                have HXM := Aside0.mk hxm
                have HMB := Aside0.mk (HF.out.mB xm (List.mem_of_getElem? hxm))
                clear hxm
                by_cases hfull : (Lm.length : Int) = q
                · have hnl : ¬ (Lm.length : Int) < q := by omega
                  go_wp2_with fail
                  refine (copyFullB CW.out.bag HXM.out hfull (by omega)).mono ?_
                  rintro e w5 ⟨rfl, hb5⟩
                  have C5 := Aside0.mk (CW.out.below hb5)
                  have B5 := Aside0.mk (below_step BW.out hb5)
                  have V5 := Aside0.mk (Kd.C_below CV.out hb5)
                  clear hb5 CW BW CV q0 q1 q2 q3 q4 q5 q6 q7
                  go_wp2_with fail
                  have his := isB C5.out.bag (by omega) HF.out.mB (gs Lm) V d V5.out (by rw [HGL.out]; exact hd)
                  rw [HGL.out] at his
                  refine his.mono ?_
                  clear his
                  rintro e w8 ⟨rfl, hb8⟩
                  rw [decide_eq_true rfl]
                  have C8 := Aside0.mk (C5.out.below hb8)
                  have B8 := Aside0.mk (below_step B5.out hb8)
                  clear hb8 C5 B5 V5
                  go_wp2
                  go_roundw
                  case rel => exact ⟨k + 1, Lm, _, by omega, by go_num, rfl, ⟨C8.out, by have := HF.out.len; omega, HF.out.upto, HF.out.mB, B8.out⟩⟩
                  case measure => simp [intOf]; omega
                · have hne : (Lm.length : Int) < q := by have := HF.out.upto; omega
                  go_wp2_with fail
                  refine (cCopyBox HF.out.at_ (.cells #[.int .u8 kd, .int .u8 x.f1.f0, .int .u8 x.f1.f1, .int .u8 x.f1.f2, .int .u32 x.f1.f3, .slice A4 x.f1.f4.length c4, .slice A5 x.f1.f5.length c5, .int .i64 (j : Int)] 58) HXM.out hfull (by omega) HMB.out).mono ?_
                  rintro e w5 ⟨rfl, hC5, hb5, hx5⟩
                  obtain ⟨V', d', ev, hd', hv5⟩ := hC5.reads
                  have e3 := ev
                  injection e3 with e4 e5 e6
                  subst e4 e6
                  clear ev e5
                  have hx7 : w5.cell? ⟨wr.heap.size, 7, none⟩ = some (.int .i64 (j : Int)) := blk_cell hx5 7
                  have hgj : (gs Lm)[j]? = some xm.f3 := by simp [gs, HXM.out]
                  obtain ⟨aV, cs, eV, hcl, hKc, hcell⟩ := Kd.C_get hv5 0 (j : Int) (by omega) (by rw [HGL.out]; omega)
                  subst eV
                  have e1 : cs = [.int .u32 xm.f3] := by
                    have h : cs = [.int .u32 ((gs Lm).getD (j : Int).toNat 0)] := hKc
                    rw [h, Int.toNat_natCast, List.getD_eq_getElem?_getD, hgj]
                    rfl
                  subst e1
                  have hxv := hcell 0 (.int .u32 xm.f3) rfl
                  simp only [Int.toNat_natCast, Nat.mul_one, Nat.add_zero, show (Kd.int .u32).sz = 1 from rfl] at hxv
                  obtain ⟨hN, F, Fw, g1, g2, gn, gd, gl1, gl2⟩ := hC5
                  have GG := Aside0.mk (And.intro hN (And.intro g1 (And.intro gd (And.intro gl1 gl2))))
                  have G2 := Aside0.mk g2
                  have GN := Aside0.mk gn
                  have B5 := Aside0.mk (BW.out.trans hb5)
                  have HGS := Aside0.mk (show gs (Lm ++ [xm]) = gs Lm ++ [xm.f3] by simp [gs])
                  clear hN g1 g2 gn gd gl1 gl2 hb5 hx5 hv5 hcl hKc hcell hgj CW BW CV q0 q1 q2 q3 q4 q5 q6 q7
                  go_wp2_with (first
                    | (at_builtin
                       refine Fd.R_append fdU32 rfl (.tmp 166) (.tmp 172) 56 24 (.int .u32 0) 4 rfl Try.underlying56 infoU32 rfl (show 0 < 1 from by decide) (by decide) (.slice (some aV) Lm.length d) (gs Lm) xm.f3 [.int .u32 xm.f3] Fw [] (by simp [Act.eval]) (by simp [Act.eval]) ⟨rfl, rfl⟩ G2.out (by rw [List.append_nil]; exact GN.out) (by rw [HGL.out]; omega) ?_
                       intro v1 w6 F1 r1 r2 r3 r4
                       have hcr := count_row GG.out.1 GG.out.2.1 GG.out.2.2.1 GG.out.2.2.2.1 GG.out.2.2.2.2 r1 r2 r3 (fun b hb => by rcases r4 b hb with h | h | h; exact .inl h; (simp at h); exact .inr h)
                       rw [← HGS.out] at hcr
                       have C6 := Aside0.mk hcr.1
                       have B6 := Aside0.mk (B5.out.trans hcr.2)
                       obtain ⟨V1, d1, ev1, hd1, hv1⟩ := hcr.1.reads
                       rw [show (gs (Lm ++ [xm])).length = Lm.length + 1 by simp [gs]] at ev1 hd1
                       subst ev1
                       have V6 := Aside0.mk hv1
                       clear hcr r1 r2 r3 r4 G2 GN GG B5 hv1))
                  have his := isB C6.out.bag (by simp; omega) (fun y hy => by
                    rcases List.mem_append.1 hy with hy | hy
                    · exact HF.out.mB y hy
                    · rw [List.mem_singleton.1 hy]
                      exact HMB.out) _ V1 d1 V6.out (by simp [gs]; exact hd1)
                  rw [show (gs (Lm ++ [xm])).length = Lm.length + 1 by simp [gs]] at his
                  refine his.mono ?_
                  clear his
                  rintro e w8 ⟨rfl, hb8⟩
                  rw [decide_eq_true rfl]
                  have C8 := Aside0.mk (C6.out.below hb8)
                  have B8 := Aside0.mk (below_step B6.out hb8)
                  clear hb8 C6 B6 V6
                  go_wp2
                  go_roundw
                  case rel => exact ⟨k + 1, Lm ++ [xm], _, by omega, by go_num, rfl, ⟨C8.out, by have := HF.out.len; simp; omega, by simp; omega, (fun y hy => by
                    rcases List.mem_append.1 hy with hy | hy
                    · exact HF.out.mB y hy
                    · rw [List.mem_singleton.1 hy]
                      exact HMB.out), B8.out⟩⟩
                  case measure => simp [intOf]; omega
            as_aux_lemma =>
              have b0 : (t == 0) = false := by simpa using k0
              have b1 : (t == 1) = false := by simpa using k1
              have b2 : (t == 2) = false := by simpa using k2
              have b3 : (t == 3) = false := by simpa using k3
              go_wp2_with fail
              have his := isB CW.out.bag (by omega) HF.out.mB (gs Lm) V d CV.out (by rw [HGL.out]; exact hd)
              rw [HGL.out] at his
              refine his.mono ?_
              clear his
              rintro e w5 ⟨rfl, hb5⟩
              rw [decide_eq_true rfl]
              have C5 := Aside0.mk (CW.out.below hb5)
              have B5 := Aside0.mk (below_step BW.out hb5)
              clear hb5 CW BW CV q0 q1 q2 q3 q4 q5 q6 q7
              go_wp2
              go_roundw
              case rel => exact ⟨k + 1, Lm, _, by omega, by go_num, rfl, ⟨C5.out, by have := HF.out.len; omega, HF.out.upto, HF.out.mB, B5.out⟩⟩
              case measure => simp [intOf]; omega
          · by_cases k0 : t = 0
            · as_aux_lemma =>
                subst k0
                have hmi : MsgIn (wr.alloc (.cells #[.int .u8 kd, .int .u8 x.f1.f0, .int .u8 x.f1.f1, .int .u8 x.f1.f2, .int .u32 x.f1.f3, .slice A4 x.f1.f4.length c4, .slice A5 x.f1.f5.length c5, .int .i64 at_] 58)) (⟨x.f1.f0, 0, 0, (k : Int), [], []⟩ : MsgT) (.slice none 0 0) (.slice none 0 0) := msgNil _ _ _
                have HMI := Aside0.mk hmi
                clear hmi
                by_cases hfull : (Lm.length : Int) = q
                · have hnl : ¬ (Lm.length : Int) < q := by omega
                  go_wp2_with fail
                  refine (addFullB (m := ⟨x.f1.f0, 0, 0, (k : Int), [], []⟩) CW.out.bag hfull HMI.out).mono ?_
                  rintro e w5 ⟨rfl, hb5⟩
                  have C5 := Aside0.mk (CW.out.below hb5)
                  have B5 := Aside0.mk (below_step BW.out hb5)
                  have V5 := Aside0.mk (Kd.C_below CV.out hb5)
                  clear hb5 CW BW CV q0 q1 q2 q3 q4 q5 q6 q7
                  go_wp2_with fail
                  have his := isB C5.out.bag (by omega) HF.out.mB (gs Lm) V d V5.out (by rw [HGL.out]; exact hd)
                  rw [HGL.out] at his
                  refine his.mono ?_
                  clear his
                  rintro e w8 ⟨rfl, hb8⟩
                  rw [decide_eq_true rfl]
                  have C8 := Aside0.mk (C5.out.below hb8)
                  have B8 := Aside0.mk (below_step B5.out hb8)
                  clear hb8 C5 B5 V5
                  go_wp2
                  go_roundw
                  case rel => exact ⟨k + 1, Lm, _, by omega, by go_num, rfl, ⟨C8.out, by have := HF.out.len; omega, HF.out.upto, HF.out.mB, B8.out⟩⟩
                  case measure => simp [intOf]; omega
                · have hne : (Lm.length : Int) < q := by have := HF.out.upto; omega
                  go_wp2_with fail
                  refine (cAdd (m := ⟨x.f1.f0, 0, 0, (k : Int), [], []⟩) CW.out hfull (by omega) HMI.out msgB_nil).mono ?_
                  rintro e w5 ⟨rfl, hC5, hb5⟩
                  obtain ⟨hN, F, Fw, g1, g2, gn, gd, gl1, gl2⟩ := hC5
                  have GG := Aside0.mk (And.intro hN (And.intro g1 (And.intro gd (And.intro gl1 gl2))))
                  have G2 := Aside0.mk g2
                  have GN := Aside0.mk gn
                  have B5 := Aside0.mk (BW.out.trans hb5)
                  have HGS := Aside0.mk (show gs (Lm ++ [(⟨x.f1.f0, 0, 0, (k : Int), [], []⟩ : MsgT)]) = gs Lm ++ [(k : Int)] by simp [gs])
                  clear hN g1 g2 gn gd gl1 gl2 hb5 CW BW CV q0 q1 q2 q3 q4 q5 q6 q7
                  go_wp2_with (first
                    | (at_builtin
                       refine Fd.R_append fdU32 rfl (.tmp 89) (.tmp 92) 56 24 (.int .u32 0) 4 rfl Try.underlying56 infoU32 rfl (show 0 < 1 from by decide) (by decide) (.slice V Lm.length d) (gs Lm) (k : Int) [.int .u32 (k : Int)] Fw [] (by simp [Act.eval]) (by simp [Act.eval]) ⟨rfl, rfl⟩ G2.out (by rw [List.append_nil]; exact GN.out) (by rw [HGL.out]; omega) ?_
                       intro v1 w6 F1 r1 r2 r3 r4
                       have hcr := count_row GG.out.1 GG.out.2.1 GG.out.2.2.1 GG.out.2.2.2.1 GG.out.2.2.2.2 r1 r2 r3 (fun b hb => by rcases r4 b hb with h | h | h; exact .inl h; (simp at h); exact .inr h)
                       rw [← HGS.out] at hcr
                       have C6 := Aside0.mk hcr.1
                       have B6 := Aside0.mk (B5.out.trans hcr.2)
                       obtain ⟨V1, d1, ev1, hd1, hv1⟩ := hcr.1.reads
                       rw [show (gs (Lm ++ [(⟨x.f1.f0, 0, 0, (k : Int), [], []⟩ : MsgT)])).length = Lm.length + 1 by simp [gs]] at ev1 hd1
                       subst ev1
                       have V6 := Aside0.mk hv1
                       clear hcr r1 r2 r3 r4 G2 GN GG B5 hv1))
                  have his := isB C6.out.bag (by simp; omega) (fun y hy => by
                    rcases List.mem_append.1 hy with hy | hy
                    · exact HF.out.mB y hy
                    · rw [List.mem_singleton.1 hy]
                      exact msgB_nil) _ V1 d1 V6.out (by simp [gs]; exact hd1)
                  rw [show (gs (Lm ++ [(⟨x.f1.f0, 0, 0, (k : Int), [], []⟩ : MsgT)])).length = Lm.length + 1 by simp [gs]] at his
                  refine his.mono ?_
                  clear his
                  rintro e w8 ⟨rfl, hb8⟩
                  rw [decide_eq_true rfl]
                  have C8 := Aside0.mk (C6.out.below hb8)
                  have B8 := Aside0.mk (below_step B6.out hb8)
                  clear hb8 C6 B6 V6
                  go_wp2
                  go_roundw
                  case rel => exact ⟨k + 1, Lm ++ [⟨x.f1.f0, 0, 0, (k : Int), [], []⟩], _, by omega, by go_num, rfl, ⟨C8.out, by have := HF.out.len; simp; omega, by simp; omega, (fun y hy => by
                    rcases List.mem_append.1 hy with hy | hy
                    · exact HF.out.mB y hy
                    · rw [List.mem_singleton.1 hy]
                      exact msgB_nil), B8.out⟩⟩
                  case measure => simp [intOf]; omega
            by_cases k1 : t = 1
            · as_aux_lemma =>
                subst k1
                have hmi : MsgIn (wr.alloc (.cells #[.int .u8 kd, .int .u8 x.f1.f0, .int .u8 x.f1.f1, .int .u8 x.f1.f2, .int .u32 x.f1.f3, .slice A4 x.f1.f4.length c4, .slice A5 x.f1.f5.length c5, .int .i64 at_] 58)) (⟨x.f1.f0, 0, 0, (k : Int), [], []⟩ : MsgT) (.slice none 0 0) (.slice none 0 0) := msgNil _ _ _
                have HMI := Aside0.mk hmi
                clear hmi
                by_cases hfull : (Lm.length : Int) = q
                · have hnl : ¬ (Lm.length : Int) < q := by omega
                  go_wp2_with fail
                  refine (addFullB (m := ⟨x.f1.f0, 0, 0, (k : Int), [], []⟩) CW.out.bag hfull HMI.out).mono ?_
                  rintro e w5 ⟨rfl, hb5⟩
                  have C5 := Aside0.mk (CW.out.below hb5)
                  have B5 := Aside0.mk (below_step BW.out hb5)
                  have V5 := Aside0.mk (Kd.C_below CV.out hb5)
                  clear hb5 CW BW CV q0 q1 q2 q3 q4 q5 q6 q7
                  go_wp2_with fail
                  have his := isB C5.out.bag (by omega) HF.out.mB (gs Lm) V d V5.out (by rw [HGL.out]; exact hd)
                  rw [HGL.out] at his
                  refine his.mono ?_
                  clear his
                  rintro e w8 ⟨rfl, hb8⟩
                  rw [decide_eq_true rfl]
                  have C8 := Aside0.mk (C5.out.below hb8)
                  have B8 := Aside0.mk (below_step B5.out hb8)
                  clear hb8 C5 B5 V5
                  go_wp2
                  go_roundw
                  case rel => exact ⟨k + 1, Lm, _, by omega, by go_num, rfl, ⟨C8.out, by have := HF.out.len; omega, HF.out.upto, HF.out.mB, B8.out⟩⟩
                  case measure => simp [intOf]; omega
                · have hne : (Lm.length : Int) < q := by have := HF.out.upto; omega
                  go_wp2_with fail
                  refine (cAdd (m := ⟨x.f1.f0, 0, 0, (k : Int), [], []⟩) CW.out hfull (by omega) HMI.out msgB_nil).mono ?_
                  rintro e w5 ⟨rfl, hC5, hb5⟩
                  obtain ⟨hN, F, Fw, g1, g2, gn, gd, gl1, gl2⟩ := hC5
                  have GG := Aside0.mk (And.intro hN (And.intro g1 (And.intro gd (And.intro gl1 gl2))))
                  have G2 := Aside0.mk g2
                  have GN := Aside0.mk gn
                  have B5 := Aside0.mk (BW.out.trans hb5)
                  have HGS := Aside0.mk (show gs (Lm ++ [(⟨x.f1.f0, 0, 0, (k : Int), [], []⟩ : MsgT)]) = gs Lm ++ [(k : Int)] by simp [gs])
                  clear hN g1 g2 gn gd gl1 gl2 hb5 CW BW CV q0 q1 q2 q3 q4 q5 q6 q7
                  go_wp2_with (first
                    | (at_builtin
                       refine Fd.R_append fdU32 rfl (.tmp 89) (.tmp 92) 56 24 (.int .u32 0) 4 rfl Try.underlying56 infoU32 rfl (show 0 < 1 from by decide) (by decide) (.slice V Lm.length d) (gs Lm) (k : Int) [.int .u32 (k : Int)] Fw [] (by simp [Act.eval]) (by simp [Act.eval]) ⟨rfl, rfl⟩ G2.out (by rw [List.append_nil]; exact GN.out) (by rw [HGL.out]; omega) ?_
                       intro v1 w6 F1 r1 r2 r3 r4
                       have hcr := count_row GG.out.1 GG.out.2.1 GG.out.2.2.1 GG.out.2.2.2.1 GG.out.2.2.2.2 r1 r2 r3 (fun b hb => by rcases r4 b hb with h | h | h; exact .inl h; (simp at h); exact .inr h)
                       rw [← HGS.out] at hcr
                       have C6 := Aside0.mk hcr.1
                       have B6 := Aside0.mk (B5.out.trans hcr.2)
                       obtain ⟨V1, d1, ev1, hd1, hv1⟩ := hcr.1.reads
                       rw [show (gs (Lm ++ [(⟨x.f1.f0, 0, 0, (k : Int), [], []⟩ : MsgT)])).length = Lm.length + 1 by simp [gs]] at ev1 hd1
                       subst ev1
                       have V6 := Aside0.mk hv1
                       clear hcr r1 r2 r3 r4 G2 GN GG B5 hv1))
                  have his := isB C6.out.bag (by simp; omega) (fun y hy => by
                    rcases List.mem_append.1 hy with hy | hy
                    · exact HF.out.mB y hy
                    · rw [List.mem_singleton.1 hy]
                      exact msgB_nil) _ V1 d1 V6.out (by simp [gs]; exact hd1)
                  rw [show (gs (Lm ++ [(⟨x.f1.f0, 0, 0, (k : Int), [], []⟩ : MsgT)])).length = Lm.length + 1 by simp [gs]] at his
                  refine his.mono ?_
                  clear his
                  rintro e w8 ⟨rfl, hb8⟩
                  rw [decide_eq_true rfl]
                  have C8 := Aside0.mk (C6.out.below hb8)
                  have B8 := Aside0.mk (below_step B6.out hb8)
                  clear hb8 C6 B6 V6
                  go_wp2
                  go_roundw
                  case rel => exact ⟨k + 1, Lm ++ [⟨x.f1.f0, 0, 0, (k : Int), [], []⟩], _, by omega, by go_num, rfl, ⟨C8.out, by have := HF.out.len; simp; omega, by simp; omega, (fun y hy => by
                    rcases List.mem_append.1 hy with hy | hy
                    · exact HF.out.mB y hy
                    · rw [List.mem_singleton.1 hy]
                      exact msgB_nil), B8.out⟩⟩
                  case measure => simp [intOf]; omega
            by_cases k2 : t = 2
            · as_aux_lemma =>
                subst k2
                go_wp2_with fail
                refine (takeNoB (i := at_) CW.out.bag (by omega)).mono ?_
                rintro e w5 ⟨rfl, hb5⟩
                have hb6 := below_step hb5 (below_alloc (Below.refl w5.heap.size w5) (.cells #[.int .u8 0, .int .u8 0, .int .u8 0, .int .u32 0, .slice none 0 0, .slice none 0 0] 38))
                have C5 := Aside0.mk (CW.out.below hb6)
                have B5 := Aside0.mk (below_step BW.out hb6)
                have V5 := Aside0.mk (Kd.C_below CV.out hb6)
                clear hb5 hb6 CW BW CV q0 q1 q2 q3 q4 q5 q6 q7
                go_wp2_with fail
                go_quiet (fail)
                rename_i nq
                have hdn := pw_below_drewN (Below.refl (w5.alloc (.cells #[.int .u8 0, .int .u8 0, .int .u8 0, .int .u32 0, .slice none 0 0, .slice none 0 0] 38)).heap.size (w5.alloc (.cells #[.int .u8 0, .int .u8 0, .int .u8 0, .int .u32 0, .slice none 0 0, .slice none 0 0] 38))) nq
                have C6 := Aside0.mk (C5.out.below hdn)
                have B6 := Aside0.mk (below_step B5.out hdn)
                have V6 := Aside0.mk (Kd.C_below V5.out hdn)
                clear hdn C5 B5 V5
                go_wp2_with fail
                have his := isB C6.out.bag (by omega) HF.out.mB (gs Lm) V d V6.out (by rw [HGL.out]; exact hd)
                rw [HGL.out] at his
                refine his.mono ?_
                clear his
                rintro e w8 ⟨rfl, hb8⟩
                rw [decide_eq_true rfl]
                have C8 := Aside0.mk (C6.out.below hb8)
                have B8 := Aside0.mk (below_step B6.out hb8)
                clear hb8 C6 B6 V6
                go_wp2
                go_roundw
                case rel => exact ⟨k + 1, Lm, _, by omega, by go_num, rfl, ⟨C8.out, by have := HF.out.len; omega, HF.out.upto, HF.out.mB, B8.out⟩⟩
                case measure => simp [intOf]; omega
            by_cases k3 : t = 3
            · as_aux_lemma =>
                subst k3
                go_wp2_with fail
                refine (copyNoB (i := at_) CW.out.bag (by omega)).mono ?_
                rintro e w' ⟨rfl, rfl⟩
                go_wp2_with fail
                have his := isB CW.out.bag (by omega) HF.out.mB (gs Lm) V d CV.out (by rw [HGL.out]; exact hd)
                rw [HGL.out] at his
                refine his.mono ?_
                clear his
                rintro e w8 ⟨rfl, hb8⟩
                rw [decide_eq_true rfl]
                have C8 := Aside0.mk (CW.out.below hb8)
                have B8 := Aside0.mk (below_step BW.out hb8)
                clear hb8 CW BW CV q0 q1 q2 q3 q4 q5 q6 q7
                go_wp2
                go_roundw
                case rel => exact ⟨k + 1, Lm, _, by omega, by go_num, rfl, ⟨C8.out, by have := HF.out.len; omega, HF.out.upto, HF.out.mB, B8.out⟩⟩
                case measure => simp [intOf]; omega
            as_aux_lemma =>
              have b0 : (t == 0) = false := by simpa using k0
              have b1 : (t == 1) = false := by simpa using k1
              have b2 : (t == 2) = false := by simpa using k2
              have b3 : (t == 3) = false := by simpa using k3
              go_wp2_with fail
              have his := isB CW.out.bag (by omega) HF.out.mB (gs Lm) V d CV.out (by rw [HGL.out]; exact hd)
              rw [HGL.out] at his
              refine his.mono ?_
              clear his
              rintro e w5 ⟨rfl, hb5⟩
              rw [decide_eq_true rfl]
              have C5 := Aside0.mk (CW.out.below hb5)
              have B5 := Aside0.mk (below_step BW.out hb5)
              clear hb5 CW BW CV q0 q1 q2 q3 q4 q5 q6 q7
              go_wp2
              go_roundw
              case rel => exact ⟨k + 1, Lm, _, by omega, by go_num, rfl, ⟨C5.out, by have := HF.out.len; omega, HF.out.upto, HF.out.mB, B5.out⟩⟩
              case measure => simp [intOf]; omega
        · by_cases k0 : t = 0
          · as_aux_lemma =>
              subst k0
              have hmi : MsgIn (wr.alloc (.cells #[.int .u8 kd, .int .u8 x.f1.f0, .int .u8 x.f1.f1, .int .u8 x.f1.f2, .int .u32 x.f1.f3, .slice A4 x.f1.f4.length c4, .slice A5 x.f1.f5.length c5, .int .i64 at_] 58)) (⟨x.f1.f0, 0, 0, (k : Int), [], []⟩ : MsgT) (.slice none 0 0) (.slice none 0 0) := msgNil _ _ _
              have HMI := Aside0.mk hmi
              clear hmi
              by_cases hfull : (Lm.length : Int) = q
              · have hnl : ¬ (Lm.length : Int) < q := by omega
                go_wp2_with fail
                refine (addFullB (m := ⟨x.f1.f0, 0, 0, (k : Int), [], []⟩) CW.out.bag hfull HMI.out).mono ?_
                rintro e w5 ⟨rfl, hb5⟩
                have C5 := Aside0.mk (CW.out.below hb5)
                have B5 := Aside0.mk (below_step BW.out hb5)
                have V5 := Aside0.mk (Kd.C_below CV.out hb5)
                clear hb5 CW BW CV q0 q1 q2 q3 q4 q5 q6 q7
                go_wp2_with fail
                have his := isB C5.out.bag (by omega) HF.out.mB (gs Lm) V d V5.out (by rw [HGL.out]; exact hd)
                rw [HGL.out] at his
                refine his.mono ?_
                clear his
                rintro e w8 ⟨rfl, hb8⟩
                rw [decide_eq_true rfl]
                have C8 := Aside0.mk (C5.out.below hb8)
                have B8 := Aside0.mk (below_step B5.out hb8)
                clear hb8 C5 B5 V5
                go_wp2
                go_roundw
                case rel => exact ⟨k + 1, Lm, _, by omega, by go_num, rfl, ⟨C8.out, by have := HF.out.len; omega, HF.out.upto, HF.out.mB, B8.out⟩⟩
                case measure => simp [intOf]; omega
              · have hne : (Lm.length : Int) < q := by have := HF.out.upto; omega
                go_wp2_with fail
                refine (cAdd (m := ⟨x.f1.f0, 0, 0, (k : Int), [], []⟩) CW.out hfull (by omega) HMI.out msgB_nil).mono ?_
                rintro e w5 ⟨rfl, hC5, hb5⟩
                obtain ⟨hN, F, Fw, g1, g2, gn, gd, gl1, gl2⟩ := hC5
                have GG := Aside0.mk (And.intro hN (And.intro g1 (And.intro gd (And.intro gl1 gl2))))
                have G2 := Aside0.mk g2
                have GN := Aside0.mk gn
                have B5 := Aside0.mk (BW.out.trans hb5)
                have HGS := Aside0.mk (show gs (Lm ++ [(⟨x.f1.f0, 0, 0, (k : Int), [], []⟩ : MsgT)]) = gs Lm ++ [(k : Int)] by simp [gs])
                clear hN g1 g2 gn gd gl1 gl2 hb5 CW BW CV q0 q1 q2 q3 q4 q5 q6 q7
                go_wp2_with (first
                  | (at_builtin
                     refine Fd.R_append fdU32 rfl (.tmp 89) (.tmp 92) 56 24 (.int .u32 0) 4 rfl Try.underlying56 infoU32 rfl (show 0 < 1 from by decide) (by decide) (.slice V Lm.length d) (gs Lm) (k : Int) [.int .u32 (k : Int)] Fw [] (by simp [Act.eval]) (by simp [Act.eval]) ⟨rfl, rfl⟩ G2.out (by rw [List.append_nil]; exact GN.out) (by rw [HGL.out]; omega) ?_
                     intro v1 w6 F1 r1 r2 r3 r4
                     have hcr := count_row GG.out.1 GG.out.2.1 GG.out.2.2.1 GG.out.2.2.2.1 GG.out.2.2.2.2 r1 r2 r3 (fun b hb => by rcases r4 b hb with h | h | h; exact .inl h; (simp at h); exact .inr h)
                     rw [← HGS.out] at hcr
                     have C6 := Aside0.mk hcr.1
                     have B6 := Aside0.mk (B5.out.trans hcr.2)
                     obtain ⟨V1, d1, ev1, hd1, hv1⟩ := hcr.1.reads
                     rw [show (gs (Lm ++ [(⟨x.f1.f0, 0, 0, (k : Int), [], []⟩ : MsgT)])).length = Lm.length + 1 by simp [gs]] at ev1 hd1
                     subst ev1
                     have V6 := Aside0.mk hv1
                     clear hcr r1 r2 r3 r4 G2 GN GG B5 hv1))
                have his := isB C6.out.bag (by simp; omega) (fun y hy => by
                  rcases List.mem_append.1 hy with hy | hy
                  · exact HF.out.mB y hy
                  · rw [List.mem_singleton.1 hy]
                    exact msgB_nil) _ V1 d1 V6.out (by simp [gs]; exact hd1)
                rw [show (gs (Lm ++ [(⟨x.f1.f0, 0, 0, (k : Int), [], []⟩ : MsgT)])).length = Lm.length + 1 by simp [gs]] at his
                refine his.mono ?_
                clear his
                rintro e w8 ⟨rfl, hb8⟩
                rw [decide_eq_true rfl]
                have C8 := Aside0.mk (C6.out.below hb8)
                have B8 := Aside0.mk (below_step B6.out hb8)
                clear hb8 C6 B6 V6
                go_wp2
                go_roundw
                case rel => exact ⟨k + 1, Lm ++ [⟨x.f1.f0, 0, 0, (k : Int), [], []⟩], _, by omega, by go_num, rfl, ⟨C8.out, by have := HF.out.len; simp; omega, by simp; omega, (fun y hy => by
                  rcases List.mem_append.1 hy with hy | hy
                  · exact HF.out.mB y hy
                  · rw [List.mem_singleton.1 hy]
                    exact msgB_nil), B8.out⟩⟩
                case measure => simp [intOf]; omega
          by_cases k1 : t = 1
          · as_aux_lemma =>
              subst k1
              have hmi : MsgIn (wr.alloc (.cells #[.int .u8 kd, .int .u8 x.f1.f0, .int .u8 x.f1.f1, .int .u8 x.f1.f2, .int .u32 x.f1.f3, .slice A4 x.f1.f4.length c4, .slice A5 x.f1.f5.length c5, .int .i64 at_] 58)) (⟨x.f1.f0, 0, 0, (k : Int), [], []⟩ : MsgT) (.slice none 0 0) (.slice none 0 0) := msgNil _ _ _
              have HMI := Aside0.mk hmi
              clear hmi
              by_cases hfull : (Lm.length : Int) = q
              · have hnl : ¬ (Lm.length : Int) < q := by omega
                go_wp2_with fail
                refine (addFullB (m := ⟨x.f1.f0, 0, 0, (k : Int), [], []⟩) CW.out.bag hfull HMI.out).mono ?_
                rintro e w5 ⟨rfl, hb5⟩
                have C5 := Aside0.mk (CW.out.below hb5)
                have B5 := Aside0.mk (below_step BW.out hb5)
                have V5 := Aside0.mk (Kd.C_below CV.out hb5)
                clear hb5 CW BW CV q0 q1 q2 q3 q4 q5 q6 q7
                go_wp2_with fail
                have his := isB C5.out.bag (by omega) HF.out.mB (gs Lm) V d V5.out (by rw [HGL.out]; exact hd)
                rw [HGL.out] at his
                refine his.mono ?_
                clear his
                rintro e w8 ⟨rfl, hb8⟩
                rw [decide_eq_true rfl]
                have C8 := Aside0.mk (C5.out.below hb8)
                have B8 := Aside0.mk (below_step B5.out hb8)
                clear hb8 C5 B5 V5
                go_wp2
                go_roundw
                case rel => exact ⟨k + 1, Lm, _, by omega, by go_num, rfl, ⟨C8.out, by have := HF.out.len; omega, HF.out.upto, HF.out.mB, B8.out⟩⟩
                case measure => simp [intOf]; omega
              · have hne : (Lm.length : Int) < q := by have := HF.out.upto; omega
                go_wp2_with fail
                refine (cAdd (m := ⟨x.f1.f0, 0, 0, (k : Int), [], []⟩) CW.out hfull (by omega) HMI.out msgB_nil).mono ?_
                rintro e w5 ⟨rfl, hC5, hb5⟩
                obtain ⟨hN, F, Fw, g1, g2, gn, gd, gl1, gl2⟩ := hC5
                have GG := Aside0.mk (And.intro hN (And.intro g1 (And.intro gd (And.intro gl1 gl2))))
                have G2 := Aside0.mk g2
                have GN := Aside0.mk gn
                have B5 := Aside0.mk (BW.out.trans hb5)
                have HGS := Aside0.mk (show gs (Lm ++ [(⟨x.f1.f0, 0, 0, (k : Int), [], []⟩ : MsgT)]) = gs Lm ++ [(k : Int)] by simp [gs])
                clear hN g1 g2 gn gd gl1 gl2 hb5 CW BW CV q0 q1 q2 q3 q4 q5 q6 q7
                go_wp2_with (first
                  | (at_builtin
                     refine Fd.R_append fdU32 rfl (.tmp 89) (.tmp 92) 56 24 (.int .u32 0) 4 rfl Try.underlying56 infoU32 rfl (show 0 < 1 from by decide) (by decide) (.slice V Lm.length d) (gs Lm) (k : Int) [.int .u32 (k : Int)] Fw [] (by simp [Act.eval]) (by simp [Act.eval]) ⟨rfl, rfl⟩ G2.out (by rw [List.append_nil]; exact GN.out) (by rw [HGL.out]; omega) ?_
                     intro v1 w6 F1 r1 r2 r3 r4
                     have hcr := count_row GG.out.1 GG.out.2.1 GG.out.2.2.1 GG.out.2.2.2.1 GG.out.2.2.2.2 r1 r2 r3 (fun b hb => by rcases r4 b hb with h | h | h; exact .inl h; (simp at h); exact .inr h)
                     rw [← HGS.out] at hcr
                     have C6 := Aside0.mk hcr.1
                     have B6 := Aside0.mk (B5.out.trans hcr.2)
                     obtain ⟨V1, d1, ev1, hd1, hv1⟩ := hcr.1.reads
                     rw [show (gs (Lm ++ [(⟨x.f1.f0, 0, 0, (k : Int), [], []⟩ : MsgT)])).length = Lm.length + 1 by simp [gs]] at ev1 hd1
                     subst ev1
                     have V6 := Aside0.mk hv1
                     clear hcr r1 r2 r3 r4 G2 GN GG B5 hv1))
                have his := isB C6.out.bag (by simp; omega) (fun y hy => by
                  rcases List.mem_append.1 hy with hy | hy
                  · exact HF.out.mB y hy
                  · rw [List.mem_singleton.1 hy]
                    exact msgB_nil) _ V1 d1 V6.out (by simp [gs]; exact hd1)
                rw [show (gs (Lm ++ [(⟨x.f1.f0, 0, 0, (k : Int), [], []⟩ : MsgT)])).length = Lm.length + 1 by simp [gs]] at his
                refine his.mono ?_
                clear his
                rintro e w8 ⟨rfl, hb8⟩
                rw [decide_eq_true rfl]
                have C8 := Aside0.mk (C6.out.below hb8)
                have B8 := Aside0.mk (below_step B6.out hb8)
                clear hb8 C6 B6 V6
                go_wp2
                go_roundw
                case rel => exact ⟨k + 1, Lm ++ [⟨x.f1.f0, 0, 0, (k : Int), [], []⟩], _, by omega, by go_num, rfl, ⟨C8.out, by have := HF.out.len; simp; omega, by simp; omega, (fun y hy => by
                  rcases List.mem_append.1 hy with hy | hy
                  · exact HF.out.mB y hy
                  · rw [List.mem_singleton.1 hy]
                    exact msgB_nil), B8.out⟩⟩
                case measure => simp [intOf]; omega
          by_cases k2 : t = 2
          · as_aux_lemma =>
              subst k2
              go_wp2_with fail
              refine (takeNoB (i := at_) CW.out.bag (by omega)).mono ?_
              rintro e w5 ⟨rfl, hb5⟩
              have hb6 := below_step hb5 (below_alloc (Below.refl w5.heap.size w5) (.cells #[.int .u8 0, .int .u8 0, .int .u8 0, .int .u32 0, .slice none 0 0, .slice none 0 0] 38))
              have C5 := Aside0.mk (CW.out.below hb6)
              have B5 := Aside0.mk (below_step BW.out hb6)
              have V5 := Aside0.mk (Kd.C_below CV.out hb6)
              clear hb5 hb6 CW BW CV q0 q1 q2 q3 q4 q5 q6 q7
              go_wp2_with fail
              go_quiet (fail)
              rename_i nq
              have hdn := pw_below_drewN (Below.refl (w5.alloc (.cells #[.int .u8 0, .int .u8 0, .int .u8 0, .int .u32 0, .slice none 0 0, .slice none 0 0] 38)).heap.size (w5.alloc (.cells #[.int .u8 0, .int .u8 0, .int .u8 0, .int .u32 0, .slice none 0 0, .slice none 0 0] 38))) nq
              have C6 := Aside0.mk (C5.out.below hdn)
              have B6 := Aside0.mk (below_step B5.out hdn)
              have V6 := Aside0.mk (Kd.C_below V5.out hdn)
              clear hdn C5 B5 V5
              go_wp2_with fail
              have his := isB C6.out.bag (by omega) HF.out.mB (gs Lm) V d V6.out (by rw [HGL.out]; exact hd)
              rw [HGL.out] at his
              refine his.mono ?_
              clear his
              rintro e w8 ⟨rfl, hb8⟩
              rw [decide_eq_true rfl]
              have C8 := Aside0.mk (C6.out.below hb8)
              have B8 := Aside0.mk (below_step B6.out hb8)
              clear hb8 C6 B6 V6
              go_wp2
              go_roundw
              case rel => exact ⟨k + 1, Lm, _, by omega, by go_num, rfl, ⟨C8.out, by have := HF.out.len; omega, HF.out.upto, HF.out.mB, B8.out⟩⟩
              case measure => simp [intOf]; omega
          by_cases k3 : t = 3
          · as_aux_lemma =>
              subst k3
              go_wp2_with fail
              refine (copyNoB (i := at_) CW.out.bag (by omega)).mono ?_
              rintro e w' ⟨rfl, rfl⟩
              go_wp2_with fail
              have his := isB CW.out.bag (by omega) HF.out.mB (gs Lm) V d CV.out (by rw [HGL.out]; exact hd)
              rw [HGL.out] at his
              refine his.mono ?_
              clear his
              rintro e w8 ⟨rfl, hb8⟩
              rw [decide_eq_true rfl]
              have C8 := Aside0.mk (CW.out.below hb8)
              have B8 := Aside0.mk (below_step BW.out hb8)
              clear hb8 CW BW CV q0 q1 q2 q3 q4 q5 q6 q7
              go_wp2
              go_roundw
              case rel => exact ⟨k + 1, Lm, _, by omega, by go_num, rfl, ⟨C8.out, by have := HF.out.len; omega, HF.out.upto, HF.out.mB, B8.out⟩⟩
              case measure => simp [intOf]; omega
          as_aux_lemma =>
            have b0 : (t == 0) = false := by simpa using k0
            have b1 : (t == 1) = false := by simpa using k1
            have b2 : (t == 2) = false := by simpa using k2
            have b3 : (t == 3) = false := by simpa using k3
            go_wp2_with fail
            have his := isB CW.out.bag (by omega) HF.out.mB (gs Lm) V d CV.out (by rw [HGL.out]; exact hd)
            rw [HGL.out] at his
            refine his.mono ?_
            clear his
            rintro e w5 ⟨rfl, hb5⟩
            rw [decide_eq_true rfl]
            have C5 := Aside0.mk (CW.out.below hb5)
            have B5 := Aside0.mk (below_step BW.out hb5)
            clear hb5 CW BW CV q0 q1 q2 q3 q4 q5 q6 q7
            go_wp2
            go_roundw
            case rel => exact ⟨k + 1, Lm, _, by omega, by go_num, rfl, ⟨C5.out, by have := HF.out.len; omega, HF.out.upto, HF.out.mB, B5.out⟩⟩
            case measure => simp [intOf]; omega
      · have hlt' : ¬ (k : Int) < (L.length : Int) := by omega
        go_wp2
        go_ret
        exact ⟨rfl, HF.out.below⟩
end Go.Proofs.Ytcohodkpppmaoaa.Q
