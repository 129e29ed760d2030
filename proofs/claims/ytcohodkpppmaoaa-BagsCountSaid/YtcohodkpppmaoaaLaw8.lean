/-
  What the statements of layer 8 call: SameMsg, SameMsgs, MsgSize, MsgsSize, SameIds, tell, is, alive.
-/
import Derived.Test.YtcohodkpppmaoaaQM1
import Derived.Test.YtcohodkpppmaoaaQM2
import Derived.Test.YtcohodkpppmaoaaQM3
import Derived.Test.YtcohodkpppmaoaaList
import Derived.Test.YtcohodkpppmaoaaSame
import Derived.Deep.RegionHeld3
namespace Go.Proofs.Ytcohodkpppmaoaa.Q
open Go.RowKit Go.Proofs.YtcohodkpppmaoaaW.PrintWords Go.Proofs.YtcohodkpppmaoaaW.PrintLast Go.Proofs.YtcohodkpppmaoaaW.PrintMore
set_option linter.unusedVariables false

theorem msgB_of {m : MsgT} (h : msgB m) : m.f4.length ≤ 9223372036854775807 ∧ m.f5.length ≤ 9223372036854775807 ∧ ∀ x ∈ m.f5, x.f0.length ≤ 9223372036854775807 :=
  ⟨by have := h.1; omega, by have := h.2.1; omega, fun x hx => by have := h.2.2 x hx; omega⟩
theorem sameMsg_true (w : World) (m : MsgT) (v4 v5 u4 u5 : Value) (h : MsgIn w m v4 v5) (k : MsgIn w m u4 u5) (hB : msgB m) :
    Calls Try.prog 35 #[.agg (msgCells m v4 v5), .agg (msgCells m u4 u5)] w fun e w' => e = .returned (.bool true) ∧ Below w.heap.size w w' := by
  obtain ⟨A4, c4, A5, c5, rfl, rfl, l4, h4, l5, h5⟩ := h.read
  obtain ⟨B4, d4, B5, d5, rfl, rfl, k4, g4, k5, g5⟩ := k.read
  obtain ⟨b1, b2, b3⟩ := msgB_of hB
  obtain ⟨K, hK⟩ := (ev_sameMsg m b1 b2 b3).rounds
  exact concordatlaw01_SameMsg.calls K m.f0 m.f1 m.f2 m.f3 A4 c4 m.f4 A5 c5 m.f5 m.f0 m.f1 m.f2 m.f3 B4 d4 m.f4 B5 d5 m.f5 true w h4 l4 h5 l5 g4 k4 g5 k5 hK
theorem sameMsgs_true (w : World) (L : List MsgT) (A A' : Option Addr) (c c' : Nat) (h : k38.C w A L.length L) (hc : L.length ≤ c) (k : k38.C w A' L.length L) (kc : L.length ≤ c') (hB : ∀ m ∈ L, msgB m) :
    Calls Try.prog 34 #[.slice A L.length c, .slice A' L.length c'] w fun e w' => e = .returned (.bool true) ∧ Below w.heap.size w w' := by
  obtain ⟨K, hK⟩ := (ev_sameMsgs L (Kd.C_max h) (fun m hm => msgB_of (hB m hm))).rounds
  exact concordatlaw01_SameMsgs.calls K A c L A' c' L true w h hc k kc hK
theorem msgSize_any (m : MsgT) (hok : msgOk m) : ∃ s : Int, ∀ (w : World) (v4 v5 : Value), MsgIn w m v4 v5 →
    Calls Try.prog 36 #[.agg (msgCells m v4 v5)] w fun e w' => e = .returned (.int .i64 s) ∧ Below w.heap.size w w' := by
  obtain ⟨s, hs, _⟩ := ev_MsgSize m hok
  obtain ⟨K, hK⟩ := hs.rounds
  refine ⟨s, fun w v4 v5 h => ?_⟩
  obtain ⟨A4, c4, A5, c5, rfl, rfl, l4, h4, l5, h5⟩ := h.read
  exact concordatlaw01_MsgSize.calls K m.f0 m.f1 m.f2 m.f3 A4 c4 m.f4 A5 c5 m.f5 s w h4 l4 h5 l5 hK
theorem msgsSize_any (L : List MsgT) (hl : L.length ≤ many) (hok : ∀ m ∈ L, msgOk m) : ∃ s : Int, ∀ (w : World) (A : Option Addr) (c : Nat), k38.C w A L.length L → L.length ≤ c →
    Calls Try.prog 33 #[.slice A L.length c] w fun e w' => e = .returned (.int .i64 s) ∧ Below w.heap.size w w' := by
  obtain ⟨s, hs⟩ := ev_MsgsSize L hl hok
  obtain ⟨K, hK⟩ := hs.rounds
  exact ⟨s, fun w A c h hc => concordatlaw01_MsgsSize.calls K A c L s w h hc hK⟩
theorem sameIds_calls (w : World) (a b : List Int) (A A' : Option Addr) (c c' : Nat) (h : (Kd.int .u32).C w A a.length a) (hc : a.length ≤ c) (k : (Kd.int .u32).C w A' b.length b) (kc : b.length ≤ c') :
    Calls Try.prog 38 #[.slice A a.length c, .slice A' b.length c'] w fun e w' => e = .returned (.bool (decide (a = b))) ∧ Below w.heap.size w w' := by
  obtain ⟨K, hK⟩ := (ev_SameIds a b (Kd.C_max h)).rounds
  refine (concordatlaw01_SameIds.calls K A c a A' c' b _ w h hc k kc hK).mono ?_
  rintro e w' ⟨rfl, hd⟩
  exact ⟨rfl, hd.below⟩

/-! ### tell, is -/
def gs (L : List MsgT) : List Int := L.map (·.f3)
def TellPost (w : World) (L : List MsgT) (e : Ending) (w' : World) : Prop := ∃ v, e = .returned v ∧ Kd.R (Kd.int .u32) 24 w' w.heap.size (fun _ => True) v (gs L) ∧ Below w.heap.size w w'
theorem infoU32 : (Try.prog.info? 24).map (fun i => (i.zero, i.size, i.bytes)) = some (some (.int .u32 0), 1, 4) := by kernel_rfl
set_option maxHeartbeats 3200000 in
set_option maxRecDepth 100000 in
theorem tell_calls (w : World) (g : Nat) (most : Int) (L : List MsgT) (F : List Nat) (hR : BagAt w g most L F) (hL : L.length ≤ 65536) (hB : ∀ m ∈ L, msgB m) :
    Calls Try.prog 37 #[.pointer (some ⟨g, 0, none⟩)] w (TellPost w L) := by
  have HR := Aside0.mk hR
  have HB := Aside0.mk hB
  clear hR hB
  go_enter Try.func37, Try.ntmps37
  go_wp2_with fail
  refine (List_calls _ g most L F HR.out hL HB.out).mono ?_
  rintro e w1 ⟨v, rfl, hb, FL, hrow, _⟩
  obtain ⟨A, c, rfl, hlc, hC⟩ := Fd.row_reads hrow
  have HC := Aside0.mk hC
  have B1 := Aside0.mk hb
  clear hrow hC hb
  go_wp2
  go_loopw [3, 5] (fun o i wr => ∃ (k : Nat) (v : Value), k ≤ L.length ∧ i = .int .i64 k ∧ v = o ∧ Aside0 (Kd.R (Kd.int .u32) 24 wr w1.heap.size (fun _ => True) v (gs (L.take k)) ∧ Below w1.heap.size w1 wr)) (fun _ i _ => L.length - (intOf i).toNat)
  case atStart => exact ⟨0, .slice none 0 0, Nat.zero_le _, rfl, rfl, ⟨Kd.R_nil _ _ _ _ _, Below.refl _ _⟩⟩
  case round =>
    obtain ⟨k, v, hk, rfl, rfl, HM⟩ := hrel
    by_cases hlt : k < L.length
    · have hlt' : (k : Int) < (L.length : Int) := by omega
      have hk0 : (0 : Int) ≤ (k : Int) := by omega
      obtain ⟨ad, A4, c4, A5, c5, e, _, _, _, h3, _⟩ := at_T38 (Kd.C_below HC.out HM.out.2) (k : Int) (by omega) (by omega)
      subst e
      rw [Int.toNat_natCast] at h3
      have hx : (rd_T38 L (k : Int)).f3 = (L[k]).f3 := by
        unfold rd_T38
        rw [Int.toNat_natCast, List.getD_eq_getElem?_getD, List.getElem?_eq_getElem hlt]
        rfl
      rw [hx] at h3
      have hl2 : (gs (L.take k)).length = k := by unfold gs; rw [List.length_map, List.length_take]; omega
      have HL2 := Aside0.mk hl2
      clear hx hl2
      go_wp2_with (first | (at_builtin; refine Kd.R_append (Kd.int .u32) (w0 := w1) w1.heap.size rfl (.tmp 14) (.tmp 20) 56 24 (.int .u32 0) 4 rfl Try.underlying56 infoU32 rfl (by decide) (by decide) v (gs (L.take k)) (L[k]).f3 [.int .u32 (L[k]).f3] (fun _ => True) (fun _ => False) rfl rfl rfl (fun _ hk => hk.elim) (fun _ _ => trivial) HM.out.1 HM.out.2 HM.out.2.size (by rw [HL2.out]; omega) ?_; intro v1 w2 h1 h2 h3 h4; have R2 := Aside0.mk h1; have B2 := Aside0.mk h2; have G2 := Aside0.mk h3; clear h1 h2 h3 h4))
      go_roundw
      case rel =>
        refine ⟨k + 1, v1, by omega, by go_num, rfl, ⟨?_, B2.out⟩⟩
        rw [List.take_succ_eq_append_getElem hlt]
        unfold gs
        rw [List.map_append]
        exact R2.out
      case measure => simp [intOf]; omega
    · go_wp2
      go_ret
      have e2 : L.take k = L := List.take_of_length_le (by omega)
      have hm := HM.out
      rw [e2] at hm
      exact ⟨_, rfl, Kd.R_lower hm.1 B1.out.size, below_step B1.out hm.2⟩
theorem is_calls (w : World) (g : Nat) (most : Int) (L : List MsgT) (F : List Nat) (hR : BagAt w g most L F) (hL : L.length ≤ 65536) (hB : ∀ m ∈ L, msgB m) (xs : List Int) (A : Option Addr) (c : Nat) (hC : (Kd.int .u32).C w A xs.length xs) (hc : xs.length ≤ c) :
    Calls Try.prog 32 #[.pointer (some ⟨g, 0, none⟩), .slice A xs.length c] w fun e w' => e = .returned (.bool (decide (gs L = xs))) ∧ Below w.heap.size w w' := by
  have HR := Aside0.mk hR
  have HB := Aside0.mk hB
  have HC := Aside0.mk hC
  clear hR hB hC
  go_enter Try.func32, Try.ntmps32
  go_wp2_with fail
  refine (tell_calls _ g most L F HR.out hL HB.out).mono ?_
  rintro e w1 ⟨v, rfl, hr, hb⟩
  obtain ⟨A1, c1, rfl, hc1, hC1⟩ := Kd.R_reads hr
  have HC1 := Aside0.mk hC1
  have B1 := Aside0.mk hb
  clear hr hC1 hb
  go_wp2_with fail
  refine (sameIds_calls _ (gs L) xs A1 A c1 c HC1.out hc1 (Kd.C_below HC.out B1.out) hc).mono ?_
  rintro e w2 ⟨rfl, hb2⟩
  have B2 := Aside0.mk (below_step B1.out hb2)
  clear hb2
  go_wp2
  go_ret
  exact ⟨rfl, B2.out⟩
end Go.Proofs.Ytcohodkpppmaoaa.Q
