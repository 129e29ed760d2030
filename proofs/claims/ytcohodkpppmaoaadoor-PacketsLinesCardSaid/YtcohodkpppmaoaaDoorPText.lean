/-
  packets.Text: what a message says, from whom, to whom, about what, as a line.
-/
import Derived.Test.YtcohodkpppmaoaaDoorShelfJ
import Derived.Test.YtcohodkpppmaoaaDoorMarker
import Derived.Test.YtcohodkpppmaoaaDoorSpec
namespace Go.Proofs.YtcohodkpppmaoaaDoor.Q
open Go.RowKit Go.Proofs.YtcohodkpppmaoaaDoorW.PrintWords Go.Proofs.YtcohodkpppmaoaaDoorW.PrintLast Go.Proofs.YtcohodkpppmaoaaDoorW.PrintMore
set_option linter.unusedVariables false

def decS (n : Int) : ByteArray := ⟨(Lib.decDigits n.toNat).toArray⟩
def digN (n : Int) : List UInt8 := Lib.decDigits n.toNat
def textL (s f t g : Int) : List UInt8 := digN s ++ 32 :: (digN f ++ 32 :: (digN t ++ 32 :: digN g))
def textP (s f t g : Int) : ByteArray := ⟨(textL s f t g).toArray⟩
theorem textL_join (s f t g : Int) : Lib.join (([s, f, t, g].map decS).map (·.data.toList)) [32] = textL s f t g := by
  rw [show (([s, f, t, g].map decS).map (·.data.toList)) = [digN s, digN f, digN t, digN g] by simp [decS, digN], Lib.join_cons]
  simp [Lib.joinTail, textL]
def textOk (s f t g : Int) : Prop := (0 ≤ s ∧ s ≤ 255) ∧ (0 ≤ f ∧ f ≤ 255) ∧ (0 ≤ t ∧ t ≤ 255) ∧ (0 ≤ g ∧ g ≤ 4294967295)
instance (s f t g : Int) : Decidable (textOk s f t g) := by unfold textOk; infer_instance
def packets_Text.f (s f t g : Int) (l4 : List (S62)) (l5 : List (S59)) : Option ByteArray := if textOk s f t g then some (textP s f t g) else none
abbrev kStr : Kd ByteArray := Kd.scalar Value.string (fun _ => rfl)
theorem infoStr : (Tryd.prog.info? 9).map (fun i => (i.zero, i.size, i.bytes)) = some (some (.string ⟨#[]⟩), 1, 16) := by kernel_rfl
theorem dec_few (n : Int) (h0 : 0 ≤ n) (h1 : n ≤ 4294967295) : (Lib.decDigits n.toNat).length ≤ 20 := digits_few _ (by omega)
set_option maxHeartbeats 3200000 in
set_option maxRecDepth 100000 in
theorem Text_calls (s f t g : Int) (v4 v5 : Value) (w : World) (h : textOk s f t g) (h4 : v4.oneCell' = true) (h5 : v5.oneCell' = true) (htab : TabOk w) :
    Calls Tryd.prog 16 #[.agg #[.int .u8 s, .int .u8 f, .int .u8 t, .int .u32 g, v4, v5]] w fun e w' => e = .returned (.string (textP s f t g)) ∧ Below w.heap.size w w' := by
  obtain ⟨⟨s0, s1⟩, ⟨f0, f1⟩, ⟨t0, t1⟩, ⟨g0, g1⟩⟩ := h
  have hw1 : IntKind.u32.wrap s = s := by rw [IntKind.wrap_u32]; omega
  have hw2 : IntKind.u32.wrap f = f := by rw [IntKind.wrap_u32]; omega
  have hw3 : IntKind.u32.wrap t = t := by rw [IntKind.wrap_u32]; omega
  have HT := Aside0.mk htab
  clear htab
  go_enter Tryd.func16, Tryd.ntmps16
  go_wp2
  obtain ⟨ns, hns⟩ : ∃ ns, ns = [s, f, t, g] := ⟨_, rfl⟩
  obtain ⟨w2, hw2⟩ : ∃ w2, w2 = ((w.alloc (.cells #[.int .u8 s, .int .u8 f, .int .u8 t, .int .u32 g, v4, v5] 27)).alloc (.cells #[.int .u32 s, .int .u32 f, .int .u32 t, .int .u32 g] 23)) := ⟨_, rfl⟩
  have hb2 : Below w.heap.size w w2 := by rw [hw2]; exact below_alloc (below_alloc (Below.refl _ _) _) _
  have hx2 : w2.heap[w.heap.size + 1]? = some (.cells #[.int .u32 s, .int .u32 f, .int .u32 t, .int .u32 g] 23 (0, 0)) := by
    rw [hw2]
    have := blk_new (w.alloc (.cells #[.int .u8 s, .int .u8 f, .int .u8 t, .int .u32 g, v4, v5] 27)) (.cells #[.int .u32 s, .int .u32 f, .int .u32 t, .int .u32 g] 23)
    have e : (w.alloc (.cells #[.int .u8 s, .int .u8 f, .int .u8 t, .int .u32 g, v4, v5] 27)).heap.size = w.heap.size + 1 := by show (w.heap.push _).size = _; simp
    rwa [e] at this
  have hln : ns.length = 4 := by rw [hns]; rfl
  have hnr : ∀ n ∈ ns, 0 ≤ n ∧ n ≤ 4294967295 := by
    rw [hns]
    intro n hn
    simp at hn
    rcases hn with rfl | rfl | rfl | rfl <;> omega
  have hcell : ∀ (W : World), Below w2.heap.size w2 W → ∀ k (hk : k < ns.length), W.cell? ⟨w.heap.size + 1, k, none⟩ = some (.int .u32 (ns[k])) := by
    intro W hb k hk
    have h := blk_below hx2 hb
    subst hns
    match k, hk with
    | 0, _ => exact blk_cell h 0
    | 1, _ => exact blk_cell h 1
    | 2, _ => exact blk_cell h 2
    | 3, _ => exact blk_cell h 3
  rw [← hw2]
  have HN := Aside0.mk hnr
  have HC := Aside0.mk hcell
  have HE := Aside0.mk hns
  have B2 := Aside0.mk hb2
  clear hw2 hx2 hnr hcell hns hb2 h4 h5 s0 s1 f0 f1 t0 t1 g0 g1
  go_loopw [3, 19] (fun o i wr => ∃ (k : Nat) (v : Value), k ≤ 4 ∧ i = .int .i64 k ∧ v = o ∧ Aside0 (Kd.R kStr 9 wr w2.heap.size (fun _ => True) v ((ns.take k).map decS) ∧ Below w2.heap.size w2 wr)) (fun _ i _ => 4 - (intOf i).toNat)
  case atStart => exact ⟨0, .slice none 0 0, Nat.zero_le _, rfl, rfl, ⟨Kd.R_nil _ _ _ _ _, Below.refl _ _⟩⟩
  case round =>
    obtain ⟨k, v, hk, rfl, rfl, HM⟩ := hrel
    by_cases hlt : k < 4
    · have hlt' : (k : Int) < 4 := by omega
      have hk0 : (0 : Int) ≤ (k : Int) := by omega
      have hkn : k < ns.length := by omega
      have hx := HC.out wr HM.out.2 k hkn
      have hr := HN.out (ns[k]) (List.getElem_mem _)
      obtain ⟨n, hn⟩ : ∃ n, ns[k] = n := ⟨_, rfl⟩
      rw [hn] at hx hr
      obtain ⟨u, rfl⟩ : ∃ u : Nat, n = u := ⟨n.toNat, by omega⟩
      have hwu : IntKind.u64.wrap (u : Int) = (u : Int) := by rw [IntKind.wrap_u64]; omega
      have EN := Aside0.mk hn
      have ED := Aside0.mk (show decS (u : Int) = ⟨(Lib.decDigits u).toArray⟩ by unfold decS; rw [Int.toNat_natCast])
      have HL := Aside0.mk (show ((ns.take k).map decS).length = k by rw [List.length_map, List.length_take]; omega)
      clear hn
      go_wp2_with fail
      refine (pubFormatUint_calls u (by omega) wr (TabOk.below HT.out (below_step B2.out HM.out.2))).mono ?_
      rintro e w3 ⟨rfl, hb⟩
      have R3 := Aside0.mk (Kd.R_below HM.out.1 hb)
      have B3 := Aside0.mk (below_step HM.out.2 hb)
      clear hb hx
      go_wp2_with (first | (at_builtin; refine Kd.R_append kStr (w0 := w2) w2.heap.size rfl (.tmp 23) (.tmp 27) 65 9 (.string ⟨#[]⟩) 16 rfl Tryd.underlying65 infoStr rfl (by decide) (by decide) v ((ns.take k).map decS) ⟨(Lib.decDigits u).toArray⟩ [.string ⟨(Lib.decDigits u).toArray⟩] (fun _ => True) (fun _ => False) rfl rfl rfl (fun _ hk => hk.elim) (fun _ _ => trivial) R3.out B3.out B3.out.size (by rw [HL.out]; omega) ?_; intro v1 w4 h1 h2 h3 h4; have R4 := Aside0.mk h1; have B4 := Aside0.mk h2; clear h1 h2 h3 h4))
      go_roundw
      case rel =>
        refine ⟨k + 1, v1, by omega, by go_num, rfl, ⟨?_, B4.out⟩⟩
        rw [List.take_succ_eq_append_getElem hkn, List.map_append, EN.out]
        show Kd.R kStr _ _ _ _ _ (_ ++ [decS (u : Int)])
        rw [ED.out]
        exact R4.out
      case measure => simp [intOf]; omega
    · obtain rfl : k = 4 := by omega
      have hm := HM.out.1
      rw [List.take_of_length_le (by omega)] at hm
      obtain ⟨inner, hown⟩ := Kd.R_own hm
      have hl4 : (ns.map decS).length = 4 := by rw [List.length_map]; exact hln
      rw [hl4] at hown
      obtain ⟨gb, cap, rfl, _, hcap⟩ := hown.form (by omega)
      have hs := HE.out
      subst hs
      obtain ⟨A, cA, eA, hcA, hCA⟩ := Kd.R_reads hm
      rw [hl4] at eA hcA
      injection eA with eA1 _ eA2
      subst eA1 eA2
      have hjn : (Lib.join (([s, f, t, g].map decS).map (·.data.toList)) [32]).length ≤ 140737488355328 := by
        rw [textL_join]
        have h1 := dec_few s (HN.out s (by simp)).1 (HN.out s (by simp)).2
        have h2 := dec_few f (HN.out f (by simp)).1 (HN.out f (by simp)).2
        have h3 := dec_few t (HN.out t (by simp)).1 (HN.out t (by simp)).2
        have h4 := dec_few g (HN.out g (by simp)).1 (HN.out g (by simp)).2
        simp only [textL, digN, List.length_append, List.length_cons]
        omega
      have hj := Tryd.strings_Join gb 0 cap ([s, f, t, g].map decS) ⟨#[32]⟩ wr (fun j x hx => by
        obtain ⟨hj, hx'⟩ := List.getElem?_eq_some_iff.1 hx
        obtain ⟨ad, cs, e, hcl, hKc, hcell⟩ := Kd.C_get hCA ⟨#[]⟩ (j : Int) (by omega) (by omega)
        cases e
        have e1 : cs = [.string x] := by
          have h : cs = [.string (([s, f, t, g].map decS).getD (j : Int).toNat ⟨#[]⟩)] := hKc
          rw [h, Int.toNat_natCast, List.getD_eq_getElem?_getD, hx]
          rfl
        subst e1
        have h := hcell 0 (.string x) rfl
        rw [Int.toNat_natCast, add_plain] at h
        rw [show j * kStr.sz + 0 = 0 + j by rw [show kStr.sz = 1 from rfl]; omega] at h
        exact h) hcap (by simp) hcA hjn
      rw [show ((⟨#[32]⟩ : ByteArray).data.toList) = [32] from rfl, textL_join] at hj
      have HJ := Aside0.mk hj
      have HBW := Aside0.mk (below_step B2.out HM.out.2)
      clear hm hown hCA hjn hj
      go_wp2_with fail
      refine HJ.out.mono ?_
      rintro e w3 ⟨rfl, hb⟩
      have HB3 := Aside0.mk (below_step HBW.out hb)
      clear hb
      go_wp2
      go_ret
      exact ⟨rfl, HB3.out⟩
theorem packets_Text.calls (a0_0 a0_1 a0_2 a0_3 : Int) (A0_4 : Option Addr) (c0_4 : Nat) (l0_4 : List (S62)) (A0_5 : Option Addr) (c0_5 : Nat) (l0_5 : List (S59)) (r : ByteArray) (w : World) (hr0_4 : Kd.C k62 w A0_4 l0_4.length l0_4) (hc0_4 : l0_4.length ≤ c0_4) (hr0_5 : Kd.C k59 w A0_5 l0_5.length l0_5) (hc0_5 : l0_5.length ≤ c0_5) (h : packets_Text.f a0_0 a0_1 a0_2 a0_3 l0_4 l0_5 = some r) (hT0_ : TabOk w) :
    Calls Tryd.prog 16 #[.agg #[.int .u8 a0_0, .int .u8 a0_1, .int .u8 a0_2, .int .u32 a0_3, .slice A0_4 l0_4.length c0_4, .slice A0_5 l0_5.length c0_5]] w fun e w' => e = .returned (.string r) ∧ Below w.heap.size w w' := by
  unfold packets_Text.f at h
  split at h
  case isFalse => cases h
  rename_i ho
  have hg := Option.some.inj h
  subst hg
  exact Text_calls a0_0 a0_1 a0_2 a0_3 _ _ w ho rfl rfl hT0_
end Go.Proofs.YtcohodkpppmaoaaDoor.Q
