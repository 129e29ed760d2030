/-
  The reference's reader (concordatref02.reader): where it stands; take, count, number, text.
  The reference's Check of keys, as printed: whether the text is a key.
  The reference's PutChanges, and the comparison of two rows of bytes, as printed: the plain words of XSpec.
  What is put is got, what is got was put: the plain laws of the reader. No program in sight.
  The reference's GetChanges and GetOps: what they answer is what the program's own ones answer.
  What the program's calls answer, as values that own their blocks: rows of plain things, and results with their rows.
  A list is the same as itself, and sizes come to an answer: ops, results, messages; ids.
  Changes: a list is the same as itself, and its size comes to an answer; two rows of bytes that are one.
  A copy in memory of its own, with a mark in the room behind it.
  Bytes: copies with a mark behind them, and whether they are as they were.
-/
import Derived.Test.YtcohodkpppmaoaaGreatDoorMC14
import Derived.BigRegion
import Derived.BigQuiet
import Derived.Test.YtcohodkpppmaoaaGreatDoorMC13
import Derived.Test.YtcohodkpppmaoaaGreatDoorMC1
import Derived.WalkSpells
import Derived.Test.YtcohodkpppmaoaaGreatDoorMC7
import Derived.Test.YtcohodkpppmaoaaGreatDoorMC4
import Derived.Test.YtcohodkpppmaoaaGreatDoorMC3
namespace Go.Proofs.YtcohodkpppmaoaaGreatDoor.Q
open Go.RowKit Go.Proofs.YtcohodkpppmaoaaGreatDoorW.PrintWords Go.Proofs.YtcohodkpppmaoaaGreatDoorW.PrintLast Go.Proofs.YtcohodkpppmaoaaGreatDoorW.PrintMore
set_option linter.unusedVariables false
/-- A reader at block g that was made behind w0; the bytes that it has still to give lie in w0. -/
structure Rf (w0 w : World) (g : Nat) (s : RdS) : Prop where
  below : Below w0.heap.size w0 w
  far : w0.heap.size ≤ g
  row : ∃ A c, w.heap[g]? = some (.cells #[.slice A s.1.length c, .bool s.2] 134 (0, 0)) ∧ s.1.length ≤ c ∧ s.1.length ≤ maxLen ∧ Kd.C (Kd.int .u8) w0 A s.1.length s.1
  bytes : ∀ x ∈ s.1, 0 ≤ x ∧ x < 256

theorem Rf.drew {w0 w : World} {g : Nat} {s : RdS} (h : Rf w0 w g s) (n : Nat) : Rf w0 (w.drewN n) g s :=
  ⟨pw_below_drewN h.below n, h.far, h.row, h.bytes⟩
/-- What keeps all but g's block, and finds g's block as told. -/
theorem Rf.grown {w0 w w1 : World} {g : Nat} {s : RdS} (h : Rf w0 w g s) (hb : Below w.heap.size w w1) : Rf w0 w1 g s := by
  obtain ⟨A, c, hr, h1, h2, h3⟩ := h.row
  have hlt : g < w.heap.size := blk_lt hr
  exact ⟨h.below.trans (hb.mono (h.below.size)), h.far, ⟨A, c, (hb.block g hlt).trans hr, h1, h2, h3⟩, h.bytes⟩

set_option maxHeartbeats 1600000 in
set_option maxRecDepth 100000 in
theorem takeQ_calls (w0 w : World) (g : Nat) (s : RdS) (n : Nat) (hn : n ≤ 256) (h : Rf w0 w g s) :
    Calls Tryz.prog 127 #[.pointer (some ⟨g, 0, none⟩), .int .i64 n] w fun e w' => ∃ A c, e = .returned (.slice A n c) ∧ n ≤ c ∧ Kd.C (Kd.int .u8) w' A n (takeQ s n) ∧ Rf w0 w' g (takeQS s n) ∧ KeepBut w w' g none := by
  obtain ⟨A, c, hb, hc, hm, hC⟩ := h.row
  have c0 : w.cell? ⟨g, 0, none⟩ = some (.slice A s.1.length c) := by simp [World.cell?, hb]
  have c1 : w.cell? ⟨g, 1, none⟩ = some (.bool s.2) := by simp [World.cell?, hb]
  have f0 : w.frozen? ⟨g, 0, none⟩ = false := blk_frozen hb _
  have f1 : w.frozen? ⟨g, 1, none⟩ = false := blk_frozen hb _
  unfold maxLen at hm
  have HC := Aside0.mk hC
  have H := Aside0.mk h
  have HBK := Aside0.mk hb
  clear hC h hb
  cases hbd : s.2 with
  | true =>
      have er : takeQ s n = List.replicate n 0 := if_pos hbd
      have es : takeQS s n = (s.1, true) := (if_pos hbd).trans (by rw [← hbd])
      rw [hbd] at c1
      rw [er, es]
      go_enter Tryz.func127, Tryz.ntmps127
      go_wp2_with (first | (refine Kd.R_make (Kd.int .u8) (w0 := w.setCell ⟨g, 1, none⟩ (.bool true)) (w.setCell ⟨g, 1, none⟩ (.bool true)).heap.size 5 rfl rfl 67 (.tmp 22) (.tmp 22) rfl (n : Int) rfl rfl Tryz.underlying67 (.int .u8 0) 1 info5 rfl (by decide) (by decide) 0 (ok := fun _ => True) (okp := fun _ => False) rfl (fun _ _ => trivial) trivial (by omega) (by omega) (Below.refl _ _) (Nat.le_refl _) ?_; intro v1 w1 hR hB hG hO; have HR := Aside0.mk hR; have HB := Aside0.mk hB; clear hR hB hG hO))
      go_ret
      obtain ⟨A1, c1, rfl, hc1, hC1⟩ := Kd.R_reads HR.out
      rw [show (List.replicate (n : Int).toNat (0 : Int)).length = n by simp] at *
      rw [show (n : Int).toNat = n by simp] at hC1
      have hb1 := blk_put HBK.out 1 (.bool true) (cs' := #[.slice A s.1.length c, .bool true]) rfl
      have hst : Rf w0 (w.setCell ⟨g, 1, none⟩ (.bool true)) g (s.1, true) :=
        ⟨H.out.below.setCell H.out.far _, H.out.far, ⟨A, c, hb1, hc, hm, HC.out⟩, H.out.bytes⟩
      exact ⟨A1, c1, rfl, hc1, hC1, hst.grown HB.out, ((KeepBut.refl w g none).set_ 1 _).trans (KeepBut.of_below HB.out g none) (.inl rfl)⟩
  | false =>
    by_cases hlt : s.1.length < n
    · have hlt' : (s.1.length : Int) < (n : Int) := by omega
      have er : takeQ s n = List.replicate n 0 := (if_neg (by rw [hbd]; decide)).trans (if_pos hlt)
      have es : takeQS s n = (s.1, true) := (if_neg (by rw [hbd]; decide)).trans (if_pos hlt)
      rw [hbd] at c1
      rw [er, es]
      go_enter Tryz.func127, Tryz.ntmps127
      go_wp2_with (first | (refine Kd.R_make (Kd.int .u8) (w0 := w.setCell ⟨g, 1, none⟩ (.bool true)) (w.setCell ⟨g, 1, none⟩ (.bool true)).heap.size 5 rfl rfl 67 (.tmp 22) (.tmp 22) rfl (n : Int) rfl rfl Tryz.underlying67 (.int .u8 0) 1 info5 rfl (by decide) (by decide) 0 (ok := fun _ => True) (okp := fun _ => False) rfl (fun _ _ => trivial) trivial (by omega) (by omega) (Below.refl _ _) (Nat.le_refl _) ?_; intro v1 w1 hR hB hG hO; have HR := Aside0.mk hR; have HB := Aside0.mk hB; clear hR hB hG hO))
      go_ret
      obtain ⟨A1, c1, rfl, hc1, hC1⟩ := Kd.R_reads HR.out
      rw [show (List.replicate (n : Int).toNat (0 : Int)).length = n by simp] at *
      rw [show (n : Int).toNat = n by simp] at hC1
      have hb1 := blk_put HBK.out 1 (.bool true) (cs' := #[.slice A s.1.length c, .bool true]) rfl
      have hst : Rf w0 (w.setCell ⟨g, 1, none⟩ (.bool true)) g (s.1, true) :=
        ⟨H.out.below.setCell H.out.far _, H.out.far, ⟨A, c, hb1, hc, hm, HC.out⟩, H.out.bytes⟩
      exact ⟨A1, c1, rfl, hc1, hC1, hst.grown HB.out, ((KeepBut.refl w g none).set_ 1 _).trans (KeepBut.of_below HB.out g none) (.inl rfl)⟩
    · have hlt' : ¬ (s.1.length : Int) < (n : Int) := by omega
      have er : takeQ s n = s.1.take n := (if_neg (by rw [hbd]; decide)).trans (if_neg hlt)
      have es : takeQS s n = (s.1.drop n, s.2) := (if_neg (by rw [hbd]; decide)).trans (if_neg hlt)
      rw [hbd] at c1
      rw [er, es]
      obtain ⟨iu, hiu, hsz⟩ := rd_uint8
      have hs1 := cut_to (P := Tryz.prog) 67 5 .i64 Tryz.underlying67 hiu A s.1.length c (n : Int) (by omega) (by omega) hc
      have hs2 := cut_from (P := Tryz.prog) 67 5 .i64 Tryz.underlying67 hiu 1 hsz A s.1.length c (n : Int) (by omega) (by omega)
      obtain ⟨A1, hA1⟩ : ∃ A1, A1 = if c = n then A else Option.map (fun x => x.add n) A := ⟨_, rfl⟩
      simp only [Int.toNat_natCast, Nat.mul_one] at hs2
      rw [← hA1] at hs2
      have HA1 := Aside0.mk hA1
      clear hA1
      go_enter Tryz.func127, Tryz.ntmps127
      go_wp2_with fail

      go_wp2
      go_ret
      have hl1 : (s.1.take n).length = n := by rw [List.length_take]; omega
      have hl2 : (s.1.drop n).length = s.1.length - n := List.length_drop
      have hC1 := Kd.C_take HC.out (m := n) (by omega)
      have hC2 := Kd.C_drop HC.out (m := n) (by omega) hc
      rw [hl1] at hC1
      rw [show n * (Kd.int .u8).sz = n from Nat.mul_one n, ← HA1.out] at hC2
      have hb1 := blk_put HBK.out 0 (.slice A1 (s.1.length - n) (c - n)) (cs' := #[.slice A1 (s.1.length - n) (c - n), .bool s.2]) rfl
      have hst : Rf w0 (w.setCell ⟨g, 0, none⟩ (.slice A1 (s.1.length - n) (c - n))) g (s.1.drop n, s.2) :=
        ⟨H.out.below.setCell H.out.far _, H.out.far, ⟨_, c - n, by rw [hl2]; exact hb1, by rw [hl2]; omega, by rw [hl2]; unfold maxLen; omega, hC2⟩, fun x hx => H.out.bytes x (List.mem_of_mem_drop hx)⟩
      rw [hbd] at hst
      exact ⟨A, c, rfl, by omega, Kd.C_below hC1 hst.below, hst, (KeepBut.refl w g none).set_ 0 _⟩

theorem takeQ_length (s : RdS) (n : Nat) : (takeQ s n).length = n := by
  unfold takeQ
  split
  · simp
  · exact takeR_length s n
theorem takeQ_bytes {s : RdS} (hs : ∀ x ∈ s.1, 0 ≤ x ∧ x < 256) (n : Nat) : ∀ x ∈ takeQ s n, 0 ≤ x ∧ x < 256 := by
  unfold takeQ
  split
  · intro x hx
    obtain ⟨_, rfl⟩ := List.mem_replicate.1 hx
    omega
  · exact takeR_bytes hs n
theorem len1 {l : List Int} (h : l.length = 1) : ∃ a, l = [a] := by
  match l, h with
  | [a], _ => exact ⟨a, rfl⟩
theorem len2 {l : List Int} (h : l.length = 2) : ∃ a b, l = [a, b] := by
  match l, h with
  | [a, b], _ => exact ⟨a, b, rfl⟩
theorem len4 {l : List Int} (h : l.length = 4) : ∃ a b c d, l = [a, b, c, d] := by
  match l, h with
  | [a, b, c, d], _ => exact ⟨a, b, c, d, rfl⟩
theorem u32_in {x : Int} (h0 : 0 ≤ x) (h1 : x < 4294967296) : IntKind.u32.wrap x = x := by rw [IntKind.wrap_u32]; exact Int.emod_eq_of_lt h0 h1
theorem numQ_range (s : RdS) (n : Nat) : 0 ≤ numQ s n ∧ numQ s n < 4294967296 := foldN_range _
theorem numQ_one {s : RdS} (hs : ∀ x ∈ s.1, 0 ≤ x ∧ x < 256) : ∃ a, takeQ s 1 = [a] ∧ numQ s 1 = a ∧ 0 ≤ a ∧ a < 256 := by
  obtain ⟨a, ha⟩ := len1 (takeQ_length s 1)
  have hb := takeQ_bytes hs 1 a (by rw [ha]; simp)
  refine ⟨a, ha, ?_, hb⟩
  unfold numQ
  rw [ha]
  simp [foldN]
  omega
theorem numQ_two {s : RdS} (hs : ∀ x ∈ s.1, 0 ≤ x ∧ x < 256) : ∃ a b, takeQ s 2 = [a, b] ∧ numQ s 2 = 256 * a + b ∧ (0 ≤ a ∧ a < 256) ∧ 0 ≤ b ∧ b < 256 := by
  obtain ⟨a, b, ha⟩ := len2 (takeQ_length s 2)
  have h0 := takeQ_bytes hs 2 a (by rw [ha]; simp)
  have h1 := takeQ_bytes hs 2 b (by rw [ha]; simp)
  refine ⟨a, b, ha, ?_, h0, h1⟩
  unfold numQ
  rw [ha]
  simp [foldN]
  omega
theorem numQ_four {s : RdS} (hs : ∀ x ∈ s.1, 0 ≤ x ∧ x < 256) : ∃ a b c d, takeQ s 4 = [a, b, c, d] ∧ numQ s 4 = 16777216 * a + 65536 * b + 256 * c + d ∧ (0 ≤ a ∧ a < 256) ∧ (0 ≤ b ∧ b < 256) ∧ (0 ≤ c ∧ c < 256) ∧ 0 ≤ d ∧ d < 256 := by
  obtain ⟨a, b, c, d, ha⟩ := len4 (takeQ_length s 4)
  have h0 := takeQ_bytes hs 4 a (by rw [ha]; simp)
  have h1 := takeQ_bytes hs 4 b (by rw [ha]; simp)
  have h2 := takeQ_bytes hs 4 c (by rw [ha]; simp)
  have h3 := takeQ_bytes hs 4 d (by rw [ha]; simp)
  refine ⟨a, b, c, d, ha, ?_, h0, h1, h2, h3⟩
  unfold numQ
  rw [ha]
  simp [foldN]
  omega
theorem adr0 (a : Addr) : a.add 0 = a := rfl
theorem adr1 (a : Addr) : a.add 1 = ⟨a.block, a.off + 1, none⟩ := rfl
theorem adr2 (a : Addr) : a.add 2 = ⟨a.block, a.off + 2, none⟩ := rfl
theorem adr3 (a : Addr) : a.add 3 = ⟨a.block, a.off + 3, none⟩ := rfl
theorem nth_int {w : World} {A : Option Addr} {l : List Int} {n : Nat} (h : Kd.C (Kd.int .u8) w A n l) (i : Nat) (hi : i < n) : ∃ ad, A = some ad ∧ w.cell? (ad.add i) = some (.int .u8 (l.getD i 0)) := by
  obtain ⟨ad, e, hx⟩ := Kd.at_int h (i : Int) (by omega) (by omega)
  refine ⟨ad, e, ?_⟩
  simpa [rd] using hx

set_option maxHeartbeats 1600000 in
set_option maxRecDepth 100000 in
theorem countQ_calls (w0 w : World) (g : Nat) (s : RdS) (h : Rf w0 w g s) :
    Calls Tryz.prog 125 #[.pointer (some ⟨g, 0, none⟩)] w fun e w' => e = .returned (.int .i64 (numQ s 2)) ∧ Rf w0 w' g (takeQS s 2) ∧ KeepBut w w' g none := by
  obtain ⟨a, b, hab, hn, ⟨a0, a1⟩, b0, b1⟩ := numQ_two h.bytes
  rw [hn]
  have HAB := Aside0.mk hab
  have H := Aside0.mk h
  have w1 : IntKind.i64.wrap (256 * a) = 256 * a := IntWalk.i64_in _ (by omega)
  have w2 : IntKind.i64.wrap (256 * a + b) = 256 * a + b := IntWalk.i64_in _ (by omega)
  have w3 : IntKind.i64.wrap a = a := IntWalk.i64_in _ (by omega)
  have w4 : IntKind.i64.wrap b = b := IntWalk.i64_in _ (by omega)
  clear hn hab h
  go_enter Tryz.func125, Tryz.ntmps125
  go_wp2_with fail
  refine (takeQ_calls w0 _ g s 2 (by omega) H.out).mono ?_
  rintro e w5 ⟨A, c, rfl, hc, hC, hR, hK⟩
  rw [HAB.out] at hC
  obtain ⟨ad, rfl, hx0⟩ := nth_int hC 0 (by decide)
  obtain ⟨ad', e1, hx1⟩ := nth_int hC 1 (by decide)
  cases e1
  simp only [List.getD_cons_zero, List.getD_cons_succ, adr0, adr1] at hx0 hx1
  have HR := Aside0.mk hR
  have HK := Aside0.mk hK
  clear hR hK hC
  go_wp2
  repeat (go_quiet (fail); try go_wp2)
  go_ret
  exact ⟨rfl, HR.out.drew _, keep_then HK.out (KeepBut.of_below (pw_below_drewN (Below.refl _ _) _) g none)⟩

set_option maxHeartbeats 1600000 in
set_option maxRecDepth 100000 in
theorem numberQ_calls (w0 w : World) (g : Nat) (s : RdS) (h : Rf w0 w g s) :
    Calls Tryz.prog 128 #[.pointer (some ⟨g, 0, none⟩)] w fun e w' => e = .returned (.int .u32 (numQ s 4)) ∧ Rf w0 w' g (takeQS s 4) ∧ KeepBut w w' g none := by
  obtain ⟨a, b, c, d, hab, hn, ⟨a0, a1⟩, ⟨b0, b1⟩, ⟨c0, c1⟩, d0, d1⟩ := numQ_four h.bytes
  rw [hn]
  have HAB := Aside0.mk hab
  have H := Aside0.mk h
  have w1 : IntKind.u32.wrap (16777216 * a) = 16777216 * a := u32_in (by omega) (by omega)
  have w2 : IntKind.u32.wrap (65536 * b) = 65536 * b := u32_in (by omega) (by omega)
  have w3 : IntKind.u32.wrap (256 * c) = 256 * c := u32_in (by omega) (by omega)
  have w4 : IntKind.u32.wrap (16777216 * a + 65536 * b) = 16777216 * a + 65536 * b := u32_in (by omega) (by omega)
  have w5 : IntKind.u32.wrap (16777216 * a + 65536 * b + 256 * c) = 16777216 * a + 65536 * b + 256 * c := u32_in (by omega) (by omega)
  have w6 : IntKind.u32.wrap (16777216 * a + 65536 * b + 256 * c + d) = 16777216 * a + 65536 * b + 256 * c + d := u32_in (by omega) (by omega)
  have x1 : IntKind.u32.wrap a = a := u32_in a0 (by omega)
  have x2 : IntKind.u32.wrap b = b := u32_in b0 (by omega)
  have x3 : IntKind.u32.wrap c = c := u32_in c0 (by omega)
  have x4 : IntKind.u32.wrap d = d := u32_in d0 (by omega)
  clear hn hab h
  go_enter Tryz.func128, Tryz.ntmps128
  go_wp2_with fail
  refine (takeQ_calls w0 _ g s 4 (by omega) H.out).mono ?_
  rintro e w7 ⟨A, cc, rfl, hc, hC, hR, hK⟩
  rw [HAB.out] at hC
  obtain ⟨ad, rfl, hx0⟩ := nth_int hC 0 (by decide)
  obtain ⟨ad', e1, hx1⟩ := nth_int hC 1 (by decide)
  cases e1
  obtain ⟨ad', e1, hx2⟩ := nth_int hC 2 (by decide)
  cases e1
  obtain ⟨ad', e1, hx3⟩ := nth_int hC 3 (by decide)
  cases e1
  simp only [List.getD_cons_zero, List.getD_cons_succ, adr0, adr1, adr2, adr3] at hx0 hx1 hx2 hx3
  have HR := Aside0.mk hR
  have HK := Aside0.mk hK
  clear hR hK hC
  go_wp2
  repeat (go_quiet (fail); try go_wp2)
  go_ret
  exact ⟨rfl, HR.out.drew _, keep_then HK.out (KeepBut.of_below (pw_below_drewN (Below.refl _ _) _) g none)⟩

set_option maxHeartbeats 1600000 in
set_option maxRecDepth 100000 in
theorem textQ_calls (w0 w : World) (g : Nat) (s : RdS) (h : Rf w0 w g s) :
    Calls Tryz.prog 126 #[.pointer (some ⟨g, 0, none⟩)] w fun e w' => e = .returned (.string (textQ s)) ∧ Rf w0 w' g (textQS s) ∧ KeepBut w w' g none := by
  obtain ⟨a, hab, hn, a0, a1⟩ := numQ_one h.bytes
  obtain ⟨m, rfl⟩ := Int.eq_ofNat_of_zero_le a0
  unfold textQ textQS
  rw [hn, Int.toNat_natCast]
  have HAB := Aside0.mk hab
  have H := Aside0.mk h
  have w1 : IntKind.i64.wrap (m : Int) = (m : Int) := IntWalk.i64_in _ (by omega)
  clear hn hab h
  go_enter Tryz.func126, Tryz.ntmps126
  go_wp2_with fail
  refine (takeQ_calls w0 _ g s 1 (by omega) H.out).mono ?_
  rintro e w5 ⟨A, c, rfl, hc, hC, hR, hK⟩
  rw [HAB.out] at hC
  obtain ⟨ad, rfl, hx0⟩ := nth_int hC 0 (by decide)
  simp only [List.getD_cons_zero, adr0] at hx0
  have HR := Aside0.mk hR
  have HK := Aside0.mk hK
  clear hR hK hC
  go_wp2_with fail
  refine (takeQ_calls w0 _ g (takeQS s 1) m (by omega) HR.out).mono ?_
  rintro e w6 ⟨A, c, rfl, hc, hC, hR, hK⟩
  have hcv := Kd.C_string (P := Tryz.prog) (src := 67) (dst := 9) (c := c) Tryz.underlying67 Tryz.underlying5 Tryz.underlying9 hC
  have HR2 := Aside0.mk hR
  have HK2 := Aside0.mk hK
  clear hR hK hC
  go_wp2
  go_ret
  exact ⟨rfl, HR2.out, HK.out.trans HK2.out (.inl rfl)⟩

end Go.Proofs.YtcohodkpppmaoaaGreatDoor.Q
namespace Go.Proofs.YtcohodkpppmaoaaGreatDoor.Q
open Go.RowKit Go.Proofs.YtcohodkpppmaoaaGreatDoorW.PrintWords Go.Proofs.YtcohodkpppmaoaaGreatDoorW.PrintLast

theorem wrap_in (x : Int) (h0 : -9223372036854775808 ≤ x) (h1 : x ≤ 9223372036854775807) : wrap64 x = x := by
  unfold wrap64
  omega
theorem bt_byte (s : ByteArray) (i : Nat) (h : i < s.size) : bt s (i : Int) = ((s[i]'h).toNat : Int) := by
  simp [bt, h]

theorem refCheck_from (s : ByteArray) (hs : s.size ≤ 140737488351232) (d : Nat) : ∀ (k i : Nat), i ≤ s.size → s.size - i = d → d < k → keyChars (s.data.toList.take i) = true →
    concordatref01_Check.l0 k s (i : Int) = some (isKey s) := by
  induction d with
  | zero =>
    intro k i h0 h1 hk hp
    obtain ⟨k, rfl⟩ : ∃ m, k = m + 1 := ⟨k - 1, by omega⟩
    simp only [concordatref01_Check.l0]
    rw [if_neg (by omega)]
    have e : s.data.toList.take i = s.data.toList := List.take_of_length_le (by rw [Array.length_toList]; show s.size ≤ i; omega)
    rw [e] at hp
    unfold isKey
    rw [hp]
    by_cases h1 : (s.size : Int) ≥ 1
    · rw [if_pos h1]
      have h2 : 1 ≤ s.size := by omega
      simp [h2]
      omega
    · rw [if_neg h1]
      have h2 : ¬ 1 ≤ s.size := by omega
      simp [h2]
  | succ d ih =>
    intro k i h0 h1 hk hp
    obtain ⟨k, rfl⟩ : ∃ m, k = m + 1 := ⟨k - 1, by omega⟩
    have hi : i < s.size := by omega
    simp only [concordatref01_Check.l0]
    rw [if_pos (by omega), if_pos (by omega), bt_byte s i hi, wrap_in _ (by omega) (by omega)]
    have hb := keyRune_byte (s[i]'hi)
    have hn := keyChars_no s i hi
    have ht := keyChars_take_succ s i hi
    have hgo : keyByte (s[i]'hi) = true → concordatref01_Check.l0 k s ((i : Int) + 1) = some (isKey s) := by
      intro hy
      have := ih k (i + 1) (by omega) (by omega) (by omega) (by rw [ht, hp, hy]; rfl)
      rw [← this]; rfl
    have hno : keyByte (s[i]'hi) = false → some false = some (isKey s) := by
      intro hy
      unfold isKey
      rw [hn hy]
      simp
    generalize ((s[i]'hi).toNat : Int) = c at *
    unfold keyRune at hb
    by_cases c1 : c < 97
    · rw [if_pos c1]
      by_cases c2 : c < 48
      · rw [if_pos c2]
        by_cases c3 : c = 95
        · omega
        · rw [if_neg c3]
          exact hno (by rw [← hb, Bool.eq_false_iff]; simp; omega)
      · rw [if_neg c2]
        by_cases c4 : c > 57
        · rw [if_pos c4]
          by_cases c3 : c = 95
          · rw [if_pos c3]; exact hgo (by rw [← hb]; simp; omega)
          · rw [if_neg c3]
            exact hno (by rw [← hb, Bool.eq_false_iff]; simp; omega)
        · rw [if_neg c4]; exact hgo (by rw [← hb]; simp; omega)
    · rw [if_neg c1]
      by_cases c5 : c > 122
      · rw [if_pos c5, if_neg (by omega), if_pos (by omega), if_neg (by omega)]
        exact hno (by rw [← hb, Bool.eq_false_iff]; simp; omega)
      · rw [if_neg c5]
        exact hgo (by rw [← hb]; simp; omega)

theorem ev_refCheck (s : ByteArray) (hs : s.size ≤ 140737488351232) : Ev (fun k => concordatref01_Check.f k s) (isKey s) :=
  ⟨s.size + 1, fun k hk => refCheck_from s hs s.size k 0 (by omega) (by omega) (by omega) (by simp [keyChars])⟩


end Go.Proofs.YtcohodkpppmaoaaGreatDoor.Q
namespace Go.Proofs.YtcohodkpppmaoaaGreatDoor.Q
open Go.RowKit Go.Proofs.YtcohodkpppmaoaaGreatDoorW.PrintWords Go.Proofs.YtcohodkpppmaoaaGreatDoorW.PrintLast Go.Proofs.YtcohodkpppmaoaaGreatDoorW.PrintMore

theorem refCount_eq (n : Int) (h0 : 0 ≤ n) (h1 : n ≤ 1000000000) : concordatref02_Count.f n = some (num2 n) := by
  unfold concordatref02_Count.f num2
  rw [Int.tdiv_eq_ediv_of_nonneg h0, wrap_id _ (by omega) (by omega)]
theorem refNumber_eq (n : Int) (h : u32Ok n) : concordatref02_Number.f n = some (num4 n) := by
  obtain ⟨h0, h1⟩ := h
  unfold concordatref02_Number.f num4
  rw [Int.tdiv_eq_ediv_of_nonneg h0, Int.tdiv_eq_ediv_of_nonneg h0, Int.tdiv_eq_ediv_of_nonneg h0]
  rw [Int.emod_eq_of_lt (a := n / 16777216) (by omega) (by omega), Int.emod_eq_of_lt (a := n / 65536) (by omega) (by omega), Int.emod_eq_of_lt (a := n / 256) (by omega) (by omega)]
theorem refText_eq (s : ByteArray) (h : s.size ≤ 1000000000) : concordatref02_text.f s = some (textB s) := by
  unfold concordatref02_text.f textB
  simp only [Option.bind_some, List.length_singleton]
  rw [if_pos (by omega)]
  simp

theorem refChanges_scan (l : List ChangeT) (hl : l.length ≤ 1000000000) (hs : ∀ x ∈ l, x.f0.size ≤ 140737488351232) (d : Nat) : ∀ (i : Nat), i ≤ l.length → l.length - i = d → (∀ x ∈ l.take i, changeE x ≠ 1) → ∀ (r : List Int × Int),
    (l.any (fun x => changeE x == 1) = true → r = ([], 1)) →
    (l.any (fun x => changeE x == 1) = false → Ev (fun k => if (l.length : Int) > 4096 then (some (([] : List Int), 3)) else ((concordatref02_Count.f (l.length : Int)).bind fun t => (concordatref02_PutChanges.l1 k l t 0))) r) →
    Ev (fun k => concordatref02_PutChanges.l0 k l (i : Int)) r := by
  induction d with
  | zero =>
    intro i h0 h1 hp r hr1 hr2
    have e : l.take i = l := List.take_of_length_le (by omega)
    rw [e] at hp
    have hno : l.any (fun x => changeE x == 1) = false := by
      rw [List.any_eq_false]
      intro x hx
      simpa using hp x hx
    refine Ev.step (fun k => ?_) (hr2 hno)
    simp only [concordatref02_PutChanges.l0]
    rw [if_neg (by omega)]
  | succ d ih =>
    intro i h0 h1 hp r hr1 hr2
    have hi : i < l.length := by omega
    have hrd : rd_T116 l (i : Int) = l[i] := by simp [rd_T116, hi]
    have htk : l.take (i + 1) = l.take i ++ [l[i]] := List.take_succ_eq_append_getElem hi
    have hbad : changeE l[i] = 1 → some (([] : List Int), (1 : Int)) = some r := by
      intro h
      rw [hr1 (by rw [List.any_eq_true]; exact ⟨l[i], List.getElem_mem _, by simp [h]⟩)]
    have hgo : changeE l[i] ≠ 1 → Ev (fun k => concordatref02_PutChanges.l0 k l (wrap64 ((i : Int) + 1))) r := by
      intro h
      rw [wrap_id _ (by omega) (by omega)]
      refine ih (i + 1) (by omega) (by omega) ?_ r hr1 hr2
      rw [htk]
      intro x hx
      rcases List.mem_append.1 hx with hx | hx
      · exact hp x hx
      · rw [List.mem_singleton.1 hx]; exact h
    refine Ev.step (f := fun k => (concordatref01_Check.f k l[i].f0).bind fun t => (if t = true then (if l[i].f2 = true then (if l[i].f1 = 0 then (concordatref02_PutChanges.l0 k l (wrap64 ((i : Int) + 1))) else (some (([] : List Int), 1))) else (concordatref02_PutChanges.l0 k l (wrap64 ((i : Int) + 1)))) else (some (([] : List Int), 1)))) (fun k => ?_) ?_
    · simp only [concordatref02_PutChanges.l0]
      rw [if_pos (by omega), if_pos (by omega), hrd]
    · refine Ev.bind (ev_refCheck _ (hs _ (List.getElem_mem _))) ?_
      cases hk : isKey l[i].f0 with
      | false =>
        simp only [Bool.false_eq_true, if_false]
        exact ev_const (hbad (by simp [changeE, mayChange, hk]))
      | true =>
        simp only [if_true]
        cases hg : l[i].f2 with
        | false =>
          simp only [Bool.false_eq_true, if_false]
          exact hgo (by simp [changeE, mayChange, hk, hg])
        | true =>
          simp only [if_true]
          by_cases c : l[i].f1 = 0
          · simp only [if_pos c]
            exact hgo (by simp [changeE, mayChange, hk, hg, c])
          · simp only [if_neg c]
            exact ev_const (hbad (by simp [changeE, mayChange, hk, hg, c]))

theorem refChanges_put (l : List ChangeT) (hl : l.length ≤ 1000000) (hw : ∀ x ∈ l, changeOk x) (hok : ∀ x ∈ l, changeE x = 0) (d : Nat) : ∀ (b : List Int) (i : Nat), i ≤ l.length → l.length - i = d → b.length + 64 * (l.length - i) + 64 < 140737488355328 →
    Ev (fun k => concordatref02_PutChanges.l1 k l b (i : Int)) (b ++ (l.drop i).flatMap changeB, 0) := by
  induction d with
  | zero =>
    intro b i h0 h1 hb
    refine Ev.step (f := fun _ => some (b, 0)) (fun k => ?_) ?_
    · simp only [concordatref02_PutChanges.l1]
      rw [if_neg (by omega)]
    · refine ev_const ?_
      rw [List.drop_eq_nil_of_le (by omega)]
      simp
  | succ d ih =>
    intro b i h0 h1 hb
    have hi : i < l.length := by omega
    have hrd : rd_T116 l (i : Int) = l[i] := by simp [rd_T116, hi]
    have hoi := hok l[i] (List.getElem_mem _)
    have hlen := change_len l[i] hoi
    have hlb : (changeB l[i]).length = l[i].f0.size + 6 := by simp [changeB, textB_length, num4_length]
    refine Ev.step (f := fun k => concordatref02_PutChanges.l1 k l (b ++ changeB l[i]) (wrap64 ((i : Int) + 1))) (fun k => ?_) ?_
    · simp only [concordatref02_PutChanges.l1]
      rw [if_pos (by omega), if_pos (by omega), hrd, refText_eq _ (by omega), refNumber_eq _ (hw _ (List.getElem_mem _))]
      simp only [Option.bind_some]
      rw [if_pos (by rw [textB_length]; omega)]
      cases hg : l[i].f2 with
      | true =>
        simp only [if_true]
        rw [if_pos (by simp [textB_length]; omega), if_pos (by simp [textB_length, num4_length]; omega)]
        simp [changeB, hg]
      | false =>
        simp only [Bool.false_eq_true, if_false]
        rw [if_pos (by simp [textB_length]; omega), if_pos (by simp [textB_length, num4_length]; omega)]
        simp [changeB, hg]
    · rw [wrap_id _ (by omega) (by omega)]
      refine ev_eq ?_ (ih (b ++ changeB l[i]) (i + 1) (by omega) (by omega) (by rw [List.length_append]; omega))
      rw [List.drop_eq_getElem_cons hi, List.flatMap_cons]
      simp only [List.append_assoc]

theorem ev_refPutChanges (l : List ChangeT) (hl : l.length ≤ 1000000) (hs : ∀ x ∈ l, x.f0.size ≤ 140737488351232) (hw : ∀ x ∈ l, changeOk x) : Ev (fun k => concordatref02_PutChanges.f k l) (putChanges l) := by
  unfold concordatref02_PutChanges.f
  refine refChanges_scan l (by omega) hs l.length 0 (by omega) (by omega) (by simp) _ ?_ ?_
  · intro h
    unfold putChanges putList
    rw [if_pos h]
  · intro h
    have h3 : l.any (fun x => changeE x == 3) = false := by
      rw [List.any_eq_false]
      intro x _
      unfold changeE
      split <;> simp
    unfold putChanges putList
    rw [h, h3]
    by_cases hm : (l.length : Int) > 4096
    · have hm' : 4096 < l.length := by omega
      simp only [if_pos hm]
      refine ev_const ?_
      simp [hm']
    · have hm' : ¬ 4096 < l.length := by omega
      simp only [if_neg hm]
      rw [refCount_eq _ (by omega) (by omega)]
      simp only [Option.bind_some]
      have hok : ∀ x ∈ l, changeE x = 0 := by
        intro x hx
        rw [List.any_eq_false] at h
        have a1 := h x hx
        simp at a1
        unfold changeE at *; split at a1 <;> simp_all
      refine ev_eq ?_ (refChanges_put l hl hw hok l.length (num2 l.length) 0 (by omega) (by omega) (by simp [num2_length]; omega))
      simp [hm']

end Go.Proofs.YtcohodkpppmaoaaGreatDoor.Q
namespace Go.Proofs.YtcohodkpppmaoaaGreatDoor.Q
open Go.RowKit Go.Proofs.YtcohodkpppmaoaaGreatDoorW.PrintWords Go.Proofs.YtcohodkpppmaoaaGreatDoorW.PrintLast Go.Proofs.YtcohodkpppmaoaaGreatDoorW.PrintMore
set_option linter.unusedVariables false

theorem putList_ok {α : Type} {may : α → Int} (hmay : ∀ x, may x = 0 ∨ may x = 1 ∨ may x = 3) {most : Nat} {one : α → List Int} {l : List α} (h : (putList may most one l).2 = 0) :
    (∀ x ∈ l, may x = 0) ∧ l.length ≤ most ∧ (putList may most one l).1 = num2 l.length ++ l.flatMap one := by
  unfold putList at h ⊢
  split at h
  · cases h
  · rename_i h1
    rw [if_neg h1]
    split at h
    · cases h
    · rename_i h2
      rw [if_neg h2]
      refine ⟨fun x hx => ?_, ?_, rfl⟩
      · rcases hmay x with e | e | e
        · exact e
        · exact absurd (List.any_eq_true.2 ⟨x, hx, by simp [e]⟩) h1
        · exact absurd (by rw [List.any_eq_true.2 ⟨x, hx, by simp [e]⟩]; rfl) h2
      · rcases Nat.lt_or_ge most l.length with hl | hl
        · exact absurd (by rw [decide_eq_true hl]; simp) h2
        · exact hl
theorem putList_err {α : Type} {may : α → Int} {most : Nat} {one : α → List Int} {l : List α} (h : (putList may most one l).2 ≠ 0) : (putList may most one l).1 = [] := by
  unfold putList at h ⊢
  split
  · rfl
  · rename_i h1
    rw [if_neg h1] at h
    split
    · rfl
    · rename_i h2
      rw [if_neg h2] at h
      exact absurd rfl h
theorem changeE_cases (x : ChangeT) : changeE x = 0 ∨ changeE x = 1 ∨ changeE x = 3 := by unfold changeE; split <;> simp
end Go.Proofs.YtcohodkpppmaoaaGreatDoor.Q
namespace Go.Proofs.YtcohodkpppmaoaaGreatDoor.Q
open Go.RowKit Go.Proofs.YtcohodkpppmaoaaGreatDoorW.PrintWords Go.Proofs.YtcohodkpppmaoaaGreatDoorW.PrintLast Go.Proofs.YtcohodkpppmaoaaGreatDoorW.PrintMore
set_option linter.unusedVariables false
theorem Bts.takeQ {s : RdS} (hs : Bts s) (n : Nat) : Bts (takeQS s n) := by
  unfold takeQS
  split
  · exact hs
  · exact hs.take n
theorem Bts.textQ {s : RdS} (hs : Bts s) : Bts (textQS s) := (hs.takeQ 1).takeQ _
theorem Bts.changeQ {s : RdS} (hs : Bts s) : Bts (changeQS s) := (hs.textQ.takeQ 1).takeQ 4
theorem strOfNums_size (l : List Int) : (strOfNums l).size = l.length := by simp [strOfNums, ByteArray.size]
theorem textQ_small {s : RdS} (hs : Bts s) : (textQ s).size ≤ 255 := by
  obtain ⟨a, _, hn, a0, a1⟩ := numQ_one hs
  unfold Q.textQ
  rw [strOfNums_size, takeQ_length, hn]
  omega
theorem changeQ_ok {s : RdS} : changeOk (changeQ s) := by
  have h := numQ_range (takeQS (textQS s) 1) 4
  unfold changeOk u32Ok Q.changeQ
  dsimp only
  omega
theorem Rf.set {w0 w : World} {g b : Nat} {s : RdS} (h : Rf w0 w g s) (hb : g ≠ b) (h0 : w0.heap.size ≤ b) (j : Nat) (u : Value) : Rf w0 (w.setCell ⟨b, j, none⟩ u) g s := by
  obtain ⟨A, c, hr, h1, h2, h3⟩ := h.row
  exact ⟨h.below.setCell h0 _, h.far, ⟨A, c, blk_far hr hb u, h1, h2, h3⟩, h.bytes⟩
theorem Rf.grownBy {w0 w w1 : World} {g : Nat} {s : RdS} (h : Rf w0 w g s) (hb : Below w0.heap.size w0 w1) {row : Option Nat} (hg : w.grownBy w1 row) (hr : ∀ k, row = some k → k ≠ g) : Rf w0 w1 g s := by
  obtain ⟨A, c, hr0, h1, h2, h3⟩ := h.row
  exact ⟨hb, h.far, ⟨A, c, blk_grown hr0 hg (by intro e; exact hr g e.symm rfl), h1, h2, h3⟩, h.bytes⟩
set_option maxRecDepth 100000 in
theorem sameQ_calls (A0 : Option Addr) (c0 : Nat) (l0 : List Int) (A1 : Option Addr) (c1 : Nat) (l1 : List Int) (w : World) (h0 : Kd.C (Kd.int .u8) w A0 l0.length l0) (h1 : Kd.C (Kd.int .u8) w A1 l1.length l1) :
    Calls Tryz.prog 129 #[.slice A0 l0.length c0, .slice A1 l1.length c1] w fun e w' => e = .returned (.bool ((strOfNums l0).toList == (strOfNums l1).toList)) ∧ w' = w := by
  have hc0 := Kd.C_string (P := Tryz.prog) (src := 67) (dst := 9) (c := c0) Tryz.underlying67 Tryz.underlying5 Tryz.underlying9 h0
  have hc1 := Kd.C_string (P := Tryz.prog) (src := 67) (dst := 9) (c := c1) Tryz.underlying67 Tryz.underlying5 Tryz.underlying9 h1
  clear h0 h1
  go_enter Tryz.func129, Tryz.ntmps129
  go_wp2
  go_ret
  exact ⟨rfl, rfl⟩

set_option maxHeartbeats 3200000 in
set_option maxRecDepth 100000 in
theorem concordatref02_GetChanges.calls (A0 : Option Addr) (c0 : Nat) (l0 : List Int) (w : World) (hr0 : Kd.C (Kd.int .u8) w A0 l0.length l0) (hc0 : l0.length ≤ c0) (hby : ∀ x ∈ l0, 0 ≤ x ∧ x < 256) :
    Calls Tryz.prog 33 #[.slice A0 l0.length c0] w fun e w' => ∃ v0_ : Value, e = .returned (.tuple #[v0_, .int .i64 (getR changeR changeS putChanges l0).2]) ∧ Kd.R k116 116 w' w.heap.size (fun _ => True) v0_ (getR changeR changeS putChanges l0).1 ∧ Below w.heap.size w w' := by
  rw [← getQ_changes l0 hby]
  obtain ⟨m, hm⟩ : ∃ m : Nat, numQ (l0, false) 2 = m := ⟨(numQ (l0, false) 2).toNat, by have := numQ_range (l0, false) 2; omega⟩
  have hm' : m < 65536 := by
    obtain ⟨a, b, _, hn, h0, h2⟩ := numQ_two (s := (l0, false)) hby
    omega
  have e1 : sevQ changeQ changeQS (l0, false) = sevN changeQ changeQS m (takeQS (l0, false) 2) := by unfold sevQ; rw [hm]; rfl
  have e2 : sevQS changeQ changeQS (l0, false) = sevNS changeQ changeQS m (takeQS (l0, false) 2) := by unfold sevQS; rw [hm]; rfl
  have hB2 : Bts (takeQS (l0, false) 2) := Bts.takeQ (show Bts (l0, false) from hby) 2
  have hall : ∀ x ∈ sevN changeQ changeQS m (takeQS (l0, false) 2), x.f0.size ≤ 255 ∧ changeOk x := sevN_all (p := fun x => x.f0.size ≤ 255 ∧ changeOk x) (fun _ h => h.changeQ) (fun s hs => ⟨textQ_small hs, changeQ_ok⟩) m _ hB2
  have hlen := sevN_short changeQ changeQS m (takeQS (l0, false) 2)
  unfold getQ
  rw [e1, e2]
  obtain ⟨L, hL⟩ : ∃ L, L = sevN changeQ changeQS m (takeQS (l0, false) 2) := ⟨_, rfl⟩
  obtain ⟨SF, hSF⟩ : ∃ SF, SF = sevNS changeQ changeQS m (takeQS (l0, false) 2) := ⟨_, rfl⟩
  rw [← hL] at hall hlen ⊢
  rw [← hSF]
  obtain ⟨kp, hkp⟩ := (ev_refPutChanges L (by omega) (fun x hx => by have := (hall x hx).1; omega) (fun x hx => (hall x hx).2)).rounds
  generalize putChanges L = q at *
  obtain ⟨pb, pe⟩ := q
  dsimp only
  have HKP := Aside0.mk hkp
  have HBY := Aside0.mk hby
  have HC := Aside0.mk hr0
  have HL := Aside0.mk hL
  have HSF := Aside0.mk hSF
  have HM := Aside0.mk hm
  have HMX := Aside0.mk (show l0.length ≤ maxLen from Kd.C_max hr0)
  have HLN := Aside0.mk hlen
  clear hkp hby hr0 hL hSF hm hall hlen e1 e2 hB2
  have hu := Tryz.underlying134
  have huc := Tryz.underlying116
  go_enter Tryz.func33, Tryz.ntmps33
  go_wp2_with fail
  have HA := Aside0.mk (show Rf w (w.alloc (.cells #[.slice A0 l0.length c0, .bool false] 134)) w.heap.size (l0, false) from ⟨below_alloc (Below.refl _ _) _, Nat.le_refl _, ⟨A0, c0, blk_new w _, hc0, HMX.out, HC.out⟩, HBY.out⟩)
  refine (countQ_calls w _ w.heap.size (l0, false) HA.out).mono ?_
  rintro e w1 ⟨rfl, hR, hK⟩
  rw [HM.out]
  have R1 := Aside0.mk hR
  clear hR hK HA
  go_wp2
  go_loopw [5, 6] (fun v n wr => ∃ (j : Nat) (sj : RdS) (xs : List S116), n = .int .i64 j ∧ j ≤ m ∧ Aside0 (xs.length + j ≤ m) ∧ Aside0 (L = xs ++ sevN changeQ changeQS j sj) ∧ Aside0 (SF = sevNS changeQ changeQS j sj) ∧ Aside0 (Kd.R k116 116 wr w.heap.size (fun k => k ≠ w.heap.size) v xs) ∧ Aside0 (Rf w wr w.heap.size sj)) (fun _ n _ => (intOf n).toNat)
  case atStart => exact ⟨m, _, [], rfl, Nat.le_refl _, ⟨by simp⟩, HL, HSF, ⟨Kd.R_nil _ _ _ _ _⟩, R1⟩
  case round =>
    clear R1
    obtain ⟨wq, hwq⟩ : ∃ wq, wq = wr := ⟨_, rfl⟩
    subst hwq
    obtain ⟨j, sj, xs, rfl, hj, HLJ, E1, E2, HO, HR⟩ := hrel
    have hszw : w.heap.size ≤ wq.heap.size := HR.out.below.size
    have hgl : w.heap.size < wq.heap.size := by
      obtain ⟨A, c, hrow, _⟩ := HR.out.row
      exact blk_lt hrow
    obtain ⟨Arw, crw, hrow, _⟩ := HR.out.row
    have hcs : wq.cell? ⟨w.heap.size, 1, none⟩ = some (.bool sj.2) := blk_cell hrow 1
    have HRW := Aside0.mk hrow
    clear hrow
    obtain ⟨Av, cv, rfl, hcv, hCv⟩ := Kd.R_reads HO.out
    have HCV := Aside0.mk hCv
    clear hCv
    by_cases hex : j = 0 ∨ sj.2 = true
    · have eL : L = xs := by
        rw [E1.out]
        rcases hex with rfl | hb
        · simp [sevN]
        · cases j with
          | zero => simp [sevN]
          | succ j => simp [sevN, hb]
      have eS : SF = sj := by
        rw [E2.out]
        rcases hex with rfl | hb
        · rfl
        · cases j with
          | zero => rfl
          | succ j => simp [sevNS, hb]
      subst eL eS
      clear E1 E2 HL HSF
      rcases hex with rfl | hbad
      · go_wp2_with fail
        refine (concordatref02_PutChanges.calls kp Av cv L pb pe wq HCV.out hcv HKP.out).mono ?_
        rintro e w4 ⟨v4, rfl, hO4, hB4⟩
        obtain ⟨A4, c4, rfl, hc4, hC4⟩ := Kd.R_reads hO4
        have HO4 := Aside0.mk (Kd.R_below HO.out hB4)
        have HR4 := Aside0.mk (HR.out.grown hB4)
        obtain ⟨Ar, cr, hrow4, _⟩ := HR4.out.row
        have hcs4 : w4.cell? ⟨w.heap.size, 1, none⟩ = some (.bool SF.2) := blk_cell hrow4 1
        have HC4 := Aside0.mk hC4
        have HA4 := Aside0.mk (Kd.C_below HC.out HR4.out.below)
        clear hO4 hrow4 hC4 hB4
        cases hsh : SF.2 with
        | true =>
          rw [hsh] at hcs4
          go_wp2
          go_ret2
          exact ⟨_, rfl, Kd.R_nil _ _ _ _ _, HR4.out.below⟩
        | false =>
          rw [hsh] at hcs4
          by_cases hpe : pe = 0
          · subst hpe
            go_wp2_with fail
            refine (sameQ_calls A0 c0 l0 A4 c4 pb w4 HA4.out HC4.out).mono ?_
            rintro e _ ⟨rfl, rfl⟩
            cases heq : ((strOfNums l0).toList == (strOfNums pb).toList) with
            | true =>
              go_wp2
              go_ret2
              exact ⟨_, rfl, Kd.R_mono HO4.out (fun _ _ => trivial), HR4.out.below⟩
            | false =>
              go_wp2
              go_ret2
              exact ⟨_, rfl, Kd.R_nil _ _ _ _ _, HR4.out.below⟩
          · have hpeb : (pe != 0) = true := by simpa using hpe
            go_wp2
            all_goals
              go_ret2
              exact ⟨_, rfl, Kd.R_nil _ _ _ _ _, HR4.out.below⟩
      · rw [hbad] at hcs
        by_cases hj0 : j = 0
        · subst hj0
          go_wp2_with fail
          refine (concordatref02_PutChanges.calls kp Av cv L pb pe wq HCV.out hcv HKP.out).mono ?_
          rintro e w4 ⟨v4, rfl, hO4, hB4⟩
          obtain ⟨A4, c4, rfl, hc4, hC4⟩ := Kd.R_reads hO4
          have HO4 := Aside0.mk (Kd.R_below HO.out hB4)
          have HR4 := Aside0.mk (HR.out.grown hB4)
          obtain ⟨Ar, cr, hrow4, _⟩ := HR4.out.row
          have hcs4 : w4.cell? ⟨w.heap.size, 1, none⟩ = some (.bool SF.2) := blk_cell hrow4 1
          have HC4 := Aside0.mk hC4
          have HA4 := Aside0.mk (Kd.C_below HC.out HR4.out.below)
          clear hO4 hrow4 hC4 hB4
          rw [hbad] at hcs4
          go_wp2
          go_ret2
          exact ⟨_, rfl, Kd.R_nil _ _ _ _ _, HR4.out.below⟩
        · have hjp : (0 : Int) < (j : Int) := by omega
          go_wp2_with fail
          refine (concordatref02_PutChanges.calls kp Av cv L pb pe wq HCV.out hcv HKP.out).mono ?_
          rintro e w4 ⟨v4, rfl, hO4, hB4⟩
          obtain ⟨A4, c4, rfl, hc4, hC4⟩ := Kd.R_reads hO4
          have HO4 := Aside0.mk (Kd.R_below HO.out hB4)
          have HR4 := Aside0.mk (HR.out.grown hB4)
          obtain ⟨Ar, cr, hrow4, _⟩ := HR4.out.row
          have hcs4 : w4.cell? ⟨w.heap.size, 1, none⟩ = some (.bool SF.2) := blk_cell hrow4 1
          have HC4 := Aside0.mk hC4
          have HA4 := Aside0.mk (Kd.C_below HC.out HR4.out.below)
          clear hO4 hrow4 hC4 hB4
          rw [hbad] at hcs4
          go_wp2
          go_ret2
          exact ⟨_, rfl, Kd.R_nil _ _ _ _ _, HR4.out.below⟩
    · obtain ⟨i, rfl⟩ : ∃ i, j = i + 1 := ⟨j - 1, by omega⟩
      have hbad : sj.2 = false := by simpa using fun h => hex (.inr h)
      rw [hbad] at hcs
      have q1 : sevN changeQ changeQS (i + 1) sj = changeQ sj :: sevN changeQ changeQS i (changeQS sj) := by rw [sevN, if_neg (by rw [hbad]; decide)]
      have q2 : sevNS changeQ changeQS (i + 1) sj = sevNS changeQ changeQS i (changeQS sj) := by rw [sevNS, if_neg (by rw [hbad]; decide)]
      rw [q1] at E1
      rw [q2] at E2
      clear q1 q2 hex
      have hjp : (0 : Int) < ((i + 1 : Nat) : Int) := by omega
      go_wp2_with fail
      refine (textQ_calls w _ w.heap.size sj HR.out).mono ?_
      rintro e w2 ⟨rfl, hR, hK⟩
      have HO2 := Aside0.mk (R_rd HO.out hK)
      have R2 := Aside0.mk hR
      have hl2 : w.heap.size < w2.heap.size := Nat.lt_of_lt_of_le hgl hK.1
      clear hR hK hcs
      have hO2 := Kd.R_mono (Kd.R_bound HO2.out) (fun k (hk : (k ≠ w.heap.size) ∧ w.heap.size ≤ k ∧ k < w2.heap.size ∧ _) => (show k ≠ w.heap.size ∧ k < w2.heap.size from ⟨hk.1, hk.2.2.1⟩))
      have HO2b := Aside0.mk hO2
      clear hO2 HO2 HO HCV
      have hba := below_alloc (Below.refl w2.heap.size w2) (.cells #[.string (textQ sj), .int .u32 0, .bool false] 116)
      have hbn := Aside0.mk (blk_new w2 (.cells #[.string (textQ sj), .int .u32 0, .bool false] 116))
      have RA := Aside0.mk (R2.out.grown hba)
      have HOA := Aside0.mk (Kd.R_below HO2b.out hba)
      clear hba HO2b
      go_wp2_with fail
      refine (takeQ_calls w _ w.heap.size (textQS sj) 1 (by omega) RA.out).mono ?_
      rintro e w3 ⟨A3, c3, rfl, hc3, hC3, hR, hK⟩
      obtain ⟨a, hta, hna, a0, a1⟩ := numQ_one R2.out.bytes
      rw [hta] at hC3
      obtain ⟨ad, rfl, hx0⟩ := nth_int hC3 0 (by decide)
      simp only [List.getD_cons_zero, adr0] at hx0
      have HNA := Aside0.mk hna
      have B3 := keep_cells hbn.out (by omega) hK
      have R3 := Aside0.mk (hR.set (b := w2.heap.size) (by omega) (by omega) 2 (.bool (a == 1)))
      have HO3 := Aside0.mk (Kd.R_far (p := ⟨w2.heap.size, 2, none⟩) (Kd.R_keep HOA.out hK (fun _ hk => hk.1)) (fun k hk => by show k ≠ w2.heap.size; omega) (.bool (a == 1)))
      obtain ⟨⟨c0', c1', c2'⟩, f0, f1, f2⟩ := blk3 B3
      have B3' := Aside0.mk (blk_put B3 2 (.bool (a == 1)) (cs' := #[.string (textQ sj), .int .u32 0, .bool (a == 1)]) rfl)
      clear hta hna hC3 hR hK B3 HOA RA
      go_wp2_with fail
      clear c0' c1' c2' f0 f1 f2 hx0
      refine (numberQ_calls w _ w.heap.size _ R3.out).mono ?_
      rintro e w4 ⟨rfl, hR, hK⟩
      obtain ⟨n, hn⟩ : ∃ n, n = numQ (takeQS (textQS sj) 1) 4 := ⟨_, rfl⟩
      rw [← hn]
      have HX := Aside0.mk (show changeQ sj = ⟨textQ sj, n, (a == 1)⟩ by unfold changeQ; rw [← hn, HNA.out]; rfl)
      have B4 := keep_cells B3'.out (by omega) hK
      have R4 := Aside0.mk (show Rf w (w4.setCell ⟨w2.heap.size, 1, none⟩ (.int .u32 n)) w.heap.size (changeQS sj) from hR.set (b := w2.heap.size) (by omega) (by omega) 1 (.int .u32 n))
      have HO4 := Aside0.mk (Kd.R_mono (Kd.R_far (p := ⟨w2.heap.size, 1, none⟩) (Kd.R_keep HO3.out hK (fun _ hk => hk.1)) (fun k hk => by show k ≠ w2.heap.size; omega) (.int .u32 n)) (fun k hk => (show k ≠ w.heap.size from hk.1)))
      have hs4 : w.heap.size ≤ (w4.setCell ⟨w2.heap.size, 1, none⟩ (.int .u32 n)).heap.size := R4.out.below.size
      have hs5 : w.heap.size < (w4.setCell ⟨w2.heap.size, 1, none⟩ (.int .u32 n)).heap.size := by
        obtain ⟨_, _, hrow, _⟩ := R4.out.row
        exact blk_lt hrow
      obtain ⟨⟨c0', c1', c2'⟩, f0, f1, f2⟩ := blk3 B4
      clear hR hK B3' HO3 R3 hn B4 hbn
      generalize textQ sj = tx at *
      generalize (a == 1) = gone at *
      go_wp2_with (first | (at_builtin; refine Kd.R_append k116 (w0 := w4.setCell ⟨w2.heap.size, 1, none⟩ (.int .u32 n)) w.heap.size rfl (.tmp 38) (.tmp 40) 66 116 (.agg #[.string ⟨#[]⟩, .int .u32 0, .bool false]) 24 rfl Tryz.underlying66 (by kernel_rfl) rfl (by decide) (by decide) (.slice Av xs.length cv) xs ⟨tx, n, gone⟩ [.string tx, .int .u32 n, .bool gone] (fun k => k ≠ w.heap.size) (fun _ => False) (by simp [Act.eval, Act.put]) (by simp [Act.eval, Act.put, World.setCell]) (k116_mkM _ _ _ _) (fun _ hk => hk.elim) (fun k hk => by omega) HO4.out (Below.refl _ _) hs4 (by have := HLJ.out; omega) ?_; intro v1 w6 hO hB hG hat; have HO6 := Aside0.mk hO; have HB6 := Aside0.mk hB; have HG6 := Aside0.mk hG; clear hO hB hG hat))
      go_roundw
      case rel =>
        have hown : ∀ k, (Value.slice Av xs.length cv).ownBlock = some k → k ≠ w.heap.size := fun k hk => (Kd.R_bound HO4.out).1 k hk |>.1
        refine ⟨i, changeQS sj, xs ++ [⟨tx, n, gone⟩], by go_num, by omega, ⟨by have := HLJ.out; rw [List.length_append]; simp; omega⟩, ⟨by rw [E1.out, HX.out, List.append_assoc]; rfl⟩, E2, HO6, ⟨?_⟩⟩
        exact R4.out.grownBy (R4.out.below.trans (HB6.out.mono (Nat.le_refl _))) HG6.out hown
      case measure => simp [intOf]
end Go.Proofs.YtcohodkpppmaoaaGreatDoor.Q
namespace Go.Proofs.YtcohodkpppmaoaaGreatDoor.Q
open Go.RowKit Go.Proofs.YtcohodkpppmaoaaGreatDoorW.PrintWords Go.Proofs.YtcohodkpppmaoaaGreatDoorW.PrintLast Go.Proofs.YtcohodkpppmaoaaGreatDoorW.PrintMore
set_option linter.unusedVariables false
section
variable {w : World} {base : Nat} {ok : Nat → Prop} {v : Value}
theorem R_C {α : Type} {d : Kd α} {e n c : Nat} {A : Option Addr} {xs : List α} (h : Kd.R d e w base ok (.slice A n c) xs) : d.C w A xs.length xs := by
  obtain ⟨A', c', ev, _, hC⟩ := Kd.R_reads h
  injection ev with e1 _ _
  subst e1
  exact hC
theorem R_owns {α : Type} {d : Kd α} {e n c : Nat} {A : Option Addr} {xs : List α} (h : Kd.R d e w base ok (.slice A n c) xs) : ∃ inner, w.ownsRow 0 e d.sz (.slice A n c) xs.length inner := by
  obtain ⟨_, inner, ho, hr⟩ := h
  exact ⟨inner, own_less ho (Nat.zero_le _)⟩
end
end Go.Proofs.YtcohodkpppmaoaaGreatDoor.Q
namespace Go.Proofs.YtcohodkpppmaoaaGreatDoor.Q
open Go.RowKit Go.Proofs.YtcohodkpppmaoaaGreatDoorW.PrintWords Go.Proofs.YtcohodkpppmaoaaGreatDoorW.PrintLast Go.Proofs.YtcohodkpppmaoaaGreatDoorW.PrintMore
set_option linter.unusedVariables false
def many : Nat := 140737488351232
end Go.Proofs.YtcohodkpppmaoaaGreatDoor.Q
namespace Go.Proofs.YtcohodkpppmaoaaGreatDoor.Q
open Go.RowKit Go.Proofs.YtcohodkpppmaoaaGreatDoorW.PrintWords Go.Proofs.YtcohodkpppmaoaaGreatDoorW.PrintLast Go.Proofs.YtcohodkpppmaoaaGreatDoorW.PrintMore
set_option linter.unusedVariables false
theorem sameChanges_self (l : List ChangeT) (hl : l.length ≤ 9223372036854775807) (d : Nat) : ∀ i : Nat, i ≤ l.length → l.length - i = d → Ev (fun k => concordatlaw01_SameChanges.l0 k l l (i : Int)) true := by
  induction d with
  | zero =>
    intro i h0 h1
    refine Ev.step (f := fun _ => some true) (fun k => ?_) (Ev.now _)
    simp only [concordatlaw01_SameChanges.l0]
    rw [if_neg (by omega)]
  | succ d ih =>
    intro i h0 h1
    refine Ev.step (f := fun k => concordatlaw01_SameChanges.l0 k l l (wrap64 ((i : Int) + 1))) (fun k => ?_) ?_
    · simp only [concordatlaw01_SameChanges.l0]
      rw [if_pos (by omega), if_pos (by omega), if_pos (by omega), if_neg (by simp)]
    · rw [wrap_id _ (by omega) (by omega)]
      exact ih (i + 1) (by omega) (by omega)
theorem ev_sameChanges (l : List ChangeT) (hl : l.length ≤ 9223372036854775807) : Ev (fun k => concordatlaw01_SameChanges.f k l l) true := by
  unfold concordatlaw01_SameChanges.f
  simp only [if_true]
  exact sameChanges_self l hl l.length 0 (by omega) (by omega)
theorem changesSize_from (l : List ChangeT) (hl : l.length ≤ many) (hs : ∀ x ∈ l, x.f0.size ≤ many) (d : Nat) : ∀ (i : Nat) (n : Int), i ≤ l.length → l.length - i = d → 0 ≤ n → n ≤ 1000000000000000 → ∃ s, Ev (fun k => concordatlaw01_ChangesSize.l0 k l n (i : Int)) s ∧ n ≤ s := by
  unfold many at *
  induction d with
  | zero =>
    intro i n h0 h1 h2 h3
    refine ⟨n, Ev.step (f := fun _ => some n) (fun k => ?_) (Ev.now _), Int.le_refl _⟩
    simp only [concordatlaw01_ChangesSize.l0]
    rw [if_neg (by omega)]
  | succ d ih =>
    intro i n h0 h1 h2 h3
    have hi : i < l.length := by omega
    have hm : rd_T116 l i ∈ l := by
      unfold rd_T116
      rw [Int.toNat_natCast, List.getD_eq_getElem?_getD, List.getElem?_eq_getElem hi]
      exact List.getElem_mem _
    have hb := hs _ hm
    by_cases c : n ≤ 1048576
    · obtain ⟨s, he, hle⟩ := ih (i + 1) (n + ((rd_T116 l i).f0.size : Int)) (by omega) (by omega) (by omega) (by omega)
      refine ⟨s, Ev.step (f := fun k => concordatlaw01_ChangesSize.l0 k l (n + ((rd_T116 l i).f0.size : Int)) ((i + 1 : Nat) : Int)) (fun k => ?_) he, by omega⟩
      simp only [concordatlaw01_ChangesSize.l0]
      rw [if_pos (by omega), if_pos c, if_pos (by omega), wrap_id (n + _) (by omega) (by omega), wrap_id _ (by omega) (by omega)]
      rfl
    · refine ⟨n, Ev.step (f := fun _ => some n) (fun k => ?_) (Ev.now _), Int.le_refl _⟩
      simp only [concordatlaw01_ChangesSize.l0]
      rw [if_pos (by omega), if_neg c]
theorem ev_ChangesSize (l : List ChangeT) (hl : l.length ≤ many) (hs : ∀ x ∈ l, x.f0.size ≤ many) : ∃ s, Ev (fun k => concordatlaw01_ChangesSize.f k l) s ∧ (l.length : Int) ≤ s :=
  changesSize_from l hl hs l.length 0 l.length (by omega) (by omega) (by omega) (by unfold many at hl; omega)
theorem ev_same {a b : List Int} (h : a = b) (hl : a.length ≤ 9223372036854775807) : Ev (fun k => concordatlaw01_SameBytes.f k a b) true := ev_eq (decide_eq_true h) (ev_SameBytes a b hl)

end Go.Proofs.YtcohodkpppmaoaaGreatDoor.Q
namespace Go.Proofs.YtcohodkpppmaoaaGreatDoor.Q
open Go.RowKit Go.Proofs.YtcohodkpppmaoaaGreatDoorW.PrintWords Go.Proofs.YtcohodkpppmaoaaGreatDoorW.PrintLast Go.Proofs.YtcohodkpppmaoaaGreatDoorW.PrintMore
set_option linter.unusedVariables false
def spareKey : ByteArray := ⟨#[115, 112, 97, 114, 101]⟩
/-- The list's value, and behind it, in the same row, a mark. -/
def Twin {α : Type} (d : Fd α) (e : Nat) (w : World) (F : List Nat) (v : Value) (xs : List α) (sp : α) : Prop :=
  ∃ A c, v = .slice A xs.length c ∧ xs.length + 1 ≤ c ∧ Fd.Row d e w F (.slice A (xs.length + 1) c) (xs ++ [sp])
section
variable {α : Type} {d : Fd α} {e : Nat} {w w1 : World} {F G : List Nat} {v : Value} {xs : List α} {sp : α}
theorem Twin.keeps (h : Twin d e w F v xs sp) (hk : Keeps G w w1) (hd : ∀ b ∈ F, b ∉ G) : Twin d e w1 F v xs sp := by
  obtain ⟨A, c, h1, h2, h3⟩ := h
  exact ⟨A, c, h1, h2, Fd.row_keeps h3 hk hd⟩
theorem Twin.below (h : Twin d e w F v xs sp) (hb : Below w.heap.size w w1) : Twin d e w1 F v xs sp := h.keeps (Keeps.of_below hb []) (fun _ _ hx => by cases hx)
theorem Twin.lt (h : Twin d e w F v xs sp) : ∀ b ∈ F, b < w.heap.size := by
  obtain ⟨A, c, h1, h2, h3⟩ := h
  exact Fd.row_lt h3
theorem C_front {k : Kd α} {A : Option Addr} {n : Nat} {ys : List α} (h : k.C w A n (xs ++ ys)) : k.C w A xs.length xs := by
  obtain rfl : (xs ++ ys).length = n := h.1
  have h1 := Kd.C_take (xs := xs ++ ys) h (m := xs.length) (by rw [List.length_append]; omega)
  rwa [List.take_left' rfl] at h1
/-- As it is read. -/
theorem Twin.reads (h : Twin d e w F v xs sp) : ∃ A c, v = .slice A xs.length c ∧ xs.length + 1 ≤ c ∧ d.k.C w A xs.length xs ∧ d.k.C w A (xs.length + 1) (xs ++ [sp]) := by
  obtain ⟨A, c, rfl, h2, h3⟩ := h
  obtain ⟨A', c', ev, hc, hC⟩ := Fd.row_reads h3
  injection ev with e1 _ e3
  subst e1
  rw [List.length_append, List.length_singleton] at hC
  exact ⟨A, c, rfl, h2, C_front hC, hC⟩
theorem Twin.c {A : Option Addr} {n c : Nat} (h : Twin d e w F (.slice A n c) xs sp) : d.k.C w A xs.length xs ∧ d.k.C w A (xs.length + 1) (xs ++ [sp]) ∧ xs.length + 1 ≤ c := by
  obtain ⟨A', c', ev, h1, h2, h3⟩ := h.reads
  injection ev with e1 _ e3
  subst e1 e3
  exact ⟨h2, h3, h1⟩
theorem Twin.owns {A : Option Addr} {n c : Nat} (h : Twin d e w F (.slice A n c) xs sp) : ∃ inner, w.ownsRow 0 e d.k.sz (.slice A xs.length c) xs.length inner := by
  obtain ⟨A', c', ev, h2, inner, G, ho, he, rfl⟩ := h
  injection ev with e1 _ e3
  subst e1 e3
  rw [List.length_append, List.length_singleton] at ho
  exact ⟨_, own_take ho (Nat.le_succ _)⟩
theorem Twin.blk {A : Option Addr} {n c : Nat} (h : Twin d e w F (.slice A n c) xs sp) : ∀ b ∈ (Value.slice A n c).ownBlock.toList, b ∈ F := by
  obtain ⟨A', c', ev, h2, inner, G, ho, he, rfl⟩ := h
  injection ev with e1 _ e3
  subst e1 e3
  exact fun b hb => List.mem_append_left _ (by cases A <;> simp [Value.ownBlock] at hb ⊢ <;> exact hb)
/-- Its row, as the book keeps it. -/
theorem Twin.own (h : Twin d e w F v xs sp) : ∃ A c inner, v = .slice A xs.length c ∧ w.ownsRow 0 e d.k.sz (.slice A xs.length c) xs.length inner ∧ ∀ b ∈ (Value.slice A xs.length c).ownBlock.toList, b ∈ F := by
  obtain ⟨A, c, rfl, h2, inner, G, ho, he, rfl⟩ := h
  rw [List.length_append, List.length_singleton] at ho
  exact ⟨A, c, _, rfl, own_take ho (Nat.le_succ _), fun b hb => List.mem_append_left _ (by cases A <;> simp [Value.ownBlock] at hb ⊢ <;> exact hb)⟩
end
section
variable {P : Program}
theorem cut_up (t e : TypeId) (kh : IntKind) (ht : P.underlying t = some (.slice e)) {z : Option Value} {size bytes : Nat} (hinfo : (P.info? e).map (fun i => (i.zero, i.size, i.bytes)) = some (z, size, bytes)) (A : Option Addr) (n c : Nat) (j : Int) (h0 : 0 ≤ j) (hm : j ≤ c) :
    ∀ W : World, (Instr.slice t (.slice A n c) none (some (.int kh j)) none).run P W = .ok (.slice A j.toNat c) W := by
  intro W
  obtain ⟨i, hi, _⟩ := Option.map_eq_some_iff.1 hinfo
  have hel : P.elem t = e := by simp [Program.elem, ht]
  have hu : P.underlying t = some (.slice (P.elem t)) := by rw [hel]; exact ht
  have ha : (A.map fun x => x.add 0) = A := by cases A <;> simp [Addr.add]
  rw [run_slice_h W t A n c hu kh j h0 (by omega), hel]
  simp [sizeOf, typeInfo, hi, sliced, Result.andThen, ha]
theorem run_make0 (t e : TypeId) (z : Value) (size bytes : Nat) (ht : P.underlying t = some (.slice e)) (hinfo : (P.info? e).map (fun i => (i.zero, i.size, i.bytes)) = some (some z, size, bytes)) (hb0 : 0 < bytes) (m : Nat) (hl : m * bytes ≤ 281474976710656) :
    ∀ W : World, (Instr.makeSlice t (.int .i64 0) (.int .i64 (m : Int))).run P W = .ok (.slice (some ⟨W.heap.size, 0, none⟩) 0 m) (W.alloc (.cells (madeCells z.cells (m * size)) e)) := by
  intro W
  obtain ⟨i0, hi, hzz⟩ := Option.map_eq_some_iff.1 hinfo
  simp only [Prod.mk.injEq] at hzz
  obtain ⟨hz0, hz1, hz2⟩ := hzz
  have hm : m ≤ 281474976710656 := Nat.le_trans (Nat.le_mul_of_pos_right _ hb0) hl
  have hr := run_make (P := P) W t e i0 z ht hi hz0 .i64 .i64 0 (m : Int) (by omega) (by omega)
    (by
      have h3 : ((i0.bytes * m : Nat) : Int) ≤ 281474976710656 := by rw [hz2, Nat.mul_comm]; omega
      rwa [Int.natCast_mul] at h3) (by omega)
  simp only [Int.toNat_natCast] at hr
  rw [hz1] at hr
  exact hr
theorem made0_row {α : Type} (d : Fd α) (e : Nat) (W : World) (cs : Array Value) (m : Nat) (hm : m ≤ 281474976710656) (hs : cs.size = m * d.k.sz) : Fd.Row d e (W.alloc (.cells cs e)) [W.heap.size] (.slice (some ⟨W.heap.size, 0, none⟩) 0 m) [] := by
  have h := World.ownsRow_lit (base := 0) (e := e) (size := d.k.sz) W cs m (Nat.zero_le _) (by unfold maxLen; omega) hs
  have h2 := own_take h (Nat.zero_le m)
  rw [Nat.zero_mul, List.take_zero] at h2
  exact ⟨[], [], h2, ⟨rfl, rfl⟩, rfl⟩
theorem madeCells_size (z : Array Value) (n : Nat) : (madeCells z n).size = n := by simp [madeCells]
end
end Go.Proofs.YtcohodkpppmaoaaGreatDoor.Q
namespace Go.Proofs.YtcohodkpppmaoaaGreatDoor.Q
open Go.RowKit Go.Proofs.YtcohodkpppmaoaaGreatDoorW.PrintWords Go.Proofs.YtcohodkpppmaoaaGreatDoorW.PrintLast Go.Proofs.YtcohodkpppmaoaaGreatDoorW.PrintMore
set_option linter.unusedVariables false
theorem infoTwBytes : (Tryz.prog.info? 5).map (fun i => (i.zero, i.size, i.bytes)) = some (some (.int .u8 0), 1, 1) := by kernel_rfl
theorem readBytes (l : List Int) (k : Nat) (hk : k < l.length) : l.take (k + 1) = l.take k ++ [rd l (k : Int)] := by
  rw [List.take_succ_eq_append_getElem hk]
  simp [rd, hk]
set_option maxHeartbeats 3200000 in
set_option maxRecDepth 100000 in
theorem twinBytes_calls (w : World) (A0 : Option Addr) (c0 : Nat) (l : List Int) (hr : Kd.C (Kd.int .u8) w A0 l.length l) (hc0 : l.length ≤ c0) (hl : l.length ≤ 1000000000) :
    Calls Tryz.prog 29 #[.slice A0 l.length c0] w fun e w' => ∃ v, e = .returned v ∧ ∃ F, Twin fdByte 5 w' F v l 77 ∧ F.Nodup ∧ (∀ b ∈ F, w.heap.size ≤ b) ∧ Below w.heap.size w w' := by
  obtain ⟨MC, hMS, HMK⟩ : ∃ MC : Array Value, MC.size = (l.length + 1) * 1 ∧ ∀ W : World, (Instr.makeSlice 67 (.int .i64 0) (.int .i64 ((l.length : Int) + 1))).run Tryz.prog W = .ok (.slice (some ⟨W.heap.size, 0, none⟩) 0 (l.length + 1)) (W.alloc (.cells MC 5)) := ⟨madeCells ((.int .u8 0) : Value).cells ((l.length + 1) * 1), madeCells_size _ _, fun W => by
    have h := run_make0 (P := Tryz.prog) 67 5 (.int .u8 0) 1 1 Tryz.underlying67 infoTwBytes (by decide) (l.length + 1) (by omega) W
    rwa [show ((l.length + 1 : Nat) : Int) = (l.length : Int) + 1 by omega] at h⟩
  have hw1 : IntKind.i64.wrap ((l.length : Int) + 1) = (l.length : Int) + 1 := IntWalk.i64_in _ (by omega)
  have HC := Aside0.mk hr
  have hul := Tryz.underlying5
  clear hr
  go_enter Tryz.func29, Tryz.ntmps29
  go_wp2
  obtain ⟨wo, hwo⟩ : ∃ wo, wo = w.alloc (.cells MC 5) := ⟨_, rfl⟩
  have HB0 := Aside0.mk (show Below w.heap.size w wo by rw [hwo]; exact below_alloc (Below.refl _ _) _)
  have HR0 := Aside0.mk (show Fd.Row fdByte 5 wo [w.heap.size] (.slice (some ⟨w.heap.size, 0, none⟩) 0 (l.length + 1)) [] by
    rw [hwo]; exact made0_row fdByte 5 w _ (l.length + 1) (by omega) hMS)
  rw [← hwo]
  clear hwo HMK
  go_loopw [3, 4] (fun v i wr => ∃ (k : Nat) (F : List Nat), k ≤ l.length ∧ i = .int .i64 k ∧ Aside0 (Fd.Row fdByte 5 wr F v (l.take k)) ∧ Aside0 F.Nodup ∧ Aside0 (∀ b ∈ F, w.heap.size ≤ b) ∧ Aside0 (Below w.heap.size w wr)) (fun _ i _ => l.length - (intOf i).toNat)
  case atStart => exact ⟨0, [w.heap.size], Nat.zero_le _, rfl, HR0, ⟨by simp⟩, ⟨by simp⟩, HB0⟩
  case round =>
    clear HR0 HB0
    obtain ⟨wq, hwq⟩ : ∃ wq, wq = wr := ⟨_, rfl⟩
    subst hwq
    obtain ⟨k, F, hk, rfl, HR, HN, HF, HB⟩ := hrel
    obtain ⟨Av, cv, ev, hcv, _⟩ := Fd.row_reads HR.out
    rw [List.length_take, Nat.min_eq_left hk] at ev hcv
    subst ev
    have hsz : w.heap.size ≤ wq.heap.size := HB.out.size
    by_cases hlt : k < l.length
    · have hlt' : (k : Int) < (l.length : Int) := by omega
      have hk0 : (0 : Int) ≤ (k : Int) := by omega
      obtain ⟨ad, e1, hx0⟩ := Kd.at_int (Kd.C_below HC.out HB.out) (k : Int) hk0 hlt'
      subst e1
      simp only [Int.toNat_natCast] at hx0
      have HTK := Aside0.mk (readBytes l k hlt)
      generalize rd l (k : Int) = x at *
      have HM := Aside0.mk (show fdByte.M wq [] x [.int .u8 x] from ⟨rfl, rfl⟩)
      go_wp2_with (first | (at_builtin; (refine Fd.R_append (W := wq) fdByte rfl (.tmp 15) (.tmp 20) 67 5 (.int .u8 0) 1 rfl Tryz.underlying67 infoTwBytes rfl (show 0 < 1 from by decide) (by decide) (.slice Av k cv) (l.take k) x [.int .u8 x] F [] rfl rfl HM.out HR.out (by rw [List.append_nil]; exact HN.out) (by rw [List.length_take]; omega) ?_); intro v1 w6 F6 h1 h2 h3 h4; have R6 := Aside0.mk h1; have N6 := Aside0.mk h2; have K6 := Aside0.mk h3; have L6 := Aside0.mk h4; clear h1 h2 h3 h4))
      go_roundw
      case rel =>
        refine ⟨k + 1, F6, by omega, by go_num, ⟨by rw [HTK.out]; exact R6.out⟩, N6, ⟨fun b hb => ?_⟩, ⟨HB.out.trans (K6.out.below HF.out hsz)⟩⟩
        rcases L6.out b hb with h | h | h
        · exact HF.out b h
        · cases h
        · omega
      case measure => simp [intOf]; omega
    · obtain rfl : k = l.length := by omega
      have hlt' : ¬ ((l.length : Int) < (l.length : Int)) := by omega
      have etk : l.take l.length = l := List.take_of_length_le (Nat.le_refl _)
      rw [etk] at HR
      have HM := Aside0.mk (show fdByte.M wq [] 77 [.int .u8 77] from ⟨rfl, rfl⟩)
      unfold spareKey at HM
      have HU := Aside0.mk infoTwBytes
      go_wp2_with (first | (at_builtin; (refine Fd.R_append (W := wq) fdByte rfl (.tmp 22) (.tmp 23) 67 5 (.int .u8 0) 1 rfl Tryz.underlying67 infoTwBytes rfl (show 0 < 1 from by decide) (by decide) (.slice Av l.length cv) l 77 [.int .u8 77] F [] rfl rfl HM.out HR.out (by rw [List.append_nil]; exact HN.out) (by omega) ?_); intro v1 w6 F6 h1 h2 h3 h4; obtain ⟨A2, c2, ev2, hc2, _⟩ := Fd.row_reads h1; rw [List.length_append, List.length_singleton] at ev2 hc2; subst ev2; have hcut := cut_up (P := Tryz.prog) 67 5 .i64 Tryz.underlying67 HU.out A2 (l.length + 1) c2 (l.length : Int) (by omega) (by omega); rw [Int.toNat_natCast] at hcut; have R6 := Aside0.mk h1; have N6 := Aside0.mk h2; have K6 := Aside0.mk h3; have L6 := Aside0.mk h4; clear h1 h2 h3 h4))
      go_ret
      refine ⟨_, rfl, F6, ⟨A2, c2, rfl, hc2, R6.out⟩, N6.out, fun b hb => ?_, HB.out.trans (K6.out.below HF.out hsz)⟩
      rcases L6.out b hb with h | h | h
      · exact HF.out b h
      · cases h
      · omega
theorem readLBytes (l : List Int) (k : Nat) (hk : k < l.length) : rd (l ++ [77]) (k : Int) = rd l (k : Int) := by
  simp [rd, List.getElem?_append_left hk]
theorem readSBytes (l : List Int) : rd (l ++ [77]) (l.length : Int) = 77 := by
  simp [rd]
set_option maxHeartbeats 3200000 in
set_option maxRecDepth 100000 in
theorem leftBytes_calls (w : World) (At : Option Addr) (ct : Nat) (A0 : Option Addr) (c0 : Nat) (l : List Int) (ht : Kd.C (Kd.int .u8) w At (l.length + 1) (l ++ [77])) (hct : l.length + 1 ≤ ct) (hr : Kd.C (Kd.int .u8) w A0 l.length l) (hc0 : l.length ≤ c0) (hl : l.length ≤ 1000000000) :
    Calls Tryz.prog 37 #[.slice At l.length ct, .slice A0 l.length c0] w fun e w' => e = .returned (.bool true) ∧ Below w.heap.size w w' := by
  have hw1 : IntKind.i64.wrap ((l.length : Int) + 1) = (l.length : Int) + 1 := IntWalk.i64_in _ (by omega)
  have hcap : ¬ ((ct : Int) ≤ (l.length : Int)) := by omega
  have hcut := cut_up (P := Tryz.prog) 67 5 .i64 Tryz.underlying67 infoTwBytes At l.length ct ((l.length : Int) + 1) (by omega) (by omega)
  rw [show ((l.length : Int) + 1).toNat = l.length + 1 by omega] at hcut
  have hul := Tryz.underlying5
  have HT := Aside0.mk ht
  have HC := Aside0.mk hr
  clear ht hr
  go_enter Tryz.func37, Tryz.ntmps37
  go_wp2
  go_loopw [5] (fun i wr => ∃ (k : Nat), k ≤ l.length ∧ i = .int .i64 k ∧ ∃ m, wr = w.drewN m) (fun i _ => l.length - (intOf i).toNat)
  case atStart => exact ⟨0, Nat.zero_le _, rfl, 0, rfl⟩
  case round =>
    obtain ⟨k, hk, rfl, m, rfl⟩ := hrel
    have hb := pw_below_drewN (Below.refl w.heap.size w) m
    by_cases hlt : k < l.length
    · have hlt' : (k : Int) < (l.length : Int) := by omega
      have hk0 : (0 : Int) ≤ (k : Int) := by omega
      obtain ⟨ad, e1, hx0⟩ := Kd.at_int HC.out (k : Int) hk0 hlt'
      subst e1
      obtain ⟨at_, e1, hy0⟩ := Kd.at_int HT.out (k : Int) hk0 (by omega)
      subst e1
      simp only [Int.toNat_natCast] at hx0 hy0
      simp only [readLBytes l k hlt] at hy0
      generalize rd l (k : Int) = x at *
      go_wp2
      repeat (go_quiet (fail); try go_wp2)
      go_roundw
      case rel => exact ⟨k + 1, by omega, by go_num, _, rfl⟩
      case measure => simp [intOf]; omega
    · obtain rfl : k = l.length := by omega
      have hlt' : ¬ ((l.length : Int) < (l.length : Int)) := by omega
      obtain ⟨at_, e1, hy0⟩ := Kd.at_int HT.out (l.length : Int) (by omega) (by omega)
      subst e1
      simp only [Int.toNat_natCast] at hy0
      simp only [readSBytes l] at hy0
      try simp only [spareKey] at hy0
      replace hy0 := cell_on hb hy0
      generalize w.drewN m = W at *
      have HB := Aside0.mk hb
      clear hb
      go_wp2
      repeat (go_quiet (fail); try go_wp2)
      go_ret
      exact ⟨rfl, HB.out⟩
end Go.Proofs.YtcohodkpppmaoaaGreatDoor.Q
