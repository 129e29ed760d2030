/-
  The reference's reader (concordatref02.reader): where it stands; take, count, number, text.
  The reference's Check of keys, as printed: whether the text is a key.
  The reference's PutChanges, and the comparison of two rows of bytes, as printed: the plain words of XSpec.
  What is put is got, what is got was put: the plain laws of the reader. No program in sight.
  The reference's GetChanges and GetOps: what they answer is what the program's own ones answer.
  The reference's PutResults, as printed: the plain words of XSpec.
  The reference's GetResults: what it answers is what the program's own one answers.
  What the program's calls answer, as values that own their blocks: rows of plain things, and results with their rows.
  A list is the same as itself, and sizes come to an answer: ops, results, messages; ids.
  Where the size of results is small, so is each one.
  Changes: a list is the same as itself, and its size comes to an answer; two rows of bytes that are one.
  How many are read at most.
  Bytes: copies with a mark behind them, and whether they are as they were.
-/
import Derived.Test.YtcohodkpppmaoaaGreatDoorMR10
import Derived.BigRegion
import Derived.BigQuiet
import Derived.Test.YtcohodkpppmaoaaGreatDoorMR1
import Derived.Test.YtcohodkpppmaoaaGreatDoorMR8
import Derived.WalkSpells
import Derived.Test.YtcohodkpppmaoaaGreatDoorMR5
import Derived.Deep.RegionLaw
import Derived.Test.YtcohodkpppmaoaaGreatDoorMR4
import Derived.Test.YtcohodkpppmaoaaGreatDoorMR3
import Derived.Test.YtcohodkpppmaoaaGreatDoorMR7
set_option linter.unusedSimpArgs false
set_option linter.unusedVariables false
namespace Go.Proofs.YtcohodkpppmaoaaGreatDoor.Q
open Go.RowKit Go.Proofs.YtcohodkpppmaoaaGreatDoorW.PrintWords Go.Proofs.YtcohodkpppmaoaaGreatDoorW.PrintLast Go.Proofs.YtcohodkpppmaoaaGreatDoorW.PrintMore
set_option linter.unusedVariables false
/-- A reader at block g that was made behind w0; the bytes that it has still to give lie in w0. -/
structure Rf (w0 w : World) (g : Nat) (s : RdS) : Prop where
  below : Below w0.heap.size w0 w
  far : w0.heap.size ≤ g
  row : ∃ A c, w.heap[g]? = some (.cells #[.slice A s.1.length c, .bool s.2] 134 (0, 0)) ∧ s.1.length ≤ c ∧ s.1.length ≤ maxLen ∧ Kd.C (Kd.int .u8) w0 A s.1.length s.1
  bytes : ∀ x ∈ s.1, 0 ≤ x ∧ x < 256

theorem Rf.drew {w0 w : World} {g : Nat} {s : RdS} (h : Rf w0 w g s) (n : Nat) : Rf w0 (w.drewN n) g s :=
  ⟨pw_below_drewN h.below n, h.far, h.row, h.bytes⟩
theorem drew_rf {w0 w : World} {g : Nat} {s : RdS} (h : Rf w0 w g s) : Rf w0 w.drew g s := h.drew 1
/-- What keeps all but g's block, and finds g's block as told. -/
theorem Rf.grown {w0 w w1 : World} {g : Nat} {s : RdS} (h : Rf w0 w g s) (hb : Below w.heap.size w w1) : Rf w0 w1 g s := by
  obtain ⟨A, c, hr, h1, h2, h3⟩ := h.row
  have hlt : g < w.heap.size := blk_lt hr
  exact ⟨h.below.trans (hb.mono (h.below.size)), h.far, ⟨A, c, (hb.block g hlt).trans hr, h1, h2, h3⟩, h.bytes⟩

set_option maxHeartbeats 1600000 in
set_option maxRecDepth 100000 in
theorem takeQ_calls (w0 w : World) (g : Nat) (s : RdS) (n : Nat) (hn : n ≤ 256) (h : Rf w0 w g s) :
    Calls Tryz.prog 127 #[.pointer (some ⟨g, 0, none⟩), .int .i64 n] w fun e w' => ∃ A c, e = .returned (.slice A n c) ∧ n ≤ c ∧ Kd.C (Kd.int .u8) w' A n (takeQ s n) ∧ Rf w0 w' g (takeQS s n) ∧ KeepBut w w' g none := by
  obtain ⟨A, c, hb, hc, hm, hC⟩ := h.row
  have c0 : w.cell? ⟨g, 0, none⟩ = some (.slice A s.1.length c) := by simp [World.cell?, hb]
  have c1 : w.cell? ⟨g, 1, none⟩ = some (.bool s.2) := by simp [World.cell?, hb]
  have f0 : w.frozen? ⟨g, 0, none⟩ = false := blk_frozen hb _
  have f1 : w.frozen? ⟨g, 1, none⟩ = false := blk_frozen hb _
  unfold maxLen at hm
  have HC := Aside0.mk hC
  have H := Aside0.mk h
  have HBK := Aside0.mk hb
  clear hC h hb
  cases hbd : s.2 with
  | true =>
      have er : takeQ s n = List.replicate n 0 := if_pos hbd
      have es : takeQS s n = (s.1, true) := (if_pos hbd).trans (by rw [← hbd])
      rw [hbd] at c1
      rw [er, es]
      go_enter Tryz.func127, Tryz.ntmps127
      go_wp2_with (first | (refine Kd.R_make (Kd.int .u8) (w0 := w.setCell ⟨g, 1, none⟩ (.bool true)) (w.setCell ⟨g, 1, none⟩ (.bool true)).heap.size 5 rfl rfl 67 (.tmp 22) (.tmp 22) rfl (n : Int) rfl rfl Tryz.underlying67 (.int .u8 0) 1 info5 rfl (by decide) (by decide) 0 (ok := fun _ => True) (okp := fun _ => False) rfl (fun _ _ => trivial) trivial (by omega) (by omega) (Below.refl _ _) (Nat.le_refl _) ?_; intro v1 w1 hR hB hG hO; have HR := Aside0.mk hR; have HB := Aside0.mk hB; clear hR hB hG hO))
      go_ret
      obtain ⟨A1, c1, rfl, hc1, hC1⟩ := Kd.R_reads HR.out
      rw [show (List.replicate (n : Int).toNat (0 : Int)).length = n by simp] at *
      rw [show (n : Int).toNat = n by simp] at hC1
      have hb1 := blk_put HBK.out 1 (.bool true) (cs' := #[.slice A s.1.length c, .bool true]) rfl
      have hst : Rf w0 (w.setCell ⟨g, 1, none⟩ (.bool true)) g (s.1, true) :=
        ⟨H.out.below.setCell H.out.far _, H.out.far, ⟨A, c, hb1, hc, hm, HC.out⟩, H.out.bytes⟩
      exact ⟨A1, c1, rfl, hc1, hC1, hst.grown HB.out, ((KeepBut.refl w g none).set_ 1 _).trans (KeepBut.of_below HB.out g none) (.inl rfl)⟩
  | false =>
    by_cases hlt : s.1.length < n
    · have hlt' : (s.1.length : Int) < (n : Int) := by omega
      have er : takeQ s n = List.replicate n 0 := (if_neg (by rw [hbd]; decide)).trans (if_pos hlt)
      have es : takeQS s n = (s.1, true) := (if_neg (by rw [hbd]; decide)).trans (if_pos hlt)
      rw [hbd] at c1
      rw [er, es]
      go_enter Tryz.func127, Tryz.ntmps127
      go_wp2_with (first | (refine Kd.R_make (Kd.int .u8) (w0 := w.setCell ⟨g, 1, none⟩ (.bool true)) (w.setCell ⟨g, 1, none⟩ (.bool true)).heap.size 5 rfl rfl 67 (.tmp 22) (.tmp 22) rfl (n : Int) rfl rfl Tryz.underlying67 (.int .u8 0) 1 info5 rfl (by decide) (by decide) 0 (ok := fun _ => True) (okp := fun _ => False) rfl (fun _ _ => trivial) trivial (by omega) (by omega) (Below.refl _ _) (Nat.le_refl _) ?_; intro v1 w1 hR hB hG hO; have HR := Aside0.mk hR; have HB := Aside0.mk hB; clear hR hB hG hO))
      go_ret
      obtain ⟨A1, c1, rfl, hc1, hC1⟩ := Kd.R_reads HR.out
      rw [show (List.replicate (n : Int).toNat (0 : Int)).length = n by simp] at *
      rw [show (n : Int).toNat = n by simp] at hC1
      have hb1 := blk_put HBK.out 1 (.bool true) (cs' := #[.slice A s.1.length c, .bool true]) rfl
      have hst : Rf w0 (w.setCell ⟨g, 1, none⟩ (.bool true)) g (s.1, true) :=
        ⟨H.out.below.setCell H.out.far _, H.out.far, ⟨A, c, hb1, hc, hm, HC.out⟩, H.out.bytes⟩
      exact ⟨A1, c1, rfl, hc1, hC1, hst.grown HB.out, ((KeepBut.refl w g none).set_ 1 _).trans (KeepBut.of_below HB.out g none) (.inl rfl)⟩
    · have hlt' : ¬ (s.1.length : Int) < (n : Int) := by omega
      have er : takeQ s n = s.1.take n := (if_neg (by rw [hbd]; decide)).trans (if_neg hlt)
      have es : takeQS s n = (s.1.drop n, s.2) := (if_neg (by rw [hbd]; decide)).trans (if_neg hlt)
      rw [hbd] at c1
      rw [er, es]
      obtain ⟨iu, hiu, hsz⟩ := rd_uint8
      have hs1 := cut_to (P := Tryz.prog) 67 5 .i64 Tryz.underlying67 hiu A s.1.length c (n : Int) (by omega) (by omega) hc
      have hs2 := cut_from (P := Tryz.prog) 67 5 .i64 Tryz.underlying67 hiu 1 hsz A s.1.length c (n : Int) (by omega) (by omega)
      obtain ⟨A1, hA1⟩ : ∃ A1, A1 = if c = n then A else Option.map (fun x => x.add n) A := ⟨_, rfl⟩
      simp only [Int.toNat_natCast, Nat.mul_one] at hs2
      rw [← hA1] at hs2
      have HA1 := Aside0.mk hA1
      clear hA1
      go_enter Tryz.func127, Tryz.ntmps127
      go_wp2_with fail

      go_wp2
      go_ret
      have hl1 : (s.1.take n).length = n := by rw [List.length_take]; omega
      have hl2 : (s.1.drop n).length = s.1.length - n := List.length_drop
      have hC1 := Kd.C_take HC.out (m := n) (by omega)
      have hC2 := Kd.C_drop HC.out (m := n) (by omega) hc
      rw [hl1] at hC1
      rw [show n * (Kd.int .u8).sz = n from Nat.mul_one n, ← HA1.out] at hC2
      have hb1 := blk_put HBK.out 0 (.slice A1 (s.1.length - n) (c - n)) (cs' := #[.slice A1 (s.1.length - n) (c - n), .bool s.2]) rfl
      have hst : Rf w0 (w.setCell ⟨g, 0, none⟩ (.slice A1 (s.1.length - n) (c - n))) g (s.1.drop n, s.2) :=
        ⟨H.out.below.setCell H.out.far _, H.out.far, ⟨_, c - n, by rw [hl2]; exact hb1, by rw [hl2]; omega, by rw [hl2]; unfold maxLen; omega, hC2⟩, fun x hx => H.out.bytes x (List.mem_of_mem_drop hx)⟩
      rw [hbd] at hst
      exact ⟨A, c, rfl, by omega, Kd.C_below hC1 hst.below, hst, (KeepBut.refl w g none).set_ 0 _⟩

theorem takeQ_length (s : RdS) (n : Nat) : (takeQ s n).length = n := by
  unfold takeQ
  split
  · simp
  · exact takeR_length s n
theorem takeQ_bytes {s : RdS} (hs : ∀ x ∈ s.1, 0 ≤ x ∧ x < 256) (n : Nat) : ∀ x ∈ takeQ s n, 0 ≤ x ∧ x < 256 := by
  unfold takeQ
  split
  · intro x hx
    obtain ⟨_, rfl⟩ := List.mem_replicate.1 hx
    omega
  · exact takeR_bytes hs n
theorem len1 {l : List Int} (h : l.length = 1) : ∃ a, l = [a] := by
  match l, h with
  | [a], _ => exact ⟨a, rfl⟩
theorem len2 {l : List Int} (h : l.length = 2) : ∃ a b, l = [a, b] := by
  match l, h with
  | [a, b], _ => exact ⟨a, b, rfl⟩
theorem len4 {l : List Int} (h : l.length = 4) : ∃ a b c d, l = [a, b, c, d] := by
  match l, h with
  | [a, b, c, d], _ => exact ⟨a, b, c, d, rfl⟩
theorem u32_in {x : Int} (h0 : 0 ≤ x) (h1 : x < 4294967296) : IntKind.u32.wrap x = x := by rw [IntKind.wrap_u32]; exact Int.emod_eq_of_lt h0 h1
theorem numQ_range (s : RdS) (n : Nat) : 0 ≤ numQ s n ∧ numQ s n < 4294967296 := foldN_range _
theorem numQ_one {s : RdS} (hs : ∀ x ∈ s.1, 0 ≤ x ∧ x < 256) : ∃ a, takeQ s 1 = [a] ∧ numQ s 1 = a ∧ 0 ≤ a ∧ a < 256 := by
  obtain ⟨a, ha⟩ := len1 (takeQ_length s 1)
  have hb := takeQ_bytes hs 1 a (by rw [ha]; simp)
  refine ⟨a, ha, ?_, hb⟩
  unfold numQ
  rw [ha]
  simp [foldN]
  omega
theorem numQ_two {s : RdS} (hs : ∀ x ∈ s.1, 0 ≤ x ∧ x < 256) : ∃ a b, takeQ s 2 = [a, b] ∧ numQ s 2 = 256 * a + b ∧ (0 ≤ a ∧ a < 256) ∧ 0 ≤ b ∧ b < 256 := by
  obtain ⟨a, b, ha⟩ := len2 (takeQ_length s 2)
  have h0 := takeQ_bytes hs 2 a (by rw [ha]; simp)
  have h1 := takeQ_bytes hs 2 b (by rw [ha]; simp)
  refine ⟨a, b, ha, ?_, h0, h1⟩
  unfold numQ
  rw [ha]
  simp [foldN]
  omega
theorem numQ_four {s : RdS} (hs : ∀ x ∈ s.1, 0 ≤ x ∧ x < 256) : ∃ a b c d, takeQ s 4 = [a, b, c, d] ∧ numQ s 4 = 16777216 * a + 65536 * b + 256 * c + d ∧ (0 ≤ a ∧ a < 256) ∧ (0 ≤ b ∧ b < 256) ∧ (0 ≤ c ∧ c < 256) ∧ 0 ≤ d ∧ d < 256 := by
  obtain ⟨a, b, c, d, ha⟩ := len4 (takeQ_length s 4)
  have h0 := takeQ_bytes hs 4 a (by rw [ha]; simp)
  have h1 := takeQ_bytes hs 4 b (by rw [ha]; simp)
  have h2 := takeQ_bytes hs 4 c (by rw [ha]; simp)
  have h3 := takeQ_bytes hs 4 d (by rw [ha]; simp)
  refine ⟨a, b, c, d, ha, ?_, h0, h1, h2, h3⟩
  unfold numQ
  rw [ha]
  simp [foldN]
  omega
theorem adr0 (a : Addr) : a.add 0 = a := rfl
theorem adr1 (a : Addr) : a.add 1 = ⟨a.block, a.off + 1, none⟩ := rfl
theorem adr2 (a : Addr) : a.add 2 = ⟨a.block, a.off + 2, none⟩ := rfl
theorem adr3 (a : Addr) : a.add 3 = ⟨a.block, a.off + 3, none⟩ := rfl
theorem nth_int {w : World} {A : Option Addr} {l : List Int} {n : Nat} (h : Kd.C (Kd.int .u8) w A n l) (i : Nat) (hi : i < n) : ∃ ad, A = some ad ∧ w.cell? (ad.add i) = some (.int .u8 (l.getD i 0)) := by
  obtain ⟨ad, e, hx⟩ := Kd.at_int h (i : Int) (by omega) (by omega)
  refine ⟨ad, e, ?_⟩
  simpa [rd] using hx

set_option maxHeartbeats 1600000 in
set_option maxRecDepth 100000 in
theorem countQ_calls (w0 w : World) (g : Nat) (s : RdS) (h : Rf w0 w g s) :
    Calls Tryz.prog 125 #[.pointer (some ⟨g, 0, none⟩)] w fun e w' => e = .returned (.int .i64 (numQ s 2)) ∧ Rf w0 w' g (takeQS s 2) ∧ KeepBut w w' g none := by
  obtain ⟨a, b, hab, hn, ⟨a0, a1⟩, b0, b1⟩ := numQ_two h.bytes
  rw [hn]
  have HAB := Aside0.mk hab
  have H := Aside0.mk h
  have w1 : IntKind.i64.wrap (256 * a) = 256 * a := IntWalk.i64_in _ (by omega)
  have w2 : IntKind.i64.wrap (256 * a + b) = 256 * a + b := IntWalk.i64_in _ (by omega)
  have w3 : IntKind.i64.wrap a = a := IntWalk.i64_in _ (by omega)
  have w4 : IntKind.i64.wrap b = b := IntWalk.i64_in _ (by omega)
  clear hn hab h
  go_enter Tryz.func125, Tryz.ntmps125
  go_wp2_with fail
  refine (takeQ_calls w0 _ g s 2 (by omega) H.out).mono ?_
  rintro e w5 ⟨A, c, rfl, hc, hC, hR, hK⟩
  rw [HAB.out] at hC
  obtain ⟨ad, rfl, hx0⟩ := nth_int hC 0 (by decide)
  obtain ⟨ad', e1, hx1⟩ := nth_int hC 1 (by decide)
  cases e1
  simp only [List.getD_cons_zero, List.getD_cons_succ, adr0, adr1] at hx0 hx1
  have HR := Aside0.mk hR
  have HK := Aside0.mk hK
  clear hR hK hC
  go_wp2
  repeat (go_quiet (fail); try go_wp2)
  go_ret
  exact ⟨rfl, HR.out.drew _, keep_then HK.out (KeepBut.of_below (pw_below_drewN (Below.refl _ _) _) g none)⟩

set_option maxHeartbeats 1600000 in
set_option maxRecDepth 100000 in
theorem numberQ_calls (w0 w : World) (g : Nat) (s : RdS) (h : Rf w0 w g s) :
    Calls Tryz.prog 128 #[.pointer (some ⟨g, 0, none⟩)] w fun e w' => e = .returned (.int .u32 (numQ s 4)) ∧ Rf w0 w' g (takeQS s 4) ∧ KeepBut w w' g none := by
  obtain ⟨a, b, c, d, hab, hn, ⟨a0, a1⟩, ⟨b0, b1⟩, ⟨c0, c1⟩, d0, d1⟩ := numQ_four h.bytes
  rw [hn]
  have HAB := Aside0.mk hab
  have H := Aside0.mk h
  have w1 : IntKind.u32.wrap (16777216 * a) = 16777216 * a := u32_in (by omega) (by omega)
  have w2 : IntKind.u32.wrap (65536 * b) = 65536 * b := u32_in (by omega) (by omega)
  have w3 : IntKind.u32.wrap (256 * c) = 256 * c := u32_in (by omega) (by omega)
  have w4 : IntKind.u32.wrap (16777216 * a + 65536 * b) = 16777216 * a + 65536 * b := u32_in (by omega) (by omega)
  have w5 : IntKind.u32.wrap (16777216 * a + 65536 * b + 256 * c) = 16777216 * a + 65536 * b + 256 * c := u32_in (by omega) (by omega)
  have w6 : IntKind.u32.wrap (16777216 * a + 65536 * b + 256 * c + d) = 16777216 * a + 65536 * b + 256 * c + d := u32_in (by omega) (by omega)
  have x1 : IntKind.u32.wrap a = a := u32_in a0 (by omega)
  have x2 : IntKind.u32.wrap b = b := u32_in b0 (by omega)
  have x3 : IntKind.u32.wrap c = c := u32_in c0 (by omega)
  have x4 : IntKind.u32.wrap d = d := u32_in d0 (by omega)
  clear hn hab h
  go_enter Tryz.func128, Tryz.ntmps128
  go_wp2_with fail
  refine (takeQ_calls w0 _ g s 4 (by omega) H.out).mono ?_
  rintro e w7 ⟨A, cc, rfl, hc, hC, hR, hK⟩
  rw [HAB.out] at hC
  obtain ⟨ad, rfl, hx0⟩ := nth_int hC 0 (by decide)
  obtain ⟨ad', e1, hx1⟩ := nth_int hC 1 (by decide)
  cases e1
  obtain ⟨ad', e1, hx2⟩ := nth_int hC 2 (by decide)
  cases e1
  obtain ⟨ad', e1, hx3⟩ := nth_int hC 3 (by decide)
  cases e1
  simp only [List.getD_cons_zero, List.getD_cons_succ, adr0, adr1, adr2, adr3] at hx0 hx1 hx2 hx3
  have HR := Aside0.mk hR
  have HK := Aside0.mk hK
  clear hR hK hC
  go_wp2
  repeat (go_quiet (fail); try go_wp2)
  go_ret
  exact ⟨rfl, HR.out.drew _, keep_then HK.out (KeepBut.of_below (pw_below_drewN (Below.refl _ _) _) g none)⟩

set_option maxHeartbeats 1600000 in
set_option maxRecDepth 100000 in
theorem textQ_calls (w0 w : World) (g : Nat) (s : RdS) (h : Rf w0 w g s) :
    Calls Tryz.prog 126 #[.pointer (some ⟨g, 0, none⟩)] w fun e w' => e = .returned (.string (textQ s)) ∧ Rf w0 w' g (textQS s) ∧ KeepBut w w' g none := by
  obtain ⟨a, hab, hn, a0, a1⟩ := numQ_one h.bytes
  obtain ⟨m, rfl⟩ := Int.eq_ofNat_of_zero_le a0
  unfold textQ textQS
  rw [hn, Int.toNat_natCast]
  have HAB := Aside0.mk hab
  have H := Aside0.mk h
  have w1 : IntKind.i64.wrap (m : Int) = (m : Int) := IntWalk.i64_in _ (by omega)
  clear hn hab h
  go_enter Tryz.func126, Tryz.ntmps126
  go_wp2_with fail
  refine (takeQ_calls w0 _ g s 1 (by omega) H.out).mono ?_
  rintro e w5 ⟨A, c, rfl, hc, hC, hR, hK⟩
  rw [HAB.out] at hC
  obtain ⟨ad, rfl, hx0⟩ := nth_int hC 0 (by decide)
  simp only [List.getD_cons_zero, adr0] at hx0
  have HR := Aside0.mk hR
  have HK := Aside0.mk hK
  clear hR hK hC
  go_wp2_with fail
  refine (takeQ_calls w0 _ g (takeQS s 1) m (by omega) HR.out).mono ?_
  rintro e w6 ⟨A, c, rfl, hc, hC, hR, hK⟩
  have hcv := Kd.C_string (P := Tryz.prog) (src := 67) (dst := 9) (c := c) Tryz.underlying67 Tryz.underlying5 Tryz.underlying9 hC
  have HR2 := Aside0.mk hR
  have HK2 := Aside0.mk hK
  clear hR hK hC
  go_wp2
  go_ret
  exact ⟨rfl, HR2.out, HK.out.trans HK2.out (.inl rfl)⟩

end Go.Proofs.YtcohodkpppmaoaaGreatDoor.Q
namespace Go.Proofs.YtcohodkpppmaoaaGreatDoor.Q
open Go.RowKit Go.Proofs.YtcohodkpppmaoaaGreatDoorW.PrintWords Go.Proofs.YtcohodkpppmaoaaGreatDoorW.PrintLast

theorem wrap_in (x : Int) (h0 : -9223372036854775808 ≤ x) (h1 : x ≤ 9223372036854775807) : wrap64 x = x := by
  unfold wrap64
  omega
theorem bt_byte (s : ByteArray) (i : Nat) (h : i < s.size) : bt s (i : Int) = ((s[i]'h).toNat : Int) := by
  simp [bt, h]

theorem refCheck_from (s : ByteArray) (hs : s.size ≤ 140737488351232) (d : Nat) : ∀ (k i : Nat), i ≤ s.size → s.size - i = d → d < k → keyChars (s.data.toList.take i) = true →
    concordatref01_Check.l0 k s (i : Int) = some (isKey s) := by
  induction d with
  | zero =>
    intro k i h0 h1 hk hp
    obtain ⟨k, rfl⟩ : ∃ m, k = m + 1 := ⟨k - 1, by omega⟩
    simp only [concordatref01_Check.l0]
    rw [if_neg (by omega)]
    have e : s.data.toList.take i = s.data.toList := List.take_of_length_le (by rw [Array.length_toList]; show s.size ≤ i; omega)
    rw [e] at hp
    unfold isKey
    rw [hp]
    by_cases h1 : (s.size : Int) ≥ 1
    · rw [if_pos h1]
      have h2 : 1 ≤ s.size := by omega
      simp [h2]
      omega
    · rw [if_neg h1]
      have h2 : ¬ 1 ≤ s.size := by omega
      simp [h2]
  | succ d ih =>
    intro k i h0 h1 hk hp
    obtain ⟨k, rfl⟩ : ∃ m, k = m + 1 := ⟨k - 1, by omega⟩
    have hi : i < s.size := by omega
    simp only [concordatref01_Check.l0]
    rw [if_pos (by omega), if_pos (by omega), bt_byte s i hi, wrap_in _ (by omega) (by omega)]
    have hb := keyRune_byte (s[i]'hi)
    have hn := keyChars_no s i hi
    have ht := keyChars_take_succ s i hi
    have hgo : keyByte (s[i]'hi) = true → concordatref01_Check.l0 k s ((i : Int) + 1) = some (isKey s) := by
      intro hy
      have := ih k (i + 1) (by omega) (by omega) (by omega) (by rw [ht, hp, hy]; rfl)
      rw [← this]; rfl
    have hno : keyByte (s[i]'hi) = false → some false = some (isKey s) := by
      intro hy
      unfold isKey
      rw [hn hy]
      simp
    generalize ((s[i]'hi).toNat : Int) = c at *
    unfold keyRune at hb
    by_cases c1 : c < 97
    · rw [if_pos c1]
      by_cases c2 : c < 48
      · rw [if_pos c2]
        by_cases c3 : c = 95
        · omega
        · rw [if_neg c3]
          exact hno (by rw [← hb, Bool.eq_false_iff]; simp; omega)
      · rw [if_neg c2]
        by_cases c4 : c > 57
        · rw [if_pos c4]
          by_cases c3 : c = 95
          · rw [if_pos c3]; exact hgo (by rw [← hb]; simp; omega)
          · rw [if_neg c3]
            exact hno (by rw [← hb, Bool.eq_false_iff]; simp; omega)
        · rw [if_neg c4]; exact hgo (by rw [← hb]; simp; omega)
    · rw [if_neg c1]
      by_cases c5 : c > 122
      · rw [if_pos c5, if_neg (by omega), if_pos (by omega), if_neg (by omega)]
        exact hno (by rw [← hb, Bool.eq_false_iff]; simp; omega)
      · rw [if_neg c5]
        exact hgo (by rw [← hb]; simp; omega)

theorem ev_refCheck (s : ByteArray) (hs : s.size ≤ 140737488351232) : Ev (fun k => concordatref01_Check.f k s) (isKey s) :=
  ⟨s.size + 1, fun k hk => refCheck_from s hs s.size k 0 (by omega) (by omega) (by omega) (by simp [keyChars])⟩


end Go.Proofs.YtcohodkpppmaoaaGreatDoor.Q
namespace Go.Proofs.YtcohodkpppmaoaaGreatDoor.Q
open Go.RowKit Go.Proofs.YtcohodkpppmaoaaGreatDoorW.PrintWords Go.Proofs.YtcohodkpppmaoaaGreatDoorW.PrintLast Go.Proofs.YtcohodkpppmaoaaGreatDoorW.PrintMore

theorem refCount_eq (n : Int) (h0 : 0 ≤ n) (h1 : n ≤ 1000000000) : concordatref02_Count.f n = some (num2 n) := by
  unfold concordatref02_Count.f num2
  rw [Int.tdiv_eq_ediv_of_nonneg h0, wrap_id _ (by omega) (by omega)]
theorem refNumber_eq (n : Int) (h : u32Ok n) : concordatref02_Number.f n = some (num4 n) := by
  obtain ⟨h0, h1⟩ := h
  unfold concordatref02_Number.f num4
  rw [Int.tdiv_eq_ediv_of_nonneg h0, Int.tdiv_eq_ediv_of_nonneg h0, Int.tdiv_eq_ediv_of_nonneg h0]
  rw [Int.emod_eq_of_lt (a := n / 16777216) (by omega) (by omega), Int.emod_eq_of_lt (a := n / 65536) (by omega) (by omega), Int.emod_eq_of_lt (a := n / 256) (by omega) (by omega)]
theorem refText_eq (s : ByteArray) (h : s.size ≤ 1000000000) : concordatref02_text.f s = some (textB s) := by
  unfold concordatref02_text.f textB
  simp only [Option.bind_some, List.length_singleton]
  rw [if_pos (by omega)]
  simp

end Go.Proofs.YtcohodkpppmaoaaGreatDoor.Q
namespace Go.Proofs.YtcohodkpppmaoaaGreatDoor.Q
open Go.RowKit Go.Proofs.YtcohodkpppmaoaaGreatDoorW.PrintWords Go.Proofs.YtcohodkpppmaoaaGreatDoorW.PrintLast Go.Proofs.YtcohodkpppmaoaaGreatDoorW.PrintMore
set_option linter.unusedVariables false

theorem putList_ok {α : Type} {may : α → Int} (hmay : ∀ x, may x = 0 ∨ may x = 1 ∨ may x = 3) {most : Nat} {one : α → List Int} {l : List α} (h : (putList may most one l).2 = 0) :
    (∀ x ∈ l, may x = 0) ∧ l.length ≤ most ∧ (putList may most one l).1 = num2 l.length ++ l.flatMap one := by
  unfold putList at h ⊢
  split at h
  · cases h
  · rename_i h1
    rw [if_neg h1]
    split at h
    · cases h
    · rename_i h2
      rw [if_neg h2]
      refine ⟨fun x hx => ?_, ?_, rfl⟩
      · rcases hmay x with e | e | e
        · exact e
        · exact absurd (List.any_eq_true.2 ⟨x, hx, by simp [e]⟩) h1
        · exact absurd (by rw [List.any_eq_true.2 ⟨x, hx, by simp [e]⟩]; rfl) h2
      · rcases Nat.lt_or_ge most l.length with hl | hl
        · exact absurd (by rw [decide_eq_true hl]; simp) h2
        · exact hl
theorem putList_err {α : Type} {may : α → Int} {most : Nat} {one : α → List Int} {l : List α} (h : (putList may most one l).2 ≠ 0) : (putList may most one l).1 = [] := by
  unfold putList at h ⊢
  split
  · rfl
  · rename_i h1
    rw [if_neg h1] at h
    split
    · rfl
    · rename_i h2
      rw [if_neg h2] at h
      exact absurd rfl h
theorem resultE_cases (x : ResultT) : resultE x = 0 ∨ resultE x = 1 ∨ resultE x = 3 := by unfold resultE; split <;> (try split) <;> simp
end Go.Proofs.YtcohodkpppmaoaaGreatDoor.Q
namespace Go.Proofs.YtcohodkpppmaoaaGreatDoor.Q
open Go.RowKit Go.Proofs.YtcohodkpppmaoaaGreatDoorW.PrintWords Go.Proofs.YtcohodkpppmaoaaGreatDoorW.PrintLast Go.Proofs.YtcohodkpppmaoaaGreatDoorW.PrintMore
set_option linter.unusedVariables false
theorem Bts.takeQ {s : RdS} (hs : Bts s) (n : Nat) : Bts (takeQS s n) := by
  unfold takeQS
  split
  · exact hs
  · exact hs.take n
theorem Bts.textQ {s : RdS} (hs : Bts s) : Bts (textQS s) := (hs.takeQ 1).takeQ _
theorem Bts.rowQ {s : RdS} (hs : Bts s) : Bts (rowQS s) := hs.textQ.takeQ 4
theorem strOfNums_size (l : List Int) : (strOfNums l).size = l.length := by simp [strOfNums, ByteArray.size]
theorem textQ_small {s : RdS} (hs : Bts s) : (textQ s).size ≤ 255 := by
  obtain ⟨a, _, hn, a0, a1⟩ := numQ_one hs
  unfold Q.textQ
  rw [strOfNums_size, takeQ_length, hn]
  omega
theorem sevQ_length {α : Type} (r : RdS → α) (st : RdS → RdS) (s : RdS) (hs : ∀ x ∈ s.1, 0 ≤ x ∧ x < 256) : (sevQ r st s).length < 65536 := by
  have h1 := sevN_length r st (numQ s 2).toNat (takeQS s 2)
  obtain ⟨a, b, _, hn, h0, h2⟩ := numQ_two hs
  unfold sevQ
  omega

theorem Rf.set {w0 w : World} {g b : Nat} {s : RdS} (h : Rf w0 w g s) (hb : g ≠ b) (h0 : w0.heap.size ≤ b) (j : Nat) (u : Value) : Rf w0 (w.setCell ⟨b, j, none⟩ u) g s := by
  obtain ⟨A, c, hr, h1, h2, h3⟩ := h.row
  exact ⟨h.below.setCell h0 _, h.far, ⟨A, c, blk_far hr hb u, h1, h2, h3⟩, h.bytes⟩
theorem Rf.grownBy {w0 w w1 : World} {g : Nat} {s : RdS} (h : Rf w0 w g s) (hb : Below w0.heap.size w0 w1) {row : Option Nat} (hg : w.grownBy w1 row) (hr : ∀ k, row = some k → k ≠ g) : Rf w0 w1 g s := by
  obtain ⟨A, c, hr0, h1, h2, h3⟩ := h.row
  exact ⟨hb, h.far, ⟨A, c, blk_grown hr0 hg (by intro e; exact hr g e.symm rfl), h1, h2, h3⟩, h.bytes⟩
set_option maxRecDepth 100000 in
theorem sameQ_calls (A0 : Option Addr) (c0 : Nat) (l0 : List Int) (A1 : Option Addr) (c1 : Nat) (l1 : List Int) (w : World) (h0 : Kd.C (Kd.int .u8) w A0 l0.length l0) (h1 : Kd.C (Kd.int .u8) w A1 l1.length l1) :
    Calls Tryz.prog 129 #[.slice A0 l0.length c0, .slice A1 l1.length c1] w fun e w' => e = .returned (.bool ((strOfNums l0).toList == (strOfNums l1).toList)) ∧ w' = w := by
  have hc0 := Kd.C_string (P := Tryz.prog) (src := 67) (dst := 9) (c := c0) Tryz.underlying67 Tryz.underlying5 Tryz.underlying9 h0
  have hc1 := Kd.C_string (P := Tryz.prog) (src := 67) (dst := 9) (c := c1) Tryz.underlying67 Tryz.underlying5 Tryz.underlying9 h1
  clear h0 h1
  go_enter Tryz.func129, Tryz.ntmps129
  go_wp2
  go_ret
  exact ⟨rfl, rfl⟩

end Go.Proofs.YtcohodkpppmaoaaGreatDoor.Q
namespace Go.Proofs.YtcohodkpppmaoaaGreatDoor.Q
open Go.RowKit Go.Proofs.YtcohodkpppmaoaaGreatDoorW.PrintWords Go.Proofs.YtcohodkpppmaoaaGreatDoorW.PrintLast Go.Proofs.YtcohodkpppmaoaaGreatDoorW.PrintMore
theorem refRes_inner (l : List ResultT) (hl : l.length ≤ 1000000000) (i : Nat) (hi : i < l.length) (hn : l[i].f0.length ≤ 1000000000) (hs : ∀ r ∈ l[i].f0, r.f0.size ≤ 140737488351232) (m : Bool) (r : List Int × Int) (hbad : mayRows l[i].f0 = false → r = ([], 1))
    (hgood : mayRows l[i].f0 = true → Ev (fun k => concordatref02_PutResults.l0 k l (m || decide ((l[i].f0.length : Int) > 256)) ((i + 1 : Nat) : Int)) r) (d : Nat) : ∀ (j : Nat), j ≤ l[i].f0.length → l[i].f0.length - j = d → mayRows (l[i].f0.take j) = true → Ev (fun k => concordatref02_PutResults.l1 k l m (i : Int) (j : Int)) r := by
  have hrd : rd_T145 l (i : Int) = l[i] := by simp [rd_T145, hi]
  induction d with
  | zero =>
    intro j h0 h1 hp
    have e : l[i].f0.take j = l[i].f0 := List.take_of_length_le (by omega)
    rw [e] at hp
    refine Ev.step (fun k => ?_) (hgood hp)
    simp only [concordatref02_PutResults.l1]
    rw [if_pos (by omega), if_pos (by omega), hrd, if_neg (by omega), wrap_id _ (by omega) (by omega)]
    cases m <;> simp
  | succ d ih =>
    intro j h0 h1 hp
    have hj : j < l[i].f0.length := by omega
    have hrj : rd_T148 l[i].f0 (j : Int) = l[i].f0[j] := by simp [rd_T148, hj]
    have htk : mayRows (l[i].f0.take (j + 1)) = (mayRows (l[i].f0.take j) && isKey (l[i].f0[j].f0)) := by
      unfold mayRows
      rw [List.take_succ_eq_append_getElem hj]
      simp only [List.all_append, List.all_cons, List.all_nil, Bool.and_true]
    refine Ev.step (f := fun k => (concordatref01_Check.f k l[i].f0[j].f0).bind fun t => (if t = true then (concordatref02_PutResults.l1 k l m (i : Int) (wrap64 ((j : Int) + 1))) else (some (([] : List Int), 1)))) (fun k => ?_) ?_
    · simp only [concordatref02_PutResults.l1]
      rw [if_pos (by omega), if_pos (by omega), hrd, if_pos (by omega), if_pos (by omega), hrj]
    · refine Ev.bind (ev_refCheck _ (hs _ (List.getElem_mem _))) ?_
      cases hk : isKey l[i].f0[j].f0 with
      | false =>
        simp only [Bool.false_eq_true, if_false]
        refine ev_const ?_
        rw [hbad (by
          unfold mayRows
          rw [List.all_eq_false]
          exact ⟨l[i].f0[j], List.getElem_mem _, by simp [hk]⟩)]
      | true =>
        simp only [if_true]
        rw [wrap_id _ (by omega) (by omega)]
        exact ih (j + 1) (by omega) (by omega) (by rw [htk, hp, hk]; rfl)
theorem refRes_scan (l : List ResultT) (hl : l.length ≤ 1000000000) (hn : ∀ x ∈ l, x.f0.length ≤ 1000000000 ∧ ∀ r ∈ x.f0, r.f0.size ≤ 140737488351232) (r : List Int × Int)
    (hr1 : l.any (fun x => !(mayRows x.f0)) = true → r = ([], 1))
    (hr2 : l.any (fun x => !(mayRows x.f0)) = false → Ev (fun k => if (decide ((l.length : Int) > 16) || l.any (fun x => decide ((x.f0.length : Int) > 256))) = true then (some (([] : List Int), 3)) else ((concordatref02_Count.f (l.length : Int)).bind fun t => (concordatref02_PutResults.l2 k l t 0))) r) (d : Nat) :
    ∀ (i : Nat) (m : Bool), i ≤ l.length → l.length - i = d → (∀ x ∈ l.take i, mayRows x.f0 = true) → m = (decide ((l.length : Int) > 16) || (l.take i).any (fun x => decide ((x.f0.length : Int) > 256))) → Ev (fun k => concordatref02_PutResults.l0 k l m (i : Int)) r := by
  induction d with
  | zero =>
    intro i m h0 h1 hp hm
    have e : l.take i = l := List.take_of_length_le (by omega)
    rw [e] at hp hm
    have hno : l.any (fun x => !(mayRows x.f0)) = false := by
      rw [List.any_eq_false]
      intro x hx
      simp [hp x hx]
    refine Ev.step (fun k => ?_) (hr2 hno)
    simp only [concordatref02_PutResults.l0]
    rw [if_neg (by omega), ← hm]
  | succ d ih =>
    intro i m h0 h1 hp hm
    have hi : i < l.length := by omega
    have htk : l.take (i + 1) = l.take i ++ [l[i]] := List.take_succ_eq_append_getElem hi
    refine Ev.step (f := fun k => concordatref02_PutResults.l1 k l m (i : Int) ((0 : Nat) : Int)) (fun k => ?_) ?_
    · simp only [concordatref02_PutResults.l0]
      rw [if_pos (by omega)]
      rfl
    · refine refRes_inner l hl i hi (hn _ (List.getElem_mem _)).1 (hn _ (List.getElem_mem _)).2 m r (fun hb => hr1 (by rw [List.any_eq_true]; exact ⟨l[i], List.getElem_mem _, by simp [hb]⟩)) (fun hg => ?_) _ 0 (Nat.zero_le _) rfl (by simp [mayRows])
      refine ih (i + 1) _ (by omega) (by omega) ?_ ?_
      · rw [htk]
        intro x hx
        rcases List.mem_append.1 hx with hx | hx
        · exact hp x hx
        · rw [List.mem_singleton.1 hx]; exact hg
      · rw [htk, hm, List.any_append, List.any_cons, List.any_nil, Bool.or_false, Bool.or_assoc]
theorem refRes_rows (l : List ResultT) (hl : l.length ≤ 1000000) (i : Nat) (hi : i < l.length) (hk : mayRows l[i].f0 = true) (hlen : l[i].f0.length ≤ 256) (hw : ∀ r ∈ l[i].f0, rowOk r) (r : List Int × Int) (B : List Int)
    (hnext : Ev (fun k => concordatref02_PutResults.l2 k l (B ++ l[i].f0.flatMap rowB) ((i + 1 : Nat) : Int)) r) (d : Nat) : ∀ (b : List Int) (j : Nat), j ≤ l[i].f0.length → l[i].f0.length - j = d → b.length + 64 * (l[i].f0.length - j) + 64 < 140737488355328 → b ++ (l[i].f0.drop j).flatMap rowB = B ++ l[i].f0.flatMap rowB →
    Ev (fun k => concordatref02_PutResults.l3 k l b (i : Int) (j : Int)) r := by
  have hrd : rd_T145 l (i : Int) = l[i] := by simp [rd_T145, hi]
  induction d with
  | zero =>
    intro b j h0 h1 hb he
    rw [List.drop_eq_nil_of_le (by omega), List.flatMap_nil, List.append_nil] at he
    subst he
    refine Ev.step (fun k => ?_) hnext
    simp only [concordatref02_PutResults.l3]
    rw [if_pos (by omega), if_pos (by omega), hrd, if_neg (by omega), wrap_id _ (by omega) (by omega)]
    rfl
  | succ d ih =>
    intro b j h0 h1 hb he
    have hj : j < l[i].f0.length := by omega
    have hrj : rd_T148 l[i].f0 (j : Int) = l[i].f0[j] := by simp [rd_T148, hj]
    have hki : isKey (l[i].f0[j].f0) = true := by
      unfold mayRows at hk
      rw [List.all_eq_true] at hk
      exact hk _ (List.getElem_mem _)
    have hz := isKey_size _ hki
    refine Ev.step (f := fun k => concordatref02_PutResults.l3 k l (b ++ rowB l[i].f0[j]) (i : Int) (wrap64 ((j : Int) + 1))) (fun k => ?_) ?_
    · simp only [concordatref02_PutResults.l3]
      rw [if_pos (by omega), if_pos (by omega), hrd, if_pos (by omega), if_pos (by omega), hrj, refText_eq _ (by omega), refNumber_eq _ (hw _ (List.getElem_mem _))]
      simp only [Option.bind_some]
      rw [if_pos (by simp [textB_length]; omega), if_pos (by simp [textB_length, num4_length]; omega)]
      simp [rowB]
    · rw [wrap_id _ (by omega) (by omega)]
      have hlen := rowB_len l[i].f0[j] hki
      refine ih (b ++ rowB l[i].f0[j]) (j + 1) (by omega) (by omega) (by rw [List.length_append]; omega) ?_
      rw [← he, List.drop_eq_getElem_cons hj, List.flatMap_cons, List.append_assoc]
theorem refRes_put (l : List ResultT) (hl : l.length ≤ 1000000) (hw : ∀ x ∈ l, resultOk x) (hok : ∀ x ∈ l, resultE x = 0) (d : Nat) : ∀ (b : List Int) (i : Nat), i ≤ l.length → l.length - i = d → b.length + 20000 * (l.length - i) + 20000 < 140737488355328 →
    Ev (fun k => concordatref02_PutResults.l2 k l b (i : Int)) (b ++ (l.drop i).flatMap resultB, 0) := by
  induction d with
  | zero =>
    intro b i h0 h1 hb
    refine Ev.step (f := fun _ => some (b, 0)) (fun k => ?_) ?_
    · simp only [concordatref02_PutResults.l2]
      rw [if_neg (by omega)]
    · refine ev_const ?_
      rw [List.drop_eq_nil_of_le (by omega)]
      simp
  | succ d ih =>
    intro b i h0 h1 hb
    have hi : i < l.length := by omega
    have hrd : rd_T145 l (i : Int) = l[i] := by simp [rd_T145, hi]
    have hoi := hok l[i] (List.getElem_mem _)
    obtain ⟨hm, hlen⟩ := result_ok _ hoi
    have hrl := result_len _ hoi
    refine Ev.step (f := fun k => concordatref02_PutResults.l3 k l (b ++ num2 l[i].f0.length) (i : Int) ((0 : Nat) : Int)) (fun k => ?_) ?_
    · simp only [concordatref02_PutResults.l2]
      rw [if_pos (by omega), if_pos (by omega), hrd, refCount_eq _ (by omega) (by omega)]
      simp only [Option.bind_some]
      rw [if_pos (by rw [num2_length]; omega)]
      rfl
    · refine refRes_rows l hl i hi hm hlen (hw _ (List.getElem_mem _)) _ (b ++ num2 l[i].f0.length) ?_ _ (b ++ num2 l[i].f0.length) 0 (Nat.zero_le _) rfl (by rw [List.length_append, num2_length]; omega) (by simp)
      refine ev_eq ?_ (ih (b ++ num2 l[i].f0.length ++ l[i].f0.flatMap rowB) (i + 1) (by omega) (by omega) (by
        have e : (b ++ num2 l[i].f0.length ++ l[i].f0.flatMap rowB).length = b.length + (resultB l[i]).length := by simp [resultB, rowsB]
        omega))
      rw [List.drop_eq_getElem_cons hi, List.flatMap_cons]
      simp [resultB, rowsB]
theorem ev_refPutResults (l : List ResultT) (hl : l.length ≤ 1000000) (hn : ∀ x ∈ l, x.f0.length ≤ 1000000000 ∧ ∀ r ∈ x.f0, r.f0.size ≤ 140737488351232) (hw : ∀ x ∈ l, resultOk x) : Ev (fun k => concordatref02_PutResults.f k l) (putResults l) := by
  unfold concordatref02_PutResults.f
  have e1 : l.any (fun x => resultE x == 1) = l.any (fun x => !(mayRows x.f0)) := by
    congr 1
    funext x
    unfold resultE
    cases mayRows x.f0 with
    | true => by_cases c : x.f0.length ≤ 256 <;> simp [c]
    | false => simp
  refine refRes_scan l (by omega) hn _ ?_ ?_ l.length 0 _ (by omega) (by omega) (by simp) (by simp)
  · intro h
    unfold putResults putList
    rw [e1, if_pos h]
  · intro h
    have hall : ∀ x ∈ l, mayRows x.f0 = true := by
      intro x hx
      rw [List.any_eq_false] at h
      simpa using h x hx
    have e3 : l.any (fun x => resultE x == 3) = l.any (fun x => decide ((x.f0.length : Int) > 256)) := by
      rw [Bool.eq_iff_iff, List.any_eq_true, List.any_eq_true]
      constructor
      · rintro ⟨x, hx, h3⟩
        refine ⟨x, hx, ?_⟩
        unfold resultE at h3
        rw [if_pos (hall x hx)] at h3
        by_cases c : x.f0.length ≤ 256
        · rw [if_pos c] at h3; cases h3
        · simp; omega
      · rintro ⟨x, hx, h3⟩
        refine ⟨x, hx, ?_⟩
        have h4 : (x.f0.length : Int) > 256 := by simpa using h3
        unfold resultE
        rw [if_pos (hall x hx), if_neg (by omega)]
        rfl
    unfold putResults putList
    rw [e1, h, e3]
    by_cases hm : (decide ((l.length : Int) > 16) || l.any (fun x => decide ((x.f0.length : Int) > 256))) = true
    · simp only [if_pos hm]
      refine ev_const ?_
      rw [if_neg (by decide), if_pos]
      rw [← hm, Bool.or_comm]
      congr 1
      simp
      omega
    · simp only [if_neg hm]
      rw [refCount_eq _ (by omega) (by omega)]
      simp only [Option.bind_some]
      have hm' : (decide ((l.length : Int) > 16) || l.any (fun x => decide ((x.f0.length : Int) > 256))) = false := by simpa using hm
      rw [Bool.or_eq_false_iff] at hm'
      have hok : ∀ x ∈ l, resultE x = 0 := by
        intro x hx
        have h5 := hm'.2
        rw [List.any_eq_false] at h5
        have h6 := h5 x hx
        have h7 : ¬ (x.f0.length : Int) > 256 := by simpa using h6
        unfold resultE
        rw [if_pos (hall x hx), if_pos (by omega)]
      have h16 : ¬ (l.length : Int) > 16 := by simpa using hm'.1
      refine ev_eq ?_ (refRes_put l hl hw hok l.length (num2 l.length) 0 (by omega) (by omega) (by simp [num2_length]; omega))
      rw [hm'.2]
      simp
      omega
end Go.Proofs.YtcohodkpppmaoaaGreatDoor.Q
namespace Go.Proofs.YtcohodkpppmaoaaGreatDoor.Q
open Go.RowKit Go.Proofs.YtcohodkpppmaoaaGreatDoorW.PrintWords Go.Proofs.YtcohodkpppmaoaaGreatDoorW.PrintLast Go.Proofs.YtcohodkpppmaoaaGreatDoorW.PrintMore
set_option linter.unusedVariables false
theorem rowQ_ok {s : RdS} (hs : Bts s) : (rowQ s).f0.size ≤ 140737488351232 ∧ rowOk (rowQ s) := by
  have h := numQ_range (textQS s) 4
  have h2 := textQ_small hs
  unfold rowOk u32Ok Q.rowQ
  dsimp only
  exact ⟨by omega, by omega⟩
theorem resQ_ok {s : RdS} (hs : Bts s) : ((resQ s).f0.length ≤ 1000000000 ∧ ∀ r ∈ (resQ s).f0, r.f0.size ≤ 140737488351232) ∧ resultOk (resQ s) := by
  have h1 := sevQ_length rowQ rowQS s hs
  have h2 : ∀ r ∈ (resQ s).f0, r.f0.size ≤ 140737488351232 ∧ rowOk r := show ∀ r ∈ sevN rowQ rowQS (numQ s 2).toNat (takeQS s 2), r.f0.size ≤ 140737488351232 ∧ rowOk r from sevN_all (p := fun r => r.f0.size ≤ 140737488351232 ∧ rowOk r) (fun _ h => h.rowQ) (fun _ h => rowQ_ok h) _ _ (hs.takeQ 2)
  refine ⟨⟨?_, fun r hr => (h2 r hr).1⟩, fun r hr => (h2 r hr).2⟩
  show (sevQ rowQ rowQS s).length ≤ _
  omega
theorem Bts.resQ {s : RdS} (hs : Bts s) : Bts (resQS s) := Bts.sevN (fun _ h => h.rowQ) _ _ (hs.takeQ 2)
set_option maxHeartbeats 3200000 in
set_option maxRecDepth 100000 in
theorem concordatref02_GetResults.calls (A0 : Option Addr) (c0 : Nat) (l0 : List Int) (w : World) (hr0 : Kd.C (Kd.int .u8) w A0 l0.length l0) (hc0 : l0.length ≤ c0) (hby : ∀ x ∈ l0, 0 ≤ x ∧ x < 256) :
    Calls Tryz.prog 56 #[.slice A0 l0.length c0] w fun e w' => ∃ v0_ : Value, e = .returned (.tuple #[v0_, .int .i64 (getR resR resS putResults l0).2]) ∧ Kd.R k145 145 w' w.heap.size (fun _ => True) v0_ (getR resR resS putResults l0).1 ∧ Below w.heap.size w w' := by
  rw [← getQ_results l0 hby]
  obtain ⟨m, hm⟩ : ∃ m : Nat, numQ (l0, false) 2 = m := ⟨(numQ (l0, false) 2).toNat, by have := numQ_range (l0, false) 2; omega⟩
  have hm' : m < 65536 := by
    obtain ⟨a, b, _, hn, h0, h2⟩ := numQ_two (s := (l0, false)) hby
    omega
  have e1 : sevQ resQ resQS (l0, false) = sevN resQ resQS m (takeQS (l0, false) 2) := by unfold sevQ; rw [hm]; rfl
  have e2 : sevQS resQ resQS (l0, false) = sevNS resQ resQS m (takeQS (l0, false) 2) := by unfold sevQS; rw [hm]; rfl
  have hB2 : Bts (takeQS (l0, false) 2) := Bts.takeQ (show Bts (l0, false) from hby) 2
  have hall : ∀ x ∈ sevN resQ resQS m (takeQS (l0, false) 2), (x.f0.length ≤ 1000000000 ∧ ∀ r ∈ x.f0, r.f0.size ≤ 140737488351232) ∧ resultOk x := sevN_all (p := fun x => (x.f0.length ≤ 1000000000 ∧ ∀ r ∈ x.f0, r.f0.size ≤ 140737488351232) ∧ resultOk x) (fun _ h => h.resQ) (fun s hs => resQ_ok hs) m _ hB2
  have hlen := sevN_short resQ resQS m (takeQS (l0, false) 2)
  unfold getQ
  rw [e1, e2]
  obtain ⟨L, hL⟩ : ∃ L, L = sevN resQ resQS m (takeQS (l0, false) 2) := ⟨_, rfl⟩
  obtain ⟨SF, hSF⟩ : ∃ SF, SF = sevNS resQ resQS m (takeQS (l0, false) 2) := ⟨_, rfl⟩
  rw [← hL] at hall hlen ⊢
  rw [← hSF]
  obtain ⟨kp, hkp⟩ := (ev_refPutResults L (by omega) (fun x hx => (hall x hx).1) (fun x hx => (hall x hx).2)).rounds
  generalize putResults L = q at *
  obtain ⟨pb, pe⟩ := q
  dsimp only
  have HKP := Aside0.mk hkp
  have HBY := Aside0.mk hby
  have HC := Aside0.mk hr0
  have HL := Aside0.mk hL
  have HSF := Aside0.mk hSF
  have HM := Aside0.mk hm
  have HMX := Aside0.mk (show l0.length ≤ maxLen from Kd.C_max hr0)
  have HLN := Aside0.mk hlen
  clear hkp hby hr0 hL hSF hm hall hlen e1 e2 hB2
  have hu := Tryz.underlying134
  have huc := Tryz.underlying145
  go_enter Tryz.func56, Tryz.ntmps56
  go_wp2_with fail
  have HA := Aside0.mk (show Rf w (w.alloc (.cells #[.slice A0 l0.length c0, .bool false] 134)) w.heap.size (l0, false) from ⟨below_alloc (Below.refl _ _) _, Nat.le_refl _, ⟨A0, c0, blk_new w _, hc0, HMX.out, HC.out⟩, HBY.out⟩)
  refine (countQ_calls w _ w.heap.size (l0, false) HA.out).mono ?_
  rintro e w1 ⟨rfl, hR, hK⟩
  rw [HM.out]
  have R1 := Aside0.mk hR
  clear hR hK HA
  go_wp2
  go_loopw [5, 6] (fun v n wr => ∃ (j : Nat) (sj : RdS) (xs : List S145), n = .int .i64 j ∧ j ≤ m ∧ Aside0 (xs.length + j ≤ m) ∧ Aside0 (L = xs ++ sevN resQ resQS j sj) ∧ Aside0 (SF = sevNS resQ resQS j sj) ∧ Aside0 (Kd.R k145 145 wr w.heap.size (fun k => k ≠ w.heap.size) v xs) ∧ Aside0 (Rf w wr w.heap.size sj)) (fun _ n _ => (intOf n).toNat)
  case atStart => exact ⟨m, _, [], rfl, Nat.le_refl _, ⟨by simp⟩, HL, HSF, ⟨Kd.R_nil _ _ _ _ _⟩, R1⟩
  case round =>
    clear R1
    obtain ⟨wq, hwq⟩ : ∃ wq, wq = wr := ⟨_, rfl⟩
    subst hwq
    obtain ⟨j, sj, xs, rfl, hj, HLJ, E1, E2, HO, HR⟩ := hrel
    have hszw : w.heap.size ≤ wq.heap.size := HR.out.below.size
    have hgl : w.heap.size < wq.heap.size := by
      obtain ⟨A, c, hrow, _⟩ := HR.out.row
      exact blk_lt hrow
    obtain ⟨Arw, crw, hrow, _⟩ := HR.out.row
    have hcs : wq.cell? ⟨w.heap.size, 1, none⟩ = some (.bool sj.2) := blk_cell hrow 1
    have HRW := Aside0.mk hrow
    clear hrow
    obtain ⟨Av, cv, rfl, hcv, hCv⟩ := Kd.R_reads HO.out
    have HCV := Aside0.mk hCv
    clear hCv
    by_cases hex : j = 0 ∨ sj.2 = true
    · have eL : L = xs := by
        rw [E1.out]
        rcases hex with rfl | hb
        · simp [sevN]
        · cases j with
          | zero => simp [sevN]
          | succ j => simp [sevN, hb]
      have eS : SF = sj := by
        rw [E2.out]
        rcases hex with rfl | hb
        · rfl
        · cases j with
          | zero => rfl
          | succ j => simp [sevNS, hb]
      subst eL eS
      clear E1 E2 HL HSF
      rcases hex with rfl | hbad
      · go_wp2_with fail
        refine (concordatref02_PutResults.calls kp Av cv L pb pe wq HCV.out hcv HKP.out).mono ?_
        rintro e w4 ⟨v4, rfl, hO4, hB4⟩
        obtain ⟨A4, c4, rfl, hc4, hC4⟩ := Kd.R_reads hO4
        have HO4 := Aside0.mk (Kd.R_below HO.out hB4)
        have HR4 := Aside0.mk (HR.out.grown hB4)
        obtain ⟨Ar, cr, hrow4, _⟩ := HR4.out.row
        have hcs4 : w4.cell? ⟨w.heap.size, 1, none⟩ = some (.bool SF.2) := blk_cell hrow4 1
        have HC4 := Aside0.mk hC4
        have HA4 := Aside0.mk (Kd.C_below HC.out HR4.out.below)
        clear hO4 hrow4 hC4 hB4
        cases hsh : SF.2 with
        | true =>
          rw [hsh] at hcs4
          go_wp2
          go_ret2
          exact ⟨_, rfl, Kd.R_nil _ _ _ _ _, HR4.out.below⟩
        | false =>
          rw [hsh] at hcs4
          by_cases hpe : pe = 0
          · subst hpe
            go_wp2_with fail
            refine (sameQ_calls A0 c0 l0 A4 c4 pb w4 HA4.out HC4.out).mono ?_
            rintro e _ ⟨rfl, rfl⟩
            cases heq : ((strOfNums l0).toList == (strOfNums pb).toList) with
            | true =>
              go_wp2
              go_ret2
              exact ⟨_, rfl, Kd.R_mono HO4.out (fun _ _ => trivial), HR4.out.below⟩
            | false =>
              go_wp2
              go_ret2
              exact ⟨_, rfl, Kd.R_nil _ _ _ _ _, HR4.out.below⟩
          · have hpeb : (pe != 0) = true := by simpa using hpe
            go_wp2
            all_goals
              go_ret2
              exact ⟨_, rfl, Kd.R_nil _ _ _ _ _, HR4.out.below⟩
      · rw [hbad] at hcs
        by_cases hj0 : j = 0
        · subst hj0
          go_wp2_with fail
          refine (concordatref02_PutResults.calls kp Av cv L pb pe wq HCV.out hcv HKP.out).mono ?_
          rintro e w4 ⟨v4, rfl, hO4, hB4⟩
          obtain ⟨A4, c4, rfl, hc4, hC4⟩ := Kd.R_reads hO4
          have HO4 := Aside0.mk (Kd.R_below HO.out hB4)
          have HR4 := Aside0.mk (HR.out.grown hB4)
          obtain ⟨Ar, cr, hrow4, _⟩ := HR4.out.row
          have hcs4 : w4.cell? ⟨w.heap.size, 1, none⟩ = some (.bool SF.2) := blk_cell hrow4 1
          have HC4 := Aside0.mk hC4
          have HA4 := Aside0.mk (Kd.C_below HC.out HR4.out.below)
          clear hO4 hrow4 hC4 hB4
          rw [hbad] at hcs4
          go_wp2
          go_ret2
          exact ⟨_, rfl, Kd.R_nil _ _ _ _ _, HR4.out.below⟩
        · have hjp : (0 : Int) < (j : Int) := by omega
          go_wp2_with fail
          refine (concordatref02_PutResults.calls kp Av cv L pb pe wq HCV.out hcv HKP.out).mono ?_
          rintro e w4 ⟨v4, rfl, hO4, hB4⟩
          obtain ⟨A4, c4, rfl, hc4, hC4⟩ := Kd.R_reads hO4
          have HO4 := Aside0.mk (Kd.R_below HO.out hB4)
          have HR4 := Aside0.mk (HR.out.grown hB4)
          obtain ⟨Ar, cr, hrow4, _⟩ := HR4.out.row
          have hcs4 : w4.cell? ⟨w.heap.size, 1, none⟩ = some (.bool SF.2) := blk_cell hrow4 1
          have HC4 := Aside0.mk hC4
          have HA4 := Aside0.mk (Kd.C_below HC.out HR4.out.below)
          clear hO4 hrow4 hC4 hB4
          rw [hbad] at hcs4
          go_wp2
          go_ret2
          exact ⟨_, rfl, Kd.R_nil _ _ _ _ _, HR4.out.below⟩
    · obtain ⟨i, rfl⟩ : ∃ i, j = i + 1 := ⟨j - 1, by omega⟩
      have hbad : sj.2 = false := by simpa using fun h => hex (.inr h)
      rw [hbad] at hcs
      have q1 : sevN resQ resQS (i + 1) sj = resQ sj :: sevN resQ resQS i (resQS sj) := by rw [sevN, if_neg (by rw [hbad]; decide)]
      have q2 : sevNS resQ resQS (i + 1) sj = sevNS resQ resQS i (resQS sj) := by rw [sevNS, if_neg (by rw [hbad]; decide)]
      rw [q1] at E1
      rw [q2] at E2
      clear q1 q2 hex
      have hjp : (0 : Int) < ((i + 1 : Nat) : Int) := by omega
      have hba := below_alloc (Below.refl wq.heap.size wq) (.cells #[.slice none 0 0] 145)
      have hbn := Aside0.mk (blk_new wq (.cells #[.slice none 0 0] 145))
      have RA := Aside0.mk (HR.out.grown hba)
      have KA := Aside0.mk (KeepBut.of_below hba w.heap.size none)
      clear hba HCV
      go_wp2_with fail
      clear hcs
      refine (countQ_calls w _ w.heap.size sj RA.out).mono ?_
      rintro e w2 ⟨rfl, hR, hK⟩
      obtain ⟨m2, hm2⟩ : ∃ m2 : Nat, numQ sj 2 = m2 := ⟨(numQ sj 2).toNat, by have := numQ_range sj 2; omega⟩
      have hm2' : m2 < 65536 := by
        obtain ⟨a, b, _, hn, h0, h2⟩ := numQ_two HR.out.bytes
        omega
      rw [hm2]
      have HM2 := Aside0.mk hm2
      have R2 := Aside0.mk hR
      have K2 := Aside0.mk (keep_then KA.out hK)
      have B2 := Aside0.mk (keep_cells hbn.out (show wq.heap.size ≠ w.heap.size by omega) hK)
      clear hR hK hm2 KA RA hbn
      go_wp2
      go_loopw [8] (fun n wr => ∃ (jj : Nat) (si : RdS) (rs : List RowT') (v : Value), n = .int .i64 jj ∧ jj ≤ m2 ∧ Aside0 (rs.length + jj ≤ m2) ∧ Aside0 (sevN rowQ rowQS m2 (takeQS sj 2) = rs ++ sevN rowQ rowQS jj si) ∧ Aside0 (sevNS rowQ rowQS m2 (takeQS sj 2) = sevNS rowQ rowQS jj si) ∧ Aside0 (wr.heap[wq.heap.size]? = some (.cells #[v] 145 (0, 0))) ∧ Aside0 (Kd.R k148 148 wr wq.heap.size (fun k => wq.heap.size < k) v rs) ∧ Aside0 (Rf w wr w.heap.size si) ∧ Aside0 (KeepBut wq wr w.heap.size none)) (fun n _ => (intOf n).toNat)
      case atStart => exact ⟨m2, _, [], _, rfl, Nat.le_refl _, ⟨by simp⟩, ⟨rfl⟩, ⟨rfl⟩, B2, ⟨Kd.R_nil _ _ _ _ _⟩, R2, K2⟩
      case round =>
        clear R2 K2 B2
        obtain ⟨wi, hwi⟩ : ∃ wi, wi = wr := ⟨_, rfl⟩
        subst hwi
        obtain ⟨jj, si, rs, v, rfl, hjj, HJJ, F1, F2, HBX, HRS, HRI, HKI⟩ := hrel
        have hgi : wq.heap.size < wi.heap.size := blk_lt HBX.out
        obtain ⟨Ari, cri, hrow, _⟩ := HRI.out.row
        have hcs : wi.cell? ⟨w.heap.size, 1, none⟩ = some (.bool si.2) := blk_cell hrow 1
        clear hrow
        have x0 := blk_cell HBX.out 0
        have xf := blk_frozen HBX.out 0
        obtain ⟨Avr, cvr, rfl, hcvr, _⟩ := Kd.R_reads HRS.out
        by_cases hex2 : jj = 0 ∨ si.2 = true
        · have eR : sevN rowQ rowQS m2 (takeQS sj 2) = rs := by
            rw [F1.out]
            rcases hex2 with rfl | hb
            · simp [sevN]
            · cases jj with
              | zero => simp [sevN]
              | succ j => simp [sevN, hb]
          have eS : sevNS rowQ rowQS m2 (takeQS sj 2) = si := by
            rw [F2.out]
            rcases hex2 with rfl | hb
            · rfl
            · cases jj with
              | zero => rfl
              | succ j => simp [sevNS, hb]
          have HX := Aside0.mk (show resQ sj = ⟨rs⟩ by unfold resQ sevQ; rw [HM2.out]; exact congrArg _ eR)
          have HXS := Aside0.mk (show resQS sj = si by unfold resQS sevQS; rw [HM2.out]; exact eS)
          have HO4 := Aside0.mk (Kd.R_keep HO.out HKI.out (fun k hk => hk))
          have HRS4 := Aside0.mk (Kd.R_lower (Kd.R_mono HRS.out (fun k (hk : wq.heap.size < k) => (show k ≠ w.heap.size by omega))) hszw)
          have hs4 : w.heap.size ≤ wi.heap.size := HRI.out.below.size
          have HRS5 := Aside0.mk (Kd.R_lower HRS.out hszw)
          have HAP := Aside0.mk (show ∀ k, wq.heap.size < k → k ≠ w.heap.size ∧ some k ≠ (Value.slice Av xs.length cv).ownBlock from fun k hk => ⟨by omega, fun e => by have := Kd.R_lt HO.out k e.symm; omega⟩)
          rcases hex2 with rfl | hb2
          · go_wp2_with (first | (at_builtin; refine Kd.R_append k145 (w0 := wi) w.heap.size rfl (.tmp 52) (.tmp 54) 48 145 (.agg #[.slice none 0 0]) 24 rfl Tryz.underlying48 (by kernel_rfl) rfl (by decide) (by decide) (.slice Av xs.length cv) xs ⟨rs⟩ [.slice Avr rs.length cvr] (fun k => k ≠ w.heap.size) (fun k => wq.heap.size < k) (by simp [Act.eval, Act.put]) (by simp [Act.eval, Act.put]) (k145_mkM _ _ _ _ HRS5.out) HAP.out (fun k hk => by omega) HO4.out (Below.refl _ _) hs4 (by have := HLJ.out; omega) ?_; intro v1 w6 hO hB hG hat; have HO6 := Aside0.mk hO; have HB6 := Aside0.mk hB; have HG6 := Aside0.mk hG; clear hO hB hG hat))
            refine ⟨⟨i, resQS sj, xs ++ [⟨rs⟩], by go_num, by omega, ⟨by have := HLJ.out; rw [List.length_append]; simp; omega⟩, ⟨by rw [E1.out, HX.out, List.append_assoc]; rfl⟩, E2, HO6, ⟨?_⟩⟩, ?_⟩
            · rw [HXS.out]
              exact HRI.out.grownBy (HRI.out.below.trans (HB6.out.mono (Nat.le_refl _))) HG6.out (fun k hk => (Kd.R_bound HO4.out).1 k hk |>.1)
            · simp [intOf]
          · rw [hb2] at hcs
            by_cases hj0 : jj = 0
            · subst hj0
              go_wp2_with (first | (at_builtin; refine Kd.R_append k145 (w0 := wi) w.heap.size rfl (.tmp 52) (.tmp 54) 48 145 (.agg #[.slice none 0 0]) 24 rfl Tryz.underlying48 (by kernel_rfl) rfl (by decide) (by decide) (.slice Av xs.length cv) xs ⟨rs⟩ [.slice Avr rs.length cvr] (fun k => k ≠ w.heap.size) (fun k => wq.heap.size < k) (by simp [Act.eval, Act.put]) (by simp [Act.eval, Act.put]) (k145_mkM _ _ _ _ HRS5.out) HAP.out (fun k hk => by omega) HO4.out (Below.refl _ _) hs4 (by have := HLJ.out; omega) ?_; intro v1 w6 hO hB hG hat; have HO6 := Aside0.mk hO; have HB6 := Aside0.mk hB; have HG6 := Aside0.mk hG; clear hO hB hG hat))
              refine ⟨⟨i, resQS sj, xs ++ [⟨rs⟩], by go_num, by omega, ⟨by have := HLJ.out; rw [List.length_append]; simp; omega⟩, ⟨by rw [E1.out, HX.out, List.append_assoc]; rfl⟩, E2, HO6, ⟨?_⟩⟩, ?_⟩
              · rw [HXS.out]
                exact HRI.out.grownBy (HRI.out.below.trans (HB6.out.mono (Nat.le_refl _))) HG6.out (fun k hk => (Kd.R_bound HO4.out).1 k hk |>.1)
              · simp [intOf]
            · have hjp3 : (0 : Int) < (jj : Int) := by omega
              go_wp2_with (first | (at_builtin; refine Kd.R_append k145 (w0 := wi) w.heap.size rfl (.tmp 52) (.tmp 54) 48 145 (.agg #[.slice none 0 0]) 24 rfl Tryz.underlying48 (by kernel_rfl) rfl (by decide) (by decide) (.slice Av xs.length cv) xs ⟨rs⟩ [.slice Avr rs.length cvr] (fun k => k ≠ w.heap.size) (fun k => wq.heap.size < k) (by simp [Act.eval, Act.put]) (by simp [Act.eval, Act.put]) (k145_mkM _ _ _ _ HRS5.out) HAP.out (fun k hk => by omega) HO4.out (Below.refl _ _) hs4 (by have := HLJ.out; omega) ?_; intro v1 w6 hO hB hG hat; have HO6 := Aside0.mk hO; have HB6 := Aside0.mk hB; have HG6 := Aside0.mk hG; clear hO hB hG hat))
              refine ⟨⟨i, resQS sj, xs ++ [⟨rs⟩], by go_num, by omega, ⟨by have := HLJ.out; rw [List.length_append]; simp; omega⟩, ⟨by rw [E1.out, HX.out, List.append_assoc]; rfl⟩, E2, HO6, ⟨?_⟩⟩, ?_⟩
              · rw [HXS.out]
                exact HRI.out.grownBy (HRI.out.below.trans (HB6.out.mono (Nat.le_refl _))) HG6.out (fun k hk => (Kd.R_bound HO4.out).1 k hk |>.1)
              · simp [intOf]
        · obtain ⟨ii, rfl⟩ : ∃ ii, jj = ii + 1 := ⟨jj - 1, by omega⟩
          have hbad2 : si.2 = false := by simpa using fun h => hex2 (.inr h)
          rw [hbad2] at hcs
          have q1 : sevN rowQ rowQS (ii + 1) si = rowQ si :: sevN rowQ rowQS ii (rowQS si) := by rw [sevN, if_neg (by rw [hbad2]; decide)]
          have q2 : sevNS rowQ rowQS (ii + 1) si = sevNS rowQ rowQS ii (rowQS si) := by rw [sevNS, if_neg (by rw [hbad2]; decide)]
          rw [q1] at F1
          rw [q2] at F2
          clear q1 q2 hex2
          have hjp2 : (0 : Int) < ((ii + 1 : Nat) : Int) := by omega
          go_wp2_with fail
          refine (textQ_calls w _ w.heap.size si HRI.out).mono ?_
          rintro e w3 ⟨rfl, hR, hK⟩
          obtain ⟨tx, htx⟩ : ∃ tx, tx = textQ si := ⟨_, rfl⟩
          rw [← htx]
          have HTX := Aside0.mk htx
          have R3 := Aside0.mk hR
          have K3 := Aside0.mk (keep_then HKI.out hK)
          have B3 := keep_cells HBX.out (show wq.heap.size ≠ w.heap.size by omega) hK
          have RS3 := Aside0.mk (Kd.R_keep HRS.out hK (fun k (hk : wq.heap.size < k) => by omega))
          have hg3 : wq.heap.size < w3.heap.size := blk_lt B3
          clear hcs x0 xf
          have x0 := blk_cell B3 0
          have xf := blk_frozen B3 0
          have HB3 := Aside0.mk B3
          clear hR hK htx HRI HKI HBX HRS B3
          go_wp2_with fail
          go_region_law (first
            | (go_simp
               go_at_call 128
               refine (numberQ_calls w _ w.heap.size (textQS si) (drew_rf R3.out)).mono ?_
               rintro e w4 ⟨rfl, hR, hK⟩
               obtain ⟨n, hn⟩ : ∃ n, n = numQ (textQS si) 4 := ⟨_, rfl⟩
               rw [← hn]
               have HX := Aside0.mk (show rowQ si = ⟨tx, n⟩ by unfold rowQ; rw [← hn, ← HTX.out])
               have R4 := Aside0.mk hR
               have K4 := Aside0.mk (keep_then (keep_drew K3.out) hK)
               have B4 := keep_cells (blk_drew HB3.out) (show wq.heap.size ≠ w.heap.size by omega) hK
               have RS4 := Aside0.mk (Kd.R_keep (Kd.R_drew RS3.out) hK (fun k (hk : wq.heap.size < k) => by omega))
               have hg4 : wq.heap.size < w4.heap.size := blk_lt B4
               have x04 := blk_cell B4 0
               have HB4 := Aside0.mk B4
               clear hR hK hn B4)
            | (refine Kd.R_append_step k148 (w0 := w4) wq.heap.size (by simp [Region.wanted]) (.tmp 44) (.tmp 49) 143 148 (.agg #[.string ⟨#[]⟩, .int .u32 0]) 24 rfl Tryz.underlying143 (by kernel_rfl) rfl (by decide) (by decide) (.slice Avr rs.length cvr) rs ⟨tx, n⟩ [.string tx, .int .u32 n] (fun k => wq.heap.size < k) (fun _ => False) (by simp [Act.eval, Act.put]) (by simp [Act.eval, Act.put]) (k148_mkM _ _ _ _) (fun _ hk => hk.elim) (fun k hk => by omega) RS4.out (Below.refl _ _) (by omega) (by have := HJJ.out; omega) ?_
               intro v1 w5 hO hB hG hat
               have hown : ∀ k, (Value.slice Avr rs.length cvr).ownBlock = some k → wq.heap.size < k := fun k hk => (Kd.R_mono RS4.out (fun _ h => h)).1 k hk
               have hown2 : ∀ k, (Value.slice Avr rs.length cvr).ownBlock = some k → k < w4.heap.size := fun k hk => Kd.R_lt RS4.out k hk
               have B5 := blk_grown HB4.out hG (fun e => by have := hown _ e.symm; omega)
               obtain ⟨A5, c5, ev5, hc5, _⟩ := Kd.R_reads hO
               rw [show (rs ++ [(⟨tx, n⟩ : RowT')]).length = rs.length + 1 by rw [List.length_append]; rfl] at ev5
               subst ev5
               have y0 := blk_cell B5 0
               have yf := blk_frozen B5 0
               have R5 := Aside0.mk (R4.out.grownBy (R4.out.below.trans (hB.mono (by have := R4.out.below.size; omega))) hG (fun k hk => by have := hown k hk; omega))
               have K5 := Aside0.mk (keep_grown K4.out hG (fun k hk => by have := hown k hk; omega))
               have HB5 := Aside0.mk B5
               have HO5 := Aside0.mk hO
               have hg5 : wq.heap.size < w5.heap.size := blk_lt B5
               clear hO hB hG hat B5 hown hown2))
          all_goals
            go_wp2
            refine ⟨⟨ii, rowQS si, rs ++ [⟨tx, n⟩], _, by go_num, by omega, ⟨by have := HJJ.out; rw [List.length_append]; simp; omega⟩, ⟨by rw [F1.out, HX.out, List.append_assoc]; rfl⟩, F2, ⟨blk_put HB5.out 0 _ rfl⟩, ⟨Kd.R_far (p := ⟨wq.heap.size, 0, none⟩) HO5.out (fun k (hk : wq.heap.size < k) => by show k ≠ wq.heap.size; omega) _⟩, ⟨R5.out.set (b := wq.heap.size) (by omega) (by omega) 0 _⟩, ⟨keep_new K5.out (Nat.le_refl _) 0 _⟩⟩, ?_⟩
            simp [intOf]
end Go.Proofs.YtcohodkpppmaoaaGreatDoor.Q
namespace Go.Proofs.YtcohodkpppmaoaaGreatDoor.Q
open Go.RowKit Go.Proofs.YtcohodkpppmaoaaGreatDoorW.PrintWords Go.Proofs.YtcohodkpppmaoaaGreatDoorW.PrintLast Go.Proofs.YtcohodkpppmaoaaGreatDoorW.PrintMore
set_option linter.unusedVariables false
section
variable {w : World} {base : Nat} {ok : Nat → Prop} {v : Value}
theorem R_row {xs : List RowT'} (h : Kd.R k148 148 w base ok v xs) : Fd.Row fdRow 148 w v.ownBlock.toList v xs ∧ ∀ b ∈ v.ownBlock.toList, base ≤ b := by
  obtain ⟨_, inner, ho, hr⟩ := h
  exact ⟨⟨inner, [], own_less ho (Nat.zero_le _), els_fdRow (w := w) (hr.imp_ (fun _ _ hp => k148.K_of_M hp)), by simp⟩, fun b hb => own_base ho b (by simpa using hb)⟩
theorem R_C {α : Type} {d : Kd α} {e n c : Nat} {A : Option Addr} {xs : List α} (h : Kd.R d e w base ok (.slice A n c) xs) : d.C w A xs.length xs := by
  obtain ⟨A', c', ev, _, hC⟩ := Kd.R_reads h
  injection ev with e1 _ _
  subst e1
  exact hC
theorem R_owns {α : Type} {d : Kd α} {e n c : Nat} {A : Option Addr} {xs : List α} (h : Kd.R d e w base ok (.slice A n c) xs) : ∃ inner, w.ownsRow 0 e d.sz (.slice A n c) xs.length inner := by
  obtain ⟨_, inner, ho, hr⟩ := h
  exact ⟨inner, own_less ho (Nat.zero_le _)⟩
theorem res_els {f : Nat → Nat} {out : Option Nat} : ∀ (xs : List ResT') (n : Nat) (inner : List Value), inner.length = xs.length → (∀ (j : Nat) x, xs[j]? = some x → ∃ u, inner[j]? = some u ∧ k145.M w base (fun k => (ok k ∧ some k ≠ out) ∧ f k = n + j) x [u]) →
    ∃ G, Fd.Els fdResult w xs inner G ∧ G.Nodup ∧ ∀ b ∈ G, base ≤ b ∧ some b ≠ out ∧ n ≤ f b
  | [], n, inner, hl, _ => ⟨[], ⟨List.eq_nil_of_length_eq_zero hl, rfl⟩, by simp, fun _ hb => by cases hb⟩
  | x :: xs, n, [], hl, _ => by cases hl
  | x :: xs, n, u :: inner, hl, h => by
    obtain ⟨u', hu, hM⟩ := h 0 x rfl
    obtain rfl : u = u' := by simpa using hu
    obtain ⟨v, hv, hR⟩ : ∃ v, [u] = [v] ∧ Kd.R k148 148 w base (fun k => (ok k ∧ some k ≠ out) ∧ f k = n + 0) v x.f0 := hM
    obtain rfl : u = v := by simpa using hv
    obtain ⟨G, he, hn, hG⟩ := res_els xs (n + 1) inner (by simpa using hl) (fun j y hy => by
      have := h (j + 1) y (by simpa using hy)
      rwa [show n + (j + 1) = n + 1 + j by omega, List.getElem?_cons_succ] at this)
    have hr := R_row hR
    have hk : ∀ b ∈ u.ownBlock.toList, some b ≠ out ∧ f b = n := fun b hb => by
      have := hR.1 b (by simpa using hb)
      exact ⟨this.1.2, this.2⟩
    refine ⟨u.ownBlock.toList ++ G, ⟨[u], inner, _, G, rfl, rfl, ⟨u, rfl, hr.1⟩, he⟩, List.nodup_append.2 ⟨by cases u.ownBlock <;> simp, hn, ?_⟩, ?_⟩
    · intro a ha b hb e
      subst e
      have h1 := (hk a ha).2
      have h2 := (hG a hb).2.2
      omega
    · intro b hb
      rcases List.mem_append.1 hb with hb | hb
      · exact ⟨hr.2 b hb, (hk b hb).1, Nat.le_of_eq (hk b hb).2.symm⟩
      · have := hG b hb
        exact ⟨this.1, this.2.1, by omega⟩
theorem S_result {xs : List ResT'} (h : Kd.S k145 145 w base ok v xs) : ∃ F, Fd.Row fdResult 145 w F v xs ∧ F.Nodup ∧ ∀ b ∈ F, base ≤ b := by
  obtain ⟨f, h0, inner, ho, hr⟩ := h
  rw [List.length_zipIdx] at ho
  have hl : inner.length = xs.length := by have := ho.1; rwa [show (Kd.tag f k145).sz = 1 from rfl, Nat.mul_one] at this
  obtain ⟨G, he, hn, hG⟩ := res_els (w := w) (base := base) (ok := ok) (f := f) (out := v.ownBlock) xs 0 inner hl (fun j x hx => by
    have hM := hr.2 j (x, j) (Kd.zip_at hx)
    have hj : j < inner.length := by rw [hl]; exact (List.getElem?_eq_some_iff.1 hx).1
    refine ⟨inner[j], List.getElem?_eq_getElem hj, ?_⟩
    rw [show (Kd.tag f k145).sz = 1 from rfl, Nat.mul_one, List.drop_eq_getElem_cons hj, List.take_succ_cons, List.take_zero] at hM
    have hM2 : k145.M w base (fun k => (ok k ∧ some k ≠ v.ownBlock) ∧ f k = j) x [inner[j]] := hM
    rwa [show 0 + j = j from Nat.zero_add j])
  refine ⟨v.ownBlock.toList ++ G, ⟨inner, G, own_less ho (Nat.zero_le _), he, rfl⟩, List.nodup_append.2 ⟨by cases v.ownBlock <;> simp, hn, ?_⟩, ?_⟩
  · intro a ha b hb e
    subst e
    exact (hG a hb).2.1 (show v.ownBlock = some a by simpa using ha).symm
  · intro b hb
    rcases List.mem_append.1 hb with hb | hb
    · exact own_base ho b (by simpa using hb)
    · exact (hG b hb).1
end
end Go.Proofs.YtcohodkpppmaoaaGreatDoor.Q
namespace Go.Proofs.YtcohodkpppmaoaaGreatDoor.Q
open Go.RowKit Go.Proofs.YtcohodkpppmaoaaGreatDoorW.PrintWords Go.Proofs.YtcohodkpppmaoaaGreatDoorW.PrintLast Go.Proofs.YtcohodkpppmaoaaGreatDoorW.PrintMore
set_option linter.unusedVariables false
theorem sameRows_self (l : List RowT) (hl : l.length ≤ 9223372036854775807) (d : Nat) : ∀ i : Nat, i ≤ l.length → l.length - i = d → Ev (fun k => concordatlaw01_SameRows.l0 k l l (i : Int)) true := by
  induction d with
  | zero =>
    intro i h0 h1
    refine Ev.step (f := fun _ => some true) (fun k => ?_) (Ev.now _)
    simp only [concordatlaw01_SameRows.l0]
    rw [if_neg (by omega)]
  | succ d ih =>
    intro i h0 h1
    refine Ev.step (f := fun k => concordatlaw01_SameRows.l0 k l l (wrap64 ((i : Int) + 1))) (fun k => ?_) ?_
    · simp only [concordatlaw01_SameRows.l0]
      rw [if_pos (by omega), if_pos (by omega), if_pos (by omega), if_neg (by simp)]
    · rw [wrap_id _ (by omega) (by omega)]
      exact ih (i + 1) (by omega) (by omega)
theorem ev_sameResult (l : List RowT) (hl : l.length ≤ 9223372036854775807) : Ev (fun k => concordatlaw01_SameResult.f k l l) true := by
  unfold concordatlaw01_SameResult.f
  refine Ev.bind (a := true) ?_ (Ev.now _)
  unfold concordatlaw01_SameRows.f
  simp only [if_true]
  exact sameRows_self l hl l.length 0 (by omega) (by omega)
theorem sameResults_self (l : List ResultT) (hl : l.length ≤ 9223372036854775807) (hr : ∀ x ∈ l, x.f0.length ≤ 9223372036854775807) (d : Nat) : ∀ i : Nat, i ≤ l.length → l.length - i = d → Ev (fun k => concordatlaw01_SameResults.l0 k l l (i : Int)) true := by
  induction d with
  | zero =>
    intro i h0 h1
    refine Ev.step (f := fun _ => some true) (fun k => ?_) (Ev.now _)
    simp only [concordatlaw01_SameResults.l0]
    rw [if_neg (by omega)]
  | succ d ih =>
    intro i h0 h1
    refine Ev.step (f := fun k => (concordatlaw01_SameResult.f k (rd_T145 l i).f0 (rd_T145 l i).f0).bind fun t => (if t = true then (concordatlaw01_SameResults.l0 k l l (wrap64 ((i : Int) + 1))) else (some false))) (fun k => ?_) ?_
    · simp only [concordatlaw01_SameResults.l0]
      rw [if_pos (by omega), if_pos (by omega), if_pos (by omega)]
    · have hi : i < l.length := by omega
      have hm : rd_T145 l i ∈ l := by
        unfold rd_T145
        rw [Int.toNat_natCast, List.getD_eq_getElem?_getD, List.getElem?_eq_getElem hi]
        exact List.getElem_mem _
      refine Ev.bind (ev_sameResult _ (hr _ hm)) ?_
      simp only [if_true]
      rw [wrap_id _ (by omega) (by omega)]
      exact ih (i + 1) (by omega) (by omega)
theorem ev_sameResults (l : List ResultT) (hl : l.length ≤ 9223372036854775807) (hr : ∀ x ∈ l, x.f0.length ≤ 9223372036854775807) : Ev (fun k => concordatlaw01_SameResults.f k l l) true := by
  unfold concordatlaw01_SameResults.f
  simp only [if_true]
  exact sameResults_self l hl hr l.length 0 (by omega) (by omega)
def many : Nat := 140737488351232
theorem rowsSize_from (l : List RowT) (hl : l.length ≤ many) (hs : ∀ x ∈ l, x.f0.size ≤ many) (d : Nat) : ∀ (i : Nat) (n : Int), i ≤ l.length → l.length - i = d → 0 ≤ n → n ≤ 1000000000000000 → ∃ s, Ev (fun k => concordatlaw01_RowsSize.l0 k l n (i : Int)) s ∧ n ≤ s ∧ s ≤ 1000000000000000 := by
  unfold many at *
  induction d with
  | zero =>
    intro i n h0 h1 h2 h3
    refine ⟨n, Ev.step (f := fun _ => some n) (fun k => ?_) (Ev.now _), Int.le_refl _, h3⟩
    simp only [concordatlaw01_RowsSize.l0]
    rw [if_neg (by omega)]
  | succ d ih =>
    intro i n h0 h1 h2 h3
    have hi : i < l.length := by omega
    have hm : rd_T148 l i ∈ l := by
      unfold rd_T148
      rw [Int.toNat_natCast, List.getD_eq_getElem?_getD, List.getElem?_eq_getElem hi]
      exact List.getElem_mem _
    have hb := hs _ hm
    by_cases c : n ≤ 1048576
    · obtain ⟨s, he, hle, hle2⟩ := ih (i + 1) (n + ((rd_T148 l i).f0.size : Int)) (by omega) (by omega) (by omega) (by omega)
      refine ⟨s, Ev.step (f := fun k => concordatlaw01_RowsSize.l0 k l (n + ((rd_T148 l i).f0.size : Int)) ((i + 1 : Nat) : Int)) (fun k => ?_) he, by omega, hle2⟩
      simp only [concordatlaw01_RowsSize.l0]
      rw [if_pos (by omega), if_pos c, if_pos (by omega), wrap_id (n + _) (by omega) (by omega), wrap_id _ (by omega) (by omega)]
      rfl
    · refine ⟨n, Ev.step (f := fun _ => some n) (fun k => ?_) (Ev.now _), Int.le_refl _, h3⟩
      simp only [concordatlaw01_RowsSize.l0]
      rw [if_pos (by omega), if_neg c]
end Go.Proofs.YtcohodkpppmaoaaGreatDoor.Q
namespace Go.Proofs.YtcohodkpppmaoaaGreatDoor.Q
open Go.RowKit Go.Proofs.YtcohodkpppmaoaaGreatDoorW.PrintWords Go.Proofs.YtcohodkpppmaoaaGreatDoorW.PrintLast Go.Proofs.YtcohodkpppmaoaaGreatDoorW.PrintMore
set_option linter.unusedVariables false
theorem ev_ResultSize2 (l : List RowT) (hl : l.length ≤ many) (hs : ∀ x ∈ l, x.f0.size ≤ many) : ∃ s, Ev (fun k => concordatlaw01_ResultSize.f k l) s ∧ (l.length : Int) ≤ s ∧ s ≤ 1000000000000001 := by
  obtain ⟨s, he, h1, h2⟩ := rowsSize_from l hl hs l.length 0 l.length (by omega) (by omega) (by omega) (by unfold many at hl; omega)
  refine ⟨1 + s, ?_, by omega, by omega⟩
  unfold concordatlaw01_ResultSize.f
  refine Ev.bind he ?_
  rw [wrap_id _ (by omega) (by omega)]
  exact Ev.now _
theorem resultsSize_small (l : List ResultT) (hl : l.length ≤ many) (hs : ∀ x ∈ l, x.f0.length ≤ many ∧ ∀ r ∈ x.f0, r.f0.size ≤ many) (d : Nat) : ∀ (i : Nat) (n : Int), i ≤ l.length → l.length - i = d → 0 ≤ n → n ≤ 2000000000000000 → ∃ s, Ev (fun k => concordatlaw01_ResultsSize.l0 k l n (i : Int)) s ∧ n ≤ s ∧ (s ≤ 1048576 → ∀ x ∈ l.drop i, (x.f0.length : Int) ≤ s) ∧ s ≤ 2000000000000000 := by
  unfold many at *
  induction d with
  | zero =>
    intro i n h0 h1 h2 h3
    refine ⟨n, Ev.step (f := fun _ => some n) (fun k => ?_) (Ev.now _), Int.le_refl _, fun _ x hx => ?_, h3⟩
    · simp only [concordatlaw01_ResultsSize.l0]
      rw [if_neg (by omega)]
    · rw [List.drop_eq_nil_of_le (by omega)] at hx
      cases hx
  | succ d ih =>
    intro i n h0 h1 h2 h3
    have hi : i < l.length := by omega
    have hrd : rd_T145 l i = l[i] := by simp [rd_T145, hi]
    have hb := hs _ (List.getElem_mem hi)
    by_cases c : n ≤ 1048576
    · obtain ⟨t, ht, t0, t1⟩ := ev_ResultSize2 l[i].f0 (by unfold many; exact hb.1) (by unfold many; exact hb.2)
      obtain ⟨s, he, hle, hall, hle2⟩ := ih (i + 1) (n + t) (by omega) (by omega) (by omega) (by omega)
      refine ⟨s, Ev.step (f := fun k => (concordatlaw01_ResultSize.f k (rd_T145 l i).f0).bind fun t => (concordatlaw01_ResultsSize.l0 k l (wrap64 (n + t)) (wrap64 ((i : Int) + 1)))) (fun k => ?_) ?_, by omega, fun hsm x hx => ?_, hle2⟩
      · simp only [concordatlaw01_ResultsSize.l0]
        rw [if_pos (by omega), if_pos c, if_pos (by omega)]
      · rw [hrd]
        refine Ev.bind ht ?_
        rw [wrap_id (n + t) (by omega) (by omega), wrap_id _ (by omega) (by omega)]
        exact he
      · rw [List.drop_eq_getElem_cons hi] at hx
        rcases List.mem_cons.1 hx with rfl | hx
        · omega
        · exact hall hsm x hx
    · refine ⟨n, Ev.step (f := fun _ => some n) (fun k => ?_) (Ev.now _), Int.le_refl _, fun h => absurd h c, h3⟩
      simp only [concordatlaw01_ResultsSize.l0]
      rw [if_pos (by omega), if_neg c]
theorem ev_ResultsSize2 (l : List ResultT) (hl : l.length ≤ many) (hs : ∀ x ∈ l, x.f0.length ≤ many ∧ ∀ r ∈ x.f0, r.f0.size ≤ many) : ∃ s, Ev (fun k => concordatlaw01_ResultsSize.f k l) s ∧ (l.length : Int) ≤ s ∧ (s ≤ 1048576 → ∀ x ∈ l, (x.f0.length : Int) ≤ s) ∧ s ≤ 2000000000000000 :=
  resultsSize_small l hl hs l.length 0 l.length (by omega) (by omega) (by omega) (by unfold many at hl; omega)
end Go.Proofs.YtcohodkpppmaoaaGreatDoor.Q
namespace Go.Proofs.YtcohodkpppmaoaaGreatDoor.Q
open Go.RowKit Go.Proofs.YtcohodkpppmaoaaGreatDoorW.PrintWords Go.Proofs.YtcohodkpppmaoaaGreatDoorW.PrintLast Go.Proofs.YtcohodkpppmaoaaGreatDoorW.PrintMore
set_option linter.unusedVariables false
theorem ev_same {a b : List Int} (h : a = b) (hl : a.length ≤ 9223372036854775807) : Ev (fun k => concordatlaw01_SameBytes.f k a b) true := ev_eq (decide_eq_true h) (ev_SameBytes a b hl)

end Go.Proofs.YtcohodkpppmaoaaGreatDoor.Q
namespace Go.Proofs.YtcohodkpppmaoaaGreatDoor.Q
open Go.RowKit Go.Proofs.YtcohodkpppmaoaaGreatDoorW.PrintWords Go.Proofs.YtcohodkpppmaoaaGreatDoorW.PrintLast Go.Proofs.YtcohodkpppmaoaaGreatDoorW.PrintMore
set_option linter.unusedVariables false
theorem getR_length {α : Type} (r : RdS → α) (st : RdS → RdS) (put : List α → List Int × Int) (l0 : List Int) (hb : ∀ x ∈ l0, 0 ≤ x ∧ x < 256) : (getR r st put l0).1.length < 65536 := by
  have h := sevR_length r st (l0, false) hb
  unfold getR
  repeat' split
  all_goals first | exact h | simp
end Go.Proofs.YtcohodkpppmaoaaGreatDoor.Q
namespace Go.Proofs.YtcohodkpppmaoaaGreatDoor.Q
open Go.RowKit Go.Proofs.YtcohodkpppmaoaaGreatDoorW.PrintWords Go.Proofs.YtcohodkpppmaoaaGreatDoorW.PrintLast Go.Proofs.YtcohodkpppmaoaaGreatDoorW.PrintMore
set_option linter.unusedVariables false
theorem infoTwBytes : (Tryz.prog.info? 5).map (fun i => (i.zero, i.size, i.bytes)) = some (some (.int .u8 0), 1, 1) := by kernel_rfl
theorem readBytes (l : List Int) (k : Nat) (hk : k < l.length) : l.take (k + 1) = l.take k ++ [rd l (k : Int)] := by
  rw [List.take_succ_eq_append_getElem hk]
  simp [rd, hk]
set_option maxHeartbeats 3200000 in
set_option maxRecDepth 100000 in
theorem twinBytes_calls (w : World) (A0 : Option Addr) (c0 : Nat) (l : List Int) (hr : Kd.C (Kd.int .u8) w A0 l.length l) (hc0 : l.length ≤ c0) (hl : l.length ≤ 1000000000) :
    Calls Tryz.prog 29 #[.slice A0 l.length c0] w fun e w' => ∃ v, e = .returned v ∧ ∃ F, Twin fdByte 5 w' F v l 77 ∧ F.Nodup ∧ (∀ b ∈ F, w.heap.size ≤ b) ∧ Below w.heap.size w w' := by
  obtain ⟨MC, hMS, HMK⟩ : ∃ MC : Array Value, MC.size = (l.length + 1) * 1 ∧ ∀ W : World, (Instr.makeSlice 67 (.int .i64 0) (.int .i64 ((l.length : Int) + 1))).run Tryz.prog W = .ok (.slice (some ⟨W.heap.size, 0, none⟩) 0 (l.length + 1)) (W.alloc (.cells MC 5)) := ⟨madeCells ((.int .u8 0) : Value).cells ((l.length + 1) * 1), madeCells_size _ _, fun W => by
    have h := run_make0 (P := Tryz.prog) 67 5 (.int .u8 0) 1 1 Tryz.underlying67 infoTwBytes (by decide) (l.length + 1) (by omega) W
    rwa [show ((l.length + 1 : Nat) : Int) = (l.length : Int) + 1 by omega] at h⟩
  have hw1 : IntKind.i64.wrap ((l.length : Int) + 1) = (l.length : Int) + 1 := IntWalk.i64_in _ (by omega)
  have HC := Aside0.mk hr
  have hul := Tryz.underlying5
  clear hr
  go_enter Tryz.func29, Tryz.ntmps29
  go_wp2
  obtain ⟨wo, hwo⟩ : ∃ wo, wo = w.alloc (.cells MC 5) := ⟨_, rfl⟩
  have HB0 := Aside0.mk (show Below w.heap.size w wo by rw [hwo]; exact below_alloc (Below.refl _ _) _)
  have HR0 := Aside0.mk (show Fd.Row fdByte 5 wo [w.heap.size] (.slice (some ⟨w.heap.size, 0, none⟩) 0 (l.length + 1)) [] by
    rw [hwo]; exact made0_row fdByte 5 w _ (l.length + 1) (by omega) hMS)
  rw [← hwo]
  clear hwo HMK
  go_loopw [3, 4] (fun v i wr => ∃ (k : Nat) (F : List Nat), k ≤ l.length ∧ i = .int .i64 k ∧ Aside0 (Fd.Row fdByte 5 wr F v (l.take k)) ∧ Aside0 F.Nodup ∧ Aside0 (∀ b ∈ F, w.heap.size ≤ b) ∧ Aside0 (Below w.heap.size w wr)) (fun _ i _ => l.length - (intOf i).toNat)
  case atStart => exact ⟨0, [w.heap.size], Nat.zero_le _, rfl, HR0, ⟨by simp⟩, ⟨by simp⟩, HB0⟩
  case round =>
    clear HR0 HB0
    obtain ⟨wq, hwq⟩ : ∃ wq, wq = wr := ⟨_, rfl⟩
    subst hwq
    obtain ⟨k, F, hk, rfl, HR, HN, HF, HB⟩ := hrel
    obtain ⟨Av, cv, ev, hcv, _⟩ := Fd.row_reads HR.out
    rw [List.length_take, Nat.min_eq_left hk] at ev hcv
    subst ev
    have hsz : w.heap.size ≤ wq.heap.size := HB.out.size
    by_cases hlt : k < l.length
    · have hlt' : (k : Int) < (l.length : Int) := by omega
      have hk0 : (0 : Int) ≤ (k : Int) := by omega
      obtain ⟨ad, e1, hx0⟩ := Kd.at_int (Kd.C_below HC.out HB.out) (k : Int) hk0 hlt'
      subst e1
      simp only [Int.toNat_natCast] at hx0
      have HTK := Aside0.mk (readBytes l k hlt)
      generalize rd l (k : Int) = x at *
      have HM := Aside0.mk (show fdByte.M wq [] x [.int .u8 x] from ⟨rfl, rfl⟩)
      go_wp2_with (first | (at_builtin; (refine Fd.R_append (W := wq) fdByte rfl (.tmp 15) (.tmp 20) 67 5 (.int .u8 0) 1 rfl Tryz.underlying67 infoTwBytes rfl (show 0 < 1 from by decide) (by decide) (.slice Av k cv) (l.take k) x [.int .u8 x] F [] rfl rfl HM.out HR.out (by rw [List.append_nil]; exact HN.out) (by rw [List.length_take]; omega) ?_); intro v1 w6 F6 h1 h2 h3 h4; have R6 := Aside0.mk h1; have N6 := Aside0.mk h2; have K6 := Aside0.mk h3; have L6 := Aside0.mk h4; clear h1 h2 h3 h4))
      go_roundw
      case rel =>
        refine ⟨k + 1, F6, by omega, by go_num, ⟨by rw [HTK.out]; exact R6.out⟩, N6, ⟨fun b hb => ?_⟩, ⟨HB.out.trans (K6.out.below HF.out hsz)⟩⟩
        rcases L6.out b hb with h | h | h
        · exact HF.out b h
        · cases h
        · omega
      case measure => simp [intOf]; omega
    · obtain rfl : k = l.length := by omega
      have hlt' : ¬ ((l.length : Int) < (l.length : Int)) := by omega
      have etk : l.take l.length = l := List.take_of_length_le (Nat.le_refl _)
      rw [etk] at HR
      have HM := Aside0.mk (show fdByte.M wq [] 77 [.int .u8 77] from ⟨rfl, rfl⟩)
      unfold spareKey at HM
      have HU := Aside0.mk infoTwBytes
      go_wp2_with (first | (at_builtin; (refine Fd.R_append (W := wq) fdByte rfl (.tmp 22) (.tmp 23) 67 5 (.int .u8 0) 1 rfl Tryz.underlying67 infoTwBytes rfl (show 0 < 1 from by decide) (by decide) (.slice Av l.length cv) l 77 [.int .u8 77] F [] rfl rfl HM.out HR.out (by rw [List.append_nil]; exact HN.out) (by omega) ?_); intro v1 w6 F6 h1 h2 h3 h4; obtain ⟨A2, c2, ev2, hc2, _⟩ := Fd.row_reads h1; rw [List.length_append, List.length_singleton] at ev2 hc2; subst ev2; have hcut := cut_up (P := Tryz.prog) 67 5 .i64 Tryz.underlying67 HU.out A2 (l.length + 1) c2 (l.length : Int) (by omega) (by omega); rw [Int.toNat_natCast] at hcut; have R6 := Aside0.mk h1; have N6 := Aside0.mk h2; have K6 := Aside0.mk h3; have L6 := Aside0.mk h4; clear h1 h2 h3 h4))
      go_ret
      refine ⟨_, rfl, F6, ⟨A2, c2, rfl, hc2, R6.out⟩, N6.out, fun b hb => ?_, HB.out.trans (K6.out.below HF.out hsz)⟩
      rcases L6.out b hb with h | h | h
      · exact HF.out b h
      · cases h
      · omega
theorem readLBytes (l : List Int) (k : Nat) (hk : k < l.length) : rd (l ++ [77]) (k : Int) = rd l (k : Int) := by
  simp [rd, List.getElem?_append_left hk]
theorem readSBytes (l : List Int) : rd (l ++ [77]) (l.length : Int) = 77 := by
  simp [rd]
set_option maxHeartbeats 3200000 in
set_option maxRecDepth 100000 in
theorem leftBytes_calls (w : World) (At : Option Addr) (ct : Nat) (A0 : Option Addr) (c0 : Nat) (l : List Int) (ht : Kd.C (Kd.int .u8) w At (l.length + 1) (l ++ [77])) (hct : l.length + 1 ≤ ct) (hr : Kd.C (Kd.int .u8) w A0 l.length l) (hc0 : l.length ≤ c0) (hl : l.length ≤ 1000000000) :
    Calls Tryz.prog 37 #[.slice At l.length ct, .slice A0 l.length c0] w fun e w' => e = .returned (.bool true) ∧ Below w.heap.size w w' := by
  have hw1 : IntKind.i64.wrap ((l.length : Int) + 1) = (l.length : Int) + 1 := IntWalk.i64_in _ (by omega)
  have hcap : ¬ ((ct : Int) ≤ (l.length : Int)) := by omega
  have hcut := cut_up (P := Tryz.prog) 67 5 .i64 Tryz.underlying67 infoTwBytes At l.length ct ((l.length : Int) + 1) (by omega) (by omega)
  rw [show ((l.length : Int) + 1).toNat = l.length + 1 by omega] at hcut
  have hul := Tryz.underlying5
  have HT := Aside0.mk ht
  have HC := Aside0.mk hr
  clear ht hr
  go_enter Tryz.func37, Tryz.ntmps37
  go_wp2
  go_loopw [5] (fun i wr => ∃ (k : Nat), k ≤ l.length ∧ i = .int .i64 k ∧ ∃ m, wr = w.drewN m) (fun i _ => l.length - (intOf i).toNat)
  case atStart => exact ⟨0, Nat.zero_le _, rfl, 0, rfl⟩
  case round =>
    obtain ⟨k, hk, rfl, m, rfl⟩ := hrel
    have hb := pw_below_drewN (Below.refl w.heap.size w) m
    by_cases hlt : k < l.length
    · have hlt' : (k : Int) < (l.length : Int) := by omega
      have hk0 : (0 : Int) ≤ (k : Int) := by omega
      obtain ⟨ad, e1, hx0⟩ := Kd.at_int HC.out (k : Int) hk0 hlt'
      subst e1
      obtain ⟨at_, e1, hy0⟩ := Kd.at_int HT.out (k : Int) hk0 (by omega)
      subst e1
      simp only [Int.toNat_natCast] at hx0 hy0
      simp only [readLBytes l k hlt] at hy0
      generalize rd l (k : Int) = x at *
      go_wp2
      repeat (go_quiet (fail); try go_wp2)
      go_roundw
      case rel => exact ⟨k + 1, by omega, by go_num, _, rfl⟩
      case measure => simp [intOf]; omega
    · obtain rfl : k = l.length := by omega
      have hlt' : ¬ ((l.length : Int) < (l.length : Int)) := by omega
      obtain ⟨at_, e1, hy0⟩ := Kd.at_int HT.out (l.length : Int) (by omega) (by omega)
      subst e1
      simp only [Int.toNat_natCast] at hy0
      simp only [readSBytes l] at hy0
      try simp only [spareKey] at hy0
      replace hy0 := cell_on hb hy0
      generalize w.drewN m = W at *
      have HB := Aside0.mk hb
      clear hb
      go_wp2
      repeat (go_quiet (fail); try go_wp2)
      go_ret
      exact ⟨rfl, HB.out⟩
end Go.Proofs.YtcohodkpppmaoaaGreatDoor.Q
