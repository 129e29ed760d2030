/-
  The reader of bytes (rows.reader): where it stands; take, number, text.
-/
import Derived.Test.YtcohodkpppmaoaaDoorText
import Derived.BigRegion
namespace Go.Proofs.YtcohodkpppmaoaaDoor.Q
open Go.RowKit Go.Proofs.YtcohodkpppmaoaaDoorW.PrintWords Go.Proofs.YtcohodkpppmaoaaDoorW.PrintLast Go.Proofs.YtcohodkpppmaoaaDoorW.PrintMore
set_option linter.unusedVariables false

/-! ### plain -/
abbrev RdS := List Int × Bool
def takeR (s : RdS) (n : Nat) : List Int := if s.1.length < n then List.replicate n 0 else s.1.take n
def takeS (s : RdS) (n : Nat) : RdS := if s.1.length < n then (s.1, true) else (s.1.drop n, s.2)
def foldN (l : List Int) : Int := l.foldl (fun n c => (n * 256 + c) % 4294967296) 0
def numR (s : RdS) (n : Nat) : Int := foldN (takeR s n)
def textR (s : RdS) : ByteArray := strOfNums (takeR (takeS s 1) (numR s 1).toNat)
def textS (s : RdS) : RdS := takeS (takeS s 1) (numR s 1).toNat

/-- A reader at block g that was made behind w0; the bytes that it has still to give lie in w0. -/
structure Rd (w0 w : World) (g : Nat) (s : RdS) : Prop where
  below : Below w0.heap.size w0 w
  far : w0.heap.size ≤ g
  row : ∃ A c, w.heap[g]? = some (.cells #[.slice A s.1.length c, .bool s.2] 124 (0, 0)) ∧ s.1.length ≤ c ∧ s.1.length ≤ maxLen ∧ Kd.C (Kd.int .u8) w0 A s.1.length s.1
  bytes : ∀ x ∈ s.1, 0 ≤ x ∧ x < 256

theorem Rd.drew {w0 w : World} {g : Nat} {s : RdS} (h : Rd w0 w g s) (n : Nat) : Rd w0 (w.drewN n) g s :=
  ⟨pw_below_drewN h.below n, h.far, h.row, h.bytes⟩
theorem drew_rd {w0 w : World} {g : Nat} {s : RdS} (h : Rd w0 w g s) : Rd w0 w.drew g s := h.drew 1
/-- What keeps all but g's block, and finds g's block as told. -/
theorem Rd.grown {w0 w w1 : World} {g : Nat} {s : RdS} (h : Rd w0 w g s) (hb : Below w.heap.size w w1) : Rd w0 w1 g s := by
  obtain ⟨A, c, hr, h1, h2, h3⟩ := h.row
  have hlt : g < w.heap.size := blk_lt hr
  exact ⟨h.below.trans (hb.mono (h.below.size)), h.far, ⟨A, c, (hb.block g hlt).trans hr, h1, h2, h3⟩, h.bytes⟩

theorem rd_uint8 : ∃ i, Tryd.prog.info? 5 = some i ∧ i.size = 1 := by
  have h := info5
  cases e : Tryd.prog.info? 5 with
  | none => rw [e] at h; simp at h
  | some i => rw [e] at h; simp at h; exact ⟨i, rfl, h.2.1⟩

set_option maxHeartbeats 1600000 in
set_option maxRecDepth 100000 in
theorem take_calls (w0 w : World) (g : Nat) (s : RdS) (n : Nat) (hn : n ≤ 256) (h : Rd w0 w g s) :
    Calls Tryd.prog 83 #[.pointer (some ⟨g, 0, none⟩), .int .i64 n] w fun e w' => ∃ A c, e = .returned (.slice A n c) ∧ n ≤ c ∧ Kd.C (Kd.int .u8) w' A n (takeR s n) ∧ Rd w0 w' g (takeS s n) ∧ KeepBut w w' g none := by
  obtain ⟨A, c, hb, hc, hm, hC⟩ := h.row
  have c0 : w.cell? ⟨g, 0, none⟩ = some (.slice A s.1.length c) := by simp [World.cell?, hb]
  have c1 : w.cell? ⟨g, 1, none⟩ = some (.bool s.2) := by simp [World.cell?, hb]
  have f0 : w.frozen? ⟨g, 0, none⟩ = false := blk_frozen hb _
  have f1 : w.frozen? ⟨g, 1, none⟩ = false := blk_frozen hb _
  unfold maxLen at hm
  have HC := Aside0.mk hC
  have H := Aside0.mk h
  have HBK := Aside0.mk hb
  clear hC h hb
  by_cases hlt : s.1.length < n
  · have hlt' : (s.1.length : Int) < (n : Int) := by omega
    have er : takeR s n = List.replicate n 0 := if_pos hlt
    have es : takeS s n = (s.1, true) := if_pos hlt
    rw [er, es]
    go_enter Tryd.func83, Tryd.ntmps83
    go_wp2_with (first | (refine Kd.R_make (Kd.int .u8) (w0 := w.setCell ⟨g, 1, none⟩ (.bool true)) (w.setCell ⟨g, 1, none⟩ (.bool true)).heap.size 5 rfl rfl 32 (.tmp 15) (.tmp 15) rfl (n : Int) rfl rfl Tryd.underlying32 (.int .u8 0) 1 info5 rfl (by decide) (by decide) 0 (ok := fun _ => True) (okp := fun _ => False) rfl (fun _ _ => trivial) trivial (by omega) (by omega) (Below.refl _ _) (Nat.le_refl _) ?_; intro v1 w1 hR hB hG hO; have HR := Aside0.mk hR; have HB := Aside0.mk hB; clear hR hB hG hO))
    go_ret
    obtain ⟨A1, c1, rfl, hc1, hC1⟩ := Kd.R_reads HR.out
    rw [show (List.replicate (n : Int).toNat (0 : Int)).length = n by simp] at *
    rw [show (n : Int).toNat = n by simp] at hC1
    have hb1 := blk_put HBK.out 1 (.bool true) (cs' := #[.slice A s.1.length c, .bool true]) rfl
    have hst : Rd w0 (w.setCell ⟨g, 1, none⟩ (.bool true)) g (s.1, true) :=
      ⟨H.out.below.setCell H.out.far _, H.out.far, ⟨A, c, hb1, hc, hm, HC.out⟩, H.out.bytes⟩
    exact ⟨A1, c1, rfl, hc1, hC1, hst.grown HB.out, ((KeepBut.refl w g none).set_ 1 _).trans (KeepBut.of_below HB.out g none) (.inl rfl)⟩
  · have hlt' : ¬ (s.1.length : Int) < (n : Int) := by omega
    have er : takeR s n = s.1.take n := if_neg hlt
    have es : takeS s n = (s.1.drop n, s.2) := if_neg hlt
    rw [er, es]
    obtain ⟨iu, hiu, hsz⟩ := rd_uint8
    have hs1 := cut_to (P := Tryd.prog) 32 5 .i64 Tryd.underlying32 hiu A s.1.length c (n : Int) (by omega) (by omega) hc
    have hs2 := cut_from (P := Tryd.prog) 32 5 .i64 Tryd.underlying32 hiu 1 hsz A s.1.length c (n : Int) (by omega) (by omega)
    obtain ⟨A1, hA1⟩ : ∃ A1, A1 = if c = n then A else Option.map (fun x => x.add n) A := ⟨_, rfl⟩
    simp only [Int.toNat_natCast, Nat.mul_one] at hs2
    rw [← hA1] at hs2
    have HA1 := Aside0.mk hA1
    clear hA1
    go_enter Tryd.func83, Tryd.ntmps83
    go_wp2_with fail
    go_region
    go_wp2
    go_ret
    have hl1 : (s.1.take n).length = n := by rw [List.length_take]; omega
    have hl2 : (s.1.drop n).length = s.1.length - n := List.length_drop
    have hC1 := Kd.C_take HC.out (m := n) (by omega)
    have hC2 := Kd.C_drop HC.out (m := n) (by omega) hc
    rw [hl1] at hC1
    rw [show n * (Kd.int .u8).sz = n from Nat.mul_one n, ← HA1.out] at hC2
    have hb1 := blk_put HBK.out 0 (.slice A1 (s.1.length - n) (c - n)) (cs' := #[.slice A1 (s.1.length - n) (c - n), .bool s.2]) rfl
    have hst : Rd w0 (w.setCell ⟨g, 0, none⟩ (.slice A1 (s.1.length - n) (c - n))) g (s.1.drop n, s.2) :=
      ⟨H.out.below.setCell H.out.far _, H.out.far, ⟨_, c - n, by rw [hl2]; exact hb1, by rw [hl2]; omega, by rw [hl2]; unfold maxLen; omega, hC2⟩, fun x hx => H.out.bytes x (List.mem_of_mem_drop hx)⟩
    exact ⟨A, c, rfl, by omega, Kd.C_below hC1 (drew_rd hst).below, drew_rd hst, keep_drew ((KeepBut.refl w g none).set_ 0 _)⟩

theorem u32_join (x y : Int) (h0 : 0 ≤ y) (h1 : y < 256) : bits .or .u32 (x * 256 % 4294967296) y = (x * 256 + y) % 4294967296 := by
  have h := bits_join .u32 32 (by decide) (fun n a b => by rw [IntKind.wrap_u32]; omega) 8 (x * 256 % 4294967296) y (by omega) (by omega) (by omega) h0 (by omega) (by omega)
  exact h.trans (by omega)

theorem takeR_bytes {s : RdS} (hs : ∀ x ∈ s.1, 0 ≤ x ∧ x < 256) (n : Nat) : ∀ x ∈ takeR s n, 0 ≤ x ∧ x < 256 := by
  intro x hx
  unfold takeR at hx
  split at hx
  · obtain ⟨_, rfl⟩ := List.mem_replicate.1 hx; omega
  · exact hs x (List.mem_of_mem_take hx)
theorem takeR_length (s : RdS) (n : Nat) : (takeR s n).length = n := by
  unfold takeR
  split
  · simp
  · rw [List.length_take]; omega

set_option maxHeartbeats 1600000 in
set_option maxRecDepth 100000 in
theorem number_calls (w0 w : World) (g : Nat) (s : RdS) (n : Nat) (hn : n ≤ 256) (h : Rd w0 w g s) :
    Calls Tryd.prog 66 #[.pointer (some ⟨g, 0, none⟩), .int .i64 n] w fun e w' => e = .returned (.int .u32 (numR s n)) ∧ Rd w0 w' g (takeS s n) ∧ KeepBut w w' g none := by
  have hby := takeR_bytes h.bytes n
  have hln := takeR_length s n
  unfold numR
  obtain ⟨l, hle⟩ : ∃ l, l = takeR s n := ⟨_, rfl⟩
  rw [← hle] at hby hln ⊢
  have HLE := Aside0.mk hle
  clear hle
  have H := Aside0.mk h
  clear h
  go_enter Tryd.func66, Tryd.ntmps66
  go_wp2_with fail
  refine (take_calls w0 _ g s n hn H.out).mono ?_
  rintro e w1 ⟨A, c, rfl, hc, hC, hR, hK⟩
  rw [← HLE.out] at hC
  have HC := Aside0.mk hC
  have HR := Aside0.mk hR
  have HK := Aside0.mk hK
  clear hC hR hK
  go_wp2
  go_loop [4, 11] (fun x i => ∃ k : Nat, k ≤ n ∧ x = .int .u32 (foldN (l.take k)) ∧ i = .int .i64 k) (fun _ i => n - (intOf i).toNat)
  case atStart => exact ⟨0, Nat.zero_le _, rfl, rfl⟩
  case round =>
    obtain ⟨k, hk, rfl, rfl⟩ := hrel
    by_cases hlt : k < n
    · have hlt' : (k : Int) < (n : Int) := by omega
      obtain ⟨ad, cs, rfl, hcl, hKc, hcell⟩ := Kd.C_get HC.out 0 (k : Int) (by omega) (by omega)
      have e1 : cs = [.int .u8 (l.getD k 0)] := hKc
      subst e1
      have hx := hcell 0 (.int .u8 (l.getD k 0)) rfl
      simp only [Int.toNat_natCast, Nat.mul_one, Nat.add_zero, show (Kd.int .u8).sz = 1 from rfl] at hx
      have hg : l.getD k 0 = l[k]'(by omega) := by rw [List.getD_eq_getElem?_getD, List.getElem?_eq_getElem (by omega)]; rfl
      have hb := hby (l[k]'(by omega)) (List.getElem_mem _)
      rw [← hg] at hb
      generalize l.getD k 0 = b at *
      have HG := Aside0.mk hg
      clear hg
      go_wp2
      go_round
      case rel =>
        refine ⟨k + 1, by omega, ?_, by go_num⟩
        rw [u32_join _ _ hb.1 hb.2, List.take_succ_eq_append_getElem (by omega), ← HG.out]
        unfold foldN
        rw [List.foldl_append]
        rfl
      case measure => simp [intOf]; omega
    · go_wp2
      have e2 : l.take k = l := List.take_of_length_le (by omega)
      rw [e2]
      go_ret
      exact ⟨rfl, HR.out, HK.out⟩

theorem foldN_append (l : List Int) (x : Int) : foldN (l ++ [x]) = (foldN l * 256 + x) % 4294967296 := by unfold foldN; rw [List.foldl_append]; rfl
theorem foldN_range (l : List Int) : 0 ≤ foldN l ∧ foldN l < 4294967296 := by
  have h : ∀ (l : List Int) (a : Int), 0 ≤ a ∧ a < 4294967296 → 0 ≤ l.foldl (fun n c => (n * 256 + c) % 4294967296) a ∧ l.foldl (fun n c => (n * 256 + c) % 4294967296) a < 4294967296 := by
    intro l
    induction l with
    | nil => intro a h; exact h
    | cons x l ih => intro a h; exact ih ((a * 256 + x) % 4294967296) (by omega)
  exact h l 0 (by decide)
theorem numR_one {s : RdS} (hs : ∀ x ∈ s.1, 0 ≤ x ∧ x < 256) : 0 ≤ numR s 1 ∧ numR s 1 < 256 := by
  have h1 := takeR_length s 1
  have h2 := takeR_bytes hs 1
  unfold numR
  match h : takeR s 1 with
  | [] => rw [h] at h1; cases h1
  | [x] =>
    have := h2 x (by rw [h]; simp)
    simp [foldN]
    omega
  | x :: y :: l => rw [h] at h1; simp at h1
theorem numR_two {s : RdS} (hs : ∀ x ∈ s.1, 0 ≤ x ∧ x < 256) : 0 ≤ numR s 2 ∧ numR s 2 < 65536 := by
  have h1 := takeR_length s 2
  have h2 := takeR_bytes hs 2
  unfold numR
  match h : takeR s 2 with
  | [] => rw [h] at h1; cases h1
  | [x] => rw [h] at h1; simp at h1
  | [x, y] =>
    have := h2 x (by rw [h]; simp)
    have := h2 y (by rw [h]; simp)
    simp [foldN]
    omega
  | x :: y :: z :: l => rw [h] at h1; simp at h1
theorem numR_range (s : RdS) (n : Nat) : 0 ≤ numR s n ∧ numR s n < 4294967296 := foldN_range _

set_option maxHeartbeats 1600000 in
set_option maxRecDepth 100000 in
theorem text_calls (w0 w : World) (g : Nat) (s : RdS) (h : Rd w0 w g s) :
    Calls Tryd.prog 67 #[.pointer (some ⟨g, 0, none⟩)] w fun e w' => e = .returned (.string (textR s)) ∧ Rd w0 w' g (textS s) ∧ KeepBut w w' g none := by
  have hn := numR_one h.bytes
  obtain ⟨m, hm⟩ : ∃ m : Nat, numR s 1 = m := ⟨(numR s 1).toNat, by omega⟩
  have hm' : m < 256 := by omega
  unfold textR textS
  rw [hm, Int.toNat_natCast]
  clear hn
  have HM := Aside0.mk hm
  have H := Aside0.mk h
  clear h hm
  go_enter Tryd.func67, Tryd.ntmps67
  go_wp2_with fail
  refine (number_calls w0 _ g s 1 (by omega) H.out).mono ?_
  rintro e w1 ⟨rfl, hR, hK⟩
  rw [HM.out]
  have HR := Aside0.mk hR
  have HK := Aside0.mk hK
  clear hR hK
  go_wp2_with fail
  refine (take_calls w0 _ g (takeS s 1) m (by omega) HR.out).mono ?_
  rintro e w2 ⟨A, c, rfl, hc, hC, hR, hK⟩
  have hcv := Kd.C_string (P := Tryd.prog) (src := 32) (dst := 9) (c := c) Tryd.underlying32 Tryd.underlying5 Tryd.underlying9 hC
  have HR2 := Aside0.mk hR
  have HK2 := Aside0.mk hK
  clear hR hK hC
  go_wp2
  go_ret
  exact ⟨rfl, HR2.out, HK.out.trans HK2.out (.inl rfl)⟩

end Go.Proofs.YtcohodkpppmaoaaDoor.Q
