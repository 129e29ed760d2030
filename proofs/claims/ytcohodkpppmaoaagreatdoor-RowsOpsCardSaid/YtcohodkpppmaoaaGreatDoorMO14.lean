/-
  The reader of bytes (rows.reader): where it stands; take, number, text.
  One op, one change, one row off the reader.
  As many as their count tells: ops, changes, rows, results.
  rows.get: a list that is put as it was.
  The reference's reader (which, once it has come up short, gives nothing any more) answers as the program's one does.
  The reference's reader (concordatref02.reader): where it stands; take, count, number, text.
  The reference's Check of keys, as printed: whether the text is a key.
  The reference's PutChanges, and the comparison of two rows of bytes, as printed: the plain words of XSpec.
  What is put is got, what is got was put: the plain laws of the reader. No program in sight.
-/
import Derived.Test.YtcohodkpppmaoaaGreatDoorMO1
import Derived.BigRegion
import Derived.Test.YtcohodkpppmaoaaGreatDoorMO2
import Derived.Test.YtcohodkpppmaoaaGreatDoorMO3
import Derived.Test.YtcohodkpppmaoaaGreatDoorMO13
import Derived.BigQuiet
import Derived.Test.YtcohodkpppmaoaaGreatDoorMO4
set_option linter.unusedSimpArgs false
set_option linter.unusedVariables false
namespace Go.Proofs.YtcohodkpppmaoaaGreatDoor.Q
open Go.RowKit Go.Proofs.YtcohodkpppmaoaaGreatDoorW.PrintWords Go.Proofs.YtcohodkpppmaoaaGreatDoorW.PrintLast Go.Proofs.YtcohodkpppmaoaaGreatDoorW.PrintMore
set_option linter.unusedVariables false

abbrev RdS := List Int × Bool
def takeR (s : RdS) (n : Nat) : List Int := if s.1.length < n then List.replicate n 0 else s.1.take n
def takeS (s : RdS) (n : Nat) : RdS := if s.1.length < n then (s.1, true) else (s.1.drop n, s.2)
def foldN (l : List Int) : Int := l.foldl (fun n c => (n * 256 + c) % 4294967296) 0
def numR (s : RdS) (n : Nat) : Int := foldN (takeR s n)
def textR (s : RdS) : ByteArray := strOfNums (takeR (takeS s 1) (numR s 1).toNat)
def textS (s : RdS) : RdS := takeS (takeS s 1) (numR s 1).toNat

/-- A reader at block g that was made behind w0; the bytes that it has still to give lie in w0. -/
structure Rd (w0 w : World) (g : Nat) (s : RdS) : Prop where
  below : Below w0.heap.size w0 w
  far : w0.heap.size ≤ g
  row : ∃ A c, w.heap[g]? = some (.cells #[.slice A s.1.length c, .bool s.2] 229 (0, 0)) ∧ s.1.length ≤ c ∧ s.1.length ≤ maxLen ∧ Kd.C (Kd.int .u8) w0 A s.1.length s.1
  bytes : ∀ x ∈ s.1, 0 ≤ x ∧ x < 256

theorem Rd.drew {w0 w : World} {g : Nat} {s : RdS} (h : Rd w0 w g s) (n : Nat) : Rd w0 (w.drewN n) g s :=
  ⟨pw_below_drewN h.below n, h.far, h.row, h.bytes⟩
theorem drew_rd {w0 w : World} {g : Nat} {s : RdS} (h : Rd w0 w g s) : Rd w0 w.drew g s := h.drew 1
/-- What keeps all but g's block, and finds g's block as told. -/
theorem Rd.grown {w0 w w1 : World} {g : Nat} {s : RdS} (h : Rd w0 w g s) (hb : Below w.heap.size w w1) : Rd w0 w1 g s := by
  obtain ⟨A, c, hr, h1, h2, h3⟩ := h.row
  have hlt : g < w.heap.size := blk_lt hr
  exact ⟨h.below.trans (hb.mono (h.below.size)), h.far, ⟨A, c, (hb.block g hlt).trans hr, h1, h2, h3⟩, h.bytes⟩

theorem rd_uint8 : ∃ i, Tryz.prog.info? 5 = some i ∧ i.size = 1 := by
  have h := info5
  cases e : Tryz.prog.info? 5 with
  | none => rw [e] at h; simp at h
  | some i => rw [e] at h; simp at h; exact ⟨i, rfl, h.2.1⟩

set_option maxHeartbeats 1600000 in
set_option maxRecDepth 100000 in
theorem take_calls (w0 w : World) (g : Nat) (s : RdS) (n : Nat) (hn : n ≤ 256) (h : Rd w0 w g s) :
    Calls Tryz.prog 193 #[.pointer (some ⟨g, 0, none⟩), .int .i64 n] w fun e w' => ∃ A c, e = .returned (.slice A n c) ∧ n ≤ c ∧ Kd.C (Kd.int .u8) w' A n (takeR s n) ∧ Rd w0 w' g (takeS s n) ∧ KeepBut w w' g none := by
  obtain ⟨A, c, hb, hc, hm, hC⟩ := h.row
  have c0 : w.cell? ⟨g, 0, none⟩ = some (.slice A s.1.length c) := by simp [World.cell?, hb]
  have c1 : w.cell? ⟨g, 1, none⟩ = some (.bool s.2) := by simp [World.cell?, hb]
  have f0 : w.frozen? ⟨g, 0, none⟩ = false := blk_frozen hb _
  have f1 : w.frozen? ⟨g, 1, none⟩ = false := blk_frozen hb _
  unfold maxLen at hm
  have HC := Aside0.mk hC
  have H := Aside0.mk h
  have HBK := Aside0.mk hb
  clear hC h hb
  by_cases hlt : s.1.length < n
  · have hlt' : (s.1.length : Int) < (n : Int) := by omega
    have er : takeR s n = List.replicate n 0 := if_pos hlt
    have es : takeS s n = (s.1, true) := if_pos hlt
    rw [er, es]
    go_enter Tryz.func193, Tryz.ntmps193
    go_wp2_with (first | (refine Kd.R_make (Kd.int .u8) (w0 := w.setCell ⟨g, 1, none⟩ (.bool true)) (w.setCell ⟨g, 1, none⟩ (.bool true)).heap.size 5 rfl rfl 67 (.tmp 15) (.tmp 15) rfl (n : Int) rfl rfl Tryz.underlying67 (.int .u8 0) 1 info5 rfl (by decide) (by decide) 0 (ok := fun _ => True) (okp := fun _ => False) rfl (fun _ _ => trivial) trivial (by omega) (by omega) (Below.refl _ _) (Nat.le_refl _) ?_; intro v1 w1 hR hB hG hO; have HR := Aside0.mk hR; have HB := Aside0.mk hB; clear hR hB hG hO))
    go_ret
    obtain ⟨A1, c1, rfl, hc1, hC1⟩ := Kd.R_reads HR.out
    rw [show (List.replicate (n : Int).toNat (0 : Int)).length = n by simp] at *
    rw [show (n : Int).toNat = n by simp] at hC1
    have hb1 := blk_put HBK.out 1 (.bool true) (cs' := #[.slice A s.1.length c, .bool true]) rfl
    have hst : Rd w0 (w.setCell ⟨g, 1, none⟩ (.bool true)) g (s.1, true) :=
      ⟨H.out.below.setCell H.out.far _, H.out.far, ⟨A, c, hb1, hc, hm, HC.out⟩, H.out.bytes⟩
    exact ⟨A1, c1, rfl, hc1, hC1, hst.grown HB.out, ((KeepBut.refl w g none).set_ 1 _).trans (KeepBut.of_below HB.out g none) (.inl rfl)⟩
  · have hlt' : ¬ (s.1.length : Int) < (n : Int) := by omega
    have er : takeR s n = s.1.take n := if_neg hlt
    have es : takeS s n = (s.1.drop n, s.2) := if_neg hlt
    rw [er, es]
    obtain ⟨iu, hiu, hsz⟩ := rd_uint8
    have hs1 := cut_to (P := Tryz.prog) 67 5 .i64 Tryz.underlying67 hiu A s.1.length c (n : Int) (by omega) (by omega) hc
    have hs2 := cut_from (P := Tryz.prog) 67 5 .i64 Tryz.underlying67 hiu 1 hsz A s.1.length c (n : Int) (by omega) (by omega)
    obtain ⟨A1, hA1⟩ : ∃ A1, A1 = if c = n then A else Option.map (fun x => x.add n) A := ⟨_, rfl⟩
    simp only [Int.toNat_natCast, Nat.mul_one] at hs2
    rw [← hA1] at hs2
    have HA1 := Aside0.mk hA1
    clear hA1
    go_enter Tryz.func193, Tryz.ntmps193
    go_wp2_with fail
    go_region
    go_wp2
    go_ret
    have hl1 : (s.1.take n).length = n := by rw [List.length_take]; omega
    have hl2 : (s.1.drop n).length = s.1.length - n := List.length_drop
    have hC1 := Kd.C_take HC.out (m := n) (by omega)
    have hC2 := Kd.C_drop HC.out (m := n) (by omega) hc
    rw [hl1] at hC1
    rw [show n * (Kd.int .u8).sz = n from Nat.mul_one n, ← HA1.out] at hC2
    have hb1 := blk_put HBK.out 0 (.slice A1 (s.1.length - n) (c - n)) (cs' := #[.slice A1 (s.1.length - n) (c - n), .bool s.2]) rfl
    have hst : Rd w0 (w.setCell ⟨g, 0, none⟩ (.slice A1 (s.1.length - n) (c - n))) g (s.1.drop n, s.2) :=
      ⟨H.out.below.setCell H.out.far _, H.out.far, ⟨_, c - n, by rw [hl2]; exact hb1, by rw [hl2]; omega, by rw [hl2]; unfold maxLen; omega, hC2⟩, fun x hx => H.out.bytes x (List.mem_of_mem_drop hx)⟩
    exact ⟨A, c, rfl, by omega, Kd.C_below hC1 (drew_rd hst).below, drew_rd hst, keep_drew ((KeepBut.refl w g none).set_ 0 _)⟩

theorem u32_join (x y : Int) (h0 : 0 ≤ y) (h1 : y < 256) : bits .or .u32 (x * 256 % 4294967296) y = (x * 256 + y) % 4294967296 := by
  have h := bits_join .u32 32 (by decide) (fun n a b => by rw [IntKind.wrap_u32]; omega) 8 (x * 256 % 4294967296) y (by omega) (by omega) (by omega) h0 (by omega) (by omega)
  exact h.trans (by omega)

theorem takeR_bytes {s : RdS} (hs : ∀ x ∈ s.1, 0 ≤ x ∧ x < 256) (n : Nat) : ∀ x ∈ takeR s n, 0 ≤ x ∧ x < 256 := by
  intro x hx
  unfold takeR at hx
  split at hx
  · obtain ⟨_, rfl⟩ := List.mem_replicate.1 hx; omega
  · exact hs x (List.mem_of_mem_take hx)
theorem takeR_length (s : RdS) (n : Nat) : (takeR s n).length = n := by
  unfold takeR
  split
  · simp
  · rw [List.length_take]; omega

set_option maxHeartbeats 1600000 in
set_option maxRecDepth 100000 in
theorem number_calls (w0 w : World) (g : Nat) (s : RdS) (n : Nat) (hn : n ≤ 256) (h : Rd w0 w g s) :
    Calls Tryz.prog 120 #[.pointer (some ⟨g, 0, none⟩), .int .i64 n] w fun e w' => e = .returned (.int .u32 (numR s n)) ∧ Rd w0 w' g (takeS s n) ∧ KeepBut w w' g none := by
  have hby := takeR_bytes h.bytes n
  have hln := takeR_length s n
  unfold numR
  obtain ⟨l, hle⟩ : ∃ l, l = takeR s n := ⟨_, rfl⟩
  rw [← hle] at hby hln ⊢
  have HLE := Aside0.mk hle
  clear hle
  have H := Aside0.mk h
  clear h
  go_enter Tryz.func120, Tryz.ntmps120
  go_wp2_with fail
  refine (take_calls w0 _ g s n hn H.out).mono ?_
  rintro e w1 ⟨A, c, rfl, hc, hC, hR, hK⟩
  rw [← HLE.out] at hC
  have HC := Aside0.mk hC
  have HR := Aside0.mk hR
  have HK := Aside0.mk hK
  clear hC hR hK
  go_wp2
  go_loop [4, 11] (fun x i => ∃ k : Nat, k ≤ n ∧ x = .int .u32 (foldN (l.take k)) ∧ i = .int .i64 k) (fun _ i => n - (intOf i).toNat)
  case atStart => exact ⟨0, Nat.zero_le _, rfl, rfl⟩
  case round =>
    obtain ⟨k, hk, rfl, rfl⟩ := hrel
    by_cases hlt : k < n
    · have hlt' : (k : Int) < (n : Int) := by omega
      obtain ⟨ad, cs, rfl, hcl, hKc, hcell⟩ := Kd.C_get HC.out 0 (k : Int) (by omega) (by omega)
      have e1 : cs = [.int .u8 (l.getD k 0)] := hKc
      subst e1
      have hx := hcell 0 (.int .u8 (l.getD k 0)) rfl
      simp only [Int.toNat_natCast, Nat.mul_one, Nat.add_zero, show (Kd.int .u8).sz = 1 from rfl] at hx
      have hg : l.getD k 0 = l[k]'(by omega) := by rw [List.getD_eq_getElem?_getD, List.getElem?_eq_getElem (by omega)]; rfl
      have hb := hby (l[k]'(by omega)) (List.getElem_mem _)
      rw [← hg] at hb
      generalize l.getD k 0 = b at *
      have HG := Aside0.mk hg
      clear hg
      go_wp2
      go_round
      case rel =>
        refine ⟨k + 1, by omega, ?_, by go_num⟩
        rw [u32_join _ _ hb.1 hb.2, List.take_succ_eq_append_getElem (by omega), ← HG.out]
        unfold foldN
        rw [List.foldl_append]
        rfl
      case measure => simp [intOf]; omega
    · go_wp2
      have e2 : l.take k = l := List.take_of_length_le (by omega)
      rw [e2]
      go_ret
      exact ⟨rfl, HR.out, HK.out⟩

theorem foldN_range (l : List Int) : 0 ≤ foldN l ∧ foldN l < 4294967296 := by
  have h : ∀ (l : List Int) (a : Int), 0 ≤ a ∧ a < 4294967296 → 0 ≤ l.foldl (fun n c => (n * 256 + c) % 4294967296) a ∧ l.foldl (fun n c => (n * 256 + c) % 4294967296) a < 4294967296 := by
    intro l
    induction l with
    | nil => intro a h; exact h
    | cons x l ih => intro a h; exact ih ((a * 256 + x) % 4294967296) (by omega)
  exact h l 0 (by decide)
theorem numR_one {s : RdS} (hs : ∀ x ∈ s.1, 0 ≤ x ∧ x < 256) : 0 ≤ numR s 1 ∧ numR s 1 < 256 := by
  have h1 := takeR_length s 1
  have h2 := takeR_bytes hs 1
  unfold numR
  match h : takeR s 1 with
  | [] => rw [h] at h1; cases h1
  | [x] =>
    have := h2 x (by rw [h]; simp)
    simp [foldN]
    omega
  | x :: y :: l => rw [h] at h1; simp at h1
theorem numR_two {s : RdS} (hs : ∀ x ∈ s.1, 0 ≤ x ∧ x < 256) : 0 ≤ numR s 2 ∧ numR s 2 < 65536 := by
  have h1 := takeR_length s 2
  have h2 := takeR_bytes hs 2
  unfold numR
  match h : takeR s 2 with
  | [] => rw [h] at h1; cases h1
  | [x] => rw [h] at h1; simp at h1
  | [x, y] =>
    have := h2 x (by rw [h]; simp)
    have := h2 y (by rw [h]; simp)
    simp [foldN]
    omega
  | x :: y :: z :: l => rw [h] at h1; simp at h1
set_option maxHeartbeats 1600000 in
set_option maxRecDepth 100000 in
theorem text_calls (w0 w : World) (g : Nat) (s : RdS) (h : Rd w0 w g s) :
    Calls Tryz.prog 119 #[.pointer (some ⟨g, 0, none⟩)] w fun e w' => e = .returned (.string (textR s)) ∧ Rd w0 w' g (textS s) ∧ KeepBut w w' g none := by
  have hn := numR_one h.bytes
  obtain ⟨m, hm⟩ : ∃ m : Nat, numR s 1 = m := ⟨(numR s 1).toNat, by omega⟩
  have hm' : m < 256 := by omega
  unfold textR textS
  rw [hm, Int.toNat_natCast]
  clear hn
  have HM := Aside0.mk hm
  have H := Aside0.mk h
  clear h hm
  go_enter Tryz.func119, Tryz.ntmps119
  go_wp2_with fail
  refine (number_calls w0 _ g s 1 (by omega) H.out).mono ?_
  rintro e w1 ⟨rfl, hR, hK⟩
  rw [HM.out]
  have HR := Aside0.mk hR
  have HK := Aside0.mk hK
  clear hR hK
  go_wp2_with fail
  refine (take_calls w0 _ g (takeS s 1) m (by omega) HR.out).mono ?_
  rintro e w2 ⟨A, c, rfl, hc, hC, hR, hK⟩
  have hcv := Kd.C_string (P := Tryz.prog) (src := 67) (dst := 9) (c := c) Tryz.underlying67 Tryz.underlying5 Tryz.underlying9 hC
  have HR2 := Aside0.mk hR
  have HK2 := Aside0.mk hK
  clear hR hK hC
  go_wp2
  go_ret
  exact ⟨rfl, HR2.out, HK.out.trans HK2.out (.inl rfl)⟩

end Go.Proofs.YtcohodkpppmaoaaGreatDoor.Q
namespace Go.Proofs.YtcohodkpppmaoaaGreatDoor.Q
open Go.RowKit Go.Proofs.YtcohodkpppmaoaaGreatDoorW.PrintWords Go.Proofs.YtcohodkpppmaoaaGreatDoorW.PrintLast Go.Proofs.YtcohodkpppmaoaaGreatDoorW.PrintMore
set_option linter.unusedVariables false

def opR (s : RdS) : S82 := ⟨numR s 1 % 256, textR (takeS s 1), textR (textS (takeS s 1)), numR (textS (textS (takeS s 1))) 4⟩
def opS (s : RdS) : RdS := takeS (textS (textS (takeS s 1))) 4
def changeS (s : RdS) : RdS := takeS (takeS (textS s) 1) 4
def rowR (s : RdS) : S148 := ⟨textR s, numR (textS s) 4⟩
def rowS (s : RdS) : RdS := takeS (textS s) 4

/-- What was there, and is not the reader's block, stays: a cell. -/
theorem keep_cells {w w1 : World} {g b t : Nat} {cs : Array Value} (hb : w.heap[b]? = some (.cells cs t (0, 0))) (hne : b ≠ g) (hK : KeepBut w w1 g none) : w1.heap[b]? = some (.cells cs t (0, 0)) := hK.blk hb hne (by simp)

theorem Rd.alloc {w0 w : World} {g : Nat} {s : RdS} (h : Rd w0 w g s) (o : Obj) : Rd w0 (w.alloc o) g s := h.grown (below_alloc (Below.refl _ _) o)
theorem Rd.set {w0 w : World} {g b : Nat} {s : RdS} (h : Rd w0 w g s) (hb : g ≠ b) (h0 : w0.heap.size ≤ b) (j : Nat) (u : Value) : Rd w0 (w.setCell ⟨b, j, none⟩ u) g s := by
  obtain ⟨A, c, hr, h1, h2, h3⟩ := h.row
  exact ⟨h.below.setCell h0 _, h.far, ⟨A, c, blk_far hr hb u, h1, h2, h3⟩, h.bytes⟩
theorem Rd.lt {w0 w : World} {g : Nat} {s : RdS} (h : Rd w0 w g s) : g < w.heap.size := by
  obtain ⟨A, c, hr, _⟩ := h.row
  exact blk_lt hr
theorem keep_new {w W : World} {g b : Nat} (h : KeepBut w W g none) (hb : w.heap.size ≤ b) (j : Nat) (u : Value) : KeepBut w (W.setCell ⟨b, j, none⟩ u) g none := keep_far h (p := ⟨b, j, none⟩) hb u
theorem keep_then {w w1 w2 : World} {g : Nat} (h : KeepBut w w1 g none) (k : KeepBut w1 w2 g none) : KeepBut w w2 g none := h.trans k (.inl rfl)

theorem blk4 {w : World} {g t : Nat} {a b c d : Value} (h : w.heap[g]? = some (.cells #[a, b, c, d] t (0, 0))) : (w.cell? ⟨g, 0, none⟩ = some a ∧ w.cell? ⟨g, 1, none⟩ = some b ∧ w.cell? ⟨g, 2, none⟩ = some c ∧ w.cell? ⟨g, 3, none⟩ = some d) ∧ (w.frozen? ⟨g, 0, none⟩ = false ∧ w.frozen? ⟨g, 1, none⟩ = false ∧ w.frozen? ⟨g, 2, none⟩ = false ∧ w.frozen? ⟨g, 3, none⟩ = false) :=
  ⟨⟨blk_cell h 0, blk_cell h 1, blk_cell h 2, blk_cell h 3⟩, ⟨blk_frozen h 0, blk_frozen h 1, blk_frozen h 2, blk_frozen h 3⟩⟩
set_option maxHeartbeats 1600000 in
set_option maxRecDepth 100000 in
theorem oneOp_calls (w0 w : World) (g : Nat) (s : RdS) (h : Rd w0 w g s) :
    Calls Tryz.prog 136 #[.pointer (some ⟨g, 0, none⟩)] w fun e w' => e = .returned (.agg #[.int .u8 (opR s).f0, .string (opR s).f1, .string (opR s).f2, .int .u32 (opR s).f3]) ∧ Rd w0 w' g (opS s) ∧ KeepBut w w' g none := by
  unfold opR opS
  dsimp only
  have hu := Tryz.underlying82
  have H := Aside0.mk h
  have hlt : g < w.heap.size := h.lt
  have h0 : w0.heap.size ≤ w.heap.size := h.below.size
  have hgb : g ≠ w.heap.size := by omega
  clear h
  go_enter Tryz.func136, Tryz.ntmps136
  go_wp2_with fail
  refine (number_calls w0 _ g s 1 (by omega) (H.out.alloc _)).mono ?_
  rintro e w1 ⟨rfl, hR, hK⟩
  have B1 := keep_cells (blk_new w (.cells #[.int .u8 0, .string ⟨#[]⟩, .string ⟨#[]⟩, .int .u32 0] 82)) (Ne.symm hgb) hK
  have K1 := Aside0.mk (keep_then (KeepBut.of_below (below_alloc (Below.refl w.heap.size w) (.cells #[.int .u8 0, .string ⟨#[]⟩, .string ⟨#[]⟩, .int .u32 0] 82)) g none) hK)
  have R1 := Aside0.mk hR
  clear hR hK
  obtain ⟨⟨c0, c1, c2, c3⟩, f0, f1, f2, f3⟩ := blk4 B1
  have B1' := Aside0.mk (blk_put B1 0 (.int .u8 (numR s 1 % 256)) (cs' := #[.int .u8 (numR s 1 % 256), .string ⟨#[]⟩, .string ⟨#[]⟩, .int .u32 0]) rfl)
  clear B1
  go_wp2_with fail
  clear c0 c1 c2 c3 f0 f1 f2 f3
  refine (text_calls w0 _ g _ (R1.out.set hgb h0 0 _)).mono ?_
  rintro e w2 ⟨rfl, hR, hK⟩
  have R2 := Aside0.mk hR
  have K2 := Aside0.mk (keep_then (keep_new K1.out (Nat.le_refl _) 0 _) hK)
  have B2 := Aside0.mk (keep_cells B1'.out (Ne.symm hgb) hK)
  clear hR hK B1' R1 K1
  go_wp2_with fail
  refine (text_calls w0 _ g _ R2.out).mono ?_
  rintro e w3 ⟨rfl, hR, hK⟩
  have R3 := Aside0.mk hR
  have K3 := Aside0.mk (keep_then K2.out hK)
  have B3 := keep_cells B2.out (Ne.symm hgb) hK
  clear hR hK B2 R2 K2
  obtain ⟨⟨c0, c1, c2, c3⟩, f0, f1, f2, f3⟩ := blk4 B3
  have B3' := Aside0.mk (blk_put (blk_put B3 1 (.string (textR (takeS s 1))) rfl) 2 (.string (textR (textS (takeS s 1)))) (cs' := #[.int .u8 (numR s 1 % 256), .string (textR (takeS s 1)), .string (textR (textS (takeS s 1))), .int .u32 0]) rfl)
  clear B3
  go_wp2_with fail
  clear c0 c1 c2 c3 f0 f1 f2 f3
  refine (number_calls w0 _ g _ 4 (by omega) ((R3.out.set hgb h0 1 _).set hgb h0 2 _)).mono ?_
  rintro e w4 ⟨rfl, hR, hK⟩
  have R4 := Aside0.mk hR
  have K4 := Aside0.mk (keep_then (keep_new (keep_new K3.out (Nat.le_refl _) 1 _) (Nat.le_refl _) 2 _) hK)
  have B4 := keep_cells B3'.out (Ne.symm hgb) hK
  clear hR hK B3' R3 K3
  obtain ⟨⟨c0, c1, c2, c3⟩, f0, f1, f2, f3⟩ := blk4 B4
  have B4' := Aside0.mk B4
  clear B4
  go_wp2
  try simp only [Exit.inBlock, Exit.then]
  refine bodyPost_ret (results_cell_row rfl _ _ w.heap.size 82 _ (0, 0) _ rfl (blk_put (cs' := #[.int .u8 (numR s 1 % 256), .string (textR (takeS s 1)), .string (textR (textS (takeS s 1))), .int .u32 (numR (textS (textS (takeS s 1))) 4)]) (blk_put (cs' := #[.int .u8 (numR s 1 % 256), .string (textR (takeS s 1)), .string (textR (textS (takeS s 1))), .int .u32 (numR (textS (textS (takeS s 1))) 4)]) (blk_put (cs' := #[.int .u8 (numR s 1 % 256), .string (textR (takeS s 1)), .string (textR (textS (takeS s 1))), .int .u32 (numR (textS (textS (takeS s 1))) 4)]) (blk_put (cs' := #[.int .u8 (numR s 1 % 256), .string (textR (takeS s 1)), .string (textR (textS (takeS s 1))), .int .u32 (numR (textS (textS (takeS s 1))) 4)]) (blk_put (cs' := #[.int .u8 (numR s 1 % 256), .string (textR (takeS s 1)), .string (textR (textS (takeS s 1))), .int .u32 (numR (textS (textS (takeS s 1))) 4)]) B4'.out 3 _ rfl) 0 _ rfl) 1 _ rfl) 2 _ rfl) 3 _ rfl) hu rfl (by kernel_rfl)) rfl ?_
  refine ⟨rfl, ?_, ?_⟩
  · repeat (first | exact R4.out | refine Rd.set ?_ hgb h0 _ _)
  · repeat (first | exact K4.out | refine keep_new ?_ (Nat.le_refl _) _ _)

end Go.Proofs.YtcohodkpppmaoaaGreatDoor.Q
namespace Go.Proofs.YtcohodkpppmaoaaGreatDoor.Q
open Go.RowKit Go.Proofs.YtcohodkpppmaoaaGreatDoorW.PrintWords Go.Proofs.YtcohodkpppmaoaaGreatDoorW.PrintLast Go.Proofs.YtcohodkpppmaoaaGreatDoorW.PrintMore
set_option linter.unusedVariables false

def sevN {α : Type} (r : RdS → α) (st : RdS → RdS) : Nat → RdS → List α
  | 0, _ => []
  | n + 1, s => if s.2 then [] else r s :: sevN r st n (st s)
def sevNS {α : Type} (r : RdS → α) (st : RdS → RdS) : Nat → RdS → RdS
  | 0, s => s
  | n + 1, s => if s.2 then s else sevNS r st n (st s)
def sevR {α : Type} (r : RdS → α) (st : RdS → RdS) (s : RdS) : List α := sevN r st (numR s 2).toNat (takeS s 2)
def sevS {α : Type} (r : RdS → α) (st : RdS → RdS) (s : RdS) : RdS := sevNS r st (numR s 2).toNat (takeS s 2)

/-- What is new, and not the reader's block, is not touched by the reader. -/
theorem R_rd {α : Type} {d : Kd α} {e base g : Nat} {w w1 : World} {v : Value} {xs : List α} (h : d.R e w base (fun k => k ≠ g) v xs) (hK : KeepBut w w1 g none) : d.R e w1 base (fun k => k ≠ g) v xs := Kd.R_keep h hK (fun _ hk => hk)
theorem keep_grown {w W w1 : World} {g : Nat} {row : Option Nat} (h : KeepBut w W g none) (hg : W.grownBy w1 row) (hr : ∀ k, row = some k → w.heap.size ≤ k) : KeepBut w w1 g none :=
  h.trans (KeepBut.of_grown hg g) (by
    cases row with
    | none => exact .inl rfl
    | some k => exact .inr ⟨k, rfl, hr k rfl⟩)
theorem Rd.grownBy {w0 w w1 : World} {g : Nat} {s : RdS} (h : Rd w0 w g s) (hb : Below w0.heap.size w0 w1) {row : Option Nat} (hg : w.grownBy w1 row) (hr : ∀ k, row = some k → k ≠ g) : Rd w0 w1 g s := by
  obtain ⟨A, c, hr0, h1, h2, h3⟩ := h.row
  exact ⟨hb, h.far, ⟨A, c, blk_grown hr0 hg (by intro e; exact hr g e.symm rfl), h1, h2, h3⟩, h.bytes⟩

set_option maxHeartbeats 1600000 in
set_option maxRecDepth 100000 in
theorem getOneOp_calls (w0 w : World) (g bo br : Nat) (s : RdS) (h : Rd w0 w g s) (hbo : w.heap[bo]? = some (.cells #[.func (.func 136) #[] #[]] 141 (0, 0))) (hbr : w.heap[br]? = some (.cells #[.pointer (some ⟨g, 0, none⟩)] 125 (0, 0))) :
    Calls Tryz.prog 195 #[.pointer (some ⟨bo, 0, none⟩), .pointer (some ⟨br, 0, none⟩)] w fun e w' => e = .returned (.agg #[.int .u8 (opR s).f0, .string (opR s).f1, .string (opR s).f2, .int .u32 (opR s).f3]) ∧ Rd w0 w' g (opS s) ∧ KeepBut w w' g none := by
  obtain ⟨x, hx⟩ : ∃ x, x = opR s := ⟨_, rfl⟩
  rw [← hx]
  have HX := Aside0.mk hx
  clear hx
  have hu := Tryz.underlying82
  have H := Aside0.mk h
  have hlt : g < w.heap.size := h.lt
  have h0 : w0.heap.size ≤ w.heap.size := h.below.size
  have hgb : g ≠ w.heap.size := by omega
  have co : w.cell? ⟨bo, 0, none⟩ = some (.func (.func 136) #[] #[]) := blk_cell hbo 0
  have cr : w.cell? ⟨br, 0, none⟩ = some (.pointer (some ⟨g, 0, none⟩)) := blk_cell hbr 0
  have lo : bo < w.heap.size := blk_lt hbo
  have lr : br < w.heap.size := blk_lt hbr
  clear h hbo hbr
  go_enter Tryz.func195, Tryz.ntmps195
  go_wp2_with fail
  refine (oneOp_calls w0 _ g s (H.out.alloc _)).mono ?_
  rintro e w1 ⟨rfl, hR, hK⟩
  rw [← HX.out]
  have B1 := keep_cells (blk_new w (.cells #[.int .u8 0, .string ⟨#[]⟩, .string ⟨#[]⟩, .int .u32 0] 82)) (Ne.symm hgb) hK
  have K1 := Aside0.mk (keep_then (KeepBut.of_below (below_alloc (Below.refl w.heap.size w) (.cells #[.int .u8 0, .string ⟨#[]⟩, .string ⟨#[]⟩, .int .u32 0] 82)) g none) hK)
  have R1 := Aside0.mk hR
  clear hR hK
  obtain ⟨⟨c0, c1, c2, c3⟩, f0, f1, f2, f3⟩ := blk4 B1
  have B1' := Aside0.mk B1
  clear B1
  go_wp2
  try simp only [Exit.inBlock, Exit.then]
  refine bodyPost_ret (results_cell_row rfl _ _ w.heap.size 82 _ (0, 0) _ rfl (blk_put (cs' := #[.int .u8 x.f0, .string x.f1, .string x.f2, .int .u32 x.f3]) (blk_put (cs' := #[.int .u8 x.f0, .string x.f1, .string x.f2, .int .u32 0]) (blk_put (cs' := #[.int .u8 x.f0, .string x.f1, .string ⟨#[]⟩, .int .u32 0]) (blk_put (cs' := #[.int .u8 x.f0, .string ⟨#[]⟩, .string ⟨#[]⟩, .int .u32 0]) B1'.out 0 _ rfl) 1 _ rfl) 2 _ rfl) 3 _ rfl) hu rfl (by kernel_rfl)) rfl ?_
  refine ⟨rfl, ?_, ?_⟩
  · repeat (first | exact R1.out | refine Rd.set ?_ hgb h0 _ _)
  · repeat (first | exact K1.out | refine keep_new ?_ (Nat.le_refl _) _ _)

set_option maxHeartbeats 1600000 in
set_option maxRecDepth 100000 in
theorem severalOp_calls (w0 w : World) (g : Nat) (bo br : Nat) (s : RdS) (h : Rd w0 w g s) (hbo : w.heap[bo]? = some (.cells #[.func (.func 136) #[] #[]] 141 (0, 0))) (hbr : w.heap[br]? = some (.cells #[.pointer (some ⟨g, 0, none⟩)] 125 (0, 0))) (ho : bo ≠ g) (hr : br ≠ g) :
    Calls Tryz.prog 194 #[.pointer (some ⟨g, 0, none⟩), .func (.func 195) #[] #[.pointer (some ⟨bo, 0, none⟩), .pointer (some ⟨br, 0, none⟩)]] w fun e w' => ∃ v, e = .returned v ∧ Kd.R k82 82 w' w.heap.size (fun _ => True) v (sevR opR opS s) ∧ Rd w0 w' g (sevS opR opS s) ∧ KeepBut w w' g none := by
  have hu := Tryz.underlying82
  have H := Aside0.mk h
  have hlt : g < w.heap.size := h.lt
  have h0 : w0.heap.size ≤ w.heap.size := h.below.size
  have hn := numR_two h.bytes
  obtain ⟨m, hm⟩ : ∃ m : Nat, numR s 2 = m := ⟨(numR s 2).toNat, by omega⟩
  have hm' : m < 65536 := by omega
  have HM := Aside0.mk hm
  have HBO := Aside0.mk hbo
  have HBR := Aside0.mk hbr
  have e1 : sevR opR opS s = sevN opR opS m (takeS s 2) := by unfold sevR; rw [hm]; rfl
  have e2 : sevS opR opS s = sevNS opR opS m (takeS s 2) := by unfold sevS; rw [hm]; rfl
  rw [e1, e2]
  clear h hn hm hbo hbr e1 e2
  go_enter Tryz.func194, Tryz.ntmps194
  go_wp2_with fail
  refine (number_calls w0 _ g s 2 (by omega) H.out).mono ?_
  rintro e w1 ⟨rfl, hR, hK⟩
  rw [HM.out]
  have R1 := Aside0.mk hR
  have K1 := Aside0.mk hK
  clear hR hK
  go_wp2
  go_loopw [4, 5] (fun v n wr => ∃ (j : Nat) (sj : RdS) (xs : List S82), n = .int .u32 j ∧ j ≤ m ∧ Aside0 (xs.length + j ≤ m) ∧ Aside0 (sevN opR opS m (takeS s 2) = xs ++ sevN opR opS j sj) ∧ Aside0 (sevNS opR opS m (takeS s 2) = sevNS opR opS j sj) ∧ Aside0 (Kd.R k82 82 wr w.heap.size (fun k => k ≠ g) v xs) ∧ Aside0 (Rd w0 wr g sj) ∧ Aside0 (KeepBut w wr g none)) (fun _ n _ => (intOf n).toNat)
  case atStart => exact ⟨m, _, [], rfl, Nat.le_refl _, ⟨by simp⟩, ⟨rfl⟩, ⟨rfl⟩, ⟨Kd.R_nil _ _ _ _ _⟩, R1, K1⟩
  case round =>
    obtain ⟨j, sj, xs, rfl, hj, HL, E1, E2, HO, HR, HK⟩ := hrel
    cases j with
    | zero =>
      go_wp2
      go_ret
      rw [E1.out, E2.out]
      exact ⟨_, rfl, by rw [show sevN opR opS 0 sj = [] from rfl, List.append_nil]; exact Kd.R_mono HO.out (fun _ _ => trivial), HR.out, HK.out⟩
    | succ i =>
      obtain ⟨A, c, hrow, _⟩ := HR.out.row
      have cs : wr.cell? ⟨g, 1, none⟩ = some (.bool sj.2) := blk_cell hrow 1
      clear hrow
      cases hsh : sj.2 with
      | true =>
        rw [hsh] at cs
        go_wp2
        go_ret
        rw [E1.out, E2.out]
        have q1 : sevN opR opS (i + 1) sj = [] := by unfold sevN; rw [if_pos hsh]
        have q2 : sevNS opR opS (i + 1) sj = sj := by unfold sevNS; rw [if_pos hsh]
        rw [q1, q2]
        exact ⟨_, rfl, by rw [List.append_nil]; exact Kd.R_mono HO.out (fun _ _ => trivial), HR.out, HK.out⟩
      | false =>
        rw [hsh] at cs
        have q1 : sevN opR opS (i + 1) sj = opR sj :: sevN opR opS i (opS sj) := by rw [sevN, if_neg (by rw [hsh]; decide)]
        have q2 : sevNS opR opS (i + 1) sj = sevNS opR opS i (opS sj) := by rw [sevNS, if_neg (by rw [hsh]; decide)]
        rw [q1] at E1
        rw [q2] at E2
        clear q1 q2
        obtain ⟨Av, cv, rfl, hcv, _⟩ := Kd.R_reads HO.out
        have hjp : (0 : Int) < ((i + 1 : Nat) : Int) := by omega
        have hszw : w.heap.size ≤ wr.heap.size := HK.out.1
        have BO1 := Aside0.mk (HK.out.blk HBO.out ho (by simp))
        have BR1 := Aside0.mk (HK.out.blk HBR.out hr (by simp))
        go_wp2_with fail
        refine (getOneOp_calls w0 wr g bo br sj HR.out BO1.out BR1.out).mono ?_
        rintro e w2 ⟨rfl, hR, hK⟩
        obtain ⟨x, hx⟩ : ∃ x, x = opR sj := ⟨_, rfl⟩
        rw [← hx]
        have HX := Aside0.mk hx
        have HO2 := Aside0.mk (R_rd HO.out hK)
        have HK2 := Aside0.mk (keep_then HK.out hK)
        have HR2 := Aside0.mk hR
        have hs2 : w.heap.size ≤ w2.heap.size := HK2.out.1
        clear hx hR hK cs
        go_wp2_with (first | (at_builtin; refine Kd.R_append k82 (w0 := w2) w.heap.size rfl (.tmp 19) (.tmp 22) 47 82 (.agg #[.int .u8 0, .string ⟨#[]⟩, .string ⟨#[]⟩, .int .u32 0]) 48 rfl Tryz.underlying47 (by kernel_rfl) rfl (by decide) (by decide) (.slice Av xs.length cv) xs x [.int .u8 x.f0, .string x.f1, .string x.f2, .int .u32 x.f3] (fun k => k ≠ g) (fun _ => False) rfl rfl (k82_mkM _ _ _ _) (fun _ hk => hk.elim) (fun k hk => by omega) HO2.out (Below.refl _ _) hs2 (by have := HL.out; omega) ?_; intro v1 w3 hO hB hG hat; have HO3 := Aside0.mk hO; have HB3 := Aside0.mk hB; have HG3 := Aside0.mk hG; clear hO hB hG hat))
        go_roundw
        case rel =>
          have hown : ∀ k, (Value.slice Av xs.length cv).ownBlock = some k → w.heap.size ≤ k := fun k hk => Kd.R_base HO2.out k hk
          refine ⟨i, opS sj, xs ++ [x], by go_num, by omega, ⟨by have := HL.out; rw [List.length_append]; simp; omega⟩, ⟨by rw [E1.out, HX.out, List.append_assoc]; rfl⟩, E2, HO3, ⟨?_⟩, ⟨?_⟩⟩
          · exact HR2.out.grownBy (HR2.out.below.trans (HB3.out.mono h0)) HG3.out (fun k hk => by have := hown k hk; omega)
          · exact keep_grown HK2.out HG3.out hown
        case measure => simp [intOf]

def resS (s : RdS) : RdS := sevS rowR rowS s

def Bts (s : RdS) : Prop := ∀ x ∈ s.1, 0 ≤ x ∧ x < 256
theorem Bts.take {s : RdS} (hs : Bts s) (n : Nat) : Bts (takeS s n) := by
  unfold takeS
  split
  · exact hs
  · exact fun x hx => hs x (List.mem_of_mem_drop hx)
theorem Bts.text {s : RdS} (hs : Bts s) : Bts (textS s) := (hs.take 1).take _
theorem Bts.row {s : RdS} (hs : Bts s) : Bts (rowS s) := hs.text.take 4
theorem Bts.op {s : RdS} (hs : Bts s) : Bts (opS s) := (hs.take 1).text.text.take 4
theorem Bts.change {s : RdS} (hs : Bts s) : Bts (changeS s) := (hs.text.take 1).take 4
theorem Bts.sevN {α : Type} {r : RdS → α} {st : RdS → RdS} (hst : ∀ s, Bts s → Bts (st s)) : ∀ (n : Nat) (s : RdS), Bts s → Bts (sevNS r st n s)
  | 0, _, h => h
  | n + 1, s, h => by
    unfold sevNS
    split
    · exact h
    · exact Bts.sevN hst n _ (hst s h)
theorem Bts.sev {α : Type} {r : RdS → α} {st : RdS → RdS} (hst : ∀ s, Bts s → Bts (st s)) {s : RdS} (h : Bts s) : Bts (sevS r st s) := Bts.sevN hst _ _ (h.take 2)
theorem Bts.res {s : RdS} (hs : Bts s) : Bts (resS s) := Bts.sev (fun _ h => h.row) hs
theorem sevN_all {α : Type} {r : RdS → α} {st : RdS → RdS} {p : α → Prop} (hst : ∀ s, Bts s → Bts (st s)) (hp : ∀ s, Bts s → p (r s)) : ∀ (n : Nat) (s : RdS), Bts s → ∀ x ∈ sevN r st n s, p x
  | 0, _, _, x, hx => by simp [sevN] at hx
  | n + 1, s, h, x, hx => by
    unfold sevN at hx
    split at hx
    · cases hx
    · rcases List.mem_cons.1 hx with rfl | hx
      · exact hp s h
      · exact sevN_all hst hp n _ (hst s h) x hx
theorem sevN_short {α : Type} (r : RdS → α) (st : RdS → RdS) : ∀ (n : Nat) (s : RdS), (sevN r st n s).length ≤ n
  | 0, _ => Nat.le_refl _
  | n + 1, s => by
    unfold sevN
    split
    · simp
    · have := sevN_short r st n (st s)
      simp
      omega
end Go.Proofs.YtcohodkpppmaoaaGreatDoor.Q
namespace Go.Proofs.YtcohodkpppmaoaaGreatDoor.Q
open Go.RowKit Go.Proofs.YtcohodkpppmaoaaGreatDoorW.PrintWords Go.Proofs.YtcohodkpppmaoaaGreatDoorW.PrintLast Go.Proofs.YtcohodkpppmaoaaGreatDoorW.PrintMore
set_option linter.unusedVariables false

def getR {α : Type} (r : RdS → α) (st : RdS → RdS) (put : List α → List Int × Int) (l0 : List Int) : List α × Int :=
  if (sevS r st (l0, false)).2 = true then ([], 4)
  else if (put (sevR r st (l0, false))).2 = 0 then
    (if ((strOfNums l0).toList == (strOfNums (put (sevR r st (l0, false))).1).toList) = true then (sevR r st (l0, false), 0) else ([], 4))
  else ([], 4)
theorem sevN_length {α : Type} (r : RdS → α) (st : RdS → RdS) : ∀ (n : Nat) (s : RdS), (sevN r st n s).length ≤ n
  | 0, _ => Nat.le_refl _
  | n + 1, s => by
    unfold sevN
    split
    · simp
    · have := sevN_length r st n (st s)
      simp
      omega
theorem sevR_length {α : Type} (r : RdS → α) (st : RdS → RdS) (s : RdS) (hs : ∀ x ∈ s.1, 0 ≤ x ∧ x < 256) : (sevR r st s).length < 65536 := by
  have h1 := sevN_length r st (numR s 2).toNat (takeS s 2)
  have h2 := numR_two hs
  unfold sevR
  omega

/-- The three blocks that 'get' makes. -/
def getWorld (w : World) (f v : Value) (tf : TypeId) : World :=
  (((w.alloc (.cells #[f] tf)).alloc (.cells #[v, .bool false] 229)).alloc (.cells #[.pointer (some ⟨w.heap.size + 1, 0, none⟩)] 125))
theorem alloc_size (w : World) (o : Obj) : (w.alloc o).heap.size = w.heap.size + 1 := by show (w.heap.push o).size = _; simp
theorem getWorld_facts (w : World) (f v : Value) (tf : TypeId) :
    Below w.heap.size w (getWorld w f v tf) ∧ (getWorld w f v tf).heap[w.heap.size]? = some (.cells #[f] tf (0, 0)) ∧ (getWorld w f v tf).heap[w.heap.size + 1]? = some (.cells #[v, .bool false] 229 (0, 0)) ∧
      (getWorld w f v tf).heap[w.heap.size + 1 + 1]? = some (.cells #[.pointer (some ⟨w.heap.size + 1, 0, none⟩)] 125 (0, 0)) := by
  have s1 := alloc_size w (.cells #[f] tf)
  have s2 := alloc_size (w.alloc (.cells #[f] tf)) (.cells #[v, .bool false] 229)
  have b0 : (w.alloc (.cells #[f] tf)).heap[w.heap.size]? = some (.cells #[f] tf (0, 0)) := blk_new w _
  have b1 : ((w.alloc (.cells #[f] tf)).alloc (.cells #[v, .bool false] 229)).heap[w.heap.size + 1]? = some (.cells #[v, .bool false] 229 (0, 0)) := by
    have := blk_new (w.alloc (.cells #[f] tf)) (.cells #[v, .bool false] 229)
    rwa [s1] at this
  have b2 : (((w.alloc (.cells #[f] tf)).alloc (.cells #[v, .bool false] 229)).alloc (.cells #[.pointer (some ⟨w.heap.size + 1, 0, none⟩)] 125)).heap[w.heap.size + 1 + 1]? = some (.cells #[.pointer (some ⟨w.heap.size + 1, 0, none⟩)] 125 (0, 0)) := by
    have := blk_new ((w.alloc (.cells #[f] tf)).alloc (.cells #[v, .bool false] 229)) (.cells #[.pointer (some ⟨w.heap.size + 1, 0, none⟩)] 125)
    rwa [s2, s1] at this
  unfold getWorld
  refine ⟨?_, ?_, ?_, ?_⟩
  · exact (((Below.refl w.heap.size w).alloc (Nat.le_refl _) _).alloc (by omega) _).alloc (by omega) _
  · exact blk_alloc (blk_alloc b0 _) _
  · exact blk_alloc b1 _
  · exact b2

def rows_GetOps.f (l0 : List Int) : Option (List S82 × Int) := if ∀ x ∈ l0, 0 ≤ x ∧ x < 256 then some (getR opR opS putOps l0) else none

set_option maxHeartbeats 3200000 in
set_option maxRecDepth 100000 in
theorem getOp_calls (A0 : Option Addr) (c0 : Nat) (l0 : List Int) (w : World) (hr0 : Kd.C (Kd.int .u8) w A0 l0.length l0) (hc0 : l0.length ≤ c0) (hby : ∀ x ∈ l0, 0 ≤ x ∧ x < 256) :
    Calls Tryz.prog 135 #[.slice A0 l0.length c0, .func (.func 136) #[] #[], .func (.func 42) #[] #[]] w fun e w' => ∃ v0_, e = .returned (.tuple #[v0_, .int .i64 (getR opR opS putOps l0).2]) ∧ Kd.R k82 82 w' w.heap.size (fun _ => True) v0_ (getR opR opS putOps l0).1 ∧ Below w.heap.size w w' := by
  obtain ⟨l, hl⟩ : ∃ l, l = sevR opR opS (l0, false) := ⟨_, rfl⟩
  obtain ⟨s', hs'⟩ : ∃ s', s' = sevS opR opS (l0, false) := ⟨_, rfl⟩
  have hlen : l.length < 65536 := hl ▸ sevR_length opR opS (l0, false) hby
  obtain ⟨k, hk⟩ := (ev_putOps l (by omega)).rounds
  unfold getR
  rw [← hl, ← hs']
  generalize putOps l = q at *
  obtain ⟨p, r2⟩ := q
  dsimp only
  have HK := Aside0.mk hk
  have HBY := Aside0.mk hby
  have HC := Aside0.mk hr0
  have HL := Aside0.mk hl
  have HS := Aside0.mk hs'
  have HMX := Aside0.mk (show l0.length ≤ maxLen from Kd.C_max hr0)
  have hmf : ∀ (fn : Fn) (first cap : Array Value) (w : World), (Instr.makeFunc fn first cap).run Tryz.prog w = .ok (.func fn first cap) w := fun _ _ _ _ => rfl
  have HST := Aside0.mk (getWorld_facts w (.func (.func 136) #[] #[]) (.slice A0 l0.length c0) 141)
  clear hk hby hr0 hl hs'
  have hu := Tryz.underlying229
  go_enter Tryz.func135, Tryz.ntmps135
  go_wp2_with fail
  change Calls Tryz.prog 194 _ (getWorld w (.func (.func 136) #[] #[]) (.slice A0 l0.length c0) 141) _
  obtain ⟨W, hW⟩ : ∃ W, W = getWorld w (.func (.func 136) #[] #[]) (.slice A0 l0.length c0) 141 := ⟨_, rfl⟩
  rw [← hW] at HST ⊢
  clear hW
  have hRd : Rd w W (w.heap.size + 1) (l0, false) := ⟨HST.out.1, Nat.le_succ _, ⟨A0, c0, HST.out.2.2.1, hc0, HMX.out, HC.out⟩, HBY.out⟩
  refine (severalOp_calls w W (w.heap.size + 1) w.heap.size (w.heap.size + 1 + 1) (l0, false) hRd HST.out.2.1 HST.out.2.2.2 (by omega) (by omega)).mono ?_
  rintro e w3 ⟨v, rfl, hO, hR, hKp⟩
  rw [← HL.out] at hO
  rw [← HS.out] at hR
  obtain ⟨A, c, rfl, hcl, hCl⟩ := Kd.R_reads hO
  have hP3 := keep_cells HST.out.2.2.2 (show w.heap.size + 1 + 1 ≠ w.heap.size + 1 by omega) hKp
  have HO3 := Aside0.mk (Kd.R_lower hO HST.out.1.size)
  have HR3 := Aside0.mk hR
  have HP3 := Aside0.mk hP3
  have HCL := Aside0.mk hCl
  have hw3 : w.heap.size ≤ w3.heap.size := hR.below.size
  clear hO hR hKp hRd hP3 hCl
  go_wp2_with fail
  refine (rows_PutOps.calls k A c l p r2 w3 HCL.out hcl HK.out).mono ?_
  rintro e w4 ⟨v4, rfl, hO4, hB4⟩
  obtain ⟨A4, c4, rfl, hc4, hC4⟩ := Kd.R_reads hO4
  have HO4 := Aside0.mk (Kd.R_below HO3.out hB4)
  have HR4 := Aside0.mk (HR3.out.grown hB4)
  have HP4 := blk_below HP3.out hB4
  obtain ⟨Ar, cr, hrow, _⟩ := HR4.out.row
  have hcs : w4.cell? ⟨w.heap.size + 1, 1, none⟩ = some (.bool s'.2) := blk_cell hrow 1
  have hcp : w4.cell? ⟨w.heap.size + 1 + 1, 0, none⟩ = some (.pointer (some ⟨w.heap.size + 1, 0, none⟩)) := blk_cell HP4 0
  have HC4 := Aside0.mk hC4
  have HA := Aside0.mk (Kd.C_below HC.out HR4.out.below)
  clear hO4 hB4 hrow hC4 HP4 HP3 HR3 HO3 HCL
  have hbb : Below w.heap.size w w4 := HR4.out.below
  have HBB := Aside0.mk hbb
  clear hbb
  cases hsh : s'.2 with
  | true =>
    rw [hsh] at hcs
    go_wp2
    go_ret2
    exact ⟨_, rfl, Kd.R_nil _ _ _ _ _, HBB.out⟩
  | false =>
    rw [hsh] at hcs
    by_cases hr2 : r2 = 0
    · subst hr2
      go_wp2_with fail
      refine (bytes_Equal.calls A0 c0 l0 A4 c4 p _ w4 HA.out hc0 HC4.out hc4 rfl).mono ?_
      rintro e w5 ⟨rfl, ⟨n, rfl⟩⟩
      have HO5 := Aside0.mk (Kd.R_drewN HO4.out n)
      have HB5 := Aside0.mk (pw_below_drewN HBB.out n)
      clear HO4 HBB HA HC4
      cases heq : ((strOfNums l0).toList == (strOfNums p).toList) with
      | true =>
        go_wp2
        go_ret2
        exact ⟨_, rfl, HO5.out, HB5.out⟩
      | false =>
        go_wp2
        go_ret2
        exact ⟨_, rfl, Kd.R_nil _ _ _ _ _, HB5.out⟩
    · have hr2b : (r2 != 0) = true := by simpa using hr2
      go_wp2
      all_goals
        go_ret2
        exact ⟨_, rfl, Kd.R_nil _ _ _ _ _, HBB.out⟩

set_option maxHeartbeats 3200000 in
set_option maxRecDepth 100000 in
theorem rows_GetOps.calls (A0 : Option Addr) (c0 : Nat) (l0 : List Int) (r1 : List (S82)) (r2 : Int) (w : World) (hr0 : Kd.C (Kd.int .u8) w A0 l0.length l0) (hc0 : l0.length ≤ c0) (h : rows_GetOps.f l0 = some (r1, r2)) :
    Calls Tryz.prog 43 #[.slice A0 l0.length c0] w fun e w' => ∃ v0_ : Value, e = .returned (.tuple #[v0_, .int .i64 r2]) ∧ Kd.R k82 82 w' w.heap.size (fun _ => True) v0_ r1 ∧ Below w.heap.size w w' := by
  have hby : ∀ x ∈ l0, 0 ≤ x ∧ x < 256 := by
    unfold rows_GetOps.f at h
    split at h
    · assumption
    · cases h
  have hq : getR opR opS putOps l0 = (r1, r2) := by
    unfold rows_GetOps.f at h
    rw [if_pos hby] at h
    exact Option.some.inj h
  have HQ := Aside0.mk hq
  have HBY := Aside0.mk hby
  have HC := Aside0.mk hr0
  clear h hq hby hr0
  go_enter Tryz.func43, Tryz.ntmps43
  go_wp2_with fail
  refine (getOp_calls A0 c0 l0 w HC.out hc0 HBY.out).mono ?_
  rintro e w1 ⟨v, rfl, hO, hB⟩
  rw [HQ.out] at hO ⊢
  have HO := Aside0.mk hO
  have HB := Aside0.mk hB
  clear hO hB
  go_wp2
  go_ret2
  exact ⟨_, rfl, HO.out, HB.out⟩

end Go.Proofs.YtcohodkpppmaoaaGreatDoor.Q
namespace Go.Proofs.YtcohodkpppmaoaaGreatDoor.Q
open Go.RowKit Go.Proofs.YtcohodkpppmaoaaGreatDoorW.PrintWords Go.Proofs.YtcohodkpppmaoaaGreatDoorW.PrintLast Go.Proofs.YtcohodkpppmaoaaGreatDoorW.PrintMore
set_option linter.unusedVariables false
def takeQ (s : RdS) (n : Nat) : List Int := if s.2 = true then List.replicate n 0 else takeR s n
def takeQS (s : RdS) (n : Nat) : RdS := if s.2 = true then s else takeS s n
def numQ (s : RdS) (n : Nat) : Int := foldN (takeQ s n)
def textQ (s : RdS) : ByteArray := strOfNums (takeQ (takeQS s 1) (numQ s 1).toNat)
def textQS (s : RdS) : RdS := takeQS (takeQS s 1) (numQ s 1).toNat
def opQ (s : RdS) : S82 := ⟨numQ s 1, textQ (takeQS s 1), textQ (textQS (takeQS s 1)), numQ (textQS (textQS (takeQS s 1))) 4⟩
def opQS (s : RdS) : RdS := takeQS (textQS (textQS (takeQS s 1))) 4
def sevQ {α : Type} (r : RdS → α) (st : RdS → RdS) (s : RdS) : List α := sevN r st (numQ s 2).toNat (takeQS s 2)
def sevQS {α : Type} (r : RdS → α) (st : RdS → RdS) (s : RdS) : RdS := sevNS r st (numQ s 2).toNat (takeQS s 2)
def getQ {α : Type} (r : RdS → α) (st : RdS → RdS) (put : List α → List Int × Int) (l0 : List Int) : List α × Int :=
  if (sevQS r st (l0, false)).2 = true then ([], 4)
  else if (put (sevQ r st (l0, false))).2 = 0 then
    (if ((strOfNums l0).toList == (strOfNums (put (sevQ r st (l0, false))).1).toList) = true then (sevQ r st (l0, false), 0) else ([], 4))
  else ([], 4)

def Agr (s t : RdS) : Prop := s.2 = t.2 ∧ (s.2 = false → s = t)
theorem Agr.refl (s : RdS) : Agr s s := ⟨rfl, fun _ => rfl⟩
theorem bad_take {s : RdS} (h : s.2 = true) (n : Nat) : (takeS s n).2 = true := by unfold takeS; split <;> simp [h]
theorem bad_takeQ {s : RdS} (h : s.2 = true) (n : Nat) : (takeQS s n).2 = true := by unfold takeQS; rw [if_pos h]; exact h
theorem Agr.take {s t : RdS} (h : Agr s t) {n m : Nat} (hn : s.2 = false → n = m) : Agr (takeS s n) (takeQS t m) := by
  cases hs : s.2 with
  | true =>
    have ht : t.2 = true := by rw [← h.1]; exact hs
    exact ⟨by rw [bad_take hs, bad_takeQ ht], fun hx => by rw [bad_take hs] at hx; cases hx⟩
  | false =>
    obtain rfl := h.2 hs
    obtain rfl := hn hs
    unfold takeQS
    rw [if_neg (by rw [hs]; decide)]
    exact Agr.refl _
theorem Agr.takeV {s t : RdS} (h : Agr s t) (hs : s.2 = false) (n : Nat) : takeR s n = takeQ t n := by
  obtain rfl := h.2 hs
  unfold takeQ
  rw [if_neg (by rw [hs]; decide)]
theorem Agr.num {s t : RdS} (h : Agr s t) (hs : s.2 = false) (n : Nat) : numR s n = numQ t n := by unfold numR numQ; rw [h.takeV hs]
theorem good_take {s : RdS} {n : Nat} (h : (takeS s n).2 = false) : s.2 = false := by
  cases hs : s.2 with
  | true => rw [bad_take hs] at h; cases h
  | false => rfl
theorem Agr.text {s t : RdS} (h : Agr s t) : Agr (textS s) (textQS t) := by
  unfold textS textQS
  refine (h.take (fun _ => rfl)).take (fun hx => ?_)
  rw [h.num (good_take hx)]
theorem good_text {s : RdS} (h : (textS s).2 = false) : s.2 = false := good_take (good_take h)
theorem Agr.textV {s t : RdS} (h : Agr s t) (hs : (textS s).2 = false) : textR s = textQ t := by
  unfold textR textQ
  rw [(h.take (fun _ => rfl)).takeV (good_take hs), h.num (good_text hs)]
theorem Agr.one {s t : RdS} (h : Agr s t) (n : Nat) : Agr (takeS s n) (takeQS t n) := h.take (fun _ => rfl)
/-- A thing that is read. -/
structure Same2 {α : Type} (r : RdS → α) (st : RdS → RdS) (r' : RdS → α) (st' : RdS → RdS) : Prop where
  agr : ∀ {s t}, Agr s t → Bts s → Agr (st s) (st' t)
  good : ∀ {s}, (st s).2 = false → s.2 = false
  val : ∀ {s t}, Agr s t → Bts s → (st s).2 = false → r s = r' t
  bts : ∀ {s}, Bts s → Bts (st s)
theorem same_op : Same2 opR opS opQ opQS where
  agr := fun h _ => (((h.one 1).text).text).one 4
  good := fun h => good_take (good_text (good_text (good_take h)))
  val := by
    intro s t h hb hs
    have h3 := good_take hs
    have h2 := good_text h3
    have h1 := good_text h2
    have h0 := good_take h1
    have e0 := h.num h0 1
    have b0 := numR_one hb
    unfold opR opQ
    rw [← e0, (h.one 1).textV h2, (h.one 1).text.textV h3, (h.one 1).text.text.num h3, Int.emod_eq_of_lt b0.1 b0.2]
  bts := fun h => h.op
theorem bad_many {α : Type} {r : RdS → α} {st : RdS → RdS} (n : Nat) {s : RdS} (h : s.2 = true) : (sevNS r st n s).2 = true := by
  cases n with
  | zero => exact h
  | succ n => unfold sevNS; rw [if_pos h]; exact h
section
variable {α : Type} {r r' : RdS → α} {st st' : RdS → RdS}
theorem Same2.many (H : Same2 r st r' st') : ∀ (n : Nat) {s t : RdS}, Agr s t → Bts s → Agr (sevNS r st n s) (sevNS r' st' n t) ∧ ((sevNS r st n s).2 = false → sevN r st n s = sevN r' st' n t ∧ s.2 = false)
  | 0, s, t, h, _ => ⟨h, fun hx => ⟨rfl, hx⟩⟩
  | n + 1, s, t, h, hb => by
    unfold sevNS sevN
    cases hs : s.2 with
    | true =>
      have ht : t.2 = true := by rw [← h.1]; exact hs
      rw [if_pos rfl, if_pos ht, if_pos rfl, if_pos ht]
      exact ⟨h, fun hx => ⟨rfl, by rw [hs] at hx; cases hx⟩⟩
    | false =>
      have ht : ¬ t.2 = true := by rw [← h.1, hs]; decide
      rw [if_neg (by decide), if_neg ht, if_neg (by decide), if_neg ht]
      obtain ⟨a1, a2⟩ := H.many n (H.agr h hb) (H.bts hb)
      refine ⟨a1, fun hx => ⟨?_, rfl⟩⟩
      obtain ⟨b1, b2⟩ := a2 hx
      rw [b1, H.val h hb b2]
theorem Same2.sev (H : Same2 r st r' st') {s t : RdS} (h : Agr s t) (hb : Bts s) : Agr (sevS r st s) (sevQS r' st' t) ∧ ((sevS r st s).2 = false → sevR r st s = sevQ r' st' t ∧ s.2 = false) := by
  unfold sevS sevQS sevR sevQ
  cases hs : s.2 with
  | true =>
    have ht : t.2 = true := by rw [← h.1]; exact hs
    have e1 := bad_many (r := r) (st := st) (numR s 2).toNat (bad_take hs 2)
    have e2 := bad_many (r := r') (st := st') (numQ t 2).toNat (bad_takeQ ht 2)
    exact ⟨⟨by rw [e1, e2], fun hx => by rw [e1] at hx; cases hx⟩, fun hx => by rw [e1] at hx; cases hx⟩
  | false =>
    rw [← h.num hs 2]
    obtain ⟨a1, a2⟩ := H.many (numR s 2).toNat (h.one 2) (hb.take 2)
    exact ⟨a1, fun hx => ⟨(a2 hx).1, rfl⟩⟩
theorem Same2.get (H : Same2 r st r' st') (put : List α → List Int × Int) (l0 : List Int) (hb : ∀ x ∈ l0, 0 ≤ x ∧ x < 256) : getQ r' st' put l0 = getR r st put l0 := by
  obtain ⟨a1, a2⟩ := H.sev (Agr.refl (l0, false)) hb
  unfold getQ getR
  rw [← a1.1]
  cases hs : (sevS r st (l0, false)).2 with
  | true => simp only [if_true]
  | false =>
    simp only [Bool.false_eq_true, if_false]
    rw [← (a2 hs).1]
end
theorem getQ_ops (l0 : List Int) (hb : ∀ x ∈ l0, 0 ≤ x ∧ x < 256) : getQ opQ opQS putOps l0 = getR opR opS putOps l0 := same_op.get _ _ hb
end Go.Proofs.YtcohodkpppmaoaaGreatDoor.Q
namespace Go.Proofs.YtcohodkpppmaoaaGreatDoor.Q
open Go.RowKit Go.Proofs.YtcohodkpppmaoaaGreatDoorW.PrintWords Go.Proofs.YtcohodkpppmaoaaGreatDoorW.PrintLast Go.Proofs.YtcohodkpppmaoaaGreatDoorW.PrintMore
set_option linter.unusedVariables false
/-- A reader at block g that was made behind w0; the bytes that it has still to give lie in w0. -/
structure Rf (w0 w : World) (g : Nat) (s : RdS) : Prop where
  below : Below w0.heap.size w0 w
  far : w0.heap.size ≤ g
  row : ∃ A c, w.heap[g]? = some (.cells #[.slice A s.1.length c, .bool s.2] 134 (0, 0)) ∧ s.1.length ≤ c ∧ s.1.length ≤ maxLen ∧ Kd.C (Kd.int .u8) w0 A s.1.length s.1
  bytes : ∀ x ∈ s.1, 0 ≤ x ∧ x < 256

theorem Rf.drew {w0 w : World} {g : Nat} {s : RdS} (h : Rf w0 w g s) (n : Nat) : Rf w0 (w.drewN n) g s :=
  ⟨pw_below_drewN h.below n, h.far, h.row, h.bytes⟩
/-- What keeps all but g's block, and finds g's block as told. -/
theorem Rf.grown {w0 w w1 : World} {g : Nat} {s : RdS} (h : Rf w0 w g s) (hb : Below w.heap.size w w1) : Rf w0 w1 g s := by
  obtain ⟨A, c, hr, h1, h2, h3⟩ := h.row
  have hlt : g < w.heap.size := blk_lt hr
  exact ⟨h.below.trans (hb.mono (h.below.size)), h.far, ⟨A, c, (hb.block g hlt).trans hr, h1, h2, h3⟩, h.bytes⟩

set_option maxHeartbeats 1600000 in
set_option maxRecDepth 100000 in
theorem takeQ_calls (w0 w : World) (g : Nat) (s : RdS) (n : Nat) (hn : n ≤ 256) (h : Rf w0 w g s) :
    Calls Tryz.prog 127 #[.pointer (some ⟨g, 0, none⟩), .int .i64 n] w fun e w' => ∃ A c, e = .returned (.slice A n c) ∧ n ≤ c ∧ Kd.C (Kd.int .u8) w' A n (takeQ s n) ∧ Rf w0 w' g (takeQS s n) ∧ KeepBut w w' g none := by
  obtain ⟨A, c, hb, hc, hm, hC⟩ := h.row
  have c0 : w.cell? ⟨g, 0, none⟩ = some (.slice A s.1.length c) := by simp [World.cell?, hb]
  have c1 : w.cell? ⟨g, 1, none⟩ = some (.bool s.2) := by simp [World.cell?, hb]
  have f0 : w.frozen? ⟨g, 0, none⟩ = false := blk_frozen hb _
  have f1 : w.frozen? ⟨g, 1, none⟩ = false := blk_frozen hb _
  unfold maxLen at hm
  have HC := Aside0.mk hC
  have H := Aside0.mk h
  have HBK := Aside0.mk hb
  clear hC h hb
  cases hbd : s.2 with
  | true =>
      have er : takeQ s n = List.replicate n 0 := if_pos hbd
      have es : takeQS s n = (s.1, true) := (if_pos hbd).trans (by rw [← hbd])
      rw [hbd] at c1
      rw [er, es]
      go_enter Tryz.func127, Tryz.ntmps127
      go_wp2_with (first | (refine Kd.R_make (Kd.int .u8) (w0 := w.setCell ⟨g, 1, none⟩ (.bool true)) (w.setCell ⟨g, 1, none⟩ (.bool true)).heap.size 5 rfl rfl 67 (.tmp 22) (.tmp 22) rfl (n : Int) rfl rfl Tryz.underlying67 (.int .u8 0) 1 info5 rfl (by decide) (by decide) 0 (ok := fun _ => True) (okp := fun _ => False) rfl (fun _ _ => trivial) trivial (by omega) (by omega) (Below.refl _ _) (Nat.le_refl _) ?_; intro v1 w1 hR hB hG hO; have HR := Aside0.mk hR; have HB := Aside0.mk hB; clear hR hB hG hO))
      go_ret
      obtain ⟨A1, c1, rfl, hc1, hC1⟩ := Kd.R_reads HR.out
      rw [show (List.replicate (n : Int).toNat (0 : Int)).length = n by simp] at *
      rw [show (n : Int).toNat = n by simp] at hC1
      have hb1 := blk_put HBK.out 1 (.bool true) (cs' := #[.slice A s.1.length c, .bool true]) rfl
      have hst : Rf w0 (w.setCell ⟨g, 1, none⟩ (.bool true)) g (s.1, true) :=
        ⟨H.out.below.setCell H.out.far _, H.out.far, ⟨A, c, hb1, hc, hm, HC.out⟩, H.out.bytes⟩
      exact ⟨A1, c1, rfl, hc1, hC1, hst.grown HB.out, ((KeepBut.refl w g none).set_ 1 _).trans (KeepBut.of_below HB.out g none) (.inl rfl)⟩
  | false =>
    by_cases hlt : s.1.length < n
    · have hlt' : (s.1.length : Int) < (n : Int) := by omega
      have er : takeQ s n = List.replicate n 0 := (if_neg (by rw [hbd]; decide)).trans (if_pos hlt)
      have es : takeQS s n = (s.1, true) := (if_neg (by rw [hbd]; decide)).trans (if_pos hlt)
      rw [hbd] at c1
      rw [er, es]
      go_enter Tryz.func127, Tryz.ntmps127
      go_wp2_with (first | (refine Kd.R_make (Kd.int .u8) (w0 := w.setCell ⟨g, 1, none⟩ (.bool true)) (w.setCell ⟨g, 1, none⟩ (.bool true)).heap.size 5 rfl rfl 67 (.tmp 22) (.tmp 22) rfl (n : Int) rfl rfl Tryz.underlying67 (.int .u8 0) 1 info5 rfl (by decide) (by decide) 0 (ok := fun _ => True) (okp := fun _ => False) rfl (fun _ _ => trivial) trivial (by omega) (by omega) (Below.refl _ _) (Nat.le_refl _) ?_; intro v1 w1 hR hB hG hO; have HR := Aside0.mk hR; have HB := Aside0.mk hB; clear hR hB hG hO))
      go_ret
      obtain ⟨A1, c1, rfl, hc1, hC1⟩ := Kd.R_reads HR.out
      rw [show (List.replicate (n : Int).toNat (0 : Int)).length = n by simp] at *
      rw [show (n : Int).toNat = n by simp] at hC1
      have hb1 := blk_put HBK.out 1 (.bool true) (cs' := #[.slice A s.1.length c, .bool true]) rfl
      have hst : Rf w0 (w.setCell ⟨g, 1, none⟩ (.bool true)) g (s.1, true) :=
        ⟨H.out.below.setCell H.out.far _, H.out.far, ⟨A, c, hb1, hc, hm, HC.out⟩, H.out.bytes⟩
      exact ⟨A1, c1, rfl, hc1, hC1, hst.grown HB.out, ((KeepBut.refl w g none).set_ 1 _).trans (KeepBut.of_below HB.out g none) (.inl rfl)⟩
    · have hlt' : ¬ (s.1.length : Int) < (n : Int) := by omega
      have er : takeQ s n = s.1.take n := (if_neg (by rw [hbd]; decide)).trans (if_neg hlt)
      have es : takeQS s n = (s.1.drop n, s.2) := (if_neg (by rw [hbd]; decide)).trans (if_neg hlt)
      rw [hbd] at c1
      rw [er, es]
      obtain ⟨iu, hiu, hsz⟩ := rd_uint8
      have hs1 := cut_to (P := Tryz.prog) 67 5 .i64 Tryz.underlying67 hiu A s.1.length c (n : Int) (by omega) (by omega) hc
      have hs2 := cut_from (P := Tryz.prog) 67 5 .i64 Tryz.underlying67 hiu 1 hsz A s.1.length c (n : Int) (by omega) (by omega)
      obtain ⟨A1, hA1⟩ : ∃ A1, A1 = if c = n then A else Option.map (fun x => x.add n) A := ⟨_, rfl⟩
      simp only [Int.toNat_natCast, Nat.mul_one] at hs2
      rw [← hA1] at hs2
      have HA1 := Aside0.mk hA1
      clear hA1
      go_enter Tryz.func127, Tryz.ntmps127
      go_wp2_with fail

      go_wp2
      go_ret
      have hl1 : (s.1.take n).length = n := by rw [List.length_take]; omega
      have hl2 : (s.1.drop n).length = s.1.length - n := List.length_drop
      have hC1 := Kd.C_take HC.out (m := n) (by omega)
      have hC2 := Kd.C_drop HC.out (m := n) (by omega) hc
      rw [hl1] at hC1
      rw [show n * (Kd.int .u8).sz = n from Nat.mul_one n, ← HA1.out] at hC2
      have hb1 := blk_put HBK.out 0 (.slice A1 (s.1.length - n) (c - n)) (cs' := #[.slice A1 (s.1.length - n) (c - n), .bool s.2]) rfl
      have hst : Rf w0 (w.setCell ⟨g, 0, none⟩ (.slice A1 (s.1.length - n) (c - n))) g (s.1.drop n, s.2) :=
        ⟨H.out.below.setCell H.out.far _, H.out.far, ⟨_, c - n, by rw [hl2]; exact hb1, by rw [hl2]; omega, by rw [hl2]; unfold maxLen; omega, hC2⟩, fun x hx => H.out.bytes x (List.mem_of_mem_drop hx)⟩
      rw [hbd] at hst
      exact ⟨A, c, rfl, by omega, Kd.C_below hC1 hst.below, hst, (KeepBut.refl w g none).set_ 0 _⟩

theorem takeQ_length (s : RdS) (n : Nat) : (takeQ s n).length = n := by
  unfold takeQ
  split
  · simp
  · exact takeR_length s n
theorem takeQ_bytes {s : RdS} (hs : ∀ x ∈ s.1, 0 ≤ x ∧ x < 256) (n : Nat) : ∀ x ∈ takeQ s n, 0 ≤ x ∧ x < 256 := by
  unfold takeQ
  split
  · intro x hx
    obtain ⟨_, rfl⟩ := List.mem_replicate.1 hx
    omega
  · exact takeR_bytes hs n
theorem len1 {l : List Int} (h : l.length = 1) : ∃ a, l = [a] := by
  match l, h with
  | [a], _ => exact ⟨a, rfl⟩
theorem len2 {l : List Int} (h : l.length = 2) : ∃ a b, l = [a, b] := by
  match l, h with
  | [a, b], _ => exact ⟨a, b, rfl⟩
theorem len4 {l : List Int} (h : l.length = 4) : ∃ a b c d, l = [a, b, c, d] := by
  match l, h with
  | [a, b, c, d], _ => exact ⟨a, b, c, d, rfl⟩
theorem u32_in {x : Int} (h0 : 0 ≤ x) (h1 : x < 4294967296) : IntKind.u32.wrap x = x := by rw [IntKind.wrap_u32]; exact Int.emod_eq_of_lt h0 h1
theorem numQ_range (s : RdS) (n : Nat) : 0 ≤ numQ s n ∧ numQ s n < 4294967296 := foldN_range _
theorem numQ_one {s : RdS} (hs : ∀ x ∈ s.1, 0 ≤ x ∧ x < 256) : ∃ a, takeQ s 1 = [a] ∧ numQ s 1 = a ∧ 0 ≤ a ∧ a < 256 := by
  obtain ⟨a, ha⟩ := len1 (takeQ_length s 1)
  have hb := takeQ_bytes hs 1 a (by rw [ha]; simp)
  refine ⟨a, ha, ?_, hb⟩
  unfold numQ
  rw [ha]
  simp [foldN]
  omega
theorem numQ_two {s : RdS} (hs : ∀ x ∈ s.1, 0 ≤ x ∧ x < 256) : ∃ a b, takeQ s 2 = [a, b] ∧ numQ s 2 = 256 * a + b ∧ (0 ≤ a ∧ a < 256) ∧ 0 ≤ b ∧ b < 256 := by
  obtain ⟨a, b, ha⟩ := len2 (takeQ_length s 2)
  have h0 := takeQ_bytes hs 2 a (by rw [ha]; simp)
  have h1 := takeQ_bytes hs 2 b (by rw [ha]; simp)
  refine ⟨a, b, ha, ?_, h0, h1⟩
  unfold numQ
  rw [ha]
  simp [foldN]
  omega
theorem numQ_four {s : RdS} (hs : ∀ x ∈ s.1, 0 ≤ x ∧ x < 256) : ∃ a b c d, takeQ s 4 = [a, b, c, d] ∧ numQ s 4 = 16777216 * a + 65536 * b + 256 * c + d ∧ (0 ≤ a ∧ a < 256) ∧ (0 ≤ b ∧ b < 256) ∧ (0 ≤ c ∧ c < 256) ∧ 0 ≤ d ∧ d < 256 := by
  obtain ⟨a, b, c, d, ha⟩ := len4 (takeQ_length s 4)
  have h0 := takeQ_bytes hs 4 a (by rw [ha]; simp)
  have h1 := takeQ_bytes hs 4 b (by rw [ha]; simp)
  have h2 := takeQ_bytes hs 4 c (by rw [ha]; simp)
  have h3 := takeQ_bytes hs 4 d (by rw [ha]; simp)
  refine ⟨a, b, c, d, ha, ?_, h0, h1, h2, h3⟩
  unfold numQ
  rw [ha]
  simp [foldN]
  omega
theorem adr0 (a : Addr) : a.add 0 = a := rfl
theorem adr1 (a : Addr) : a.add 1 = ⟨a.block, a.off + 1, none⟩ := rfl
theorem adr2 (a : Addr) : a.add 2 = ⟨a.block, a.off + 2, none⟩ := rfl
theorem adr3 (a : Addr) : a.add 3 = ⟨a.block, a.off + 3, none⟩ := rfl
theorem nth_int {w : World} {A : Option Addr} {l : List Int} {n : Nat} (h : Kd.C (Kd.int .u8) w A n l) (i : Nat) (hi : i < n) : ∃ ad, A = some ad ∧ w.cell? (ad.add i) = some (.int .u8 (l.getD i 0)) := by
  obtain ⟨ad, e, hx⟩ := Kd.at_int h (i : Int) (by omega) (by omega)
  refine ⟨ad, e, ?_⟩
  simpa [rd] using hx

set_option maxHeartbeats 1600000 in
set_option maxRecDepth 100000 in
theorem countQ_calls (w0 w : World) (g : Nat) (s : RdS) (h : Rf w0 w g s) :
    Calls Tryz.prog 125 #[.pointer (some ⟨g, 0, none⟩)] w fun e w' => e = .returned (.int .i64 (numQ s 2)) ∧ Rf w0 w' g (takeQS s 2) ∧ KeepBut w w' g none := by
  obtain ⟨a, b, hab, hn, ⟨a0, a1⟩, b0, b1⟩ := numQ_two h.bytes
  rw [hn]
  have HAB := Aside0.mk hab
  have H := Aside0.mk h
  have w1 : IntKind.i64.wrap (256 * a) = 256 * a := IntWalk.i64_in _ (by omega)
  have w2 : IntKind.i64.wrap (256 * a + b) = 256 * a + b := IntWalk.i64_in _ (by omega)
  have w3 : IntKind.i64.wrap a = a := IntWalk.i64_in _ (by omega)
  have w4 : IntKind.i64.wrap b = b := IntWalk.i64_in _ (by omega)
  clear hn hab h
  go_enter Tryz.func125, Tryz.ntmps125
  go_wp2_with fail
  refine (takeQ_calls w0 _ g s 2 (by omega) H.out).mono ?_
  rintro e w5 ⟨A, c, rfl, hc, hC, hR, hK⟩
  rw [HAB.out] at hC
  obtain ⟨ad, rfl, hx0⟩ := nth_int hC 0 (by decide)
  obtain ⟨ad', e1, hx1⟩ := nth_int hC 1 (by decide)
  cases e1
  simp only [List.getD_cons_zero, List.getD_cons_succ, adr0, adr1] at hx0 hx1
  have HR := Aside0.mk hR
  have HK := Aside0.mk hK
  clear hR hK hC
  go_wp2
  repeat (go_quiet (fail); try go_wp2)
  go_ret
  exact ⟨rfl, HR.out.drew _, keep_then HK.out (KeepBut.of_below (pw_below_drewN (Below.refl _ _) _) g none)⟩

set_option maxHeartbeats 1600000 in
set_option maxRecDepth 100000 in
theorem numberQ_calls (w0 w : World) (g : Nat) (s : RdS) (h : Rf w0 w g s) :
    Calls Tryz.prog 128 #[.pointer (some ⟨g, 0, none⟩)] w fun e w' => e = .returned (.int .u32 (numQ s 4)) ∧ Rf w0 w' g (takeQS s 4) ∧ KeepBut w w' g none := by
  obtain ⟨a, b, c, d, hab, hn, ⟨a0, a1⟩, ⟨b0, b1⟩, ⟨c0, c1⟩, d0, d1⟩ := numQ_four h.bytes
  rw [hn]
  have HAB := Aside0.mk hab
  have H := Aside0.mk h
  have w1 : IntKind.u32.wrap (16777216 * a) = 16777216 * a := u32_in (by omega) (by omega)
  have w2 : IntKind.u32.wrap (65536 * b) = 65536 * b := u32_in (by omega) (by omega)
  have w3 : IntKind.u32.wrap (256 * c) = 256 * c := u32_in (by omega) (by omega)
  have w4 : IntKind.u32.wrap (16777216 * a + 65536 * b) = 16777216 * a + 65536 * b := u32_in (by omega) (by omega)
  have w5 : IntKind.u32.wrap (16777216 * a + 65536 * b + 256 * c) = 16777216 * a + 65536 * b + 256 * c := u32_in (by omega) (by omega)
  have w6 : IntKind.u32.wrap (16777216 * a + 65536 * b + 256 * c + d) = 16777216 * a + 65536 * b + 256 * c + d := u32_in (by omega) (by omega)
  have x1 : IntKind.u32.wrap a = a := u32_in a0 (by omega)
  have x2 : IntKind.u32.wrap b = b := u32_in b0 (by omega)
  have x3 : IntKind.u32.wrap c = c := u32_in c0 (by omega)
  have x4 : IntKind.u32.wrap d = d := u32_in d0 (by omega)
  clear hn hab h
  go_enter Tryz.func128, Tryz.ntmps128
  go_wp2_with fail
  refine (takeQ_calls w0 _ g s 4 (by omega) H.out).mono ?_
  rintro e w7 ⟨A, cc, rfl, hc, hC, hR, hK⟩
  rw [HAB.out] at hC
  obtain ⟨ad, rfl, hx0⟩ := nth_int hC 0 (by decide)
  obtain ⟨ad', e1, hx1⟩ := nth_int hC 1 (by decide)
  cases e1
  obtain ⟨ad', e1, hx2⟩ := nth_int hC 2 (by decide)
  cases e1
  obtain ⟨ad', e1, hx3⟩ := nth_int hC 3 (by decide)
  cases e1
  simp only [List.getD_cons_zero, List.getD_cons_succ, adr0, adr1, adr2, adr3] at hx0 hx1 hx2 hx3
  have HR := Aside0.mk hR
  have HK := Aside0.mk hK
  clear hR hK hC
  go_wp2
  repeat (go_quiet (fail); try go_wp2)
  go_ret
  exact ⟨rfl, HR.out.drew _, keep_then HK.out (KeepBut.of_below (pw_below_drewN (Below.refl _ _) _) g none)⟩

set_option maxHeartbeats 1600000 in
set_option maxRecDepth 100000 in
theorem textQ_calls (w0 w : World) (g : Nat) (s : RdS) (h : Rf w0 w g s) :
    Calls Tryz.prog 126 #[.pointer (some ⟨g, 0, none⟩)] w fun e w' => e = .returned (.string (textQ s)) ∧ Rf w0 w' g (textQS s) ∧ KeepBut w w' g none := by
  obtain ⟨a, hab, hn, a0, a1⟩ := numQ_one h.bytes
  obtain ⟨m, rfl⟩ := Int.eq_ofNat_of_zero_le a0
  unfold textQ textQS
  rw [hn, Int.toNat_natCast]
  have HAB := Aside0.mk hab
  have H := Aside0.mk h
  have w1 : IntKind.i64.wrap (m : Int) = (m : Int) := IntWalk.i64_in _ (by omega)
  clear hn hab h
  go_enter Tryz.func126, Tryz.ntmps126
  go_wp2_with fail
  refine (takeQ_calls w0 _ g s 1 (by omega) H.out).mono ?_
  rintro e w5 ⟨A, c, rfl, hc, hC, hR, hK⟩
  rw [HAB.out] at hC
  obtain ⟨ad, rfl, hx0⟩ := nth_int hC 0 (by decide)
  simp only [List.getD_cons_zero, adr0] at hx0
  have HR := Aside0.mk hR
  have HK := Aside0.mk hK
  clear hR hK hC
  go_wp2_with fail
  refine (takeQ_calls w0 _ g (takeQS s 1) m (by omega) HR.out).mono ?_
  rintro e w6 ⟨A, c, rfl, hc, hC, hR, hK⟩
  have hcv := Kd.C_string (P := Tryz.prog) (src := 67) (dst := 9) (c := c) Tryz.underlying67 Tryz.underlying5 Tryz.underlying9 hC
  have HR2 := Aside0.mk hR
  have HK2 := Aside0.mk hK
  clear hR hK hC
  go_wp2
  go_ret
  exact ⟨rfl, HR2.out, HK.out.trans HK2.out (.inl rfl)⟩

end Go.Proofs.YtcohodkpppmaoaaGreatDoor.Q
namespace Go.Proofs.YtcohodkpppmaoaaGreatDoor.Q
open Go.RowKit Go.Proofs.YtcohodkpppmaoaaGreatDoorW.PrintWords Go.Proofs.YtcohodkpppmaoaaGreatDoorW.PrintLast

theorem wrap_in (x : Int) (h0 : -9223372036854775808 ≤ x) (h1 : x ≤ 9223372036854775807) : wrap64 x = x := by
  unfold wrap64
  omega
theorem bt_byte (s : ByteArray) (i : Nat) (h : i < s.size) : bt s (i : Int) = ((s[i]'h).toNat : Int) := by
  simp [bt, h]

theorem refCheck_from (s : ByteArray) (hs : s.size ≤ 140737488351232) (d : Nat) : ∀ (k i : Nat), i ≤ s.size → s.size - i = d → d < k → keyChars (s.data.toList.take i) = true →
    concordatref01_Check.l0 k s (i : Int) = some (isKey s) := by
  induction d with
  | zero =>
    intro k i h0 h1 hk hp
    obtain ⟨k, rfl⟩ : ∃ m, k = m + 1 := ⟨k - 1, by omega⟩
    simp only [concordatref01_Check.l0]
    rw [if_neg (by omega)]
    have e : s.data.toList.take i = s.data.toList := List.take_of_length_le (by rw [Array.length_toList]; show s.size ≤ i; omega)
    rw [e] at hp
    unfold isKey
    rw [hp]
    by_cases h1 : (s.size : Int) ≥ 1
    · rw [if_pos h1]
      have h2 : 1 ≤ s.size := by omega
      simp [h2]
      omega
    · rw [if_neg h1]
      have h2 : ¬ 1 ≤ s.size := by omega
      simp [h2]
  | succ d ih =>
    intro k i h0 h1 hk hp
    obtain ⟨k, rfl⟩ : ∃ m, k = m + 1 := ⟨k - 1, by omega⟩
    have hi : i < s.size := by omega
    simp only [concordatref01_Check.l0]
    rw [if_pos (by omega), if_pos (by omega), bt_byte s i hi, wrap_in _ (by omega) (by omega)]
    have hb := keyRune_byte (s[i]'hi)
    have hn := keyChars_no s i hi
    have ht := keyChars_take_succ s i hi
    have hgo : keyByte (s[i]'hi) = true → concordatref01_Check.l0 k s ((i : Int) + 1) = some (isKey s) := by
      intro hy
      have := ih k (i + 1) (by omega) (by omega) (by omega) (by rw [ht, hp, hy]; rfl)
      rw [← this]; rfl
    have hno : keyByte (s[i]'hi) = false → some false = some (isKey s) := by
      intro hy
      unfold isKey
      rw [hn hy]
      simp
    generalize ((s[i]'hi).toNat : Int) = c at *
    unfold keyRune at hb
    by_cases c1 : c < 97
    · rw [if_pos c1]
      by_cases c2 : c < 48
      · rw [if_pos c2]
        by_cases c3 : c = 95
        · omega
        · rw [if_neg c3]
          exact hno (by rw [← hb, Bool.eq_false_iff]; simp; omega)
      · rw [if_neg c2]
        by_cases c4 : c > 57
        · rw [if_pos c4]
          by_cases c3 : c = 95
          · rw [if_pos c3]; exact hgo (by rw [← hb]; simp; omega)
          · rw [if_neg c3]
            exact hno (by rw [← hb, Bool.eq_false_iff]; simp; omega)
        · rw [if_neg c4]; exact hgo (by rw [← hb]; simp; omega)
    · rw [if_neg c1]
      by_cases c5 : c > 122
      · rw [if_pos c5, if_neg (by omega), if_pos (by omega), if_neg (by omega)]
        exact hno (by rw [← hb, Bool.eq_false_iff]; simp; omega)
      · rw [if_neg c5]
        exact hgo (by rw [← hb]; simp; omega)

theorem ev_refCheck (s : ByteArray) (hs : s.size ≤ 140737488351232) : Ev (fun k => concordatref01_Check.f k s) (isKey s) :=
  ⟨s.size + 1, fun k hk => refCheck_from s hs s.size k 0 (by omega) (by omega) (by omega) (by simp [keyChars])⟩


end Go.Proofs.YtcohodkpppmaoaaGreatDoor.Q
namespace Go.Proofs.YtcohodkpppmaoaaGreatDoor.Q
open Go.RowKit Go.Proofs.YtcohodkpppmaoaaGreatDoorW.PrintWords Go.Proofs.YtcohodkpppmaoaaGreatDoorW.PrintLast Go.Proofs.YtcohodkpppmaoaaGreatDoorW.PrintMore

theorem refCount_eq (n : Int) (h0 : 0 ≤ n) (h1 : n ≤ 1000000000) : concordatref02_Count.f n = some (num2 n) := by
  unfold concordatref02_Count.f num2
  rw [Int.tdiv_eq_ediv_of_nonneg h0, wrap_id _ (by omega) (by omega)]
theorem refNumber_eq (n : Int) (h : u32Ok n) : concordatref02_Number.f n = some (num4 n) := by
  obtain ⟨h0, h1⟩ := h
  unfold concordatref02_Number.f num4
  rw [Int.tdiv_eq_ediv_of_nonneg h0, Int.tdiv_eq_ediv_of_nonneg h0, Int.tdiv_eq_ediv_of_nonneg h0]
  rw [Int.emod_eq_of_lt (a := n / 16777216) (by omega) (by omega), Int.emod_eq_of_lt (a := n / 65536) (by omega) (by omega), Int.emod_eq_of_lt (a := n / 256) (by omega) (by omega)]
theorem refText_eq (s : ByteArray) (h : s.size ≤ 1000000000) : concordatref02_text.f s = some (textB s) := by
  unfold concordatref02_text.f textB
  simp only [Option.bind_some, List.length_singleton]
  rw [if_pos (by omega)]
  simp

end Go.Proofs.YtcohodkpppmaoaaGreatDoor.Q
namespace Go.Proofs.YtcohodkpppmaoaaGreatDoor.Q
open Go.RowKit Go.Proofs.YtcohodkpppmaoaaGreatDoorW.PrintWords Go.Proofs.YtcohodkpppmaoaaGreatDoorW.PrintLast Go.Proofs.YtcohodkpppmaoaaGreatDoorW.PrintMore
set_option linter.unusedVariables false

theorem putList_ok {α : Type} {may : α → Int} (hmay : ∀ x, may x = 0 ∨ may x = 1 ∨ may x = 3) {most : Nat} {one : α → List Int} {l : List α} (h : (putList may most one l).2 = 0) :
    (∀ x ∈ l, may x = 0) ∧ l.length ≤ most ∧ (putList may most one l).1 = num2 l.length ++ l.flatMap one := by
  unfold putList at h ⊢
  split at h
  · cases h
  · rename_i h1
    rw [if_neg h1]
    split at h
    · cases h
    · rename_i h2
      rw [if_neg h2]
      refine ⟨fun x hx => ?_, ?_, rfl⟩
      · rcases hmay x with e | e | e
        · exact e
        · exact absurd (List.any_eq_true.2 ⟨x, hx, by simp [e]⟩) h1
        · exact absurd (by rw [List.any_eq_true.2 ⟨x, hx, by simp [e]⟩]; rfl) h2
      · rcases Nat.lt_or_ge most l.length with hl | hl
        · exact absurd (by rw [decide_eq_true hl]; simp) h2
        · exact hl
theorem putList_err {α : Type} {may : α → Int} {most : Nat} {one : α → List Int} {l : List α} (h : (putList may most one l).2 ≠ 0) : (putList may most one l).1 = [] := by
  unfold putList at h ⊢
  split
  · rfl
  · rename_i h1
    rw [if_neg h1] at h
    split
    · rfl
    · rename_i h2
      rw [if_neg h2] at h
      exact absurd rfl h
theorem opE_cases (x : OpT) : opE x = 0 ∨ opE x = 1 ∨ opE x = 3 := by unfold opE; split <;> simp
end Go.Proofs.YtcohodkpppmaoaaGreatDoor.Q
