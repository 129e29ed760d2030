/-
  The reader of bytes (rows.reader): where it stands; take, number, text.
  One op, one change, one row off the reader.
  As many as their count tells: ops, changes, rows, results.
  rows.get: a list that is put as it was.
  Results: copies with a mark behind each list, and whether they are as they were.
  The book keeps results: each one's rows, and the list of them.
  The book keeps a message: its ops, its results.
-/
import Derived.Test.YtcohodkpppmaoaaGreatDoorMP7
import Derived.BigRegion
import Derived.Test.YtcohodkpppmaoaaGreatDoorMP8
import Derived.Test.YtcohodkpppmaoaaGreatDoorMP9
import Derived.Test.YtcohodkpppmaoaaGreatDoorMP3
import Derived.BigQuiet
import Derived.WalkSpells
set_option linter.unusedSimpArgs false
set_option linter.unusedVariables false
namespace Go.Proofs.YtcohodkpppmaoaaGreatDoor.Q
open Go.RowKit Go.Proofs.YtcohodkpppmaoaaGreatDoorW.PrintWords Go.Proofs.YtcohodkpppmaoaaGreatDoorW.PrintLast Go.Proofs.YtcohodkpppmaoaaGreatDoorW.PrintMore
set_option linter.unusedVariables false

abbrev RdS := List Int × Bool
def takeR (s : RdS) (n : Nat) : List Int := if s.1.length < n then List.replicate n 0 else s.1.take n
def takeS (s : RdS) (n : Nat) : RdS := if s.1.length < n then (s.1, true) else (s.1.drop n, s.2)
def foldN (l : List Int) : Int := l.foldl (fun n c => (n * 256 + c) % 4294967296) 0
def numR (s : RdS) (n : Nat) : Int := foldN (takeR s n)
def textR (s : RdS) : ByteArray := strOfNums (takeR (takeS s 1) (numR s 1).toNat)
def textS (s : RdS) : RdS := takeS (takeS s 1) (numR s 1).toNat

/-- A reader at block g that was made behind w0; the bytes that it has still to give lie in w0. -/
structure Rd (w0 w : World) (g : Nat) (s : RdS) : Prop where
  below : Below w0.heap.size w0 w
  far : w0.heap.size ≤ g
  row : ∃ A c, w.heap[g]? = some (.cells #[.slice A s.1.length c, .bool s.2] 229 (0, 0)) ∧ s.1.length ≤ c ∧ s.1.length ≤ maxLen ∧ Kd.C (Kd.int .u8) w0 A s.1.length s.1
  bytes : ∀ x ∈ s.1, 0 ≤ x ∧ x < 256

theorem Rd.drew {w0 w : World} {g : Nat} {s : RdS} (h : Rd w0 w g s) (n : Nat) : Rd w0 (w.drewN n) g s :=
  ⟨pw_below_drewN h.below n, h.far, h.row, h.bytes⟩
theorem drew_rd {w0 w : World} {g : Nat} {s : RdS} (h : Rd w0 w g s) : Rd w0 w.drew g s := h.drew 1
/-- What keeps all but g's block, and finds g's block as told. -/
theorem Rd.grown {w0 w w1 : World} {g : Nat} {s : RdS} (h : Rd w0 w g s) (hb : Below w.heap.size w w1) : Rd w0 w1 g s := by
  obtain ⟨A, c, hr, h1, h2, h3⟩ := h.row
  have hlt : g < w.heap.size := blk_lt hr
  exact ⟨h.below.trans (hb.mono (h.below.size)), h.far, ⟨A, c, (hb.block g hlt).trans hr, h1, h2, h3⟩, h.bytes⟩

theorem rd_uint8 : ∃ i, Tryz.prog.info? 5 = some i ∧ i.size = 1 := by
  have h := info5
  cases e : Tryz.prog.info? 5 with
  | none => rw [e] at h; simp at h
  | some i => rw [e] at h; simp at h; exact ⟨i, rfl, h.2.1⟩

set_option maxHeartbeats 1600000 in
set_option maxRecDepth 100000 in
theorem take_calls (w0 w : World) (g : Nat) (s : RdS) (n : Nat) (hn : n ≤ 256) (h : Rd w0 w g s) :
    Calls Tryz.prog 193 #[.pointer (some ⟨g, 0, none⟩), .int .i64 n] w fun e w' => ∃ A c, e = .returned (.slice A n c) ∧ n ≤ c ∧ Kd.C (Kd.int .u8) w' A n (takeR s n) ∧ Rd w0 w' g (takeS s n) ∧ KeepBut w w' g none := by
  obtain ⟨A, c, hb, hc, hm, hC⟩ := h.row
  have c0 : w.cell? ⟨g, 0, none⟩ = some (.slice A s.1.length c) := by simp [World.cell?, hb]
  have c1 : w.cell? ⟨g, 1, none⟩ = some (.bool s.2) := by simp [World.cell?, hb]
  have f0 : w.frozen? ⟨g, 0, none⟩ = false := blk_frozen hb _
  have f1 : w.frozen? ⟨g, 1, none⟩ = false := blk_frozen hb _
  unfold maxLen at hm
  have HC := Aside0.mk hC
  have H := Aside0.mk h
  have HBK := Aside0.mk hb
  clear hC h hb
  by_cases hlt : s.1.length < n
  · have hlt' : (s.1.length : Int) < (n : Int) := by omega
    have er : takeR s n = List.replicate n 0 := if_pos hlt
    have es : takeS s n = (s.1, true) := if_pos hlt
    rw [er, es]
    go_enter Tryz.func193, Tryz.ntmps193
    go_wp2_with (first | (refine Kd.R_make (Kd.int .u8) (w0 := w.setCell ⟨g, 1, none⟩ (.bool true)) (w.setCell ⟨g, 1, none⟩ (.bool true)).heap.size 5 rfl rfl 67 (.tmp 15) (.tmp 15) rfl (n : Int) rfl rfl Tryz.underlying67 (.int .u8 0) 1 info5 rfl (by decide) (by decide) 0 (ok := fun _ => True) (okp := fun _ => False) rfl (fun _ _ => trivial) trivial (by omega) (by omega) (Below.refl _ _) (Nat.le_refl _) ?_; intro v1 w1 hR hB hG hO; have HR := Aside0.mk hR; have HB := Aside0.mk hB; clear hR hB hG hO))
    go_ret
    obtain ⟨A1, c1, rfl, hc1, hC1⟩ := Kd.R_reads HR.out
    rw [show (List.replicate (n : Int).toNat (0 : Int)).length = n by simp] at *
    rw [show (n : Int).toNat = n by simp] at hC1
    have hb1 := blk_put HBK.out 1 (.bool true) (cs' := #[.slice A s.1.length c, .bool true]) rfl
    have hst : Rd w0 (w.setCell ⟨g, 1, none⟩ (.bool true)) g (s.1, true) :=
      ⟨H.out.below.setCell H.out.far _, H.out.far, ⟨A, c, hb1, hc, hm, HC.out⟩, H.out.bytes⟩
    exact ⟨A1, c1, rfl, hc1, hC1, hst.grown HB.out, ((KeepBut.refl w g none).set_ 1 _).trans (KeepBut.of_below HB.out g none) (.inl rfl)⟩
  · have hlt' : ¬ (s.1.length : Int) < (n : Int) := by omega
    have er : takeR s n = s.1.take n := if_neg hlt
    have es : takeS s n = (s.1.drop n, s.2) := if_neg hlt
    rw [er, es]
    obtain ⟨iu, hiu, hsz⟩ := rd_uint8
    have hs1 := cut_to (P := Tryz.prog) 67 5 .i64 Tryz.underlying67 hiu A s.1.length c (n : Int) (by omega) (by omega) hc
    have hs2 := cut_from (P := Tryz.prog) 67 5 .i64 Tryz.underlying67 hiu 1 hsz A s.1.length c (n : Int) (by omega) (by omega)
    obtain ⟨A1, hA1⟩ : ∃ A1, A1 = if c = n then A else Option.map (fun x => x.add n) A := ⟨_, rfl⟩
    simp only [Int.toNat_natCast, Nat.mul_one] at hs2
    rw [← hA1] at hs2
    have HA1 := Aside0.mk hA1
    clear hA1
    go_enter Tryz.func193, Tryz.ntmps193
    go_wp2_with fail
    go_region
    go_wp2
    go_ret
    have hl1 : (s.1.take n).length = n := by rw [List.length_take]; omega
    have hl2 : (s.1.drop n).length = s.1.length - n := List.length_drop
    have hC1 := Kd.C_take HC.out (m := n) (by omega)
    have hC2 := Kd.C_drop HC.out (m := n) (by omega) hc
    rw [hl1] at hC1
    rw [show n * (Kd.int .u8).sz = n from Nat.mul_one n, ← HA1.out] at hC2
    have hb1 := blk_put HBK.out 0 (.slice A1 (s.1.length - n) (c - n)) (cs' := #[.slice A1 (s.1.length - n) (c - n), .bool s.2]) rfl
    have hst : Rd w0 (w.setCell ⟨g, 0, none⟩ (.slice A1 (s.1.length - n) (c - n))) g (s.1.drop n, s.2) :=
      ⟨H.out.below.setCell H.out.far _, H.out.far, ⟨_, c - n, by rw [hl2]; exact hb1, by rw [hl2]; omega, by rw [hl2]; unfold maxLen; omega, hC2⟩, fun x hx => H.out.bytes x (List.mem_of_mem_drop hx)⟩
    exact ⟨A, c, rfl, by omega, Kd.C_below hC1 (drew_rd hst).below, drew_rd hst, keep_drew ((KeepBut.refl w g none).set_ 0 _)⟩

theorem u32_join (x y : Int) (h0 : 0 ≤ y) (h1 : y < 256) : bits .or .u32 (x * 256 % 4294967296) y = (x * 256 + y) % 4294967296 := by
  have h := bits_join .u32 32 (by decide) (fun n a b => by rw [IntKind.wrap_u32]; omega) 8 (x * 256 % 4294967296) y (by omega) (by omega) (by omega) h0 (by omega) (by omega)
  exact h.trans (by omega)

theorem takeR_bytes {s : RdS} (hs : ∀ x ∈ s.1, 0 ≤ x ∧ x < 256) (n : Nat) : ∀ x ∈ takeR s n, 0 ≤ x ∧ x < 256 := by
  intro x hx
  unfold takeR at hx
  split at hx
  · obtain ⟨_, rfl⟩ := List.mem_replicate.1 hx; omega
  · exact hs x (List.mem_of_mem_take hx)
theorem takeR_length (s : RdS) (n : Nat) : (takeR s n).length = n := by
  unfold takeR
  split
  · simp
  · rw [List.length_take]; omega

set_option maxHeartbeats 1600000 in
set_option maxRecDepth 100000 in
theorem number_calls (w0 w : World) (g : Nat) (s : RdS) (n : Nat) (hn : n ≤ 256) (h : Rd w0 w g s) :
    Calls Tryz.prog 120 #[.pointer (some ⟨g, 0, none⟩), .int .i64 n] w fun e w' => e = .returned (.int .u32 (numR s n)) ∧ Rd w0 w' g (takeS s n) ∧ KeepBut w w' g none := by
  have hby := takeR_bytes h.bytes n
  have hln := takeR_length s n
  unfold numR
  obtain ⟨l, hle⟩ : ∃ l, l = takeR s n := ⟨_, rfl⟩
  rw [← hle] at hby hln ⊢
  have HLE := Aside0.mk hle
  clear hle
  have H := Aside0.mk h
  clear h
  go_enter Tryz.func120, Tryz.ntmps120
  go_wp2_with fail
  refine (take_calls w0 _ g s n hn H.out).mono ?_
  rintro e w1 ⟨A, c, rfl, hc, hC, hR, hK⟩
  rw [← HLE.out] at hC
  have HC := Aside0.mk hC
  have HR := Aside0.mk hR
  have HK := Aside0.mk hK
  clear hC hR hK
  go_wp2
  go_loop [4, 11] (fun x i => ∃ k : Nat, k ≤ n ∧ x = .int .u32 (foldN (l.take k)) ∧ i = .int .i64 k) (fun _ i => n - (intOf i).toNat)
  case atStart => exact ⟨0, Nat.zero_le _, rfl, rfl⟩
  case round =>
    obtain ⟨k, hk, rfl, rfl⟩ := hrel
    by_cases hlt : k < n
    · have hlt' : (k : Int) < (n : Int) := by omega
      obtain ⟨ad, cs, rfl, hcl, hKc, hcell⟩ := Kd.C_get HC.out 0 (k : Int) (by omega) (by omega)
      have e1 : cs = [.int .u8 (l.getD k 0)] := hKc
      subst e1
      have hx := hcell 0 (.int .u8 (l.getD k 0)) rfl
      simp only [Int.toNat_natCast, Nat.mul_one, Nat.add_zero, show (Kd.int .u8).sz = 1 from rfl] at hx
      have hg : l.getD k 0 = l[k]'(by omega) := by rw [List.getD_eq_getElem?_getD, List.getElem?_eq_getElem (by omega)]; rfl
      have hb := hby (l[k]'(by omega)) (List.getElem_mem _)
      rw [← hg] at hb
      generalize l.getD k 0 = b at *
      have HG := Aside0.mk hg
      clear hg
      go_wp2
      go_round
      case rel =>
        refine ⟨k + 1, by omega, ?_, by go_num⟩
        rw [u32_join _ _ hb.1 hb.2, List.take_succ_eq_append_getElem (by omega), ← HG.out]
        unfold foldN
        rw [List.foldl_append]
        rfl
      case measure => simp [intOf]; omega
    · go_wp2
      have e2 : l.take k = l := List.take_of_length_le (by omega)
      rw [e2]
      go_ret
      exact ⟨rfl, HR.out, HK.out⟩

theorem foldN_range (l : List Int) : 0 ≤ foldN l ∧ foldN l < 4294967296 := by
  have h : ∀ (l : List Int) (a : Int), 0 ≤ a ∧ a < 4294967296 → 0 ≤ l.foldl (fun n c => (n * 256 + c) % 4294967296) a ∧ l.foldl (fun n c => (n * 256 + c) % 4294967296) a < 4294967296 := by
    intro l
    induction l with
    | nil => intro a h; exact h
    | cons x l ih => intro a h; exact ih ((a * 256 + x) % 4294967296) (by omega)
  exact h l 0 (by decide)
theorem numR_one {s : RdS} (hs : ∀ x ∈ s.1, 0 ≤ x ∧ x < 256) : 0 ≤ numR s 1 ∧ numR s 1 < 256 := by
  have h1 := takeR_length s 1
  have h2 := takeR_bytes hs 1
  unfold numR
  match h : takeR s 1 with
  | [] => rw [h] at h1; cases h1
  | [x] =>
    have := h2 x (by rw [h]; simp)
    simp [foldN]
    omega
  | x :: y :: l => rw [h] at h1; simp at h1
theorem numR_two {s : RdS} (hs : ∀ x ∈ s.1, 0 ≤ x ∧ x < 256) : 0 ≤ numR s 2 ∧ numR s 2 < 65536 := by
  have h1 := takeR_length s 2
  have h2 := takeR_bytes hs 2
  unfold numR
  match h : takeR s 2 with
  | [] => rw [h] at h1; cases h1
  | [x] => rw [h] at h1; simp at h1
  | [x, y] =>
    have := h2 x (by rw [h]; simp)
    have := h2 y (by rw [h]; simp)
    simp [foldN]
    omega
  | x :: y :: z :: l => rw [h] at h1; simp at h1
theorem numR_range (s : RdS) (n : Nat) : 0 ≤ numR s n ∧ numR s n < 4294967296 := foldN_range _

set_option maxHeartbeats 1600000 in
set_option maxRecDepth 100000 in
theorem text_calls (w0 w : World) (g : Nat) (s : RdS) (h : Rd w0 w g s) :
    Calls Tryz.prog 119 #[.pointer (some ⟨g, 0, none⟩)] w fun e w' => e = .returned (.string (textR s)) ∧ Rd w0 w' g (textS s) ∧ KeepBut w w' g none := by
  have hn := numR_one h.bytes
  obtain ⟨m, hm⟩ : ∃ m : Nat, numR s 1 = m := ⟨(numR s 1).toNat, by omega⟩
  have hm' : m < 256 := by omega
  unfold textR textS
  rw [hm, Int.toNat_natCast]
  clear hn
  have HM := Aside0.mk hm
  have H := Aside0.mk h
  clear h hm
  go_enter Tryz.func119, Tryz.ntmps119
  go_wp2_with fail
  refine (number_calls w0 _ g s 1 (by omega) H.out).mono ?_
  rintro e w1 ⟨rfl, hR, hK⟩
  rw [HM.out]
  have HR := Aside0.mk hR
  have HK := Aside0.mk hK
  clear hR hK
  go_wp2_with fail
  refine (take_calls w0 _ g (takeS s 1) m (by omega) HR.out).mono ?_
  rintro e w2 ⟨A, c, rfl, hc, hC, hR, hK⟩
  have hcv := Kd.C_string (P := Tryz.prog) (src := 67) (dst := 9) (c := c) Tryz.underlying67 Tryz.underlying5 Tryz.underlying9 hC
  have HR2 := Aside0.mk hR
  have HK2 := Aside0.mk hK
  clear hR hK hC
  go_wp2
  go_ret
  exact ⟨rfl, HR2.out, HK.out.trans HK2.out (.inl rfl)⟩

end Go.Proofs.YtcohodkpppmaoaaGreatDoor.Q
namespace Go.Proofs.YtcohodkpppmaoaaGreatDoor.Q
open Go.RowKit Go.Proofs.YtcohodkpppmaoaaGreatDoorW.PrintWords Go.Proofs.YtcohodkpppmaoaaGreatDoorW.PrintLast Go.Proofs.YtcohodkpppmaoaaGreatDoorW.PrintMore
set_option linter.unusedVariables false

def opR (s : RdS) : S82 := ⟨numR s 1 % 256, textR (takeS s 1), textR (textS (takeS s 1)), numR (textS (textS (takeS s 1))) 4⟩
def opS (s : RdS) : RdS := takeS (textS (textS (takeS s 1))) 4
def changeS (s : RdS) : RdS := takeS (takeS (textS s) 1) 4
def rowR (s : RdS) : S148 := ⟨textR s, numR (textS s) 4⟩
def rowS (s : RdS) : RdS := takeS (textS s) 4

/-- What was there, and is not the reader's block, stays: a cell. -/
theorem keep_cells {w w1 : World} {g b t : Nat} {cs : Array Value} (hb : w.heap[b]? = some (.cells cs t (0, 0))) (hne : b ≠ g) (hK : KeepBut w w1 g none) : w1.heap[b]? = some (.cells cs t (0, 0)) := hK.blk hb hne (by simp)

theorem Rd.alloc {w0 w : World} {g : Nat} {s : RdS} (h : Rd w0 w g s) (o : Obj) : Rd w0 (w.alloc o) g s := h.grown (below_alloc (Below.refl _ _) o)
theorem Rd.set {w0 w : World} {g b : Nat} {s : RdS} (h : Rd w0 w g s) (hb : g ≠ b) (h0 : w0.heap.size ≤ b) (j : Nat) (u : Value) : Rd w0 (w.setCell ⟨b, j, none⟩ u) g s := by
  obtain ⟨A, c, hr, h1, h2, h3⟩ := h.row
  exact ⟨h.below.setCell h0 _, h.far, ⟨A, c, blk_far hr hb u, h1, h2, h3⟩, h.bytes⟩
theorem Rd.lt {w0 w : World} {g : Nat} {s : RdS} (h : Rd w0 w g s) : g < w.heap.size := by
  obtain ⟨A, c, hr, _⟩ := h.row
  exact blk_lt hr
theorem keep_new {w W : World} {g b : Nat} (h : KeepBut w W g none) (hb : w.heap.size ≤ b) (j : Nat) (u : Value) : KeepBut w (W.setCell ⟨b, j, none⟩ u) g none := keep_far h (p := ⟨b, j, none⟩) hb u
theorem keep_then {w w1 w2 : World} {g : Nat} (h : KeepBut w w1 g none) (k : KeepBut w1 w2 g none) : KeepBut w w2 g none := h.trans k (.inl rfl)

theorem blk4 {w : World} {g t : Nat} {a b c d : Value} (h : w.heap[g]? = some (.cells #[a, b, c, d] t (0, 0))) : (w.cell? ⟨g, 0, none⟩ = some a ∧ w.cell? ⟨g, 1, none⟩ = some b ∧ w.cell? ⟨g, 2, none⟩ = some c ∧ w.cell? ⟨g, 3, none⟩ = some d) ∧ (w.frozen? ⟨g, 0, none⟩ = false ∧ w.frozen? ⟨g, 1, none⟩ = false ∧ w.frozen? ⟨g, 2, none⟩ = false ∧ w.frozen? ⟨g, 3, none⟩ = false) :=
  ⟨⟨blk_cell h 0, blk_cell h 1, blk_cell h 2, blk_cell h 3⟩, ⟨blk_frozen h 0, blk_frozen h 1, blk_frozen h 2, blk_frozen h 3⟩⟩
theorem blk2 {w : World} {g t : Nat} {a b : Value} (h : w.heap[g]? = some (.cells #[a, b] t (0, 0))) : (w.cell? ⟨g, 0, none⟩ = some a ∧ w.cell? ⟨g, 1, none⟩ = some b) ∧ (w.frozen? ⟨g, 0, none⟩ = false ∧ w.frozen? ⟨g, 1, none⟩ = false) :=
  ⟨⟨blk_cell h 0, blk_cell h 1⟩, ⟨blk_frozen h 0, blk_frozen h 1⟩⟩

set_option maxHeartbeats 1600000 in
set_option maxRecDepth 100000 in
theorem oneOp_calls (w0 w : World) (g : Nat) (s : RdS) (h : Rd w0 w g s) :
    Calls Tryz.prog 136 #[.pointer (some ⟨g, 0, none⟩)] w fun e w' => e = .returned (.agg #[.int .u8 (opR s).f0, .string (opR s).f1, .string (opR s).f2, .int .u32 (opR s).f3]) ∧ Rd w0 w' g (opS s) ∧ KeepBut w w' g none := by
  unfold opR opS
  dsimp only
  have hu := Tryz.underlying82
  have H := Aside0.mk h
  have hlt : g < w.heap.size := h.lt
  have h0 : w0.heap.size ≤ w.heap.size := h.below.size
  have hgb : g ≠ w.heap.size := by omega
  clear h
  go_enter Tryz.func136, Tryz.ntmps136
  go_wp2_with fail
  refine (number_calls w0 _ g s 1 (by omega) (H.out.alloc _)).mono ?_
  rintro e w1 ⟨rfl, hR, hK⟩
  have B1 := keep_cells (blk_new w (.cells #[.int .u8 0, .string ⟨#[]⟩, .string ⟨#[]⟩, .int .u32 0] 82)) (Ne.symm hgb) hK
  have K1 := Aside0.mk (keep_then (KeepBut.of_below (below_alloc (Below.refl w.heap.size w) (.cells #[.int .u8 0, .string ⟨#[]⟩, .string ⟨#[]⟩, .int .u32 0] 82)) g none) hK)
  have R1 := Aside0.mk hR
  clear hR hK
  obtain ⟨⟨c0, c1, c2, c3⟩, f0, f1, f2, f3⟩ := blk4 B1
  have B1' := Aside0.mk (blk_put B1 0 (.int .u8 (numR s 1 % 256)) (cs' := #[.int .u8 (numR s 1 % 256), .string ⟨#[]⟩, .string ⟨#[]⟩, .int .u32 0]) rfl)
  clear B1
  go_wp2_with fail
  clear c0 c1 c2 c3 f0 f1 f2 f3
  refine (text_calls w0 _ g _ (R1.out.set hgb h0 0 _)).mono ?_
  rintro e w2 ⟨rfl, hR, hK⟩
  have R2 := Aside0.mk hR
  have K2 := Aside0.mk (keep_then (keep_new K1.out (Nat.le_refl _) 0 _) hK)
  have B2 := Aside0.mk (keep_cells B1'.out (Ne.symm hgb) hK)
  clear hR hK B1' R1 K1
  go_wp2_with fail
  refine (text_calls w0 _ g _ R2.out).mono ?_
  rintro e w3 ⟨rfl, hR, hK⟩
  have R3 := Aside0.mk hR
  have K3 := Aside0.mk (keep_then K2.out hK)
  have B3 := keep_cells B2.out (Ne.symm hgb) hK
  clear hR hK B2 R2 K2
  obtain ⟨⟨c0, c1, c2, c3⟩, f0, f1, f2, f3⟩ := blk4 B3
  have B3' := Aside0.mk (blk_put (blk_put B3 1 (.string (textR (takeS s 1))) rfl) 2 (.string (textR (textS (takeS s 1)))) (cs' := #[.int .u8 (numR s 1 % 256), .string (textR (takeS s 1)), .string (textR (textS (takeS s 1))), .int .u32 0]) rfl)
  clear B3
  go_wp2_with fail
  clear c0 c1 c2 c3 f0 f1 f2 f3
  refine (number_calls w0 _ g _ 4 (by omega) ((R3.out.set hgb h0 1 _).set hgb h0 2 _)).mono ?_
  rintro e w4 ⟨rfl, hR, hK⟩
  have R4 := Aside0.mk hR
  have K4 := Aside0.mk (keep_then (keep_new (keep_new K3.out (Nat.le_refl _) 1 _) (Nat.le_refl _) 2 _) hK)
  have B4 := keep_cells B3'.out (Ne.symm hgb) hK
  clear hR hK B3' R3 K3
  obtain ⟨⟨c0, c1, c2, c3⟩, f0, f1, f2, f3⟩ := blk4 B4
  have B4' := Aside0.mk B4
  clear B4
  go_wp2
  try simp only [Exit.inBlock, Exit.then]
  refine bodyPost_ret (results_cell_row rfl _ _ w.heap.size 82 _ (0, 0) _ rfl (blk_put (cs' := #[.int .u8 (numR s 1 % 256), .string (textR (takeS s 1)), .string (textR (textS (takeS s 1))), .int .u32 (numR (textS (textS (takeS s 1))) 4)]) (blk_put (cs' := #[.int .u8 (numR s 1 % 256), .string (textR (takeS s 1)), .string (textR (textS (takeS s 1))), .int .u32 (numR (textS (textS (takeS s 1))) 4)]) (blk_put (cs' := #[.int .u8 (numR s 1 % 256), .string (textR (takeS s 1)), .string (textR (textS (takeS s 1))), .int .u32 (numR (textS (textS (takeS s 1))) 4)]) (blk_put (cs' := #[.int .u8 (numR s 1 % 256), .string (textR (takeS s 1)), .string (textR (textS (takeS s 1))), .int .u32 (numR (textS (textS (takeS s 1))) 4)]) (blk_put (cs' := #[.int .u8 (numR s 1 % 256), .string (textR (takeS s 1)), .string (textR (textS (takeS s 1))), .int .u32 (numR (textS (textS (takeS s 1))) 4)]) B4'.out 3 _ rfl) 0 _ rfl) 1 _ rfl) 2 _ rfl) 3 _ rfl) hu rfl (by kernel_rfl)) rfl ?_
  refine ⟨rfl, ?_, ?_⟩
  · repeat (first | exact R4.out | refine Rd.set ?_ hgb h0 _ _)
  · repeat (first | exact K4.out | refine keep_new ?_ (Nat.le_refl _) _ _)

set_option maxHeartbeats 1600000 in
set_option maxRecDepth 100000 in
theorem oneRow_calls (w0 w : World) (g b : Nat) (s : RdS) (h : Rd w0 w g s) (hb : w.heap[b]? = some (.cells #[.pointer (some ⟨g, 0, none⟩)] 125 (0, 0))) (hne : b ≠ g) :
    Calls Tryz.prog 146 #[.pointer (some ⟨b, 0, none⟩)] w fun e w' => e = .returned (.agg #[.string (rowR s).f0, .int .u32 (rowR s).f1]) ∧ Rd w0 w' g (rowS s) ∧ KeepBut w w' g none := by
  unfold rowR rowS
  dsimp only
  have hu := Tryz.underlying148
  have H := Aside0.mk h
  have hlt : g < w.heap.size := h.lt
  have hlb : b < w.heap.size := blk_lt hb
  have h0 : w0.heap.size ≤ w.heap.size := h.below.size
  have hgb : g ≠ w.heap.size := by omega
  have hbb : b ≠ w.heap.size := by omega
  have hcb : w.cell? ⟨b, 0, none⟩ = some (.pointer (some ⟨g, 0, none⟩)) := blk_cell hb 0
  have HBB := Aside0.mk hb
  clear h hb
  go_enter Tryz.func146, Tryz.ntmps146
  go_wp2_with fail
  go_region_with (first
    | (go_at_call 119
       refine (text_calls w0 _ g s (drew_rd (H.out.alloc _))).mono ?_
       rintro e w1 ⟨rfl, hR, hK⟩
       have B1 := Aside0.mk (keep_cells (blk_drew (blk_new w (.cells #[.string ⟨#[]⟩, .int .u32 0] 148))) (Ne.symm hgb) hK)
       have K1 := Aside0.mk (keep_then (keep_drew (KeepBut.of_below (below_alloc (Below.refl w.heap.size w) (.cells #[.string ⟨#[]⟩, .int .u32 0] 148)) g none)) hK)
       have R1 := Aside0.mk hR
       have hcb1 : w1.cell? ⟨b, 0, none⟩ = some (.pointer (some ⟨g, 0, none⟩)) := blk_cell (keep_cells (blk_drew (blk_alloc HBB.out _)) hne hK) 0
       clear hR hK)
    | (go_at_call 120
       refine (number_calls w0 _ g _ 4 (by omega) R1.out).mono ?_
       rintro e w2 ⟨rfl, hR, hK⟩
       have K2 := Aside0.mk (keep_then K1.out hK)
       have R2 := Aside0.mk hR
       have B2 := keep_cells B1.out (Ne.symm hgb) hK
       obtain ⟨⟨c0, c1⟩, f0, f1⟩ := blk2 B2
       have B2' := Aside0.mk (blk_put (blk_put B2 0 (.string (textR s)) rfl) 1 (.int .u32 (numR (textS s) 4)) (cs' := #[.string (textR s), .int .u32 (numR (textS s) 4)]) rfl)
       clear hR hK B2))
  all_goals
    go_wp2
    try simp only [Exit.inBlock, Exit.then]
    refine bodyPost_ret (results_cell_row rfl _ _ w.heap.size 148 _ (0, 0) _ rfl (blk_put (cs' := #[.string (textR s), .int .u32 (numR (textS s) 4)]) (blk_put (cs' := #[.string (textR s), .int .u32 (numR (textS s) 4)]) B2'.out 0 _ rfl) 1 _ rfl) hu rfl (by kernel_rfl)) rfl ?_
    refine ⟨rfl, ?_, ?_⟩
    · repeat (first | exact R2.out | refine Rd.set ?_ hgb h0 _ _)
    · repeat (first | exact K2.out | refine keep_new ?_ (Nat.le_refl _) _ _)

end Go.Proofs.YtcohodkpppmaoaaGreatDoor.Q
namespace Go.Proofs.YtcohodkpppmaoaaGreatDoor.Q
open Go.RowKit Go.Proofs.YtcohodkpppmaoaaGreatDoorW.PrintWords Go.Proofs.YtcohodkpppmaoaaGreatDoorW.PrintLast Go.Proofs.YtcohodkpppmaoaaGreatDoorW.PrintMore
set_option linter.unusedVariables false

def sevN {α : Type} (r : RdS → α) (st : RdS → RdS) : Nat → RdS → List α
  | 0, _ => []
  | n + 1, s => if s.2 then [] else r s :: sevN r st n (st s)
def sevNS {α : Type} (r : RdS → α) (st : RdS → RdS) : Nat → RdS → RdS
  | 0, s => s
  | n + 1, s => if s.2 then s else sevNS r st n (st s)
def sevR {α : Type} (r : RdS → α) (st : RdS → RdS) (s : RdS) : List α := sevN r st (numR s 2).toNat (takeS s 2)
def sevS {α : Type} (r : RdS → α) (st : RdS → RdS) (s : RdS) : RdS := sevNS r st (numR s 2).toNat (takeS s 2)

/-- What is new, and not the reader's block, is not touched by the reader. -/
theorem R_rd {α : Type} {d : Kd α} {e base g : Nat} {w w1 : World} {v : Value} {xs : List α} (h : d.R e w base (fun k => k ≠ g) v xs) (hK : KeepBut w w1 g none) : d.R e w1 base (fun k => k ≠ g) v xs := Kd.R_keep h hK (fun _ hk => hk)
theorem keep_grown {w W w1 : World} {g : Nat} {row : Option Nat} (h : KeepBut w W g none) (hg : W.grownBy w1 row) (hr : ∀ k, row = some k → w.heap.size ≤ k) : KeepBut w w1 g none :=
  h.trans (KeepBut.of_grown hg g) (by
    cases row with
    | none => exact .inl rfl
    | some k => exact .inr ⟨k, rfl, hr k rfl⟩)
theorem Rd.grownBy {w0 w w1 : World} {g : Nat} {s : RdS} (h : Rd w0 w g s) (hb : Below w0.heap.size w0 w1) {row : Option Nat} (hg : w.grownBy w1 row) (hr : ∀ k, row = some k → k ≠ g) : Rd w0 w1 g s := by
  obtain ⟨A, c, hr0, h1, h2, h3⟩ := h.row
  exact ⟨hb, h.far, ⟨A, c, blk_grown hr0 hg (by intro e; exact hr g e.symm rfl), h1, h2, h3⟩, h.bytes⟩

set_option maxHeartbeats 1600000 in
set_option maxRecDepth 100000 in
theorem getOneOp_calls (w0 w : World) (g bo br : Nat) (s : RdS) (h : Rd w0 w g s) (hbo : w.heap[bo]? = some (.cells #[.func (.func 136) #[] #[]] 141 (0, 0))) (hbr : w.heap[br]? = some (.cells #[.pointer (some ⟨g, 0, none⟩)] 125 (0, 0))) :
    Calls Tryz.prog 195 #[.pointer (some ⟨bo, 0, none⟩), .pointer (some ⟨br, 0, none⟩)] w fun e w' => e = .returned (.agg #[.int .u8 (opR s).f0, .string (opR s).f1, .string (opR s).f2, .int .u32 (opR s).f3]) ∧ Rd w0 w' g (opS s) ∧ KeepBut w w' g none := by
  obtain ⟨x, hx⟩ : ∃ x, x = opR s := ⟨_, rfl⟩
  rw [← hx]
  have HX := Aside0.mk hx
  clear hx
  have hu := Tryz.underlying82
  have H := Aside0.mk h
  have hlt : g < w.heap.size := h.lt
  have h0 : w0.heap.size ≤ w.heap.size := h.below.size
  have hgb : g ≠ w.heap.size := by omega
  have co : w.cell? ⟨bo, 0, none⟩ = some (.func (.func 136) #[] #[]) := blk_cell hbo 0
  have cr : w.cell? ⟨br, 0, none⟩ = some (.pointer (some ⟨g, 0, none⟩)) := blk_cell hbr 0
  have lo : bo < w.heap.size := blk_lt hbo
  have lr : br < w.heap.size := blk_lt hbr
  clear h hbo hbr
  go_enter Tryz.func195, Tryz.ntmps195
  go_wp2_with fail
  refine (oneOp_calls w0 _ g s (H.out.alloc _)).mono ?_
  rintro e w1 ⟨rfl, hR, hK⟩
  rw [← HX.out]
  have B1 := keep_cells (blk_new w (.cells #[.int .u8 0, .string ⟨#[]⟩, .string ⟨#[]⟩, .int .u32 0] 82)) (Ne.symm hgb) hK
  have K1 := Aside0.mk (keep_then (KeepBut.of_below (below_alloc (Below.refl w.heap.size w) (.cells #[.int .u8 0, .string ⟨#[]⟩, .string ⟨#[]⟩, .int .u32 0] 82)) g none) hK)
  have R1 := Aside0.mk hR
  clear hR hK
  obtain ⟨⟨c0, c1, c2, c3⟩, f0, f1, f2, f3⟩ := blk4 B1
  have B1' := Aside0.mk B1
  clear B1
  go_wp2
  try simp only [Exit.inBlock, Exit.then]
  refine bodyPost_ret (results_cell_row rfl _ _ w.heap.size 82 _ (0, 0) _ rfl (blk_put (cs' := #[.int .u8 x.f0, .string x.f1, .string x.f2, .int .u32 x.f3]) (blk_put (cs' := #[.int .u8 x.f0, .string x.f1, .string x.f2, .int .u32 0]) (blk_put (cs' := #[.int .u8 x.f0, .string x.f1, .string ⟨#[]⟩, .int .u32 0]) (blk_put (cs' := #[.int .u8 x.f0, .string ⟨#[]⟩, .string ⟨#[]⟩, .int .u32 0]) B1'.out 0 _ rfl) 1 _ rfl) 2 _ rfl) 3 _ rfl) hu rfl (by kernel_rfl)) rfl ?_
  refine ⟨rfl, ?_, ?_⟩
  · repeat (first | exact R1.out | refine Rd.set ?_ hgb h0 _ _)
  · repeat (first | exact K1.out | refine keep_new ?_ (Nat.le_refl _) _ _)

set_option maxHeartbeats 1600000 in
set_option maxRecDepth 100000 in
theorem severalOp_calls (w0 w : World) (g : Nat) (bo br : Nat) (s : RdS) (h : Rd w0 w g s) (hbo : w.heap[bo]? = some (.cells #[.func (.func 136) #[] #[]] 141 (0, 0))) (hbr : w.heap[br]? = some (.cells #[.pointer (some ⟨g, 0, none⟩)] 125 (0, 0))) (ho : bo ≠ g) (hr : br ≠ g) :
    Calls Tryz.prog 194 #[.pointer (some ⟨g, 0, none⟩), .func (.func 195) #[] #[.pointer (some ⟨bo, 0, none⟩), .pointer (some ⟨br, 0, none⟩)]] w fun e w' => ∃ v, e = .returned v ∧ Kd.R k82 82 w' w.heap.size (fun _ => True) v (sevR opR opS s) ∧ Rd w0 w' g (sevS opR opS s) ∧ KeepBut w w' g none := by
  have hu := Tryz.underlying82
  have H := Aside0.mk h
  have hlt : g < w.heap.size := h.lt
  have h0 : w0.heap.size ≤ w.heap.size := h.below.size
  have hn := numR_two h.bytes
  obtain ⟨m, hm⟩ : ∃ m : Nat, numR s 2 = m := ⟨(numR s 2).toNat, by omega⟩
  have hm' : m < 65536 := by omega
  have HM := Aside0.mk hm
  have HBO := Aside0.mk hbo
  have HBR := Aside0.mk hbr
  have e1 : sevR opR opS s = sevN opR opS m (takeS s 2) := by unfold sevR; rw [hm]; rfl
  have e2 : sevS opR opS s = sevNS opR opS m (takeS s 2) := by unfold sevS; rw [hm]; rfl
  rw [e1, e2]
  clear h hn hm hbo hbr e1 e2
  go_enter Tryz.func194, Tryz.ntmps194
  go_wp2_with fail
  refine (number_calls w0 _ g s 2 (by omega) H.out).mono ?_
  rintro e w1 ⟨rfl, hR, hK⟩
  rw [HM.out]
  have R1 := Aside0.mk hR
  have K1 := Aside0.mk hK
  clear hR hK
  go_wp2
  go_loopw [4, 5] (fun v n wr => ∃ (j : Nat) (sj : RdS) (xs : List S82), n = .int .u32 j ∧ j ≤ m ∧ Aside0 (xs.length + j ≤ m) ∧ Aside0 (sevN opR opS m (takeS s 2) = xs ++ sevN opR opS j sj) ∧ Aside0 (sevNS opR opS m (takeS s 2) = sevNS opR opS j sj) ∧ Aside0 (Kd.R k82 82 wr w.heap.size (fun k => k ≠ g) v xs) ∧ Aside0 (Rd w0 wr g sj) ∧ Aside0 (KeepBut w wr g none)) (fun _ n _ => (intOf n).toNat)
  case atStart => exact ⟨m, _, [], rfl, Nat.le_refl _, ⟨by simp⟩, ⟨rfl⟩, ⟨rfl⟩, ⟨Kd.R_nil _ _ _ _ _⟩, R1, K1⟩
  case round =>
    obtain ⟨j, sj, xs, rfl, hj, HL, E1, E2, HO, HR, HK⟩ := hrel
    cases j with
    | zero =>
      go_wp2
      go_ret
      rw [E1.out, E2.out]
      exact ⟨_, rfl, by rw [show sevN opR opS 0 sj = [] from rfl, List.append_nil]; exact Kd.R_mono HO.out (fun _ _ => trivial), HR.out, HK.out⟩
    | succ i =>
      obtain ⟨A, c, hrow, _⟩ := HR.out.row
      have cs : wr.cell? ⟨g, 1, none⟩ = some (.bool sj.2) := blk_cell hrow 1
      clear hrow
      cases hsh : sj.2 with
      | true =>
        rw [hsh] at cs
        go_wp2
        go_ret
        rw [E1.out, E2.out]
        have q1 : sevN opR opS (i + 1) sj = [] := by unfold sevN; rw [if_pos hsh]
        have q2 : sevNS opR opS (i + 1) sj = sj := by unfold sevNS; rw [if_pos hsh]
        rw [q1, q2]
        exact ⟨_, rfl, by rw [List.append_nil]; exact Kd.R_mono HO.out (fun _ _ => trivial), HR.out, HK.out⟩
      | false =>
        rw [hsh] at cs
        have q1 : sevN opR opS (i + 1) sj = opR sj :: sevN opR opS i (opS sj) := by rw [sevN, if_neg (by rw [hsh]; decide)]
        have q2 : sevNS opR opS (i + 1) sj = sevNS opR opS i (opS sj) := by rw [sevNS, if_neg (by rw [hsh]; decide)]
        rw [q1] at E1
        rw [q2] at E2
        clear q1 q2
        obtain ⟨Av, cv, rfl, hcv, _⟩ := Kd.R_reads HO.out
        have hjp : (0 : Int) < ((i + 1 : Nat) : Int) := by omega
        have hszw : w.heap.size ≤ wr.heap.size := HK.out.1
        have BO1 := Aside0.mk (HK.out.blk HBO.out ho (by simp))
        have BR1 := Aside0.mk (HK.out.blk HBR.out hr (by simp))
        go_wp2_with fail
        refine (getOneOp_calls w0 wr g bo br sj HR.out BO1.out BR1.out).mono ?_
        rintro e w2 ⟨rfl, hR, hK⟩
        obtain ⟨x, hx⟩ : ∃ x, x = opR sj := ⟨_, rfl⟩
        rw [← hx]
        have HX := Aside0.mk hx
        have HO2 := Aside0.mk (R_rd HO.out hK)
        have HK2 := Aside0.mk (keep_then HK.out hK)
        have HR2 := Aside0.mk hR
        have hs2 : w.heap.size ≤ w2.heap.size := HK2.out.1
        clear hx hR hK cs
        go_wp2_with (first | (at_builtin; refine Kd.R_append k82 (w0 := w2) w.heap.size rfl (.tmp 19) (.tmp 22) 47 82 (.agg #[.int .u8 0, .string ⟨#[]⟩, .string ⟨#[]⟩, .int .u32 0]) 48 rfl Tryz.underlying47 (by kernel_rfl) rfl (by decide) (by decide) (.slice Av xs.length cv) xs x [.int .u8 x.f0, .string x.f1, .string x.f2, .int .u32 x.f3] (fun k => k ≠ g) (fun _ => False) rfl rfl (k82_mkM _ _ _ _) (fun _ hk => hk.elim) (fun k hk => by omega) HO2.out (Below.refl _ _) hs2 (by have := HL.out; omega) ?_; intro v1 w3 hO hB hG hat; have HO3 := Aside0.mk hO; have HB3 := Aside0.mk hB; have HG3 := Aside0.mk hG; clear hO hB hG hat))
        go_roundw
        case rel =>
          have hown : ∀ k, (Value.slice Av xs.length cv).ownBlock = some k → w.heap.size ≤ k := fun k hk => Kd.R_base HO2.out k hk
          refine ⟨i, opS sj, xs ++ [x], by go_num, by omega, ⟨by have := HL.out; rw [List.length_append]; simp; omega⟩, ⟨by rw [E1.out, HX.out, List.append_assoc]; rfl⟩, E2, HO3, ⟨?_⟩, ⟨?_⟩⟩
          · exact HR2.out.grownBy (HR2.out.below.trans (HB3.out.mono h0)) HG3.out (fun k hk => by have := hown k hk; omega)
          · exact keep_grown HK2.out HG3.out hown
        case measure => simp [intOf]

set_option maxHeartbeats 1600000 in
set_option maxRecDepth 100000 in
theorem severalRow_calls (w0 w : World) (g : Nat) (br : Nat) (s : RdS) (h : Rd w0 w g s) (hbr : w.heap[br]? = some (.cells #[.pointer (some ⟨g, 0, none⟩)] 125 (0, 0))) (hr : br ≠ g) :
    Calls Tryz.prog 145 #[.pointer (some ⟨g, 0, none⟩), .func (.func 146) #[] #[.pointer (some ⟨br, 0, none⟩)]] w fun e w' => ∃ v, e = .returned v ∧ Kd.R k148 148 w' w.heap.size (fun _ => True) v (sevR rowR rowS s) ∧ Rd w0 w' g (sevS rowR rowS s) ∧ KeepBut w w' g none := by
  have hu := Tryz.underlying148
  have H := Aside0.mk h
  have hlt : g < w.heap.size := h.lt
  have h0 : w0.heap.size ≤ w.heap.size := h.below.size
  have hn := numR_two h.bytes
  obtain ⟨m, hm⟩ : ∃ m : Nat, numR s 2 = m := ⟨(numR s 2).toNat, by omega⟩
  have hm' : m < 65536 := by omega
  have HM := Aside0.mk hm
  have HBR := Aside0.mk hbr
  have e1 : sevR rowR rowS s = sevN rowR rowS m (takeS s 2) := by unfold sevR; rw [hm]; rfl
  have e2 : sevS rowR rowS s = sevNS rowR rowS m (takeS s 2) := by unfold sevS; rw [hm]; rfl
  rw [e1, e2]
  clear h hn hm hbr e1 e2
  go_enter Tryz.func145, Tryz.ntmps145
  go_wp2_with fail
  refine (number_calls w0 _ g s 2 (by omega) H.out).mono ?_
  rintro e w1 ⟨rfl, hR, hK⟩
  rw [HM.out]
  have R1 := Aside0.mk hR
  have K1 := Aside0.mk hK
  clear hR hK
  go_wp2
  go_loopw [4, 5] (fun v n wr => ∃ (j : Nat) (sj : RdS) (xs : List S148), n = .int .u32 j ∧ j ≤ m ∧ Aside0 (xs.length + j ≤ m) ∧ Aside0 (sevN rowR rowS m (takeS s 2) = xs ++ sevN rowR rowS j sj) ∧ Aside0 (sevNS rowR rowS m (takeS s 2) = sevNS rowR rowS j sj) ∧ Aside0 (Kd.R k148 148 wr w.heap.size (fun k => k ≠ g) v xs) ∧ Aside0 (Rd w0 wr g sj) ∧ Aside0 (KeepBut w wr g none)) (fun _ n _ => (intOf n).toNat)
  case atStart => exact ⟨m, _, [], rfl, Nat.le_refl _, ⟨by simp⟩, ⟨rfl⟩, ⟨rfl⟩, ⟨Kd.R_nil _ _ _ _ _⟩, R1, K1⟩
  case round =>
    obtain ⟨j, sj, xs, rfl, hj, HL, E1, E2, HO, HR, HK⟩ := hrel
    cases j with
    | zero =>
      go_wp2
      go_ret
      rw [E1.out, E2.out]
      exact ⟨_, rfl, by rw [show sevN rowR rowS 0 sj = [] from rfl, List.append_nil]; exact Kd.R_mono HO.out (fun _ _ => trivial), HR.out, HK.out⟩
    | succ i =>
      obtain ⟨A, c, hrow, _⟩ := HR.out.row
      have cs : wr.cell? ⟨g, 1, none⟩ = some (.bool sj.2) := blk_cell hrow 1
      clear hrow
      cases hsh : sj.2 with
      | true =>
        rw [hsh] at cs
        go_wp2
        go_ret
        rw [E1.out, E2.out]
        have q1 : sevN rowR rowS (i + 1) sj = [] := by unfold sevN; rw [if_pos hsh]
        have q2 : sevNS rowR rowS (i + 1) sj = sj := by unfold sevNS; rw [if_pos hsh]
        rw [q1, q2]
        exact ⟨_, rfl, by rw [List.append_nil]; exact Kd.R_mono HO.out (fun _ _ => trivial), HR.out, HK.out⟩
      | false =>
        rw [hsh] at cs
        have q1 : sevN rowR rowS (i + 1) sj = rowR sj :: sevN rowR rowS i (rowS sj) := by rw [sevN, if_neg (by rw [hsh]; decide)]
        have q2 : sevNS rowR rowS (i + 1) sj = sevNS rowR rowS i (rowS sj) := by rw [sevNS, if_neg (by rw [hsh]; decide)]
        rw [q1] at E1
        rw [q2] at E2
        clear q1 q2
        obtain ⟨Av, cv, rfl, hcv, _⟩ := Kd.R_reads HO.out
        have hjp : (0 : Int) < ((i + 1 : Nat) : Int) := by omega
        have hszw : w.heap.size ≤ wr.heap.size := HK.out.1
        have BR1 := Aside0.mk (HK.out.blk HBR.out hr (by simp))
        go_wp2_with fail
        refine (oneRow_calls w0 wr g br sj HR.out BR1.out hr).mono ?_
        rintro e w2 ⟨rfl, hR, hK⟩
        obtain ⟨x, hx⟩ : ∃ x, x = rowR sj := ⟨_, rfl⟩
        rw [← hx]
        have HX := Aside0.mk hx
        have HO2 := Aside0.mk (R_rd HO.out hK)
        have HK2 := Aside0.mk (keep_then HK.out hK)
        have HR2 := Aside0.mk hR
        have hs2 : w.heap.size ≤ w2.heap.size := HK2.out.1
        clear hx hR hK cs
        go_wp2_with (first | (at_builtin; refine Kd.R_append k148 (w0 := w2) w.heap.size rfl (.tmp 19) (.tmp 22) 143 148 (.agg #[.string ⟨#[]⟩, .int .u32 0]) 24 rfl Tryz.underlying143 (by kernel_rfl) rfl (by decide) (by decide) (.slice Av xs.length cv) xs x [.string x.f0, .int .u32 x.f1] (fun k => k ≠ g) (fun _ => False) rfl rfl (k148_mkM _ _ _ _) (fun _ hk => hk.elim) (fun k hk => by omega) HO2.out (Below.refl _ _) hs2 (by have := HL.out; omega) ?_; intro v1 w3 hO hB hG hat; have HO3 := Aside0.mk hO; have HB3 := Aside0.mk hB; have HG3 := Aside0.mk hG; clear hO hB hG hat))
        go_roundw
        case rel =>
          have hown : ∀ k, (Value.slice Av xs.length cv).ownBlock = some k → w.heap.size ≤ k := fun k hk => Kd.R_base HO2.out k hk
          refine ⟨i, rowS sj, xs ++ [x], by go_num, by omega, ⟨by have := HL.out; rw [List.length_append]; simp; omega⟩, ⟨by rw [E1.out, HX.out, List.append_assoc]; rfl⟩, E2, HO3, ⟨?_⟩, ⟨?_⟩⟩
          · exact HR2.out.grownBy (HR2.out.below.trans (HB3.out.mono h0)) HG3.out (fun k hk => by have := hown k hk; omega)
          · exact keep_grown HK2.out HG3.out hown
        case measure => simp [intOf]

def resR (s : RdS) : S145 := ⟨sevR rowR rowS s⟩
def resS (s : RdS) : RdS := sevS rowR rowS s

theorem R_from {α : Type} {d : Kd α} {e base : Nat} {ok : Nat → Prop} {w : World} {v : Value} {xs : List α} (h : d.R e w base ok v xs) : d.R e w base (fun k => base ≤ k) v xs := Kd.R_mono (Kd.R_bound h) (fun _ hk => hk.2.1)
theorem blk1 {w : World} {g t : Nat} {a : Value} (h : w.heap[g]? = some (.cells #[a] t (0, 0))) : w.cell? ⟨g, 0, none⟩ = some a ∧ w.frozen? ⟨g, 0, none⟩ = false := ⟨blk_cell h 0, blk_frozen h 0⟩

/-- The two blocks that one result needs. -/
def resWorld (w : World) (g : Nat) : World := (w.alloc (.cells #[.pointer (some ⟨g, 0, none⟩)] 125)).alloc (.cells #[.slice none 0 0] 145)
theorem resWorld_facts (w : World) (g : Nat) : Below w.heap.size w (resWorld w g) ∧ (resWorld w g).heap.size = w.heap.size + 1 + 1 ∧ (resWorld w g).heap[w.heap.size]? = some (.cells #[.pointer (some ⟨g, 0, none⟩)] 125 (0, 0)) ∧
    (resWorld w g).heap[w.heap.size + 1]? = some (.cells #[.slice none 0 0] 145 (0, 0)) := by
  have s1 : (w.alloc (.cells #[.pointer (some ⟨g, 0, none⟩)] 125)).heap.size = w.heap.size + 1 := by show (w.heap.push _).size = _; simp
  unfold resWorld
  refine ⟨((Below.refl w.heap.size w).alloc (Nat.le_refl _) _).alloc (by omega) _, ?_, ?_, ?_⟩
  · show ((w.alloc (.cells #[.pointer (some ⟨g, 0, none⟩)] 125)).heap.push _).size = _
    rw [Array.size_push, s1]
  · exact blk_alloc (blk_new w _) _
  · have := blk_new (w.alloc (.cells #[.pointer (some ⟨g, 0, none⟩)] 125)) (.cells #[.slice none 0 0] 145)
    rwa [s1] at this

set_option maxHeartbeats 1600000 in
set_option maxRecDepth 100000 in
theorem oneResult_calls (w0 w : World) (g : Nat) (s : RdS) (h : Rd w0 w g s) :
    Calls Tryz.prog 144 #[.pointer (some ⟨g, 0, none⟩)] w fun e w' => ∃ v, e = .returned (.agg #[v]) ∧ Kd.R k148 148 w' w.heap.size (fun k => w.heap.size ≤ k) v (resR s).f0 ∧ Rd w0 w' g (resS s) ∧ KeepBut w w' g none := by
  unfold resR resS
  dsimp only
  have hu := Tryz.underlying145
  have H := Aside0.mk h
  have hlt : g < w.heap.size := h.lt
  have h0 : w0.heap.size ≤ w.heap.size := h.below.size
  have hmf : ∀ (fn : Fn) (first cap : Array Value) (w : World), (Instr.makeFunc fn first cap).run Tryz.prog w = .ok (.func fn first cap) w := fun _ _ _ _ => rfl
  have HF := Aside0.mk (resWorld_facts w g)
  clear h
  go_enter Tryz.func144, Tryz.ntmps144
  go_wp2_with fail
  change Calls Tryz.prog 145 _ (resWorld w g) _
  obtain ⟨W, hW⟩ : ∃ W, W = resWorld w g := ⟨_, rfl⟩
  rw [← hW] at HF ⊢
  clear hW
  refine (severalRow_calls w0 W g w.heap.size s (H.out.grown HF.out.1) HF.out.2.2.1 (by omega)).mono ?_
  rintro e w1 ⟨v, rfl, hO, hR, hK⟩
  have B1 := keep_cells HF.out.2.2.2 (show w.heap.size + 1 ≠ g by omega) hK
  have HW : W.heap.size = w.heap.size + 1 + 1 := HF.out.2.1
  have HO := Aside0.mk (R_from hO)
  have HR := Aside0.mk hR
  have HK := Aside0.mk (keep_then (KeepBut.of_below HF.out.1 g none) hK)
  clear hO hR hK
  obtain ⟨cB, fB⟩ := blk1 B1
  have B1' := Aside0.mk B1
  clear B1
  obtain ⟨Av, cv, rfl, hcv, _⟩ := Kd.R_reads HO.out
  go_wp2
  try simp only [Exit.inBlock, Exit.then]
  refine bodyPost_ret (results_cell_row rfl _ _ (w.heap.size + 1) 145 _ (0, 0) _ rfl (blk_put (cs' := #[.slice Av (sevR rowR rowS s).length cv]) B1'.out 0 _ rfl) hu rfl (by kernel_rfl)) rfl ?_
  refine ⟨_, rfl, ?_, HR.out.set (by omega) (by omega) _ _, keep_new HK.out (Nat.le_succ _) _ _⟩
  exact Kd.R_mono (Kd.R_lower (Kd.R_far HO.out (p := ⟨w.heap.size + 1, 0, none⟩) (fun k hk => by show k ≠ w.heap.size + 1; omega) _) (by omega)) (fun k hk => by omega)

set_option maxHeartbeats 1600000 in
set_option maxRecDepth 100000 in
theorem getOneResult_calls (w0 w : World) (g bo br : Nat) (s : RdS) (h : Rd w0 w g s) (hbo : w.heap[bo]? = some (.cells #[.func (.func 144) #[] #[]] 155 (0, 0))) (hbr : w.heap[br]? = some (.cells #[.pointer (some ⟨g, 0, none⟩)] 125 (0, 0))) :
    Calls Tryz.prog 199 #[.pointer (some ⟨bo, 0, none⟩), .pointer (some ⟨br, 0, none⟩)] w fun e w' => ∃ v, e = .returned (.agg #[v]) ∧ Kd.R k148 148 w' w.heap.size (fun k => w.heap.size ≤ k) v (resR s).f0 ∧ Rd w0 w' g (resS s) ∧ KeepBut w w' g none := by
  obtain ⟨x, hx⟩ : ∃ x, x = resR s := ⟨_, rfl⟩
  rw [← hx]
  have HX := Aside0.mk hx
  clear hx
  have hu := Tryz.underlying145
  have H := Aside0.mk h
  have hlt : g < w.heap.size := h.lt
  have h0 : w0.heap.size ≤ w.heap.size := h.below.size
  have hgb : g ≠ w.heap.size := by omega
  have co : w.cell? ⟨bo, 0, none⟩ = some (.func (.func 144) #[] #[]) := blk_cell hbo 0
  have cr : w.cell? ⟨br, 0, none⟩ = some (.pointer (some ⟨g, 0, none⟩)) := blk_cell hbr 0
  have lo : bo < w.heap.size := blk_lt hbo
  have lr : br < w.heap.size := blk_lt hbr
  clear h hbo hbr
  go_enter Tryz.func199, Tryz.ntmps199
  go_wp2_with fail
  refine (oneResult_calls w0 _ g s (H.out.alloc _)).mono ?_
  rintro e w1 ⟨v, rfl, hO, hR, hK⟩
  rw [← HX.out] at hO
  rw [show (w.alloc (.cells #[.slice none 0 0] 145)).heap.size = w.heap.size + 1 from Array.size_push _] at hO
  have B1 := keep_cells (blk_new w (.cells #[.slice none 0 0] 145)) (Ne.symm hgb) hK
  have K1 := Aside0.mk (keep_then (KeepBut.of_below (below_alloc (Below.refl w.heap.size w) (.cells #[.slice none 0 0] 145)) g none) hK)
  have R1 := Aside0.mk hR
  have HO := Aside0.mk hO
  clear hR hK hO
  obtain ⟨Av, cv, rfl, hcv, _⟩ := Kd.R_reads HO.out
  obtain ⟨cB, fB⟩ := blk1 B1
  have B1' := Aside0.mk B1
  clear B1
  go_wp2
  try simp only [Exit.inBlock, Exit.then]
  refine bodyPost_ret (results_cell_row rfl _ _ w.heap.size 145 _ (0, 0) _ rfl (blk_put (cs' := #[.slice Av x.f0.length cv]) B1'.out 0 _ rfl) hu rfl (by kernel_rfl)) rfl ?_
  refine ⟨_, rfl, ?_, R1.out.set hgb h0 _ _, keep_new K1.out (Nat.le_refl _) _ _⟩
  exact Kd.R_mono (Kd.R_lower (Kd.R_far HO.out (p := ⟨w.heap.size, 0, none⟩) (fun k hk => by show k ≠ w.heap.size; omega) _) (by omega)) (fun k hk => by omega)

set_option maxHeartbeats 1600000 in
set_option maxRecDepth 100000 in
theorem severalResult_calls (w0 w : World) (g : Nat) (bo br : Nat) (s : RdS) (h : Rd w0 w g s) (hbo : w.heap[bo]? = some (.cells #[.func (.func 144) #[] #[]] 155 (0, 0))) (hbr : w.heap[br]? = some (.cells #[.pointer (some ⟨g, 0, none⟩)] 125 (0, 0))) (ho : bo ≠ g) (hr : br ≠ g) :
    Calls Tryz.prog 198 #[.pointer (some ⟨g, 0, none⟩), .func (.func 199) #[] #[.pointer (some ⟨bo, 0, none⟩), .pointer (some ⟨br, 0, none⟩)]] w fun e w' => ∃ v, e = .returned v ∧ Kd.S k145 145 w' w.heap.size (fun _ => True) v (sevR resR resS s) ∧ Rd w0 w' g (sevS resR resS s) ∧ KeepBut w w' g none := by
  have hu := Tryz.underlying145
  have H := Aside0.mk h
  have hlt : g < w.heap.size := h.lt
  have h0 : w0.heap.size ≤ w.heap.size := h.below.size
  have hn := numR_two h.bytes
  obtain ⟨m, hm⟩ : ∃ m : Nat, numR s 2 = m := ⟨(numR s 2).toNat, by omega⟩
  have hm' : m < 65536 := by omega
  have HM := Aside0.mk hm
  have HBO := Aside0.mk hbo
  have HBR := Aside0.mk hbr
  have e1 : sevR resR resS s = sevN resR resS m (takeS s 2) := by unfold sevR; rw [hm]; rfl
  have e2 : sevS resR resS s = sevNS resR resS m (takeS s 2) := by unfold sevS; rw [hm]; rfl
  rw [e1, e2]
  clear h hn hm hbo hbr e1 e2
  go_enter Tryz.func198, Tryz.ntmps198
  go_wp2_with fail
  refine (number_calls w0 _ g s 2 (by omega) H.out).mono ?_
  rintro e w1 ⟨rfl, hR, hK⟩
  rw [HM.out]
  have R1 := Aside0.mk hR
  have K1 := Aside0.mk hK
  clear hR hK
  go_wp2
  go_loopw [4, 5] (fun v n wr => ∃ (j : Nat) (sj : RdS) (xs : List S145), n = .int .u32 j ∧ j ≤ m ∧ Aside0 (xs.length + j ≤ m) ∧ Aside0 (sevN resR resS m (takeS s 2) = xs ++ sevN resR resS j sj) ∧ Aside0 (sevNS resR resS m (takeS s 2) = sevNS resR resS j sj) ∧ Aside0 (Kd.S k145 145 wr w.heap.size (fun k => k ≠ g) v xs) ∧ Aside0 (Rd w0 wr g sj) ∧ Aside0 (KeepBut w wr g none)) (fun _ n _ => (intOf n).toNat)
  case atStart => exact ⟨m, _, [], rfl, Nat.le_refl _, ⟨by simp⟩, ⟨rfl⟩, ⟨rfl⟩, ⟨Kd.S_nil _ _ _ _ _⟩, R1, K1⟩
  case round =>
    obtain ⟨j, sj, xs, rfl, hj, HL, E1, E2, HO, HR, HK⟩ := hrel
    cases j with
    | zero =>
      go_wp2
      go_ret
      rw [E1.out, E2.out]
      exact ⟨_, rfl, by rw [show sevN resR resS 0 sj = [] from rfl, List.append_nil]; exact Kd.S_mono HO.out (fun _ _ => trivial), HR.out, HK.out⟩
    | succ i =>
      obtain ⟨A, c, hrow, _⟩ := HR.out.row
      have cs : wr.cell? ⟨g, 1, none⟩ = some (.bool sj.2) := blk_cell hrow 1
      clear hrow
      cases hsh : sj.2 with
      | true =>
        rw [hsh] at cs
        go_wp2
        go_ret
        rw [E1.out, E2.out]
        have q1 : sevN resR resS (i + 1) sj = [] := by unfold sevN; rw [if_pos hsh]
        have q2 : sevNS resR resS (i + 1) sj = sj := by unfold sevNS; rw [if_pos hsh]
        rw [q1, q2]
        exact ⟨_, rfl, by rw [List.append_nil]; exact Kd.S_mono HO.out (fun _ _ => trivial), HR.out, HK.out⟩
      | false =>
        rw [hsh] at cs
        have q1 : sevN resR resS (i + 1) sj = resR sj :: sevN resR resS i (resS sj) := by rw [sevN, if_neg (by rw [hsh]; decide)]
        have q2 : sevNS resR resS (i + 1) sj = sevNS resR resS i (resS sj) := by rw [sevNS, if_neg (by rw [hsh]; decide)]
        rw [q1] at E1
        rw [q2] at E2
        clear q1 q2
        obtain ⟨Av, cv, rfl, hcv, _⟩ := Kd.S_reads HO.out
        have hjp : (0 : Int) < ((i + 1 : Nat) : Int) := by omega
        have hszw : w.heap.size ≤ wr.heap.size := HK.out.1
        have BO1 := Aside0.mk (HK.out.blk HBO.out ho (by simp))
        have BR1 := Aside0.mk (HK.out.blk HBR.out hr (by simp))
        go_wp2_with fail
        refine (getOneResult_calls w0 wr g bo br sj HR.out BO1.out BR1.out).mono ?_
        rintro e w2 ⟨vx, rfl, hX, hR, hK⟩
        obtain ⟨x, hx⟩ : ∃ x, x = resR sj := ⟨_, rfl⟩
        rw [← hx] at hX
        have HX := Aside0.mk hx
        have HXR := Aside0.mk hX
        have HO2 := Aside0.mk (Kd.S_keep (Kd.S_mono (Kd.S_bound HO.out) (fun k hk => (⟨hk.1, Nat.not_le.2 hk.2.2.1⟩ : k ≠ g ∧ ¬ wr.heap.size ≤ k))) hK (fun k hk => hk.1))
        have HK2 := Aside0.mk (keep_then HK.out hK)
        have HR2 := Aside0.mk hR
        have HLT := Aside0.mk (fun k hk => Kd.S_lt HO.out k hk)
        have hs2 : w.heap.size ≤ w2.heap.size := HK2.out.1
        have hs3 : wr.heap.size ≤ w2.heap.size := hK.1
        clear hx hR hK cs hX
        obtain ⟨Ax, cx, rfl, hcx, _⟩ := Kd.R_reads HXR.out
        go_wp2_with (first | (at_builtin; refine Kd.S_append k145 (w0 := w2) w.heap.size rfl (.tmp 19) (.tmp 22) 48 145 (.agg #[.slice none 0 0]) 24 rfl Tryz.underlying48 (by kernel_rfl) rfl (by decide) (by decide) (.slice Av xs.length cv) xs x [.slice Ax x.f0.length cx] (fun k => k ≠ g) (fun k => wr.heap.size ≤ k) rfl rfl (k145_mkM _ _ _ _ (Kd.R_lower HXR.out hszw)) (fun k hk => ⟨by omega, fun he => by have := HLT.out k he.symm; omega⟩) (fun k hk => by omega) HO2.out (Below.refl _ _) hs2 (by have := HL.out; omega) ?_; intro v1 w3 hO hB hG hat; have HO3 := Aside0.mk hO; have HB3 := Aside0.mk hB; have HG3 := Aside0.mk hG; clear hO hB hG hat))
        go_roundw
        case rel =>
          have hown : ∀ k, (Value.slice Av xs.length cv).ownBlock = some k → w.heap.size ≤ k := fun k hk => Kd.S_base HO2.out k hk
          refine ⟨i, resS sj, xs ++ [x], by go_num, by omega, ⟨by have := HL.out; rw [List.length_append]; simp; omega⟩, ⟨by rw [E1.out, HX.out, List.append_assoc]; rfl⟩, E2, HO3, ⟨?_⟩, ⟨?_⟩⟩
          · exact HR2.out.grownBy (HR2.out.below.trans (HB3.out.mono h0)) HG3.out (fun k hk => by have := hown k hk; omega)
          · exact keep_grown HK2.out HG3.out hown
        case measure => simp [intOf]

def Bts (s : RdS) : Prop := ∀ x ∈ s.1, 0 ≤ x ∧ x < 256
theorem Bts.take {s : RdS} (hs : Bts s) (n : Nat) : Bts (takeS s n) := by
  unfold takeS
  split
  · exact hs
  · exact fun x hx => hs x (List.mem_of_mem_drop hx)
theorem Bts.text {s : RdS} (hs : Bts s) : Bts (textS s) := (hs.take 1).take _
theorem Bts.row {s : RdS} (hs : Bts s) : Bts (rowS s) := hs.text.take 4
theorem Bts.op {s : RdS} (hs : Bts s) : Bts (opS s) := (hs.take 1).text.text.take 4
theorem Bts.change {s : RdS} (hs : Bts s) : Bts (changeS s) := (hs.text.take 1).take 4
theorem Bts.sevN {α : Type} {r : RdS → α} {st : RdS → RdS} (hst : ∀ s, Bts s → Bts (st s)) : ∀ (n : Nat) (s : RdS), Bts s → Bts (sevNS r st n s)
  | 0, _, h => h
  | n + 1, s, h => by
    unfold sevNS
    split
    · exact h
    · exact Bts.sevN hst n _ (hst s h)
theorem Bts.sev {α : Type} {r : RdS → α} {st : RdS → RdS} (hst : ∀ s, Bts s → Bts (st s)) {s : RdS} (h : Bts s) : Bts (sevS r st s) := Bts.sevN hst _ _ (h.take 2)
theorem Bts.res {s : RdS} (hs : Bts s) : Bts (resS s) := Bts.sev (fun _ h => h.row) hs
theorem sevN_all {α : Type} {r : RdS → α} {st : RdS → RdS} {p : α → Prop} (hst : ∀ s, Bts s → Bts (st s)) (hp : ∀ s, Bts s → p (r s)) : ∀ (n : Nat) (s : RdS), Bts s → ∀ x ∈ sevN r st n s, p x
  | 0, _, _, x, hx => by simp [sevN] at hx
  | n + 1, s, h, x, hx => by
    unfold sevN at hx
    split at hx
    · cases hx
    · rcases List.mem_cons.1 hx with rfl | hx
      · exact hp s h
      · exact sevN_all hst hp n _ (hst s h) x hx
theorem sevN_short {α : Type} (r : RdS → α) (st : RdS → RdS) : ∀ (n : Nat) (s : RdS), (sevN r st n s).length ≤ n
  | 0, _ => Nat.le_refl _
  | n + 1, s => by
    unfold sevN
    split
    · simp
    · have := sevN_short r st n (st s)
      simp
      omega
theorem sevRes_rows (s : RdS) (h : ∀ x ∈ s.1, 0 ≤ x ∧ x < 256) : ∀ x ∈ sevR resR resS s, x.f0.length ≤ 9223372036854775807 := by
  refine sevN_all (p := fun x : S145 => x.f0.length ≤ 9223372036854775807) (fun _ h => h.res) (fun s hs => ?_) _ _ (Bts.take (show Bts s from h) 2)
  have h1 := sevN_short rowR rowS (numR s 2).toNat (takeS s 2)
  have h2 := numR_two hs
  show (sevR rowR rowS s).length ≤ _
  unfold sevR
  omega

end Go.Proofs.YtcohodkpppmaoaaGreatDoor.Q
namespace Go.Proofs.YtcohodkpppmaoaaGreatDoor.Q
open Go.RowKit Go.Proofs.YtcohodkpppmaoaaGreatDoorW.PrintWords Go.Proofs.YtcohodkpppmaoaaGreatDoorW.PrintLast Go.Proofs.YtcohodkpppmaoaaGreatDoorW.PrintMore
set_option linter.unusedVariables false

def getR {α : Type} (r : RdS → α) (st : RdS → RdS) (put : List α → List Int × Int) (l0 : List Int) : List α × Int :=
  if (sevS r st (l0, false)).2 = true then ([], 4)
  else if (put (sevR r st (l0, false))).2 = 0 then
    (if ((strOfNums l0).toList == (strOfNums (put (sevR r st (l0, false))).1).toList) = true then (sevR r st (l0, false), 0) else ([], 4))
  else ([], 4)
theorem sevN_length {α : Type} (r : RdS → α) (st : RdS → RdS) : ∀ (n : Nat) (s : RdS), (sevN r st n s).length ≤ n
  | 0, _ => Nat.le_refl _
  | n + 1, s => by
    unfold sevN
    split
    · simp
    · have := sevN_length r st n (st s)
      simp
      omega
theorem sevR_length {α : Type} (r : RdS → α) (st : RdS → RdS) (s : RdS) (hs : ∀ x ∈ s.1, 0 ≤ x ∧ x < 256) : (sevR r st s).length < 65536 := by
  have h1 := sevN_length r st (numR s 2).toNat (takeS s 2)
  have h2 := numR_two hs
  unfold sevR
  omega

/-- The three blocks that 'get' makes. -/
def getWorld (w : World) (f v : Value) (tf : TypeId) : World :=
  (((w.alloc (.cells #[f] tf)).alloc (.cells #[v, .bool false] 229)).alloc (.cells #[.pointer (some ⟨w.heap.size + 1, 0, none⟩)] 125))
theorem alloc_size (w : World) (o : Obj) : (w.alloc o).heap.size = w.heap.size + 1 := by show (w.heap.push o).size = _; simp
theorem getWorld_facts (w : World) (f v : Value) (tf : TypeId) :
    Below w.heap.size w (getWorld w f v tf) ∧ (getWorld w f v tf).heap[w.heap.size]? = some (.cells #[f] tf (0, 0)) ∧ (getWorld w f v tf).heap[w.heap.size + 1]? = some (.cells #[v, .bool false] 229 (0, 0)) ∧
      (getWorld w f v tf).heap[w.heap.size + 1 + 1]? = some (.cells #[.pointer (some ⟨w.heap.size + 1, 0, none⟩)] 125 (0, 0)) := by
  have s1 := alloc_size w (.cells #[f] tf)
  have s2 := alloc_size (w.alloc (.cells #[f] tf)) (.cells #[v, .bool false] 229)
  have b0 : (w.alloc (.cells #[f] tf)).heap[w.heap.size]? = some (.cells #[f] tf (0, 0)) := blk_new w _
  have b1 : ((w.alloc (.cells #[f] tf)).alloc (.cells #[v, .bool false] 229)).heap[w.heap.size + 1]? = some (.cells #[v, .bool false] 229 (0, 0)) := by
    have := blk_new (w.alloc (.cells #[f] tf)) (.cells #[v, .bool false] 229)
    rwa [s1] at this
  have b2 : (((w.alloc (.cells #[f] tf)).alloc (.cells #[v, .bool false] 229)).alloc (.cells #[.pointer (some ⟨w.heap.size + 1, 0, none⟩)] 125)).heap[w.heap.size + 1 + 1]? = some (.cells #[.pointer (some ⟨w.heap.size + 1, 0, none⟩)] 125 (0, 0)) := by
    have := blk_new ((w.alloc (.cells #[f] tf)).alloc (.cells #[v, .bool false] 229)) (.cells #[.pointer (some ⟨w.heap.size + 1, 0, none⟩)] 125)
    rwa [s2, s1] at this
  unfold getWorld
  refine ⟨?_, ?_, ?_, ?_⟩
  · exact (((Below.refl w.heap.size w).alloc (Nat.le_refl _) _).alloc (by omega) _).alloc (by omega) _
  · exact blk_alloc (blk_alloc b0 _) _
  · exact blk_alloc b1 _
  · exact b2

def rows_GetOps.f (l0 : List Int) : Option (List S82 × Int) := if ∀ x ∈ l0, 0 ≤ x ∧ x < 256 then some (getR opR opS putOps l0) else none

set_option maxHeartbeats 3200000 in
set_option maxRecDepth 100000 in
theorem getOp_calls (A0 : Option Addr) (c0 : Nat) (l0 : List Int) (w : World) (hr0 : Kd.C (Kd.int .u8) w A0 l0.length l0) (hc0 : l0.length ≤ c0) (hby : ∀ x ∈ l0, 0 ≤ x ∧ x < 256) :
    Calls Tryz.prog 135 #[.slice A0 l0.length c0, .func (.func 136) #[] #[], .func (.func 42) #[] #[]] w fun e w' => ∃ v0_, e = .returned (.tuple #[v0_, .int .i64 (getR opR opS putOps l0).2]) ∧ Kd.R k82 82 w' w.heap.size (fun _ => True) v0_ (getR opR opS putOps l0).1 ∧ Below w.heap.size w w' := by
  obtain ⟨l, hl⟩ : ∃ l, l = sevR opR opS (l0, false) := ⟨_, rfl⟩
  obtain ⟨s', hs'⟩ : ∃ s', s' = sevS opR opS (l0, false) := ⟨_, rfl⟩
  have hlen : l.length < 65536 := hl ▸ sevR_length opR opS (l0, false) hby
  obtain ⟨k, hk⟩ := (ev_putOps l (by omega)).rounds
  unfold getR
  rw [← hl, ← hs']
  generalize putOps l = q at *
  obtain ⟨p, r2⟩ := q
  dsimp only
  have HK := Aside0.mk hk
  have HBY := Aside0.mk hby
  have HC := Aside0.mk hr0
  have HL := Aside0.mk hl
  have HS := Aside0.mk hs'
  have HMX := Aside0.mk (show l0.length ≤ maxLen from Kd.C_max hr0)
  have hmf : ∀ (fn : Fn) (first cap : Array Value) (w : World), (Instr.makeFunc fn first cap).run Tryz.prog w = .ok (.func fn first cap) w := fun _ _ _ _ => rfl
  have HST := Aside0.mk (getWorld_facts w (.func (.func 136) #[] #[]) (.slice A0 l0.length c0) 141)
  clear hk hby hr0 hl hs'
  have hu := Tryz.underlying229
  go_enter Tryz.func135, Tryz.ntmps135
  go_wp2_with fail
  change Calls Tryz.prog 194 _ (getWorld w (.func (.func 136) #[] #[]) (.slice A0 l0.length c0) 141) _
  obtain ⟨W, hW⟩ : ∃ W, W = getWorld w (.func (.func 136) #[] #[]) (.slice A0 l0.length c0) 141 := ⟨_, rfl⟩
  rw [← hW] at HST ⊢
  clear hW
  have hRd : Rd w W (w.heap.size + 1) (l0, false) := ⟨HST.out.1, Nat.le_succ _, ⟨A0, c0, HST.out.2.2.1, hc0, HMX.out, HC.out⟩, HBY.out⟩
  refine (severalOp_calls w W (w.heap.size + 1) w.heap.size (w.heap.size + 1 + 1) (l0, false) hRd HST.out.2.1 HST.out.2.2.2 (by omega) (by omega)).mono ?_
  rintro e w3 ⟨v, rfl, hO, hR, hKp⟩
  rw [← HL.out] at hO
  rw [← HS.out] at hR
  obtain ⟨A, c, rfl, hcl, hCl⟩ := Kd.R_reads hO
  have hP3 := keep_cells HST.out.2.2.2 (show w.heap.size + 1 + 1 ≠ w.heap.size + 1 by omega) hKp
  have HO3 := Aside0.mk (Kd.R_lower hO HST.out.1.size)
  have HR3 := Aside0.mk hR
  have HP3 := Aside0.mk hP3
  have HCL := Aside0.mk hCl
  have hw3 : w.heap.size ≤ w3.heap.size := hR.below.size
  clear hO hR hKp hRd hP3 hCl
  go_wp2_with fail
  refine (rows_PutOps.calls k A c l p r2 w3 HCL.out hcl HK.out).mono ?_
  rintro e w4 ⟨v4, rfl, hO4, hB4⟩
  obtain ⟨A4, c4, rfl, hc4, hC4⟩ := Kd.R_reads hO4
  have HO4 := Aside0.mk (Kd.R_below HO3.out hB4)
  have HR4 := Aside0.mk (HR3.out.grown hB4)
  have HP4 := blk_below HP3.out hB4
  obtain ⟨Ar, cr, hrow, _⟩ := HR4.out.row
  have hcs : w4.cell? ⟨w.heap.size + 1, 1, none⟩ = some (.bool s'.2) := blk_cell hrow 1
  have hcp : w4.cell? ⟨w.heap.size + 1 + 1, 0, none⟩ = some (.pointer (some ⟨w.heap.size + 1, 0, none⟩)) := blk_cell HP4 0
  have HC4 := Aside0.mk hC4
  have HA := Aside0.mk (Kd.C_below HC.out HR4.out.below)
  clear hO4 hB4 hrow hC4 HP4 HP3 HR3 HO3 HCL
  have hbb : Below w.heap.size w w4 := HR4.out.below
  have HBB := Aside0.mk hbb
  clear hbb
  cases hsh : s'.2 with
  | true =>
    rw [hsh] at hcs
    go_wp2
    go_ret2
    exact ⟨_, rfl, Kd.R_nil _ _ _ _ _, HBB.out⟩
  | false =>
    rw [hsh] at hcs
    by_cases hr2 : r2 = 0
    · subst hr2
      go_wp2_with fail
      refine (bytes_Equal.calls A0 c0 l0 A4 c4 p _ w4 HA.out hc0 HC4.out hc4 rfl).mono ?_
      rintro e w5 ⟨rfl, ⟨n, rfl⟩⟩
      have HO5 := Aside0.mk (Kd.R_drewN HO4.out n)
      have HB5 := Aside0.mk (pw_below_drewN HBB.out n)
      clear HO4 HBB HA HC4
      cases heq : ((strOfNums l0).toList == (strOfNums p).toList) with
      | true =>
        go_wp2
        go_ret2
        exact ⟨_, rfl, HO5.out, HB5.out⟩
      | false =>
        go_wp2
        go_ret2
        exact ⟨_, rfl, Kd.R_nil _ _ _ _ _, HB5.out⟩
    · have hr2b : (r2 != 0) = true := by simpa using hr2
      go_wp2
      all_goals
        go_ret2
        exact ⟨_, rfl, Kd.R_nil _ _ _ _ _, HBB.out⟩

set_option maxHeartbeats 3200000 in
set_option maxRecDepth 100000 in
theorem rows_GetOps.calls (A0 : Option Addr) (c0 : Nat) (l0 : List Int) (r1 : List (S82)) (r2 : Int) (w : World) (hr0 : Kd.C (Kd.int .u8) w A0 l0.length l0) (hc0 : l0.length ≤ c0) (h : rows_GetOps.f l0 = some (r1, r2)) :
    Calls Tryz.prog 43 #[.slice A0 l0.length c0] w fun e w' => ∃ v0_ : Value, e = .returned (.tuple #[v0_, .int .i64 r2]) ∧ Kd.R k82 82 w' w.heap.size (fun _ => True) v0_ r1 ∧ Below w.heap.size w w' := by
  have hby : ∀ x ∈ l0, 0 ≤ x ∧ x < 256 := by
    unfold rows_GetOps.f at h
    split at h
    · assumption
    · cases h
  have hq : getR opR opS putOps l0 = (r1, r2) := by
    unfold rows_GetOps.f at h
    rw [if_pos hby] at h
    exact Option.some.inj h
  have HQ := Aside0.mk hq
  have HBY := Aside0.mk hby
  have HC := Aside0.mk hr0
  clear h hq hby hr0
  go_enter Tryz.func43, Tryz.ntmps43
  go_wp2_with fail
  refine (getOp_calls A0 c0 l0 w HC.out hc0 HBY.out).mono ?_
  rintro e w1 ⟨v, rfl, hO, hB⟩
  rw [HQ.out] at hO ⊢
  have HO := Aside0.mk hO
  have HB := Aside0.mk hB
  clear hO hB
  go_wp2
  go_ret2
  exact ⟨_, rfl, HO.out, HB.out⟩

def rows_GetResults.f (l0 : List Int) : Option (List S145 × Int) := if ∀ x ∈ l0, 0 ≤ x ∧ x < 256 then some (getR resR resS putResults l0) else none

set_option maxHeartbeats 3200000 in
set_option maxRecDepth 100000 in
theorem getResult_calls (A0 : Option Addr) (c0 : Nat) (l0 : List Int) (w : World) (hr0 : Kd.C (Kd.int .u8) w A0 l0.length l0) (hc0 : l0.length ≤ c0) (hby : ∀ x ∈ l0, 0 ≤ x ∧ x < 256) :
    Calls Tryz.prog 143 #[.slice A0 l0.length c0, .func (.func 144) #[] #[], .func (.func 53) #[] #[]] w fun e w' => ∃ v0_, e = .returned (.tuple #[v0_, .int .i64 (getR resR resS putResults l0).2]) ∧ Kd.S k145 145 w' w.heap.size (fun _ => True) v0_ (getR resR resS putResults l0).1 ∧ Below w.heap.size w w' := by
  obtain ⟨l, hl⟩ : ∃ l, l = sevR resR resS (l0, false) := ⟨_, rfl⟩
  obtain ⟨s', hs'⟩ : ∃ s', s' = sevS resR resS (l0, false) := ⟨_, rfl⟩
  have hlen : l.length < 65536 := hl ▸ sevR_length resR resS (l0, false) hby
  obtain ⟨k, hk⟩ := (ev_putResults l (by omega) (fun x hx => sevRes_rows (l0, false) hby x (hl ▸ hx))).rounds
  unfold getR
  rw [← hl, ← hs']
  generalize putResults l = q at *
  obtain ⟨p, r2⟩ := q
  dsimp only
  have HK := Aside0.mk hk
  have HBY := Aside0.mk hby
  have HC := Aside0.mk hr0
  have HL := Aside0.mk hl
  have HS := Aside0.mk hs'
  have HMX := Aside0.mk (show l0.length ≤ maxLen from Kd.C_max hr0)
  have hmf : ∀ (fn : Fn) (first cap : Array Value) (w : World), (Instr.makeFunc fn first cap).run Tryz.prog w = .ok (.func fn first cap) w := fun _ _ _ _ => rfl
  have HST := Aside0.mk (getWorld_facts w (.func (.func 144) #[] #[]) (.slice A0 l0.length c0) 155)
  clear hk hby hr0 hl hs'
  have hu := Tryz.underlying229
  go_enter Tryz.func143, Tryz.ntmps143
  go_wp2_with fail
  change Calls Tryz.prog 198 _ (getWorld w (.func (.func 144) #[] #[]) (.slice A0 l0.length c0) 155) _
  obtain ⟨W, hW⟩ : ∃ W, W = getWorld w (.func (.func 144) #[] #[]) (.slice A0 l0.length c0) 155 := ⟨_, rfl⟩
  rw [← hW] at HST ⊢
  clear hW
  have hRd : Rd w W (w.heap.size + 1) (l0, false) := ⟨HST.out.1, Nat.le_succ _, ⟨A0, c0, HST.out.2.2.1, hc0, HMX.out, HC.out⟩, HBY.out⟩
  refine (severalResult_calls w W (w.heap.size + 1) w.heap.size (w.heap.size + 1 + 1) (l0, false) hRd HST.out.2.1 HST.out.2.2.2 (by omega) (by omega)).mono ?_
  rintro e w3 ⟨v, rfl, hO, hR, hKp⟩
  rw [← HL.out] at hO
  rw [← HS.out] at hR
  obtain ⟨A, c, rfl, hcl, hCl⟩ := Kd.S_reads hO
  have hP3 := keep_cells HST.out.2.2.2 (show w.heap.size + 1 + 1 ≠ w.heap.size + 1 by omega) hKp
  have HO3 := Aside0.mk (Kd.S_lower hO HST.out.1.size)
  have HR3 := Aside0.mk hR
  have HP3 := Aside0.mk hP3
  have HCL := Aside0.mk hCl
  have hw3 : w.heap.size ≤ w3.heap.size := hR.below.size
  clear hO hR hKp hRd hP3 hCl
  go_wp2_with fail
  refine (rows_PutResults.calls k A c l p r2 w3 HCL.out hcl HK.out).mono ?_
  rintro e w4 ⟨v4, rfl, hO4, hB4⟩
  obtain ⟨A4, c4, rfl, hc4, hC4⟩ := Kd.R_reads hO4
  have HO4 := Aside0.mk (Kd.S_below HO3.out hB4)
  have HR4 := Aside0.mk (HR3.out.grown hB4)
  have HP4 := blk_below HP3.out hB4
  obtain ⟨Ar, cr, hrow, _⟩ := HR4.out.row
  have hcs : w4.cell? ⟨w.heap.size + 1, 1, none⟩ = some (.bool s'.2) := blk_cell hrow 1
  have hcp : w4.cell? ⟨w.heap.size + 1 + 1, 0, none⟩ = some (.pointer (some ⟨w.heap.size + 1, 0, none⟩)) := blk_cell HP4 0
  have HC4 := Aside0.mk hC4
  have HA := Aside0.mk (Kd.C_below HC.out HR4.out.below)
  clear hO4 hB4 hrow hC4 HP4 HP3 HR3 HO3 HCL
  have hbb : Below w.heap.size w w4 := HR4.out.below
  have HBB := Aside0.mk hbb
  clear hbb
  cases hsh : s'.2 with
  | true =>
    rw [hsh] at hcs
    go_wp2
    go_ret2
    exact ⟨_, rfl, Kd.S_nil _ _ _ _ _, HBB.out⟩
  | false =>
    rw [hsh] at hcs
    by_cases hr2 : r2 = 0
    · subst hr2
      go_wp2_with fail
      refine (bytes_Equal.calls A0 c0 l0 A4 c4 p _ w4 HA.out hc0 HC4.out hc4 rfl).mono ?_
      rintro e w5 ⟨rfl, ⟨n, rfl⟩⟩
      have HO5 := Aside0.mk (Kd.S_drewN HO4.out n)
      have HB5 := Aside0.mk (pw_below_drewN HBB.out n)
      clear HO4 HBB HA HC4
      cases heq : ((strOfNums l0).toList == (strOfNums p).toList) with
      | true =>
        go_wp2
        go_ret2
        exact ⟨_, rfl, HO5.out, HB5.out⟩
      | false =>
        go_wp2
        go_ret2
        exact ⟨_, rfl, Kd.S_nil _ _ _ _ _, HB5.out⟩
    · have hr2b : (r2 != 0) = true := by simpa using hr2
      go_wp2
      all_goals
        go_ret2
        exact ⟨_, rfl, Kd.S_nil _ _ _ _ _, HBB.out⟩

set_option maxHeartbeats 3200000 in
set_option maxRecDepth 100000 in
theorem rows_GetResults.calls (A0 : Option Addr) (c0 : Nat) (l0 : List Int) (r1 : List (S145)) (r2 : Int) (w : World) (hr0 : Kd.C (Kd.int .u8) w A0 l0.length l0) (hc0 : l0.length ≤ c0) (h : rows_GetResults.f l0 = some (r1, r2)) :
    Calls Tryz.prog 54 #[.slice A0 l0.length c0] w fun e w' => ∃ v0_ : Value, e = .returned (.tuple #[v0_, .int .i64 r2]) ∧ Kd.S k145 145 w' w.heap.size (fun _ => True) v0_ r1 ∧ Below w.heap.size w w' := by
  have hby : ∀ x ∈ l0, 0 ≤ x ∧ x < 256 := by
    unfold rows_GetResults.f at h
    split at h
    · assumption
    · cases h
  have hq : getR resR resS putResults l0 = (r1, r2) := by
    unfold rows_GetResults.f at h
    rw [if_pos hby] at h
    exact Option.some.inj h
  have HQ := Aside0.mk hq
  have HBY := Aside0.mk hby
  have HC := Aside0.mk hr0
  clear h hq hby hr0
  go_enter Tryz.func54, Tryz.ntmps54
  go_wp2_with fail
  refine (getResult_calls A0 c0 l0 w HC.out hc0 HBY.out).mono ?_
  rintro e w1 ⟨v, rfl, hO, hB⟩
  rw [HQ.out] at hO ⊢
  have HO := Aside0.mk hO
  have HB := Aside0.mk hB
  clear hO hB
  go_wp2
  go_ret2
  exact ⟨_, rfl, HO.out, HB.out⟩

end Go.Proofs.YtcohodkpppmaoaaGreatDoor.Q
namespace Go.Proofs.YtcohodkpppmaoaaGreatDoor.Q
open Go.RowKit Go.Proofs.YtcohodkpppmaoaaGreatDoorW.PrintWords Go.Proofs.YtcohodkpppmaoaaGreatDoorW.PrintLast Go.Proofs.YtcohodkpppmaoaaGreatDoorW.PrintMore
set_option linter.unusedVariables false
/-- A result, and what lies in the room behind its rows. -/
abbrev TRes := ResT' × List RowT'
section
variable {w : World} {F : List Nat} {A : Option Addr} {n m c : Nat} {l : List ResT'} {ys : List TRes} {e : Nat}
end
end Go.Proofs.YtcohodkpppmaoaaGreatDoor.Q
namespace Go.Proofs.YtcohodkpppmaoaaGreatDoor.Q
open Go.RowKit Go.Proofs.YtcohodkpppmaoaaGreatDoorW.PrintWords Go.Proofs.YtcohodkpppmaoaaGreatDoorW.PrintLast Go.Proofs.YtcohodkpppmaoaaGreatDoorW.PrintMore
set_option linter.unusedVariables false
/-- A slice of so many, of which no more is told. -/
def kLoose : Kd Nat where
  sz := 1
  E := []
  K := fun _ n cs => ∃ A c, cs = [.slice A n c]
  M := fun _ _ _ n cs => ∃ A c, cs = [.slice A n c]
  K_len := by
    rintro w n cs ⟨A, c, rfl⟩
    rfl
  K_one := by
    rintro w n cs ⟨A, c, rfl⟩ u hu
    simp only [List.mem_cons, List.not_mem_nil, or_false] at hu
    subst hu
    rfl
  K_below := fun _ h => h
  K_of_M := fun h => h
  M_mono := fun _ h => h
  M_bound := fun h => h
  M_move := fun _ h => h
  M_lower := fun _ h => h
/-- A row (elements of type e, sz cells each) of which the length alone is told. -/
def fdLoose (e : TypeId) (sz : Nat) : Fd Nat where
  k := kLoose
  M := fun w F n cs => ∃ A c inner, cs = [.slice A n c] ∧ w.ownsRow 0 e sz (.slice A n c) n inner ∧ F = (Value.slice A n c).ownBlock.toList
  read := by
    rintro w F n cs ⟨A, c, inner, rfl, _⟩
    exact ⟨A, c, rfl⟩
  move := by
    rintro w w1 F n cs hm ⟨A, c, inner, rfl, h, rfl⟩
    exact ⟨A, c, inner, rfl, own_move h (fun k hk => hm k (by simp [hk])), rfl⟩
  lt := by
    rintro w F n cs ⟨A, c, inner, rfl, h, rfl⟩ b hb
    exact own_lt h b (by simpa using hb)
section
variable {α β : Type} {d : Fd α} {d' : Fd β} {f : α → β} {w : World} {e : Nat} {v : Value} {F : List Nat}
theorem els_map (hM : ∀ {F x cs}, d.M w F x cs → d'.M w F (f x) cs) : ∀ {xs : List α} {cs : List Value} {F : List Nat}, Fd.Els d w xs cs F → Fd.Els d' w (xs.map f) cs F
  | [], _, _, h => h
  | x :: xs, _, _, h => by
    obtain ⟨c, r, F0, F1, rfl, rfl, h1, h2⟩ := h
    exact ⟨c, r, F0, F1, rfl, rfl, hM h1, els_map hM h2⟩
theorem row_map (hsz : d.k.sz = d'.k.sz) (hM : ∀ {F x cs}, d.M w F x cs → d'.M w F (f x) cs) {xs : List α} (h : Fd.Row d e w F v xs) : Fd.Row d' e w F v (xs.map f) := by
  obtain ⟨inner, G, ho, he, rfl⟩ := h
  exact ⟨inner, G, by rw [List.length_map, ← hsz]; exact ho, els_map hM he, rfl⟩
theorem els_none {k : Kd α} {hk : ∀ {w w1 : World} {x cs}, k.K w x cs → k.K w1 x cs} : ∀ {xs : List α} {cs : List Value} {F : List Nat}, Fd.Els (Fd.flat k hk) w xs cs F → F = []
  | [], _, _, h => h.2
  | x :: xs, _, _, h => by
    obtain ⟨c, r, F0, F1, rfl, rfl, h1, h2⟩ := h
    rw [h1.1, els_none h2]
    rfl
end
theorem els_row {w : World} {xs : List RowT'} {cs : List Value} {F : List Nat} (h : Fd.Els fdRow w xs cs F) : F = [] := els_none (hk := fun {w w1 x cs} h => by rw [k148_open h]; exact k148_mk w1 x) h
theorem loose_result {w : World} {F : List Nat} {x : ResT'} {cs : List Value} (h : fdResult.M w F x cs) : (fdLoose 148 2).M w F x.f0.length cs := by
  obtain ⟨v, rfl, h⟩ := h
  obtain ⟨A, c, ev, _, _⟩ := Fd.row_reads h
  subst ev
  obtain ⟨inner, G, ho, he, rfl⟩ := h
  rw [els_row he, List.append_nil]
  exact ⟨A, c, inner, rfl, ho, rfl⟩
/-- Results as they are answered. -/
theorem loose_row {w : World} {F : List Nat} {v : Value} {xs : List ResT'} (h : Fd.Row fdResult 145 w F v xs) : Fd.Row (fdLoose 148 2) 145 w F v (xs.map (·.f0.length)) := row_map (d' := fdLoose 148 2) (f := fun x : ResT' => x.f0.length) rfl (fun h => loose_result h) h
theorem Spared.trans {G : List Nat → Nat} {H : Nat} {L L' : List Nat} {a b c : World} (h : Spared H L a b) (k : Spared H L' b c) (hL : ∀ x ∈ L', x ∈ L) : Spared H L a c :=
  fun x hx hn => (k x hx (fun h => hn (hL x h))).trans (h x hx hn)
theorem Spared.of_below {H : Nat} {L : List Nat} {a b : World} (h : Below a.heap.size a b) (hH : H ≤ a.heap.size) : Spared H L a b := fun x hx _ => h.block x (Nat.lt_of_lt_of_le hx hH)
theorem Spared.mono {H : Nat} {L L' : List Nat} {a b : World} (h : Spared H L a b) (hL : ∀ x ∈ L, x ∈ L') : Spared H L' a b := fun x hx hn => h x hx (fun h => hn (hL x h))
theorem Pile.size {w0 w : World} {g G : Nat} {n : Int} {L : List Nat} (h : Pile w0 w g n G L) : G ≤ w.heap.size := by
  obtain ⟨F, _, _, h⟩ := h
  exact h
set_option maxRecDepth 100000 in
theorem Pile.Result {w0 w : World} {g G : Nat} {n : Int} {L : List Nat} (h : Pile w0 w g n G L) (hn : n ≤ 1000000000) (A : Option Addr) (len c : Nat) (inner : List Value) (ho : w.ownsRow 0 148 2 (.slice A len c) len inner) (hl : ∀ b ∈ (Value.slice A len c).ownBlock.toList, (b < G ∧ b ∉ L) ∧ w0.heap.size ≤ b) (hlen : len ≤ 1000000000) :
    Calls Tryz.prog 149 #[.pointer (some ⟨g, 0, none⟩), .agg #[.slice A len c]] w fun e w' => e = .returned (.tuple #[]) ∧ Pile w0 w' g (n + 1) G (L ++ (Value.slice A len c).ownBlock.toList) ∧ Spared G L w w' := by
  have hu := Tryz.underlying145
  have hba := below_alloc (Below.refl w.heap.size w) (.cells #[.slice A len c] 145)
  have HS := Aside0.mk (Spared.of_below (L := L) hba h.size)
  have H := Aside0.mk (h.below hba)
  have HO := Aside0.mk (pw_own_below ho hba)
  have HL := Aside0.mk hl
  clear h ho hl hba
  go_enter Tryz.func149, Tryz.ntmps149
  go_wp2_with fail
  refine (H.out.Rows hn A len c inner HO.out HL.out hlen).mono ?_
  rintro e w2 ⟨rfl, hp, hs⟩
  have HP := Aside0.mk hp
  have HSS := Aside0.mk (HS.out.trans (G := fun _ => 0) hs (fun _ h => h))
  clear hp hs
  go_wp2
  go_end0
  exact ⟨rfl, HP.out, HSS.out⟩
set_option maxHeartbeats 3200000 in
set_option maxRecDepth 100000 in
theorem Pile.Results {w0 w : World} {g G : Nat} {n : Int} {L : List Nat} (h : Pile w0 w g n G L) (A : Option Addr) (c : Nat) (lens : List Nat) (F : List Nat) (hn : n + (lens.length : Int) ≤ 1000000000) (hr : Fd.Row (fdLoose 148 2) 145 w F (.slice A lens.length c) lens) (hnd : F.Nodup) (hl : ∀ b ∈ F, (b < G ∧ b ∉ L) ∧ w0.heap.size ≤ b) (hlen : lens.length ≤ 1000000000) (hlens : ∀ x ∈ lens, x ≤ 1000000000) :
    Calls Tryz.prog 59 #[.pointer (some ⟨g, 0, none⟩), .slice A lens.length c] w fun e w' => e = .returned (.tuple #[]) ∧ ∃ L', Pile w0 w' g (n + (lens.length : Int) + 1) G L' ∧ (∀ b ∈ L', b ∈ L ∨ b ∈ F) ∧ Spared G (L ++ F) w w' := by
  obtain ⟨inner, GG, ho, he, rfl⟩ := hr
  have HL := Aside0.mk hl
  have HND := Aside0.mk hnd
  have HLS := Aside0.mk hlens
  have HI0 := Aside0.mk (show ∃ c0 c1 G0 G1, inner = c0 ++ c1 ∧ c0.length = 0 ∧ GG = G0 ++ G1 ∧ w.ownsRow 0 145 1 (.slice A lens.length c) lens.length inner ∧ Fd.Els (fdLoose 148 2) w (lens.drop 0) c1 G1 ∧ ∃ Lk, Pile w0 w g (n + ((0 : Nat) : Int)) G Lk ∧ (∀ b ∈ Lk, b ∈ L ∨ b ∈ G0) ∧ Spared G (L ++ G0) w w from
    ⟨[], inner, [], GG, rfl, rfl, rfl, ho, he, L, by simpa using h, fun b hb => .inl hb, fun _ _ _ => rfl⟩)
  clear h ho he hl hnd hlens
  go_enter Tryz.func59, Tryz.ntmps59
  go_wp2
  go_loopw [4] (fun i wr => ∃ k : Nat, k ≤ lens.length ∧ i = .int .i64 k ∧ Aside0 (∃ c0 c1 G0 G1, inner = c0 ++ c1 ∧ c0.length = k ∧ GG = G0 ++ G1 ∧ wr.ownsRow 0 145 1 (.slice A lens.length c) lens.length inner ∧ Fd.Els (fdLoose 148 2) wr (lens.drop k) c1 G1 ∧ ∃ Lk, Pile w0 wr g (n + (k : Int)) G Lk ∧ (∀ b ∈ Lk, b ∈ L ∨ b ∈ G0) ∧ Spared G (L ++ G0) w wr)) (fun i _ => lens.length - (intOf i).toNat)
  case atStart => exact ⟨0, Nat.zero_le _, rfl, HI0⟩
  case round =>
    clear HI0
    obtain ⟨wq, hwq⟩ : ∃ wq, wq = wr := ⟨_, rfl⟩
    subst hwq
    obtain ⟨k, hk, rfl, ⟨c0, c1, G0, G1, hin, hc0, hGG, ho, he, Lk, hp, hLk, hsp⟩⟩ := hrel
    subst hGG
    have hnd := HND.out
    by_cases hlt : k < lens.length
    · have hlt' : (k : Int) < (lens.length : Int) := by omega
      have hk0 : (0 : Int) ≤ (k : Int) := by omega
      rw [List.drop_eq_getElem_cons hlt] at he
      obtain ⟨cc, r, Fi, Gr, rfl, rfl, ⟨Ai, ci, ii, rfl, hoi, rfl⟩, he2⟩ := he
      obtain ⟨gg, cap, ev, _, _⟩ := ho.form (by omega)
      injection ev with e1 _ e3
      subst e1 e3
      have hx := ho.cells (g := gg) rfl k (.slice Ai lens[k] ci) (by rw [hin, List.getElem?_append_right (by omega), hc0, Nat.sub_self]; rfl)
      rw [add_plain] at hx
      have hlx := HLS.out _ (List.getElem_mem hlt)
      obtain ⟨len, hlen2⟩ : ∃ len, lens[k] = len := ⟨_, rfl⟩
      rw [hlen2] at hoi hx hlx
      have hin2 : ∀ b ∈ (Value.slice Ai len ci).ownBlock.toList, b ∈ (Value.slice (some ⟨gg, 0, none⟩) lens.length c).ownBlock.toList ++ (G0 ++ ((Value.slice Ai lens[k] ci).ownBlock.toList ++ Gr)) := fun b hb => by rw [hlen2]; exact List.mem_append_right _ (List.mem_append_right _ (List.mem_append_left _ hb))
      have hofL : ∀ b ∈ (Value.slice Ai len ci).ownBlock.toList, b ∉ Lk := fun b hb hx => by
        rcases hLk b hx with h | h
        · exact (HL.out b (hin2 b hb)).1.2 h
        · have h3 := (List.nodup_append.1 hnd).2.1
          exact (List.nodup_append.1 h3).2.2 b h b (by rw [hlen2]; exact List.mem_append_left _ hb) rfl
      have C1 := Aside0.mk (hp.Result (by omega) Ai len ci ii hoi (fun b hb => ⟨⟨(HL.out b (hin2 b hb)).1.1, hofL b hb⟩, (HL.out b (hin2 b hb)).2⟩) hlx)
      have HO := Aside0.mk ho
      have HE := Aside0.mk he2
      have HP := Aside0.mk hp
      have HLK := Aside0.mk hLk
      have HSP := Aside0.mk hsp
      have HIN := Aside0.mk hin
      have HN2 := Aside0.mk hnd
      have HL2 := Aside0.mk hlen2
      clear ho he2 hp hLk hsp hin hnd hoi hofL hin2 hlen2
      go_wp2_with fail
      refine C1.out.mono ?_
      rintro e w2 ⟨rfl, hp2, hs2⟩
      have HP2 := Aside0.mk hp2
      have HS2 := Aside0.mk hs2
      clear hp2 hs2 C1
      go_wp2
      refine ⟨⟨k + 1, by omega, by first | rfl | simp, ⟨c0 ++ [.slice Ai len ci], r, G0 ++ (Value.slice Ai len ci).ownBlock.toList, Gr, by rw [HIN.out, HL2.out]; simp, by rw [List.length_append, hc0]; rfl, by rw [HL2.out]; simp, ?_, ?_, _, by rw [show n + ((k + 1 : Nat) : Int) = n + (k : Int) + 1 by omega]; exact HP2.out, ?_, ?_⟩⟩, ?_⟩
      · refine HS2.out.own HO.out (fun b hb => ?_)
        have hmem : b ∈ (Value.slice (some ⟨gg, 0, none⟩) lens.length c).ownBlock.toList ++ (G0 ++ ((Value.slice Ai lens[k] ci).ownBlock.toList ++ Gr)) := List.mem_append_left _ hb
        refine ⟨(HL.out b hmem).1.1, fun hx => ?_⟩
        rcases HLK.out b hx with h | h
        · exact (HL.out b hmem).1.2 h
        · exact (List.nodup_append.1 HN2.out).2.2 b hb b (List.mem_append_left _ h) rfl
      · refine Fd.els_move (fun b hb => HS2.out b ?_ ?_) HE.out
        · exact (HL.out b (by simp [hb])).1.1
        · intro hx
          rcases HLK.out b hx with h | h
          · exact (HL.out b (by simp [hb])).1.2 h
          · have h3 := (List.nodup_append.1 HN2.out).2.1
            exact (List.nodup_append.1 h3).2.2 b h b (List.mem_append_right _ hb) rfl
      · intro b hb
        rcases List.mem_append.1 hb with hb | hb
        · exact (HLK.out b hb).imp_right (fun h => List.mem_append_left _ h)
        · exact .inr (List.mem_append_right _ hb)
      · intro b hb hx
        rw [HS2.out b hb (fun h => hx (by
          rcases HLK.out b h with h | h
          · exact List.mem_append_left _ h
          · exact List.mem_append_right _ (List.mem_append_left _ h)))]
        exact HSP.out b hb (fun h => hx (by
          rcases List.mem_append.1 h with h | h
          · exact List.mem_append_left _ h
          · exact List.mem_append_right _ (List.mem_append_left _ h)))
      · try simp only [intOf]
        omega
    · obtain rfl : k = lens.length := by omega
      have hlt' : ¬ ((lens.length : Int) < (lens.length : Int)) := by omega
      rw [List.drop_length] at he
      obtain ⟨rfl, rfl⟩ := he
      rw [List.append_nil] at hnd
      have hofL : ∀ b ∈ (Value.slice A lens.length c).ownBlock.toList, b ∉ Lk := fun b hb hx => by
        rcases hLk b hx with h | h
        · exact (HL.out b (List.mem_append_left _ hb)).1.2 h
        · exact (List.nodup_append.1 hnd).2.2 b hb b h rfl
      have C1 := Aside0.mk (hp.keepResult (by omega) A lens.length c inner ho (fun b hb => ⟨⟨(HL.out b (List.mem_append_left _ hb)).1.1, hofL b hb⟩, (HL.out b (List.mem_append_left _ hb)).2⟩) hlen)
      have HLK := Aside0.mk hLk
      have HSP := Aside0.mk hsp
      clear ho hp hLk hsp hofL
      go_wp2_with fail
      refine C1.out.mono ?_
      rintro e w2 ⟨rfl, hp2, hs2⟩
      have HP2 := Aside0.mk hp2
      have HS2 := Aside0.mk hs2
      clear hp2 hs2 C1
      go_wp2
      go_end0
      refine ⟨rfl, _, HP2.out, fun b hb => ?_, fun b hb hx => ?_⟩
      · rcases List.mem_append.1 hb with hb | hb
        · exact (HLK.out b hb).imp_right (fun h => List.mem_append_right _ (List.mem_append_left _ h))
        · exact .inr (List.mem_append_left _ hb)
      · rw [HS2.out b hb (fun h => hx (by
          rcases HLK.out b h with h | h
          · exact List.mem_append_left _ h
          · exact List.mem_append_right _ (List.mem_append_right _ (List.mem_append_left _ h))))]
        exact HSP.out b hb (fun h => hx (by
          rcases List.mem_append.1 h with h | h
          · exact List.mem_append_left _ h
          · exact List.mem_append_right _ (List.mem_append_right _ (List.mem_append_left _ h))))
end Go.Proofs.YtcohodkpppmaoaaGreatDoor.Q
namespace Go.Proofs.YtcohodkpppmaoaaGreatDoor.Q
open Go.RowKit Go.Proofs.YtcohodkpppmaoaaGreatDoorW.PrintWords Go.Proofs.YtcohodkpppmaoaaGreatDoorW.PrintLast Go.Proofs.YtcohodkpppmaoaaGreatDoorW.PrintMore
set_option linter.unusedVariables false
set_option maxHeartbeats 3200000 in
set_option maxRecDepth 100000 in
theorem Pile.Msg {w0 w : World} {g G : Nat} {n : Int} {L : List Nat} (h : Pile w0 w g n G L) (a0 a1 a2 a3 : Value) (A4 : Option Addr) (n4 c4 : Nat) (i4 : List Value) (A5 : Option Addr) (c5 : Nat) (lens : List Nat) (F : List Nat) (hn : n + 1 + (lens.length : Int) ≤ 1000000000)
    (h4 : w.ownsRow 0 82 4 (.slice A4 n4 c4) n4 i4) (h5 : Fd.Row (fdLoose 148 2) 145 w F (.slice A5 lens.length c5) lens) (hnd : ((Value.slice A4 n4 c4).ownBlock.toList ++ F).Nodup) (hl : ∀ b ∈ (Value.slice A4 n4 c4).ownBlock.toList ++ F, (b < G ∧ b ∉ L) ∧ w0.heap.size ≤ b) (hl4 : n4 ≤ 1000000000) (hlen : lens.length ≤ 1000000000) (hlens : ∀ x ∈ lens, x ≤ 1000000000) :
    Calls Tryz.prog 18 #[.pointer (some ⟨g, 0, none⟩), .agg #[a0, a1, a2, a3, .slice A4 n4 c4, .slice A5 lens.length c5]] w fun e w' => e = .returned (.tuple #[]) ∧ ∃ L', Pile w0 w' g (n + (lens.length : Int) + 2) G L' ∧ (∀ b ∈ L', b ∈ L ∨ b ∈ (Value.slice A4 n4 c4).ownBlock.toList ++ F) ∧ Spared G (L ++ ((Value.slice A4 n4 c4).ownBlock.toList ++ F)) w w' := by
  have hu := Tryz.underlying50
  have hba := below_alloc (Below.refl w.heap.size w) (.cells #[a0, a1, a2, a3, .slice A4 n4 c4, .slice A5 lens.length c5] 50)
  have hbn := blk_new w (.cells #[a0, a1, a2, a3, .slice A4 n4 c4, .slice A5 lens.length c5] 50)
  have hsz := h.size
  have hs0 := Spared.of_below (L := L) hba hsz
  have hbs := h.base.size
  obtain ⟨F0, hB, hF0, hG0⟩ := h
  have hoff : ∀ b ∈ (Value.slice A4 n4 c4).ownBlock.toList, b ∉ F0 := fun b hb hx => by
    have h1 := hl b (List.mem_append_left _ hb)
    rcases hF0 b hx with h | h
    · exact h1.1.2 h
    · have := h1.1.1
      omega
  have hbox : w.heap.size ∉ F0 := fun hx => by have := hB.lt _ hx; omega
  have C1 := Aside0.mk ((hB.below hba).Ops (by omega) A4 n4 c4 i4 (pw_own_below h4 hba) (fun b hb => ⟨hoff b hb, (hl b (List.mem_append_left _ hb)).2⟩) hl4)
  have R5 := Aside0.mk (Fd.row_below h5 hba)
  have HBN := Aside0.mk hbn
  have HS0 := Aside0.mk hs0
  have HND := Aside0.mk hnd
  have HL := Aside0.mk hl
  have HLS := Aside0.mk hlens
  have HF0 := Aside0.mk hF0
  have HBX := Aside0.mk hbox
  have hsa := hba.size
  clear h4 h5 hba hbn hs0 hnd hl hlens hB hF0 hoff hbox
  go_enter Tryz.func18, Tryz.ntmps18
  go_wp2_with fail
  refine C1.out.mono ?_
  rintro e w2 ⟨rfl, F1, hB1, hk, hs⟩
  have hsp : Spared G L (w.alloc (.cells #[a0, a1, a2, a3, .slice A4 n4 c4, .slice A5 lens.length c5] 50)) w2 := fun b hb hx => hk.block b (by omega) (fun hf => by
    rcases HF0.out b hf with h | h
    · exact hx h
    · omega)
  have HP := Aside0.mk (show Pile w0 w2 g (n + 1) G (L ++ (Value.slice A4 n4 c4).ownBlock.toList) from ⟨F1, hB1, fun b hb => by
    rcases hs b hb with h | h | h
    · exact (HF0.out b h).imp_left (fun h => List.mem_append_left _ h)
    · exact .inl (List.mem_append_right _ h)
    · exact .inr (by omega), by have := hk.size; omega⟩)
  have HS1 := Aside0.mk (HS0.out.trans (G := fun _ => 0) hsp (fun _ h => h))
  have hb2 := hk.blk HBN.out HBX.out
  have x5 := blk_cell hb2 5
  have hg2 := blk_lt hb2
  have R52 := Aside0.mk (hsp.row R5.out (fun b hb => (HL.out b (List.mem_append_right _ hb)).1))
  have hnF := (List.nodup_append.1 HND.out).2.1
  have C2 := Aside0.mk (HP.out.Results A5 c5 lens F (by omega) R52.out hnF (fun b hb => ⟨⟨(HL.out b (List.mem_append_right _ hb)).1.1, fun hx => by
    rcases List.mem_append.1 hx with h | h
    · exact (HL.out b (List.mem_append_right _ hb)).1.2 h
    · exact (List.nodup_append.1 HND.out).2.2 b h b hb rfl⟩, (HL.out b (List.mem_append_right _ hb)).2⟩) hlen HLS.out)
  clear hB1 hk hs hsp hb2 hnF C1 R5
  go_wp2_with fail
  refine C2.out.mono ?_
  rintro e w3 ⟨rfl, L', hp3, hL3, hs3⟩
  have HP3 := Aside0.mk hp3
  have HL3 := Aside0.mk hL3
  have HS3 := Aside0.mk hs3
  clear hp3 hL3 hs3 C2
  go_wp2
  go_end0
  refine ⟨rfl, L', by rw [show n + (lens.length : Int) + 2 = n + 1 + (lens.length : Int) + 1 by omega]; exact HP3.out, fun b hb => ?_, fun b hb hx => ?_⟩
  · rcases HL3.out b hb with h | h
    · rcases List.mem_append.1 h with h | h
      · exact .inl h
      · exact .inr (List.mem_append_left _ h)
    · exact .inr (List.mem_append_right _ h)
  · rw [HS3.out b hb (fun h => hx (by
      rcases List.mem_append.1 h with h | h
      · rcases List.mem_append.1 h with h | h
        · exact List.mem_append_left _ h
        · exact List.mem_append_right _ (List.mem_append_left _ h)
      · exact List.mem_append_right _ (List.mem_append_right _ h)))]
    exact HS1.out b hb (fun h => hx (List.mem_append_left _ h))
end Go.Proofs.YtcohodkpppmaoaaGreatDoor.Q
