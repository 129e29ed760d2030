/-
  Rows: copies with a mark behind them, and whether they are as they were.
  What the printed rows.put.. functions come to: the plain words of XSpec.
  The reader of bytes (rows.reader): where it stands; take, number, text.
  One op, one change, one row off the reader.
  As many as their count tells: ops, changes, rows, results.
  rows.get: a list that is put as it was.
  Results: copies with a mark behind each list, and whether they are as they were.
  The book keeps results: each one's rows, and the list of them.
  The book keeps a message: its ops, its results.
  The book keeps messages, one and many: Book.Msg and Book.Msgs, of messages that own what they have.
  Ops: copies with a mark behind them, and whether they are as they were.
  packets.from and packets.Get: the message of some bytes, or why there is none.
  Messages: copies with a mark behind each list, and whether they are as they were.
  Contracts of layer 8 (bags): New, Add, Take, Copy, List: what a bag holds, and in which blocks.
  Contracts of layer 8 (bags): Add, slices.Delete, Take, Copy, List.
-/
import Derived.Test.YtcohodkpppmaoaaGreatDoorMR8
import Derived.BigRegion
import Derived.BigQuiet
import Derived.WalkSpells
import Derived.Test.YtcohodkpppmaoaaGreatDoorMR4
import Derived.Test.YtcohodkpppmaoaaGreatDoorMR6
import Derived.Deep.RegionLaw
import Derived.Outline
import Derived.WalkLawsBesides
set_option linter.unusedSimpArgs false
set_option linter.unusedVariables false
namespace Go.Proofs.YtcohodkpppmaoaaGreatDoor.Q
open Go.RowKit Go.Proofs.YtcohodkpppmaoaaGreatDoorW.PrintWords Go.Proofs.YtcohodkpppmaoaaGreatDoorW.PrintLast Go.Proofs.YtcohodkpppmaoaaGreatDoorW.PrintMore
set_option linter.unusedVariables false
theorem infoTwRows : (Tryz.prog.info? 148).map (fun i => (i.zero, i.size, i.bytes)) = some (some (.agg #[.string ⟨#[]⟩, .int .u32 0]), 2, 24) := by kernel_rfl
theorem readRows (l : List S148) (k : Nat) (hk : k < l.length) : l.take (k + 1) = l.take k ++ [rd_T148 l (k : Int)] := by
  rw [List.take_succ_eq_append_getElem hk]
  simp [rd_T148, hk]
set_option maxHeartbeats 3200000 in
set_option maxRecDepth 100000 in
theorem twinRows_calls (w : World) (A0 : Option Addr) (c0 : Nat) (l : List S148) (hr : Kd.C k148 w A0 l.length l) (hc0 : l.length ≤ c0) (hl : l.length ≤ 1000000000) :
    Calls Tryz.prog 197 #[.slice A0 l.length c0] w fun e w' => ∃ v, e = .returned v ∧ ∃ F, Twin fdRow 148 w' F v l ⟨spareKey, 0⟩ ∧ F.Nodup ∧ (∀ b ∈ F, w.heap.size ≤ b) ∧ Below w.heap.size w w' := by
  obtain ⟨MC, hMS, HMK⟩ : ∃ MC : Array Value, MC.size = (l.length + 1) * 2 ∧ ∀ W : World, (Instr.makeSlice 143 (.int .i64 0) (.int .i64 ((l.length : Int) + 1))).run Tryz.prog W = .ok (.slice (some ⟨W.heap.size, 0, none⟩) 0 (l.length + 1)) (W.alloc (.cells MC 148)) := ⟨madeCells ((.agg #[.string ⟨#[]⟩, .int .u32 0]) : Value).cells ((l.length + 1) * 2), madeCells_size _ _, fun W => by
    have h := run_make0 (P := Tryz.prog) 143 148 (.agg #[.string ⟨#[]⟩, .int .u32 0]) 2 24 Tryz.underlying143 infoTwRows (by decide) (l.length + 1) (by omega) W
    rwa [show ((l.length + 1 : Nat) : Int) = (l.length : Int) + 1 by omega] at h⟩
  have hw1 : IntKind.i64.wrap ((l.length : Int) + 1) = (l.length : Int) + 1 := IntWalk.i64_in _ (by omega)
  have HC := Aside0.mk hr
  have hul := Tryz.underlying148
  clear hr
  go_enter Tryz.func197, Tryz.ntmps197
  go_wp2
  obtain ⟨wo, hwo⟩ : ∃ wo, wo = w.alloc (.cells MC 148) := ⟨_, rfl⟩
  have HB0 := Aside0.mk (show Below w.heap.size w wo by rw [hwo]; exact below_alloc (Below.refl _ _) _)
  have HR0 := Aside0.mk (show Fd.Row fdRow 148 wo [w.heap.size] (.slice (some ⟨w.heap.size, 0, none⟩) 0 (l.length + 1)) [] by
    rw [hwo]; exact made0_row fdRow 148 w _ (l.length + 1) (by omega) hMS)
  rw [← hwo]
  clear hwo HMK
  go_loopw [3, 4] (fun v i wr => ∃ (k : Nat) (F : List Nat), k ≤ l.length ∧ i = .int .i64 k ∧ Aside0 (Fd.Row fdRow 148 wr F v (l.take k)) ∧ Aside0 F.Nodup ∧ Aside0 (∀ b ∈ F, w.heap.size ≤ b) ∧ Aside0 (Below w.heap.size w wr)) (fun _ i _ => l.length - (intOf i).toNat)
  case atStart => exact ⟨0, [w.heap.size], Nat.zero_le _, rfl, HR0, ⟨by simp⟩, ⟨by simp⟩, HB0⟩
  case round =>
    clear HR0 HB0
    obtain ⟨wq, hwq⟩ : ∃ wq, wq = wr := ⟨_, rfl⟩
    subst hwq
    obtain ⟨k, F, hk, rfl, HR, HN, HF, HB⟩ := hrel
    obtain ⟨Av, cv, ev, hcv, _⟩ := Fd.row_reads HR.out
    rw [List.length_take, Nat.min_eq_left hk] at ev hcv
    subst ev
    have hsz : w.heap.size ≤ wq.heap.size := HB.out.size
    by_cases hlt : k < l.length
    · have hlt' : (k : Int) < (l.length : Int) := by omega
      have hk0 : (0 : Int) ≤ (k : Int) := by omega
      obtain ⟨ad, e1, hx0, hx1⟩ := at_T148 (Kd.C_below HC.out HB.out) (k : Int) hk0 hlt'
      subst e1
      simp only [Int.toNat_natCast] at hx0 hx1
      have HTK := Aside0.mk (readRows l k hlt)
      generalize rd_T148 l (k : Int) = x at *
      have HM := Aside0.mk (show fdRow.M wq [] x [.string x.f0, .int .u32 x.f1] from ⟨rfl, k148_mk _ _⟩)
      go_wp2_with (first | (at_builtin; (refine Fd.R_append (W := wq) fdRow rfl (.tmp 15) (.tmp 20) 143 148 (.agg #[.string ⟨#[]⟩, .int .u32 0]) 24 rfl Tryz.underlying143 infoTwRows rfl (show 0 < 2 from by decide) (by decide) (.slice Av k cv) (l.take k) x [.string x.f0, .int .u32 x.f1] F [] rfl rfl HM.out HR.out (by rw [List.append_nil]; exact HN.out) (by rw [List.length_take]; omega) ?_); intro v1 w6 F6 h1 h2 h3 h4; have R6 := Aside0.mk h1; have N6 := Aside0.mk h2; have K6 := Aside0.mk h3; have L6 := Aside0.mk h4; clear h1 h2 h3 h4))
      go_roundw
      case rel =>
        refine ⟨k + 1, F6, by omega, by go_num, ⟨by rw [HTK.out]; exact R6.out⟩, N6, ⟨fun b hb => ?_⟩, ⟨HB.out.trans (K6.out.below HF.out hsz)⟩⟩
        rcases L6.out b hb with h | h | h
        · exact HF.out b h
        · cases h
        · omega
      case measure => simp [intOf]; omega
    · obtain rfl : k = l.length := by omega
      have hlt' : ¬ ((l.length : Int) < (l.length : Int)) := by omega
      have etk : l.take l.length = l := List.take_of_length_le (Nat.le_refl _)
      rw [etk] at HR
      have HM := Aside0.mk (show fdRow.M wq [] ⟨spareKey, 0⟩ [.string spareKey, .int .u32 0] from ⟨rfl, k148_mk _ _⟩)
      unfold spareKey at HM
      have HU := Aside0.mk infoTwRows
      go_wp2_with (first | (at_builtin; (refine Fd.R_append (W := wq) fdRow rfl (.tmp 22) (.tmp 24) 143 148 (.agg #[.string ⟨#[]⟩, .int .u32 0]) 24 rfl Tryz.underlying143 infoTwRows rfl (show 0 < 2 from by decide) (by decide) (.slice Av l.length cv) l ⟨⟨#[115, 112, 97, 114, 101]⟩, 0⟩ [.string ⟨#[115, 112, 97, 114, 101]⟩, .int .u32 0] F [] rfl rfl HM.out HR.out (by rw [List.append_nil]; exact HN.out) (by omega) ?_); intro v1 w6 F6 h1 h2 h3 h4; obtain ⟨A2, c2, ev2, hc2, _⟩ := Fd.row_reads h1; rw [List.length_append, List.length_singleton] at ev2 hc2; subst ev2; have hcut := cut_up (P := Tryz.prog) 143 148 .i64 Tryz.underlying143 HU.out A2 (l.length + 1) c2 (l.length : Int) (by omega) (by omega); rw [Int.toNat_natCast] at hcut; have R6 := Aside0.mk h1; have N6 := Aside0.mk h2; have K6 := Aside0.mk h3; have L6 := Aside0.mk h4; clear h1 h2 h3 h4))
      go_ret
      refine ⟨_, rfl, F6, ⟨A2, c2, rfl, hc2, R6.out⟩, N6.out, fun b hb => ?_, HB.out.trans (K6.out.below HF.out hsz)⟩
      rcases L6.out b hb with h | h | h
      · exact HF.out b h
      · cases h
      · omega
theorem readLRows (l : List S148) (k : Nat) (hk : k < l.length) : rd_T148 (l ++ [⟨spareKey, 0⟩]) (k : Int) = rd_T148 l (k : Int) := by
  simp [rd_T148, List.getElem?_append_left hk]
theorem readSRows (l : List S148) : rd_T148 (l ++ [⟨spareKey, 0⟩]) (l.length : Int) = ⟨spareKey, 0⟩ := by
  simp [rd_T148]
set_option maxHeartbeats 3200000 in
set_option maxRecDepth 100000 in
theorem leftRows_calls (w : World) (At : Option Addr) (ct : Nat) (A0 : Option Addr) (c0 : Nat) (l : List S148) (ht : Kd.C k148 w At (l.length + 1) (l ++ [⟨spareKey, 0⟩])) (hct : l.length + 1 ≤ ct) (hr : Kd.C k148 w A0 l.length l) (hc0 : l.length ≤ c0) (hl : l.length ≤ 1000000000) :
    Calls Tryz.prog 201 #[.slice At l.length ct, .slice A0 l.length c0] w fun e w' => e = .returned (.bool true) ∧ Below w.heap.size w w' := by
  have hw1 : IntKind.i64.wrap ((l.length : Int) + 1) = (l.length : Int) + 1 := IntWalk.i64_in _ (by omega)
  have hcap : ¬ ((ct : Int) ≤ (l.length : Int)) := by omega
  have hcut := cut_up (P := Tryz.prog) 143 148 .i64 Tryz.underlying143 infoTwRows At l.length ct ((l.length : Int) + 1) (by omega) (by omega)
  rw [show ((l.length : Int) + 1).toNat = l.length + 1 by omega] at hcut
  have hul := Tryz.underlying148
  have HT := Aside0.mk ht
  have HC := Aside0.mk hr
  clear ht hr
  go_enter Tryz.func201, Tryz.ntmps201
  go_wp2
  go_loopw [5] (fun i wr => ∃ (k : Nat), k ≤ l.length ∧ i = .int .i64 k ∧ ∃ m, wr = w.drewN m) (fun i _ => l.length - (intOf i).toNat)
  case atStart => exact ⟨0, Nat.zero_le _, rfl, 0, rfl⟩
  case round =>
    obtain ⟨k, hk, rfl, m, rfl⟩ := hrel
    have hb := pw_below_drewN (Below.refl w.heap.size w) m
    by_cases hlt : k < l.length
    · have hlt' : (k : Int) < (l.length : Int) := by omega
      have hk0 : (0 : Int) ≤ (k : Int) := by omega
      obtain ⟨ad, e1, hx0, hx1⟩ := at_T148 HC.out (k : Int) hk0 hlt'
      subst e1
      obtain ⟨at_, e1, hy0, hy1⟩ := at_T148 HT.out (k : Int) hk0 (by omega)
      subst e1
      simp only [Int.toNat_natCast] at hx0 hx1 hy0 hy1
      simp only [readLRows l k hlt] at hy0 hy1
      generalize rd_T148 l (k : Int) = x at *
      go_wp2
      repeat (go_quiet (fail); try go_wp2)
      go_roundw
      case rel => exact ⟨k + 1, by omega, by go_num, _, rfl⟩
      case measure => simp [intOf]; omega
    · obtain rfl : k = l.length := by omega
      have hlt' : ¬ ((l.length : Int) < (l.length : Int)) := by omega
      obtain ⟨at_, e1, hy0, hy1⟩ := at_T148 HT.out (l.length : Int) (by omega) (by omega)
      subst e1
      simp only [Int.toNat_natCast] at hy0 hy1
      simp only [readSRows l] at hy0 hy1
      try simp only [spareKey] at hy0 hy1
      replace hy0 := cell_on hb hy0
      replace hy1 := cell_on hb hy1
      generalize w.drewN m = W at *
      have HB := Aside0.mk hb
      clear hb
      go_wp2
      repeat (go_quiet (fail); try go_wp2)
      go_ret
      exact ⟨rfl, HB.out.alloc HB.out.size _⟩
end Go.Proofs.YtcohodkpppmaoaaGreatDoor.Q
namespace Go.Proofs.YtcohodkpppmaoaaGreatDoor.Q
open Go.RowKit Go.Proofs.YtcohodkpppmaoaaGreatDoorW.PrintWords Go.Proofs.YtcohodkpppmaoaaGreatDoorW.PrintLast Go.Proofs.YtcohodkpppmaoaaGreatDoorW.PrintMore

theorem wrap_id (x : Int) (h0 : -9223372036854775808 ≤ x) (h1 : x ≤ 9223372036854775807) : wrap64 x = x := by
  unfold wrap64
  omega
end Go.Proofs.YtcohodkpppmaoaaGreatDoor.Q
namespace Go.Proofs.YtcohodkpppmaoaaGreatDoor.Q
open Go.RowKit Go.Proofs.YtcohodkpppmaoaaGreatDoorW.PrintWords Go.Proofs.YtcohodkpppmaoaaGreatDoorW.PrintLast Go.Proofs.YtcohodkpppmaoaaGreatDoorW.PrintMore
set_option linter.unusedVariables false

abbrev RdS := List Int × Bool
def takeR (s : RdS) (n : Nat) : List Int := if s.1.length < n then List.replicate n 0 else s.1.take n
def takeS (s : RdS) (n : Nat) : RdS := if s.1.length < n then (s.1, true) else (s.1.drop n, s.2)
def foldN (l : List Int) : Int := l.foldl (fun n c => (n * 256 + c) % 4294967296) 0
def numR (s : RdS) (n : Nat) : Int := foldN (takeR s n)
def textR (s : RdS) : ByteArray := strOfNums (takeR (takeS s 1) (numR s 1).toNat)
def textS (s : RdS) : RdS := takeS (takeS s 1) (numR s 1).toNat

/-- A reader at block g that was made behind w0; the bytes that it has still to give lie in w0. -/
structure Rd (w0 w : World) (g : Nat) (s : RdS) : Prop where
  below : Below w0.heap.size w0 w
  far : w0.heap.size ≤ g
  row : ∃ A c, w.heap[g]? = some (.cells #[.slice A s.1.length c, .bool s.2] 229 (0, 0)) ∧ s.1.length ≤ c ∧ s.1.length ≤ maxLen ∧ Kd.C (Kd.int .u8) w0 A s.1.length s.1
  bytes : ∀ x ∈ s.1, 0 ≤ x ∧ x < 256

theorem Rd.drew {w0 w : World} {g : Nat} {s : RdS} (h : Rd w0 w g s) (n : Nat) : Rd w0 (w.drewN n) g s :=
  ⟨pw_below_drewN h.below n, h.far, h.row, h.bytes⟩
/-- What keeps all but g's block, and finds g's block as told. -/
theorem Rd.grown {w0 w w1 : World} {g : Nat} {s : RdS} (h : Rd w0 w g s) (hb : Below w.heap.size w w1) : Rd w0 w1 g s := by
  obtain ⟨A, c, hr, h1, h2, h3⟩ := h.row
  have hlt : g < w.heap.size := blk_lt hr
  exact ⟨h.below.trans (hb.mono (h.below.size)), h.far, ⟨A, c, (hb.block g hlt).trans hr, h1, h2, h3⟩, h.bytes⟩

end Go.Proofs.YtcohodkpppmaoaaGreatDoor.Q
namespace Go.Proofs.YtcohodkpppmaoaaGreatDoor.Q
open Go.RowKit Go.Proofs.YtcohodkpppmaoaaGreatDoorW.PrintWords Go.Proofs.YtcohodkpppmaoaaGreatDoorW.PrintLast Go.Proofs.YtcohodkpppmaoaaGreatDoorW.PrintMore
set_option linter.unusedVariables false

def opS (s : RdS) : RdS := takeS (textS (textS (takeS s 1))) 4
def changeS (s : RdS) : RdS := takeS (takeS (textS s) 1) 4
def rowR (s : RdS) : S148 := ⟨textR s, numR (textS s) 4⟩
def rowS (s : RdS) : RdS := takeS (textS s) 4

theorem Rd.alloc {w0 w : World} {g : Nat} {s : RdS} (h : Rd w0 w g s) (o : Obj) : Rd w0 (w.alloc o) g s := h.grown (below_alloc (Below.refl _ _) o)
theorem Rd.set {w0 w : World} {g b : Nat} {s : RdS} (h : Rd w0 w g s) (hb : g ≠ b) (h0 : w0.heap.size ≤ b) (j : Nat) (u : Value) : Rd w0 (w.setCell ⟨b, j, none⟩ u) g s := by
  obtain ⟨A, c, hr, h1, h2, h3⟩ := h.row
  exact ⟨h.below.setCell h0 _, h.far, ⟨A, c, blk_far hr hb u, h1, h2, h3⟩, h.bytes⟩
theorem Rd.lt {w0 w : World} {g : Nat} {s : RdS} (h : Rd w0 w g s) : g < w.heap.size := by
  obtain ⟨A, c, hr, _⟩ := h.row
  exact blk_lt hr
end Go.Proofs.YtcohodkpppmaoaaGreatDoor.Q
namespace Go.Proofs.YtcohodkpppmaoaaGreatDoor.Q
open Go.RowKit Go.Proofs.YtcohodkpppmaoaaGreatDoorW.PrintWords Go.Proofs.YtcohodkpppmaoaaGreatDoorW.PrintLast Go.Proofs.YtcohodkpppmaoaaGreatDoorW.PrintMore
set_option linter.unusedVariables false

def sevN {α : Type} (r : RdS → α) (st : RdS → RdS) : Nat → RdS → List α
  | 0, _ => []
  | n + 1, s => if s.2 then [] else r s :: sevN r st n (st s)
def sevNS {α : Type} (r : RdS → α) (st : RdS → RdS) : Nat → RdS → RdS
  | 0, s => s
  | n + 1, s => if s.2 then s else sevNS r st n (st s)
def sevS {α : Type} (r : RdS → α) (st : RdS → RdS) (s : RdS) : RdS := sevNS r st (numR s 2).toNat (takeS s 2)

theorem Rd.grownBy {w0 w w1 : World} {g : Nat} {s : RdS} (h : Rd w0 w g s) (hb : Below w0.heap.size w0 w1) {row : Option Nat} (hg : w.grownBy w1 row) (hr : ∀ k, row = some k → k ≠ g) : Rd w0 w1 g s := by
  obtain ⟨A, c, hr0, h1, h2, h3⟩ := h.row
  exact ⟨hb, h.far, ⟨A, c, blk_grown hr0 hg (by intro e; exact hr g e.symm rfl), h1, h2, h3⟩, h.bytes⟩

def resS (s : RdS) : RdS := sevS rowR rowS s

def Bts (s : RdS) : Prop := ∀ x ∈ s.1, 0 ≤ x ∧ x < 256
theorem Bts.take {s : RdS} (hs : Bts s) (n : Nat) : Bts (takeS s n) := by
  unfold takeS
  split
  · exact hs
  · exact fun x hx => hs x (List.mem_of_mem_drop hx)
theorem Bts.text {s : RdS} (hs : Bts s) : Bts (textS s) := (hs.take 1).take _
theorem Bts.row {s : RdS} (hs : Bts s) : Bts (rowS s) := hs.text.take 4
theorem Bts.op {s : RdS} (hs : Bts s) : Bts (opS s) := (hs.take 1).text.text.take 4
theorem Bts.change {s : RdS} (hs : Bts s) : Bts (changeS s) := (hs.text.take 1).take 4
theorem Bts.sevN {α : Type} {r : RdS → α} {st : RdS → RdS} (hst : ∀ s, Bts s → Bts (st s)) : ∀ (n : Nat) (s : RdS), Bts s → Bts (sevNS r st n s)
  | 0, _, h => h
  | n + 1, s, h => by
    unfold sevNS
    split
    · exact h
    · exact Bts.sevN hst n _ (hst s h)
theorem Bts.sev {α : Type} {r : RdS → α} {st : RdS → RdS} (hst : ∀ s, Bts s → Bts (st s)) {s : RdS} (h : Bts s) : Bts (sevS r st s) := Bts.sevN hst _ _ (h.take 2)
theorem Bts.res {s : RdS} (hs : Bts s) : Bts (resS s) := Bts.sev (fun _ h => h.row) hs
end Go.Proofs.YtcohodkpppmaoaaGreatDoor.Q
namespace Go.Proofs.YtcohodkpppmaoaaGreatDoor.Q
open Go.RowKit Go.Proofs.YtcohodkpppmaoaaGreatDoorW.PrintWords Go.Proofs.YtcohodkpppmaoaaGreatDoorW.PrintLast Go.Proofs.YtcohodkpppmaoaaGreatDoorW.PrintMore
set_option linter.unusedVariables false

theorem alloc_size (w : World) (o : Obj) : (w.alloc o).heap.size = w.heap.size + 1 := by show (w.heap.push o).size = _; simp
end Go.Proofs.YtcohodkpppmaoaaGreatDoor.Q
namespace Go.Proofs.YtcohodkpppmaoaaGreatDoor.Q
open Go.RowKit Go.Proofs.YtcohodkpppmaoaaGreatDoorW.PrintWords Go.Proofs.YtcohodkpppmaoaaGreatDoorW.PrintLast Go.Proofs.YtcohodkpppmaoaaGreatDoorW.PrintMore
set_option linter.unusedVariables false
/-- A result, and what lies in the room behind its rows. -/
abbrev TRes := ResT' × List RowT'
def spareRow : RowT' := ⟨spareKey, 0⟩
def spareRes : TRes := (⟨[spareRow]⟩, [])
def twOf (x : ResT') : TRes := (x, [spareRow])
def fdTR : Fd TRes where
  k := Kd.iso k145 Prod.fst
  M := fun w F x cs => ∃ A c, cs = [.slice A x.1.f0.length c] ∧ x.1.f0.length + x.2.length ≤ c ∧ Fd.Row fdRow 148 w F (.slice A (x.1.f0.length + x.2.length) c) (x.1.f0 ++ x.2)
  read := by
    rintro w F x cs ⟨A, c, rfl, hl, h⟩
    obtain ⟨A', c', ev, hc, hC⟩ := Fd.row_reads h
    injection ev with e1 _ e3
    subst e1
    exact k145_mk w x.1 (by omega) (C_front hC)
  move := by
    rintro w w1 F x cs hm ⟨A, c, rfl, hl, h⟩
    exact ⟨A, c, rfl, hl, Fd.row_move hm h⟩
  lt := by
    rintro w F x cs ⟨A, c, rfl, hl, h⟩
    exact Fd.row_lt h
theorem C_iso {α β : Type} {k : Kd α} {f : β → α} {w : World} {A : Option Addr} {n : Nat} {ys : List β} (h : (Kd.iso k f).C w A n ys) : k.C w A n (ys.map f) :=
  ⟨by simpa using h.1, h.2.1, fun hn => by
    obtain ⟨ad, e, hc⟩ := h.2.2 hn
    refine ⟨ad, e, fun j p hj => ?_⟩
    rw [List.getElem?_map] at hj
    obtain ⟨q, hq, rfl⟩ := Option.map_eq_some_iff.1 hj
    exact hc j q hq⟩
section
variable {w : World} {F : List Nat} {A : Option Addr} {n m c : Nat} {l : List ResT'} {ys : List TRes} {e : Nat}
theorem twMap (l : List ResT') : (l.map twOf).map Prod.fst = l := by simp [twOf, Function.comp_def]
/-- As it is read. -/
theorem twinR_c (h : Twin fdTR e w F (.slice A n c) (l.map twOf) spareRes) : k145.C w A l.length l ∧ l.length + 1 ≤ c := by
  obtain ⟨h1, h2, h3⟩ := h.c
  have h4 := C_iso h1
  rw [List.length_map] at h3 h4
  rw [twMap] at h4
  exact ⟨h4, h3⟩
/-- Element i of a row of results: its rows, and what lies behind them. -/
theorem TRow_at (h : Fd.Row fdTR e w F (.slice A m c) ys) (i : Nat) (hi : i < ys.length) : ∃ g Ai ci, A = some ⟨g, 0, none⟩ ∧ w.cell? ⟨g, i, none⟩ = some (.slice Ai (ys[i]).1.f0.length ci) ∧ (ys[i]).1.f0.length + (ys[i]).2.length ≤ ci ∧ k148.C w Ai ((ys[i]).1.f0.length + (ys[i]).2.length) ((ys[i]).1.f0 ++ (ys[i]).2) := by
  obtain ⟨inner, G, ho, he, rfl⟩ := h
  obtain ⟨c0, c1, c2, F0, F', F1, rfl, hl0, rfl, _, hM, _⟩ := Fd.els_at hi he
  obtain ⟨g, cap, ev, _, _⟩ := ho.form (by omega)
  injection ev with e1 _ e3
  subst e1
  obtain ⟨Ai, ci, rfl, hci, hr⟩ := hM
  obtain ⟨A', c', ev', hc', hC⟩ := Fd.row_reads hr
  injection ev' with a1 _ a3
  subst a1
  rw [List.length_append] at hC
  have hl0' : c0.length = i := by rw [hl0]; exact Nat.mul_one i
  refine ⟨g, Ai, ci, rfl, ?_, hci, hC⟩
  have h := ho.cells (g := g) rfl i (.slice Ai (ys[i]).1.f0.length ci) (by rw [List.getElem?_append_right (by omega), hl0', Nat.sub_self]; rfl)
  rwa [add_plain] at h
end
theorem infoTwResults : (Tryz.prog.info? 145).map (fun i => (i.zero, i.size, i.bytes)) = some (some (.agg #[.slice none 0 0]), 1, 24) := by kernel_rfl
set_option maxRecDepth 100000 in
theorem twinResult_calls (w : World) (A0 : Option Addr) (c0 : Nat) (x : ResT') (hr : k148.C w A0 x.f0.length x.f0) (hc0 : x.f0.length ≤ c0) (hl : x.f0.length ≤ 1000000000) :
    Calls Tryz.prog 139 #[.agg #[.slice A0 x.f0.length c0]] w fun e w' => ∃ v, e = .returned (.agg #[v]) ∧ ∃ F, fdTR.M w' F (twOf x) [v] ∧ F.Nodup ∧ (∀ b ∈ F, w.heap.size ≤ b) ∧ Below w.heap.size w w' := by
  have hu := Tryz.underlying145
  have HC := Aside0.mk hr
  clear hr
  go_enter Tryz.func139, Tryz.ntmps139
  go_wp2_with fail
  obtain ⟨w1, hw1⟩ : ∃ w1, w1 = (w.alloc (.cells #[.slice A0 x.f0.length c0] 145)).alloc (.cells #[.slice none 0 0] 145) := ⟨_, rfl⟩
  have hb0 := below_alloc (Below.refl w.heap.size w) (.cells #[.slice A0 x.f0.length c0] 145)
  have hb1 : Below w.heap.size w w1 := by rw [hw1]; exact hb0.alloc hb0.size _
  have hbk : w1.heap[w.heap.size + 1]? = some (.cells #[.slice none 0 0] 145 (0, 0)) := by
    rw [hw1]
    have h := blk_new (w.alloc (.cells #[.slice A0 x.f0.length c0] 145)) (.cells #[.slice none 0 0] 145)
    rwa [alloc_size] at h
  rw [← hw1]
  clear hw1 hb0
  refine (twinRows_calls w1 A0 c0 x.f0 (Kd.C_below HC.out hb1) hc0 hl).mono ?_
  rintro e w2 ⟨v, rfl, F, hT, hN, hF, hb2⟩
  obtain ⟨A, c, rfl, hc, hR⟩ := hT
  have B2 := blk_below hbk hb2
  have BB := Aside0.mk (below_step hb1 hb2)
  have c0_ := blk_cell B2 0
  have f0_ := blk_frozen B2 0
  have hg2 := blk_lt B2
  have hs1 := hb1.size
  have hlt1 : w.heap.size + 1 < w1.heap.size := blk_lt hbk
  have HB2 := Aside0.mk B2
  have HR := Aside0.mk hR
  have HN := Aside0.mk hN
  have HF := Aside0.mk hF
  clear hb1 hb2 hbk B2 hR hN hF
  go_wp2
  try simp only [Exit.inBlock, Exit.then]
  refine bodyPost_ret (results_cell_row rfl _ _ (w.heap.size + 1) 145 #[.slice A x.f0.length c] (0, 0) _ rfl (blk_put (cs' := #[.slice A x.f0.length c]) HB2.out 0 (.slice A x.f0.length c) rfl) hu rfl (by kernel_rfl)) rfl ?_
  refine ⟨_, rfl, F, ⟨A, c, rfl, hc, Fd.row_keeps HR.out ((Keeps.refl [w.heap.size + 1] w2).setCell (p := ⟨w.heap.size + 1, 0, none⟩) (.inl (by simp)) _) (fun b hb hx => by have := HF.out b hb; simp at hx; omega)⟩, HN.out, fun b hb => by have := HF.out b hb; omega, BB.out.setCell (p := ⟨w.heap.size + 1, 0, none⟩) (Nat.le_succ _) _⟩
theorem readRes (l : List ResT') (k : Nat) (hk : k < l.length) : (l.take (k + 1)).map twOf = (l.take k).map twOf ++ [twOf (rd_T145 l (k : Int))] := by
  have e : rd_T145 l (k : Int) = l[k] := by simp [rd_T145, hk]
  rw [List.take_succ_eq_append_getElem hk, List.map_append, e]
  rfl
theorem rdRes_mem (l : List ResT') (k : Nat) (hk : k < l.length) : rd_T145 l (k : Int) ∈ l := by
  have e : rd_T145 l (k : Int) = l[k] := by simp [rd_T145, hk]
  rw [e]
  exact List.getElem_mem _
set_option maxHeartbeats 3200000 in
set_option maxRecDepth 100000 in
theorem twinResults_calls (w : World) (A0 : Option Addr) (c0 : Nat) (l : List ResT') (hr : Kd.C k145 w A0 l.length l) (hc0 : l.length ≤ c0) (hl : l.length ≤ 1000000000) (hlr : ∀ x ∈ l, x.f0.length ≤ 1000000000) :
    Calls Tryz.prog 52 #[.slice A0 l.length c0] w fun e w' => ∃ v, e = .returned v ∧ ∃ F, Twin fdTR 145 w' F v (l.map twOf) spareRes ∧ F.Nodup ∧ (∀ b ∈ F, w.heap.size ≤ b) ∧ Below w.heap.size w w' := by
  obtain ⟨MC, hMS, HMK⟩ : ∃ MC : Array Value, MC.size = (l.length + 1) * 1 ∧ ∀ W : World, (Instr.makeSlice 48 (.int .i64 0) (.int .i64 ((l.length : Int) + 1))).run Tryz.prog W = .ok (.slice (some ⟨W.heap.size, 0, none⟩) 0 (l.length + 1)) (W.alloc (.cells MC 145)) := ⟨madeCells (.agg #[.slice none 0 0] : Value).cells ((l.length + 1) * 1), madeCells_size _ _, fun W => by
    have h := run_make0 (P := Tryz.prog) 48 145 (.agg #[.slice none 0 0]) 1 24 Tryz.underlying48 infoTwResults (by decide) (l.length + 1) (by omega) W
    rwa [show ((l.length + 1 : Nat) : Int) = (l.length : Int) + 1 by omega] at h⟩
  have hw1 : IntKind.i64.wrap ((l.length : Int) + 1) = (l.length : Int) + 1 := IntWalk.i64_in _ (by omega)
  have HC := Aside0.mk hr
  have HLR := Aside0.mk hlr
  have hul := Tryz.underlying145
  have hulr := Tryz.underlying148
  clear hr hlr
  go_enter Tryz.func52, Tryz.ntmps52
  go_wp2
  obtain ⟨wo, hwo⟩ : ∃ wo, wo = w.alloc (.cells MC 145) := ⟨_, rfl⟩
  have HB0 := Aside0.mk (show Below w.heap.size w wo by rw [hwo]; exact below_alloc (Below.refl _ _) _)
  have HR0 := Aside0.mk (show Fd.Row fdTR 145 wo [w.heap.size] (.slice (some ⟨w.heap.size, 0, none⟩) 0 (l.length + 1)) [] by
    rw [hwo]; exact made0_row fdTR 145 w _ (l.length + 1) (by omega) hMS)
  rw [← hwo]
  clear hwo HMK
  go_loopw [3, 4] (fun v i wr => ∃ (k : Nat) (F : List Nat), k ≤ l.length ∧ i = .int .i64 k ∧ Aside0 (Fd.Row fdTR 145 wr F v ((l.take k).map twOf)) ∧ Aside0 F.Nodup ∧ Aside0 (∀ b ∈ F, w.heap.size ≤ b) ∧ Aside0 (Below w.heap.size w wr)) (fun _ i _ => l.length - (intOf i).toNat)
  case atStart => exact ⟨0, [w.heap.size], Nat.zero_le _, rfl, HR0, ⟨by simp⟩, ⟨by simp⟩, HB0⟩
  case round =>
    clear HR0 HB0
    obtain ⟨wq, hwq⟩ : ∃ wq, wq = wr := ⟨_, rfl⟩
    subst hwq
    obtain ⟨k, F, hk, rfl, HR, HN, HF, HB⟩ := hrel
    obtain ⟨Av, cv, ev, hcv, _⟩ := Fd.row_reads HR.out
    rw [List.length_map, List.length_take, Nat.min_eq_left hk] at ev hcv
    subst ev
    have hsz : w.heap.size ≤ wq.heap.size := HB.out.size
    by_cases hlt : k < l.length
    · have hlt' : (k : Int) < (l.length : Int) := by omega
      have hk0 : (0 : Int) ≤ (k : Int) := by omega
      obtain ⟨ad, Ai, ci, e1, hx0, hci, hCi⟩ := at_T145 (Kd.C_below HC.out HB.out) (k : Int) hk0 hlt'
      subst e1
      simp only [Int.toNat_natCast] at hx0
      have HTK := Aside0.mk (readRes l k hlt)
      have HXL := Aside0.mk (HLR.out _ (rdRes_mem l k hlt))
      generalize rd_T145 l (k : Int) = x at *
      have HCI := Aside0.mk hCi
      clear hCi
      go_wp2_with fail
      refine (twinResult_calls wq Ai ci x HCI.out hci HXL.out).mono ?_
      rintro e w5 ⟨vi, rfl, Fi, hM, hN, hFi, hb5⟩
      have HM := Aside0.mk hM
      have HNi := Aside0.mk hN
      have HFi := Aside0.mk hFi
      have HB5 := Aside0.mk hb5
      have HR5 := Aside0.mk (Fd.row_below HR.out hb5)
      have HLF := Aside0.mk (Fd.row_lt HR.out)
      have hs5 := hb5.size
      clear hM hN hFi hb5
      go_wp2_with (first | (at_builtin; (refine Fd.R_append (W := w5) fdTR rfl (.tmp 15) (.tmp 21) 48 145 (.agg #[.slice none 0 0]) 24 rfl Tryz.underlying48 infoTwResults rfl (show 0 < 1 from by decide) (by decide) (.slice Av k cv) ((l.take k).map twOf) (twOf x) [vi] F Fi rfl rfl HM.out HR5.out (List.nodup_append.2 ⟨HN.out, HNi.out, fun a ha b hb e => by have := HLF.out a ha; have := HFi.out b hb; omega⟩) (by rw [List.length_map, List.length_take]; omega) ?_); intro v1 w6 F6 h1 h2 h3 h4; have R6 := Aside0.mk h1; have N6 := Aside0.mk h2; have K6 := Aside0.mk h3; have L6 := Aside0.mk h4; clear h1 h2 h3 h4))
      go_roundw
      case rel =>
        refine ⟨k + 1, F6, by omega, by go_num, ⟨by rw [HTK.out]; exact R6.out⟩, N6, ⟨fun b hb => ?_⟩, ⟨(below_step HB.out HB5.out).trans (K6.out.below HF.out (by omega))⟩⟩
        rcases L6.out b hb with h | h | h
        · exact HF.out b h
        · have := HFi.out b h; omega
        · omega
      case measure => simp [intOf]; omega
    · obtain rfl : k = l.length := by omega
      have hlt' : ¬ ((l.length : Int) < (l.length : Int)) := by omega
      have etk : l.take l.length = l := List.take_of_length_le (Nat.le_refl _)
      rw [etk] at HR
      have hba := below_alloc (Below.refl wq.heap.size wq) (.cells #[.string ⟨#[115, 112, 97, 114, 101]⟩, .int .u32 0] 148)
      have HBA := Aside0.mk hba
      have HRA := Aside0.mk (Fd.row_below HR.out hba)
      have HLF := Aside0.mk (Fd.row_lt HR.out)
      have HM := Aside0.mk (show fdTR.M (wq.alloc (.cells #[.string ⟨#[115, 112, 97, 114, 101]⟩, .int .u32 0] 148)) [wq.heap.size] spareRes [.slice (some ⟨wq.heap.size, 0, none⟩) 1 1] from by
        refine ⟨_, 1, rfl, Nat.le_refl _, [.string ⟨#[115, 112, 97, 114, 101]⟩, .int .u32 0], [], ⟨rfl, .inr ⟨wq.heap.size, 1, #[.string ⟨#[115, 112, 97, 114, 101]⟩, .int .u32 0], rfl, Nat.zero_le _, blk_new wq _, Nat.le_refl _, by decide, rfl, rfl⟩⟩, ?_, rfl⟩
        exact Fd.els_one (F := []) ⟨rfl, k148_mk _ spareRow⟩)
      have HU := Aside0.mk infoTwResults
      clear hba
      go_wp2_with (first | (at_builtin; (refine Fd.R_append (W := wq.alloc (.cells #[.string ⟨#[115, 112, 97, 114, 101]⟩, .int .u32 0] 148)) fdTR rfl (.tmp 23) (.tmp 27) 48 145 (.agg #[.slice none 0 0]) 24 rfl Tryz.underlying48 infoTwResults rfl (show 0 < 1 from by decide) (by decide) (.slice Av l.length cv) (l.map twOf) spareRes [.slice (some ⟨wq.heap.size, 0, none⟩) 1 1] F [wq.heap.size] (by simp [Act.eval, Act.put]) (by simp [Act.eval, Act.put]) HM.out HRA.out (List.nodup_append.2 ⟨HN.out, by simp, fun a ha b hb e => by have := HLF.out a ha; simp at hb; omega⟩) (by rw [List.length_map]; omega) ?_); intro v1 w6 F6 h1 h2 h3 h4; obtain ⟨A2, c2, ev2, hc2, _⟩ := Fd.row_reads h1; rw [List.length_append, List.length_singleton, List.length_map] at ev2 hc2; subst ev2; have hcut := cut_up (P := Tryz.prog) 48 145 .i64 Tryz.underlying48 HU.out A2 (l.length + 1) c2 (l.length : Int) (by omega) (by omega); rw [Int.toNat_natCast] at hcut; have R6 := Aside0.mk h1; have N6 := Aside0.mk h2; have K6 := Aside0.mk h3; have L6 := Aside0.mk h4; clear h1 h2 h3 h4))
      go_ret
      refine ⟨_, rfl, F6, ⟨A2, c2, (show Value.slice A2 l.length c2 = .slice A2 (l.map twOf).length c2 by rw [List.length_map]), by rw [List.length_map]; exact hc2, by rw [List.length_map]; exact R6.out⟩, N6.out, fun b hb => ?_, (below_step HB.out HBA.out).trans (K6.out.below HF.out (by have := HBA.out.size; omega))⟩
      rcases L6.out b hb with h | h | h
      · exact HF.out b h
      · simp at h; omega
      · have := HBA.out.size; omega
set_option maxRecDepth 100000 in
theorem leftResult_calls (w : World) (At : Option Addr) (ct : Nat) (A0 : Option Addr) (c0 : Nat) (x : ResT') (ht : k148.C w At (x.f0.length + 1) (x.f0 ++ [spareRow])) (hct : x.f0.length + 1 ≤ ct) (hr : k148.C w A0 x.f0.length x.f0) (hc0 : x.f0.length ≤ c0) (hl : x.f0.length ≤ 1000000000) :
    Calls Tryz.prog 148 #[.agg #[.slice At x.f0.length ct], .agg #[.slice A0 x.f0.length c0]] w fun e w' => e = .returned (.bool true) ∧ Below w.heap.size w w' := by
  have hu := Tryz.underlying145
  have HT := Aside0.mk ht
  have HC := Aside0.mk hr
  clear ht hr
  have hb0 := below_alloc (Below.refl w.heap.size w) (.cells #[.slice At x.f0.length ct] 145)
  have HB := Aside0.mk (hb0.alloc hb0.size (.cells #[.slice A0 x.f0.length c0] 145))
  clear hb0
  go_enter Tryz.func148, Tryz.ntmps148
  go_wp2_with fail
  refine (leftRows_calls _ At ct A0 c0 x.f0 (Kd.C_below HT.out HB.out) hct (Kd.C_below HC.out HB.out) hc0 hl).mono ?_
  rintro e w2 ⟨rfl, hb2⟩
  have HB2 := Aside0.mk (below_step HB.out hb2)
  clear hb2
  go_wp2
  go_ret
  exact ⟨rfl, HB2.out⟩
theorem tw_at (l : List ResT') (k : Nat) (hk : k < l.length) : (l.map twOf ++ [spareRes])[k]'(by simp; omega) = twOf (rd_T145 l (k : Int)) := by
  have e : rd_T145 l (k : Int) = l[k] := by simp [rd_T145, hk]
  rw [e, List.getElem_append_left (by simpa using hk), List.getElem_map]
theorem tw_last (l : List ResT') : (l.map twOf ++ [spareRes])[l.length]'(by simp) = spareRes := by simp
set_option maxHeartbeats 3200000 in
set_option maxRecDepth 100000 in
theorem leftResults_calls (w : World) (At : Option Addr) (ct : Nat) (F : List Nat) (A0 : Option Addr) (c0 : Nat) (l : List ResT') (ht : Twin fdTR 145 w F (.slice At l.length ct) (l.map twOf) spareRes) (hr : Kd.C k145 w A0 l.length l) (hc0 : l.length ≤ c0) (hl : l.length ≤ 1000000000) (hlr : ∀ x ∈ l, x.f0.length ≤ 1000000000) :
    Calls Tryz.prog 58 #[.slice At l.length ct, .slice A0 l.length c0] w fun e w' => e = .returned (.bool true) ∧ Below w.heap.size w w' := by
  have hw1 : IntKind.i64.wrap ((l.length : Int) + 1) = (l.length : Int) + 1 := IntWalk.i64_in _ (by omega)
  have hct := (twinR_c ht).2
  have hcap : ¬ ((ct : Int) ≤ (l.length : Int)) := by omega
  have hcut := cut_up (P := Tryz.prog) 48 145 .i64 Tryz.underlying48 infoTwResults At l.length ct ((l.length : Int) + 1) (by omega) (by omega)
  rw [show ((l.length : Int) + 1).toNat = l.length + 1 by omega] at hcut
  have hul := Tryz.underlying145
  have hulr := Tryz.underlying148
  have hTR : Fd.Row fdTR 145 w F (.slice At (l.length + 1) ct) (l.map twOf ++ [spareRes]) := by
    obtain ⟨A', c', ev, _, h3⟩ := ht
    injection ev with e1 _ e3
    subst e1 e3
    rwa [List.length_map] at h3
  have HT := Aside0.mk hTR
  have HC := Aside0.mk hr
  have HLR := Aside0.mk hlr
  clear ht hr hlr hTR
  go_enter Tryz.func58, Tryz.ntmps58
  go_wp2
  go_loopw [5] (fun i wr => ∃ (k : Nat), k ≤ l.length ∧ i = .int .i64 k ∧ Aside0 (Below w.heap.size w wr)) (fun i _ => l.length - (intOf i).toNat)
  case atStart => exact ⟨0, Nat.zero_le _, rfl, ⟨Below.refl _ _⟩⟩
  case round =>
    obtain ⟨wq, hwq⟩ : ∃ wq, wq = wr := ⟨_, rfl⟩
    subst hwq
    obtain ⟨k, hk, rfl, HB⟩ := hrel
    have HTQ := Aside0.mk (Fd.row_below HT.out HB.out)
    by_cases hlt : k < l.length
    · have hlt' : (k : Int) < (l.length : Int) := by omega
      have hk0 : (0 : Int) ≤ (k : Int) := by omega
      obtain ⟨g, Ai, ci, e1, hy0, hyc, hyC⟩ := TRow_at HTQ.out k (by simp; omega)
      subst e1
      rw [tw_at l k hlt] at hy0 hyc hyC
      obtain ⟨ad, Al, cl, e1, hx0, hcl, hCl⟩ := at_T145 (Kd.C_below HC.out HB.out) (k : Int) hk0 hlt'
      subst e1
      simp only [Int.toNat_natCast] at hx0
      have HXL := Aside0.mk (HLR.out _ (rdRes_mem l k hlt))
      generalize rd_T145 l (k : Int) = x at *
      have HCT := Aside0.mk (show k148.C wq Ai (x.f0.length + 1) (x.f0 ++ [spareRow]) from hyC)
      have HCX := Aside0.mk hCl
      have hy0' : wq.cell? ⟨g, k, none⟩ = some (.slice Ai x.f0.length ci) := hy0
      have hci : x.f0.length + 1 ≤ ci := hyc
      have hd1 := below_drew (Below.refl wq.heap.size wq)
      have HD1 := Aside0.mk hd1
      have HS0 := Aside0.mk (show wq.drew.cell? ⟨g, k, none⟩ = some (.slice Ai x.f0.length ci) ∧ wq.drew.cell? (ad.add k) = some (.slice Al x.f0.length cl) from ⟨cell_on hd1 hy0', cell_on hd1 hx0⟩)
      have HF := Aside0.mk (show wq.cell? ⟨g, k, none⟩ = some (.slice Ai x.f0.length ci) ∧ wq.cell? (ad.add k) = some (.slice Al x.f0.length cl) from ⟨hy0', hx0⟩)
      have C1 := Aside0.mk (leftResult_calls wq.drew Ai ci Al cl x (Kd.C_below HCT.out hd1) hci (Kd.C_below HCX.out hd1) hcl HXL.out)
      clear hyC hCl hy0 hy0' hx0 hyc hd1
      go_wp2_with fail
      first | (go_region_held3 (fun w' : World => w'.cell? ⟨g, k, none⟩ = some (.slice Ai x.f0.length ci) ∧ w'.cell? (ad.add k) = some (.slice Al x.f0.length cl)) (first | with_reducible exact HS0.out | with_reducible exact HS1.out) (
          (go_at_call 148
           with_reducible refine C1.out.mono ?_
           rintro e w1 ⟨rfl, hb1⟩
           have HB1 := Aside0.mk (below_step HD1.out hb1)
           have HS1 := Aside0.mk (show w1.cell? ⟨g, k, none⟩ = some (.slice Ai x.f0.length ci) ∧ w1.cell? (ad.add k) = some (.slice Al x.f0.length cl) from ⟨cell_on hb1 HS0.out.1, cell_on hb1 HS0.out.2⟩)
           clear hb1))) | fail "held3"
      all_goals
        go_wp2
        refine ⟨⟨k + 1, by omega, by first | rfl | simp, Aside0.mk (below_step HB.out HB1.out)⟩, ?_⟩
        try simp only [intOf]
        omega
    · obtain rfl : k = l.length := by omega
      have hlt' : ¬ ((l.length : Int) < (l.length : Int)) := by omega
      obtain ⟨g, Ai, ci, e1, hy0, hyc, hyC⟩ := TRow_at HTQ.out l.length (by simp)
      subst e1
      rw [tw_last l] at hy0 hyc hyC
      have hy0' : wq.cell? ⟨g, l.length, none⟩ = some (.slice Ai 1 ci) := hy0
      have hyC' : k148.C wq Ai 1 [spareRow] := hyC
      obtain ⟨ad, e1, hz0, hz1⟩ := at_T148 hyC' 0 (by decide) (by decide)
      subst e1
      have hz0' : wq.cell? ad = some (.string ⟨#[115, 112, 97, 114, 101]⟩) := hz0
      have hadl : ad.block < wq.heap.size := World.block_lt_of_cell? wq _ hz0'
      have hza : (wq.alloc (.cells #[.slice (some ad) 1 ci] 145)).cell? ad = some (.string ⟨#[115, 112, 97, 114, 101]⟩) := cell_on (below_alloc (Below.refl _ _) _) hz0'
      clear hy0 hyC hz0 hz1 hyC' hyc
      go_wp2
      repeat (go_quiet (fail); try go_wp2)
      go_ret
      exact ⟨rfl, HB.out.alloc HB.out.size _⟩
end Go.Proofs.YtcohodkpppmaoaaGreatDoor.Q
namespace Go.Proofs.YtcohodkpppmaoaaGreatDoor.Q
open Go.RowKit Go.Proofs.YtcohodkpppmaoaaGreatDoorW.PrintWords Go.Proofs.YtcohodkpppmaoaaGreatDoorW.PrintLast Go.Proofs.YtcohodkpppmaoaaGreatDoorW.PrintMore
set_option linter.unusedVariables false
/-- A slice of so many, of which no more is told. -/
def kLoose : Kd Nat where
  sz := 1
  E := []
  K := fun _ n cs => ∃ A c, cs = [.slice A n c]
  M := fun _ _ _ n cs => ∃ A c, cs = [.slice A n c]
  K_len := by
    rintro w n cs ⟨A, c, rfl⟩
    rfl
  K_one := by
    rintro w n cs ⟨A, c, rfl⟩ u hu
    simp only [List.mem_cons, List.not_mem_nil, or_false] at hu
    subst hu
    rfl
  K_below := fun _ h => h
  K_of_M := fun h => h
  M_mono := fun _ h => h
  M_bound := fun h => h
  M_move := fun _ h => h
  M_lower := fun _ h => h
/-- A row (elements of type e, sz cells each) of which the length alone is told. -/
def fdLoose (e : TypeId) (sz : Nat) : Fd Nat where
  k := kLoose
  M := fun w F n cs => ∃ A c inner, cs = [.slice A n c] ∧ w.ownsRow 0 e sz (.slice A n c) n inner ∧ F = (Value.slice A n c).ownBlock.toList
  read := by
    rintro w F n cs ⟨A, c, inner, rfl, _⟩
    exact ⟨A, c, rfl⟩
  move := by
    rintro w w1 F n cs hm ⟨A, c, inner, rfl, h, rfl⟩
    exact ⟨A, c, inner, rfl, own_move h (fun k hk => hm k (by simp [hk])), rfl⟩
  lt := by
    rintro w F n cs ⟨A, c, inner, rfl, h, rfl⟩ b hb
    exact own_lt h b (by simpa using hb)
section
variable {α β : Type} {d : Fd α} {d' : Fd β} {f : α → β} {w : World} {e : Nat} {v : Value} {F : List Nat}
theorem els_map (hM : ∀ {F x cs}, d.M w F x cs → d'.M w F (f x) cs) : ∀ {xs : List α} {cs : List Value} {F : List Nat}, Fd.Els d w xs cs F → Fd.Els d' w (xs.map f) cs F
  | [], _, _, h => h
  | x :: xs, _, _, h => by
    obtain ⟨c, r, F0, F1, rfl, rfl, h1, h2⟩ := h
    exact ⟨c, r, F0, F1, rfl, rfl, hM h1, els_map hM h2⟩
theorem row_map (hsz : d.k.sz = d'.k.sz) (hM : ∀ {F x cs}, d.M w F x cs → d'.M w F (f x) cs) {xs : List α} (h : Fd.Row d e w F v xs) : Fd.Row d' e w F v (xs.map f) := by
  obtain ⟨inner, G, ho, he, rfl⟩ := h
  exact ⟨inner, G, by rw [List.length_map, ← hsz]; exact ho, els_map hM he, rfl⟩
theorem els_none {k : Kd α} {hk : ∀ {w w1 : World} {x cs}, k.K w x cs → k.K w1 x cs} : ∀ {xs : List α} {cs : List Value} {F : List Nat}, Fd.Els (Fd.flat k hk) w xs cs F → F = []
  | [], _, _, h => h.2
  | x :: xs, _, _, h => by
    obtain ⟨c, r, F0, F1, rfl, rfl, h1, h2⟩ := h
    rw [h1.1, els_none h2]
    rfl
end
theorem els_row {w : World} {xs : List RowT'} {cs : List Value} {F : List Nat} (h : Fd.Els fdRow w xs cs F) : F = [] := els_none (hk := fun {w w1 x cs} h => by rw [k148_open h]; exact k148_mk w1 x) h
theorem loose_result {w : World} {F : List Nat} {x : ResT'} {cs : List Value} (h : fdResult.M w F x cs) : (fdLoose 148 2).M w F x.f0.length cs := by
  obtain ⟨v, rfl, h⟩ := h
  obtain ⟨A, c, ev, _, _⟩ := Fd.row_reads h
  subst ev
  obtain ⟨inner, G, ho, he, rfl⟩ := h
  rw [els_row he, List.append_nil]
  exact ⟨A, c, inner, rfl, ho, rfl⟩
theorem loose_twin {w : World} {F : List Nat} {x : TRes} {cs : List Value} (h : fdTR.M w F x cs) : (fdLoose 148 2).M w F x.1.f0.length cs := by
  obtain ⟨A, c, rfl, hc, inner, G, ho, he, rfl⟩ := h
  rw [els_row he, List.append_nil]
  rw [List.length_append] at ho
  exact ⟨A, c, _, rfl, own_take ho (Nat.le_add_right _ _), by cases A <;> rfl⟩
/-- Results as they are answered. -/
theorem loose_row {w : World} {F : List Nat} {v : Value} {xs : List ResT'} (h : Fd.Row fdResult 145 w F v xs) : Fd.Row (fdLoose 148 2) 145 w F v (xs.map (·.f0.length)) := row_map (d' := fdLoose 148 2) (f := fun x : ResT' => x.f0.length) rfl (fun h => loose_result h) h
/-- Copies with marks behind them: without the last mark. -/
theorem loose_tw {w : World} {F : List Nat} {A : Option Addr} {n c : Nat} {l : List ResT'} (h : Twin fdTR 145 w F (.slice A n c) (l.map twOf) spareRes) (hn : F.Nodup) : ∃ F', Fd.Row (fdLoose 148 2) 145 w F' (.slice A l.length c) (l.map (·.f0.length)) ∧ F'.Nodup ∧ ∀ b ∈ F', b ∈ F := by
  obtain ⟨A', c', ev, h2, inner, G, ho, he, rfl⟩ := h
  injection ev with e1 _ e3
  subst e1 e3
  rw [List.length_append, List.length_singleton, List.length_map] at ho
  rw [List.length_map] at hn
  obtain ⟨c0, c1, F0, F1, rfl, rfl, h0, h1⟩ := Fd.els_split he
  have hl0 : c0.length = l.length := by rw [Fd.els_len h0, List.length_map]; exact Nat.mul_one _
  have ho2 := own_take ho (Nat.le_succ l.length)
  rw [show l.length * fdTR.k.sz = c0.length from (Nat.mul_one _).trans hl0.symm, List.take_left' rfl] at ho2
  have hm := els_map (d' := fdLoose 148 2) (f := fun x : TRes => x.1.f0.length) (fun h => loose_twin h) h0
  rw [List.map_map] at hm
  have hbk : (Value.slice A l.length c).ownBlock = (Value.slice A (l.length + 1) c).ownBlock := by cases A <;> rfl
  refine ⟨(Value.slice A l.length c).ownBlock.toList ++ F0, ⟨c0, F0, by rw [List.length_map]; exact ho2, hm, rfl⟩, ?_, fun b hb => ?_⟩
  · rw [hbk]
    rw [← List.append_assoc] at hn
    exact (List.nodup_append.1 hn).1
  · rw [hbk] at hb
    rw [List.length_map, ← List.append_assoc]
    exact List.mem_append_left _ hb
theorem Spared.trans {G : List Nat → Nat} {H : Nat} {L L' : List Nat} {a b c : World} (h : Spared H L a b) (k : Spared H L' b c) (hL : ∀ x ∈ L', x ∈ L) : Spared H L a c :=
  fun x hx hn => (k x hx (fun h => hn (hL x h))).trans (h x hx hn)
theorem Spared.of_below {H : Nat} {L : List Nat} {a b : World} (h : Below a.heap.size a b) (hH : H ≤ a.heap.size) : Spared H L a b := fun x hx _ => h.block x (Nat.lt_of_lt_of_le hx hH)
theorem Spared.mono {H : Nat} {L L' : List Nat} {a b : World} (h : Spared H L a b) (hL : ∀ x ∈ L, x ∈ L') : Spared H L' a b := fun x hx hn => h x hx (fun h => hn (hL x h))
theorem Pile.size {w0 w : World} {g G : Nat} {n : Int} {L O : List Nat} (h : Pile w0 w g n G L O) : G ≤ w.heap.size := by
  obtain ⟨F, OB, _, _, h, _⟩ := h
  exact h
theorem Pile.off {w0 w : World} {g G : Nat} {n : Int} {L O : List Nat} (h : Pile w0 w g n G L O) : ∀ b, b < G → b ∉ L → b ∉ O := by
  obtain ⟨F, OB, _, _, _, _, h⟩ := h
  exact fun b h1 h2 hx => (h b hx).elim h2 (fun h3 => by omega)
set_option maxRecDepth 100000 in
theorem Pile.Result {w0 w : World} {g G : Nat} {n : Int} {L O : List Nat} (h : Pile w0 w g n G L O) (hn : n ≤ 1000000000) (A : Option Addr) (len c : Nat) (inner : List Value) (ho : w.ownsRow 0 148 2 (.slice A len c) len inner) (hl : ∀ b ∈ (Value.slice A len c).ownBlock.toList, (b < G ∧ b ∉ L) ∧ w0.heap.size ≤ b) (hlen : len ≤ 1000000000) :
    Calls Tryz.prog 149 #[.pointer (some ⟨g, 0, none⟩), .agg #[.slice A len c]] w fun e w' => e = .returned (.tuple #[]) ∧ Pile w0 w' g (n + 1) G (L ++ (Value.slice A len c).ownBlock.toList) O ∧ Spared G O w w' := by
  have hu := Tryz.underlying145
  have hba := below_alloc (Below.refl w.heap.size w) (.cells #[.slice A len c] 145)
  have HS := Aside0.mk (Spared.of_below (L := O) hba h.size)
  have H := Aside0.mk (h.below hba)
  have HO := Aside0.mk (pw_own_below ho hba)
  have HL := Aside0.mk hl
  clear h ho hl hba
  go_enter Tryz.func149, Tryz.ntmps149
  go_wp2_with fail
  refine (H.out.Rows hn A len c inner HO.out HL.out hlen).mono ?_
  rintro e w2 ⟨rfl, hp, hs⟩
  have HP := Aside0.mk hp
  have HSS := Aside0.mk (HS.out.trans (G := fun _ => 0) hs (fun _ h => h))
  clear hp hs
  go_wp2
  go_end0
  exact ⟨rfl, HP.out, HSS.out⟩
set_option maxHeartbeats 3200000 in
set_option maxRecDepth 100000 in
theorem Pile.Results {w0 w : World} {g G : Nat} {n : Int} {L O : List Nat} (h : Pile w0 w g n G L O) (A : Option Addr) (c : Nat) (lens : List Nat) (F : List Nat) (hn : n + (lens.length : Int) ≤ 1000000000) (hr : Fd.Row (fdLoose 148 2) 145 w F (.slice A lens.length c) lens) (hnd : F.Nodup) (hl : ∀ b ∈ F, (b < G ∧ b ∉ L) ∧ w0.heap.size ≤ b) (hlen : lens.length ≤ 1000000000) (hlens : ∀ x ∈ lens, x ≤ 1000000000) :
    Calls Tryz.prog 59 #[.pointer (some ⟨g, 0, none⟩), .slice A lens.length c] w fun e w' => e = .returned (.tuple #[]) ∧ ∃ L', Pile w0 w' g (n + (lens.length : Int) + 1) G L' O ∧ (∀ b ∈ L', b ∈ L ∨ b ∈ F) ∧ Spared G O w w' := by
  have OFF := Aside0.mk h.off
  obtain ⟨inner, GG, ho, he, rfl⟩ := hr
  have HL := Aside0.mk hl
  have HND := Aside0.mk hnd
  have HLS := Aside0.mk hlens
  have HI0 := Aside0.mk (show ∃ c0 c1 G0 G1, inner = c0 ++ c1 ∧ c0.length = 0 ∧ GG = G0 ++ G1 ∧ w.ownsRow 0 145 1 (.slice A lens.length c) lens.length inner ∧ Fd.Els (fdLoose 148 2) w (lens.drop 0) c1 G1 ∧ ∃ Lk, Pile w0 w g (n + ((0 : Nat) : Int)) G Lk O ∧ (∀ b ∈ Lk, b ∈ L ∨ b ∈ G0) ∧ Spared G O w w from
    ⟨[], inner, [], GG, rfl, rfl, rfl, ho, he, L, by simpa using h, fun b hb => .inl hb, fun _ _ _ => rfl⟩)
  clear h ho he hl hnd hlens
  go_enter Tryz.func59, Tryz.ntmps59
  go_wp2
  go_loopw [4] (fun i wr => ∃ k : Nat, k ≤ lens.length ∧ i = .int .i64 k ∧ Aside0 (∃ c0 c1 G0 G1, inner = c0 ++ c1 ∧ c0.length = k ∧ GG = G0 ++ G1 ∧ wr.ownsRow 0 145 1 (.slice A lens.length c) lens.length inner ∧ Fd.Els (fdLoose 148 2) wr (lens.drop k) c1 G1 ∧ ∃ Lk, Pile w0 wr g (n + (k : Int)) G Lk O ∧ (∀ b ∈ Lk, b ∈ L ∨ b ∈ G0) ∧ Spared G O w wr)) (fun i _ => lens.length - (intOf i).toNat)
  case atStart => exact ⟨0, Nat.zero_le _, rfl, HI0⟩
  case round =>
    clear HI0
    obtain ⟨wq, hwq⟩ : ∃ wq, wq = wr := ⟨_, rfl⟩
    subst hwq
    obtain ⟨k, hk, rfl, ⟨c0, c1, G0, G1, hin, hc0, hGG, ho, he, Lk, hp, hLk, hsp⟩⟩ := hrel
    subst hGG
    have hnd := HND.out
    by_cases hlt : k < lens.length
    · have hlt' : (k : Int) < (lens.length : Int) := by omega
      have hk0 : (0 : Int) ≤ (k : Int) := by omega
      rw [List.drop_eq_getElem_cons hlt] at he
      obtain ⟨cc, r, Fi, Gr, rfl, rfl, ⟨Ai, ci, ii, rfl, hoi, rfl⟩, he2⟩ := he
      obtain ⟨gg, cap, ev, _, _⟩ := ho.form (by omega)
      injection ev with e1 _ e3
      subst e1 e3
      have hx := ho.cells (g := gg) rfl k (.slice Ai lens[k] ci) (by rw [hin, List.getElem?_append_right (by omega), hc0, Nat.sub_self]; rfl)
      rw [add_plain] at hx
      have hlx := HLS.out _ (List.getElem_mem hlt)
      obtain ⟨len, hlen2⟩ : ∃ len, lens[k] = len := ⟨_, rfl⟩
      rw [hlen2] at hoi hx hlx
      have hin2 : ∀ b ∈ (Value.slice Ai len ci).ownBlock.toList, b ∈ (Value.slice (some ⟨gg, 0, none⟩) lens.length c).ownBlock.toList ++ (G0 ++ ((Value.slice Ai lens[k] ci).ownBlock.toList ++ Gr)) := fun b hb => by rw [hlen2]; exact List.mem_append_right _ (List.mem_append_right _ (List.mem_append_left _ hb))
      have hofL : ∀ b ∈ (Value.slice Ai len ci).ownBlock.toList, b ∉ Lk := fun b hb hx => by
        rcases hLk b hx with h | h
        · exact (HL.out b (hin2 b hb)).1.2 h
        · have h3 := (List.nodup_append.1 hnd).2.1
          exact (List.nodup_append.1 h3).2.2 b h b (by rw [hlen2]; exact List.mem_append_left _ hb) rfl
      have C1 := Aside0.mk (hp.Result (by omega) Ai len ci ii hoi (fun b hb => ⟨⟨(HL.out b (hin2 b hb)).1.1, hofL b hb⟩, (HL.out b (hin2 b hb)).2⟩) hlx)
      have HO := Aside0.mk ho
      have HE := Aside0.mk he2
      have HP := Aside0.mk hp
      have HLK := Aside0.mk hLk
      have HSP := Aside0.mk hsp
      have HIN := Aside0.mk hin
      have HN2 := Aside0.mk hnd
      have HL2 := Aside0.mk hlen2
      clear ho he2 hp hLk hsp hin hnd hoi hofL hin2 hlen2
      go_wp2_with fail
      refine C1.out.mono ?_
      rintro e w2 ⟨rfl, hp2, hs2⟩
      have HP2 := Aside0.mk hp2
      have HS2 := Aside0.mk hs2
      clear hp2 hs2 C1
      go_wp2
      refine ⟨⟨k + 1, by omega, by first | rfl | simp, ⟨c0 ++ [.slice Ai len ci], r, G0 ++ (Value.slice Ai len ci).ownBlock.toList, Gr, by rw [HIN.out, HL2.out]; simp, by rw [List.length_append, hc0]; rfl, by rw [HL2.out]; simp, ?_, ?_, _, by rw [show n + ((k + 1 : Nat) : Int) = n + (k : Int) + 1 by omega]; exact HP2.out, ?_, ?_⟩⟩, ?_⟩
      · refine HS2.out.own HO.out (fun b hb => ?_)
        have hmem : b ∈ (Value.slice (some ⟨gg, 0, none⟩) lens.length c).ownBlock.toList ++ (G0 ++ ((Value.slice Ai lens[k] ci).ownBlock.toList ++ Gr)) := List.mem_append_left _ hb
        exact ⟨(HL.out b hmem).1.1, OFF.out b (HL.out b hmem).1.1 (HL.out b hmem).1.2⟩
      · exact Fd.els_move (fun b hb => HS2.out b (HL.out b (by simp [hb])).1.1 (OFF.out b (HL.out b (by simp [hb])).1.1 (HL.out b (by simp [hb])).1.2)) HE.out
      · intro b hb
        rcases List.mem_append.1 hb with hb | hb
        · exact (HLK.out b hb).imp_right (fun h => List.mem_append_left _ h)
        · exact .inr (List.mem_append_right _ hb)
      · exact fun b hb hx => (HS2.out b hb hx).trans (HSP.out b hb hx)
      · try simp only [intOf]
        omega
    · obtain rfl : k = lens.length := by omega
      have hlt' : ¬ ((lens.length : Int) < (lens.length : Int)) := by omega
      rw [List.drop_length] at he
      obtain ⟨rfl, rfl⟩ := he
      rw [List.append_nil] at hnd
      have hofL : ∀ b ∈ (Value.slice A lens.length c).ownBlock.toList, b ∉ Lk := fun b hb hx => by
        rcases hLk b hx with h | h
        · exact (HL.out b (List.mem_append_left _ hb)).1.2 h
        · exact (List.nodup_append.1 hnd).2.2 b hb b h rfl
      have C1 := Aside0.mk (hp.keepResult (by omega) A lens.length c inner ho (fun b hb => ⟨⟨(HL.out b (List.mem_append_left _ hb)).1.1, hofL b hb⟩, (HL.out b (List.mem_append_left _ hb)).2⟩) hlen)
      have HLK := Aside0.mk hLk
      have HSP := Aside0.mk hsp
      clear ho hp hLk hsp hofL
      go_wp2_with fail
      refine C1.out.mono ?_
      rintro e w2 ⟨rfl, hp2, hs2⟩
      have HP2 := Aside0.mk hp2
      have HS2 := Aside0.mk hs2
      clear hp2 hs2 C1
      go_wp2
      go_end0
      refine ⟨rfl, _, HP2.out, fun b hb => ?_, fun b hb hx => ?_⟩
      · rcases List.mem_append.1 hb with hb | hb
        · exact (HLK.out b hb).imp_right (fun h => List.mem_append_right _ (List.mem_append_left _ h))
        · exact .inr (List.mem_append_left _ hb)
      · exact (HS2.out b hb hx).trans (HSP.out b hb hx)
end Go.Proofs.YtcohodkpppmaoaaGreatDoor.Q
namespace Go.Proofs.YtcohodkpppmaoaaGreatDoor.Q
open Go.RowKit Go.Proofs.YtcohodkpppmaoaaGreatDoorW.PrintWords Go.Proofs.YtcohodkpppmaoaaGreatDoorW.PrintLast Go.Proofs.YtcohodkpppmaoaaGreatDoorW.PrintMore
set_option linter.unusedVariables false
set_option maxHeartbeats 3200000 in
set_option maxRecDepth 100000 in
theorem Pile.Msg {w0 w : World} {g G : Nat} {n : Int} {L O : List Nat} (h : Pile w0 w g n G L O) (a0 a1 a2 a3 : Value) (A4 : Option Addr) (n4 c4 : Nat) (i4 : List Value) (A5 : Option Addr) (c5 : Nat) (lens : List Nat) (F : List Nat) (hn : n + 1 + (lens.length : Int) ≤ 1000000000)
    (h4 : w.ownsRow 0 82 4 (.slice A4 n4 c4) n4 i4) (h5 : Fd.Row (fdLoose 148 2) 145 w F (.slice A5 lens.length c5) lens) (hnd : ((Value.slice A4 n4 c4).ownBlock.toList ++ F).Nodup) (hl : ∀ b ∈ (Value.slice A4 n4 c4).ownBlock.toList ++ F, (b < G ∧ b ∉ L) ∧ w0.heap.size ≤ b) (hl4 : n4 ≤ 1000000000) (hlen : lens.length ≤ 1000000000) (hlens : ∀ x ∈ lens, x ≤ 1000000000) :
    Calls Tryz.prog 18 #[.pointer (some ⟨g, 0, none⟩), .agg #[a0, a1, a2, a3, .slice A4 n4 c4, .slice A5 lens.length c5]] w fun e w' => e = .returned (.tuple #[]) ∧ ∃ L', Pile w0 w' g (n + (lens.length : Int) + 2) G L' O ∧ (∀ b ∈ L', b ∈ L ∨ b ∈ (Value.slice A4 n4 c4).ownBlock.toList ++ F) ∧ Spared G O w w' := by
  have OFF := Aside0.mk h.off
  have hu := Tryz.underlying50
  have hba := below_alloc (Below.refl w.heap.size w) (.cells #[a0, a1, a2, a3, .slice A4 n4 c4, .slice A5 lens.length c5] 50)
  have hbn := blk_new w (.cells #[a0, a1, a2, a3, .slice A4 n4 c4, .slice A5 lens.length c5] 50)
  have hsz := h.size
  have hs0 := Spared.of_below (L := O) hba hsz
  have hbs := h.base.size
  obtain ⟨F0, OB0, hB, hF0, hG0, hO0, hOL⟩ := h
  have hoff : ∀ b ∈ (Value.slice A4 n4 c4).ownBlock.toList, b ∉ F0 := fun b hb hx => by
    have h1 := hl b (List.mem_append_left _ hb)
    rcases hF0 b hx with h | h
    · exact h1.1.2 h
    · have := h1.1.1
      omega
  have hbox : w.heap.size ∉ OB0 := fun hx => by have := hB.lt _ (hB.sub _ hx); omega
  have HO0 := Aside0.mk hO0
  have HOL := Aside0.mk hOL
  have C1 := Aside0.mk ((hB.below hba).Ops (by omega) A4 n4 c4 i4 (pw_own_below h4 hba) (fun b hb => ⟨hoff b hb, (hl b (List.mem_append_left _ hb)).2⟩) hl4)
  have R5 := Aside0.mk (Fd.row_below h5 hba)
  have HBN := Aside0.mk hbn
  have HS0 := Aside0.mk hs0
  have HND := Aside0.mk hnd
  have HL := Aside0.mk hl
  have HLS := Aside0.mk hlens
  have HF0 := Aside0.mk hF0
  have HBX := Aside0.mk hbox
  have hsa := hba.size
  clear h4 h5 hba hbn hs0 hnd hl hlens hB hF0 hoff hbox hO0 hOL
  go_enter Tryz.func18, Tryz.ntmps18
  go_wp2_with fail
  refine C1.out.mono ?_
  rintro e w2 ⟨rfl, F1, OB1, hB1, hk, hs, ht⟩
  have hsp : Spared G O (w.alloc (.cells #[a0, a1, a2, a3, .slice A4 n4 c4, .slice A5 lens.length c5] 50)) w2 := fun b hb hx => hk.block b (by omega) (fun hf => by
    rcases HO0.out b hf with h | h
    · exact hx h
    · omega)
  have HP := Aside0.mk (show Pile w0 w2 g (n + 1) G (L ++ (Value.slice A4 n4 c4).ownBlock.toList) O from ⟨F1, OB1, hB1, fun b hb => by
    rcases hs b hb with h | h | h
    · exact (HF0.out b h).imp_left (fun h => List.mem_append_left _ h)
    · exact .inl (List.mem_append_right _ h)
    · exact .inr (by omega), by have := hk.size; omega, fun b hb => (ht b hb).elim (HO0.out b) (fun h => .inr (by omega)), fun b hb => (HOL.out b hb).imp_left (fun h => List.mem_append_left _ h)⟩)
  have HS1 := Aside0.mk (HS0.out.trans (G := fun _ => 0) hsp (fun _ h => h))
  have hb2 := hk.blk HBN.out HBX.out
  have x5 := blk_cell hb2 5
  have hg2 := blk_lt hb2
  have R52 := Aside0.mk (hsp.row R5.out (fun b hb => ⟨(HL.out b (List.mem_append_right _ hb)).1.1, OFF.out b (HL.out b (List.mem_append_right _ hb)).1.1 (HL.out b (List.mem_append_right _ hb)).1.2⟩))
  have hnF := (List.nodup_append.1 HND.out).2.1
  have C2 := Aside0.mk (HP.out.Results A5 c5 lens F (by omega) R52.out hnF (fun b hb => ⟨⟨(HL.out b (List.mem_append_right _ hb)).1.1, fun hx => by
    rcases List.mem_append.1 hx with h | h
    · exact (HL.out b (List.mem_append_right _ hb)).1.2 h
    · exact (List.nodup_append.1 HND.out).2.2 b h b hb rfl⟩, (HL.out b (List.mem_append_right _ hb)).2⟩) hlen HLS.out)
  clear hB1 hk hs ht hsp hb2 hnF C1 R5
  go_wp2_with fail
  refine C2.out.mono ?_
  rintro e w3 ⟨rfl, L', hp3, hL3, hs3⟩
  have HP3 := Aside0.mk hp3
  have HL3 := Aside0.mk hL3
  have HS3 := Aside0.mk hs3
  clear hp3 hL3 hs3 C2
  go_wp2
  go_end0
  refine ⟨rfl, L', by rw [show n + (lens.length : Int) + 2 = n + 1 + (lens.length : Int) + 1 by omega]; exact HP3.out, fun b hb => ?_, fun b hb hx => ?_⟩
  · rcases HL3.out b hb with h | h
    · rcases List.mem_append.1 h with h | h
      · exact .inl h
      · exact .inr (List.mem_append_left _ h)
    · exact .inr (List.mem_append_right _ h)
  · exact (HS3.out b hb hx).trans (HS1.out b hb hx)
end Go.Proofs.YtcohodkpppmaoaaGreatDoor.Q
namespace Go.Proofs.YtcohodkpppmaoaaGreatDoor.Q
open Go.RowKit Go.Proofs.YtcohodkpppmaoaaGreatDoorW.PrintWords Go.Proofs.YtcohodkpppmaoaaGreatDoorW.PrintLast Go.Proofs.YtcohodkpppmaoaaGreatDoorW.PrintMore
set_option linter.unusedVariables false
theorem els_op {w : World} {xs : List OpT'} {cs : List Value} {F : List Nat} (h : Fd.Els fdOp w xs cs F) : F = [] := els_none (hk := fun {w w1 x cs} h => by rw [k82_open h]; exact k82_mk w1 x) h
theorem msg_loose {w : World} {F : List Nat} {x : MsgT} {cs : List Value} (h : fdMsg.M w F x cs) : ∃ A4 c4 i4 A5 c5 F5, cs = [.int .u8 x.f0, .int .u8 x.f1, .int .u8 x.f2, .int .u32 x.f3, .slice A4 x.f4.length c4, .slice A5 x.f5.length c5] ∧ w.ownsRow 0 82 4 (.slice A4 x.f4.length c4) x.f4.length i4 ∧ Fd.Row (fdLoose 148 2) 145 w F5 (.slice A5 x.f5.length c5) (x.f5.map (·.f0.length)) ∧ F = (Value.slice A4 x.f4.length c4).ownBlock.toList ++ F5 := by
  obtain ⟨v4, v5, F4, F5, rfl, rfl, h4, h5⟩ := h
  obtain ⟨A4, c4, e4, _, _⟩ := Fd.row_reads h4
  obtain ⟨A5, c5, e5, _, _⟩ := Fd.row_reads h5
  subst e4 e5
  obtain ⟨i4, G4, o4, x4, rfl⟩ := h4
  rw [els_op x4, List.append_nil]
  exact ⟨A4, c4, i4, A5, c5, F5, rfl, o4, loose_row h5, rfl⟩
/-- A message whose lists are few. -/
def fewM (x : MsgT) : Prop := x.f4.length ≤ 5000 ∧ x.f5.length ≤ 5000 ∧ ∀ r ∈ x.f5, r.f0.length ≤ 5000
theorem Pile.MsgM {w0 w : World} {g G : Nat} {n : Int} {L O : List Nat} (h : Pile w0 w g n G L O) {x : MsgT} {F : List Nat} {cs : List Value} (hM : fdMsg.M w F x cs) (hnd : F.Nodup) (hl : ∀ b ∈ F, (b < G ∧ b ∉ L) ∧ w0.heap.size ≤ b) (hx : fewM x) (hn : n + 5002 ≤ 1000000000) :
    Calls Tryz.prog 18 #[.pointer (some ⟨g, 0, none⟩), .agg cs.toArray] w fun e w' => e = .returned (.tuple #[]) ∧ ∃ n' L', n' ≤ n + 5002 ∧ Pile w0 w' g n' G L' O ∧ (∀ b ∈ L', b ∈ L ∨ b ∈ F) ∧ Spared G O w w' := by
  obtain ⟨A4, c4, i4, A5, c5, F5, rfl, o4, q5, rfl⟩ := msg_loose hM
  obtain ⟨x4, x5, xr⟩ := hx
  obtain ⟨lm, hlm⟩ : ∃ lm, lm = x.f5.map (fun x => x.f0.length) := ⟨_, rfl⟩
  have hlml : lm.length = x.f5.length := by rw [hlm, List.length_map]
  have hlms : ∀ n ∈ lm, n ≤ 1000000000 := fun n hn => by
    rw [hlm] at hn
    obtain ⟨r, hr, rfl⟩ := List.mem_map.1 hn
    have := xr r hr
    omega
  rw [← hlm] at q5
  have k := h.Msg (.int .u8 x.f0) (.int .u8 x.f1) (.int .u8 x.f2) (.int .u32 x.f3) A4 x.f4.length c4 i4 A5 c5 lm F5 (by omega) o4 (by rw [hlml]; exact q5) hnd hl (by omega) (by omega) hlms
  rw [hlml] at k
  refine Calls.mono k ?_
  rintro e w' ⟨rfl, L', h1, h2, h3⟩
  exact ⟨rfl, _, L', by omega, h1, h2, h3⟩
set_option maxHeartbeats 3200000 in
set_option maxRecDepth 100000 in
theorem Pile.Msgs {w0 w : World} {g G : Nat} {n : Int} {L O : List Nat} (h : Pile w0 w g n G L O) (A : Option Addr) (c : Nat) (xs : List MsgT) (F : List Nat) (hr : Fd.Row fdMsg 50 w F (.slice A xs.length c) xs) (hnd : F.Nodup) (hl : ∀ b ∈ F, (b < G ∧ b ∉ L) ∧ w0.heap.size ≤ b) (hlen : xs.length ≤ 300) (hfew : ∀ x ∈ xs, fewM x) (hn : n + 2000000 ≤ 1000000000) :
    Calls Tryz.prog 24 #[.pointer (some ⟨g, 0, none⟩), .slice A xs.length c] w fun e w' => e = .returned (.tuple #[]) ∧ ∃ n' L', n' ≤ n + 2000000 ∧ Pile w0 w' g n' G L' O ∧ (∀ b ∈ L', b ∈ L ∨ b ∈ F) ∧ Spared G O w w' := by
  have OFF := Aside0.mk h.off
  obtain ⟨inner, GG, ho, he, rfl⟩ := hr
  have HL := Aside0.mk hl
  have HND := Aside0.mk hnd
  have HLS := Aside0.mk hfew
  have HI0 := Aside0.mk (show ∃ c0 c1 G0 G1, inner = c0 ++ c1 ∧ c0.length = 0 * 6 ∧ GG = G0 ++ G1 ∧ w.ownsRow 0 50 6 (.slice A xs.length c) xs.length inner ∧ Fd.Els fdMsg w (xs.drop 0) c1 G1 ∧ ∃ nk Lk, nk ≤ n + 5002 * ((0 : Nat) : Int) ∧ Pile w0 w g nk G Lk O ∧ (∀ b ∈ Lk, b ∈ L ∨ b ∈ G0) ∧ Spared G O w w from
    ⟨[], inner, [], GG, rfl, rfl, rfl, ho, he, n, L, by omega, h, fun b hb => .inl hb, fun _ _ _ => rfl⟩)
  clear h ho he hl hnd hfew
  go_enter Tryz.func24, Tryz.ntmps24
  go_wp2
  go_loopw [4] (fun i wr => ∃ k : Nat, k ≤ xs.length ∧ i = .int .i64 k ∧ Aside0 (∃ c0 c1 G0 G1, inner = c0 ++ c1 ∧ c0.length = k * 6 ∧ GG = G0 ++ G1 ∧ wr.ownsRow 0 50 6 (.slice A xs.length c) xs.length inner ∧ Fd.Els fdMsg wr (xs.drop k) c1 G1 ∧ ∃ nk Lk, nk ≤ n + 5002 * (k : Int) ∧ Pile w0 wr g nk G Lk O ∧ (∀ b ∈ Lk, b ∈ L ∨ b ∈ G0) ∧ Spared G O w wr)) (fun i _ => xs.length - (intOf i).toNat)
  case atStart => exact ⟨0, Nat.zero_le _, rfl, HI0⟩
  case round =>
    clear HI0
    obtain ⟨wq, hwq⟩ : ∃ wq, wq = wr := ⟨_, rfl⟩
    subst hwq
    obtain ⟨k, hk, rfl, ⟨c0, c1, G0, G1, hin, hc0, hGG, ho, he, nk, Lk, hnk, hp, hLk, hsp⟩⟩ := hrel
    subst hGG
    have hnd := HND.out
    by_cases hlt : k < xs.length
    · have hlt' : (k : Int) < (xs.length : Int) := by omega
      have hk0 : (0 : Int) ≤ (k : Int) := by omega
      rw [List.drop_eq_getElem_cons hlt] at he
      obtain ⟨cc, r, Fi, Gr, rfl, rfl, hM, he2⟩ := he
      obtain ⟨gg, cap, ev, _, _⟩ := ho.form (by omega)
      injection ev with e1 _ e3
      subst e1 e3
      obtain ⟨A4, c4, i4, A5, c5, F5, hcc, _, _, _⟩ := msg_loose hM
      obtain ⟨x, hx⟩ : ∃ x, xs[k] = x := ⟨_, rfl⟩
      have hfx := HLS.out _ (List.getElem_mem hlt)
      rw [hx] at hcc hM hfx
      have hat : ∀ j u, cc[j]? = some u → wq.cell? ⟨gg, k * 6 + j, none⟩ = some u := fun j u hj => by
        have hjl : j < cc.length := by
          rcases Nat.lt_or_ge j cc.length with h | h
          · exact h
          · rw [List.getElem?_eq_none h] at hj; cases hj
        have h := ho.cells (g := gg) rfl (k * 6 + j) u (by rw [hin, List.getElem?_append_right (by omega), hc0, Nat.add_sub_cancel_left, List.getElem?_append_left hjl]; exact hj)
        rwa [add_plain] at h
      have q0 := hat 0 (.int .u8 x.f0) (by rw [hcc]; rfl)
      have q1 := hat 1 (.int .u8 x.f1) (by rw [hcc]; rfl)
      have q2 := hat 2 (.int .u8 x.f2) (by rw [hcc]; rfl)
      have q3 := hat 3 (.int .u32 x.f3) (by rw [hcc]; rfl)
      have q4 := hat 4 (.slice A4 x.f4.length c4) (by rw [hcc]; rfl)
      have q5 := hat 5 (.slice A5 x.f5.length c5) (by rw [hcc]; rfl)
      rw [Nat.add_zero] at q0
      have hin2 : ∀ b ∈ Fi, b ∈ (Value.slice (some ⟨gg, 0, none⟩) xs.length c).ownBlock.toList ++ (G0 ++ (Fi ++ Gr)) := fun b hb => List.mem_append_right _ (List.mem_append_right _ (List.mem_append_left _ hb))
      have hofL : ∀ b ∈ Fi, b ∉ Lk := fun b hb hx => by
        rcases hLk b hx with h | h
        · exact (HL.out b (hin2 b hb)).1.2 h
        · have h3 := (List.nodup_append.1 hnd).2.1
          exact (List.nodup_append.1 h3).2.2 b h b (List.mem_append_left _ hb) rfl
      have hndi : Fi.Nodup := (List.nodup_append.1 (List.nodup_append.1 (List.nodup_append.1 hnd).2.1).2.1).1
      have C1 := Aside0.mk (hp.MsgM hM hndi (fun b hb => ⟨⟨(HL.out b (hin2 b hb)).1.1, hofL b hb⟩, (HL.out b (hin2 b hb)).2⟩) hfx (by omega))
      rw [hcc] at C1
      have HO := Aside0.mk ho
      have HE := Aside0.mk he2
      have HP := Aside0.mk hp
      have HLK := Aside0.mk hLk
      have HSP := Aside0.mk hsp
      have HIN := Aside0.mk hin
      have HN2 := Aside0.mk hnd
      have HCC := Aside0.mk hcc
      clear ho he2 hp hLk hsp hin hnd hofL hin2 hat hcc hndi hx hM
      go_wp2_with fail
      with_reducible refine C1.out.mono ?_
      rintro e w2 ⟨rfl, nk2, L2, hnk2, hp2, hL2, hs2⟩
      have HP2 := Aside0.mk hp2
      have HS2 := Aside0.mk hs2
      have HL2 := Aside0.mk hL2
      clear hp2 hs2 C1 hL2 q0 q1 q2 q3 q4 q5
      go_wp2
      refine ⟨⟨k + 1, by omega, by first | rfl | simp, ⟨c0 ++ cc, r, G0 ++ Fi, Gr, by rw [HIN.out]; simp, by rw [List.length_append, hc0, HCC.out]; simp; omega, by simp, ?_, ?_, nk2, L2, by omega, HP2.out, ?_, ?_⟩⟩, ?_⟩
      · refine HS2.out.own HO.out (fun b hb => ?_)
        have hmem : b ∈ (Value.slice (some ⟨gg, 0, none⟩) xs.length c).ownBlock.toList ++ (G0 ++ (Fi ++ Gr)) := List.mem_append_left _ hb
        exact ⟨(HL.out b hmem).1.1, OFF.out b (HL.out b hmem).1.1 (HL.out b hmem).1.2⟩
      · exact Fd.els_move (fun b hb => HS2.out b (HL.out b (by simp [hb])).1.1 (OFF.out b (HL.out b (by simp [hb])).1.1 (HL.out b (by simp [hb])).1.2)) HE.out
      · intro b hb
        rcases HL2.out b hb with h | h
        · exact (HLK.out b h).imp_right (fun h => List.mem_append_left _ h)
        · exact .inr (List.mem_append_right _ h)
      · exact fun b hb hx => (HS2.out b hb hx).trans (HSP.out b hb hx)
      · try simp only [intOf]
        omega
    · obtain rfl : k = xs.length := by omega
      have hlt' : ¬ ((xs.length : Int) < (xs.length : Int)) := by omega
      rw [List.drop_length] at he
      obtain ⟨rfl, rfl⟩ := he
      rw [List.append_nil] at hnd
      have hofL : ∀ b ∈ (Value.slice A xs.length c).ownBlock.toList, b ∉ Lk := fun b hb hx => by
        rcases hLk b hx with h | h
        · exact (HL.out b (List.mem_append_left _ hb)).1.2 h
        · exact (List.nodup_append.1 hnd).2.2 b hb b h rfl
      have C1 := Aside0.mk (hp.keepMsg (by omega) A xs.length c inner ho (fun b hb => ⟨⟨(HL.out b (List.mem_append_left _ hb)).1.1, hofL b hb⟩, (HL.out b (List.mem_append_left _ hb)).2⟩) (by omega))
      have HLK := Aside0.mk hLk
      have HSP := Aside0.mk hsp
      clear ho hp hLk hsp hofL
      go_wp2_with fail
      refine C1.out.mono ?_
      rintro e w2 ⟨rfl, hp2, hs2⟩
      have HP2 := Aside0.mk hp2
      have HS2 := Aside0.mk hs2
      clear hp2 hs2 C1
      go_wp2
      go_end0
      refine ⟨rfl, _, _, ?_, HP2.out, fun b hb => ?_, fun b hb hx => ?_⟩
      · omega
      · rcases List.mem_append.1 hb with hb | hb
        · exact (HLK.out b hb).imp_right (fun h => List.mem_append_right _ (List.mem_append_left _ h))
        · exact .inr (List.mem_append_left _ hb)
      · exact (HS2.out b hb hx).trans (HSP.out b hb hx)
end Go.Proofs.YtcohodkpppmaoaaGreatDoor.Q
namespace Go.Proofs.YtcohodkpppmaoaaGreatDoor.Q
open Go.RowKit Go.Proofs.YtcohodkpppmaoaaGreatDoorW.PrintWords Go.Proofs.YtcohodkpppmaoaaGreatDoorW.PrintLast Go.Proofs.YtcohodkpppmaoaaGreatDoorW.PrintMore
set_option linter.unusedVariables false
theorem infoTwOps : (Tryz.prog.info? 82).map (fun i => (i.zero, i.size, i.bytes)) = some (some (.agg #[.int .u8 0, .string ⟨#[]⟩, .string ⟨#[]⟩, .int .u32 0]), 4, 48) := by kernel_rfl
theorem readOps (l : List S82) (k : Nat) (hk : k < l.length) : l.take (k + 1) = l.take k ++ [rd_T82 l (k : Int)] := by
  rw [List.take_succ_eq_append_getElem hk]
  simp [rd_T82, hk]
set_option maxHeartbeats 3200000 in
set_option maxRecDepth 100000 in
theorem twinOps_calls (w : World) (A0 : Option Addr) (c0 : Nat) (l : List S82) (hr : Kd.C k82 w A0 l.length l) (hc0 : l.length ≤ c0) (hl : l.length ≤ 1000000000) :
    Calls Tryz.prog 41 #[.slice A0 l.length c0] w fun e w' => ∃ v, e = .returned v ∧ ∃ F, Twin fdOp 82 w' F v l ⟨0, spareKey, ⟨#[]⟩, 0⟩ ∧ F.Nodup ∧ (∀ b ∈ F, w.heap.size ≤ b) ∧ Below w.heap.size w w' := by
  obtain ⟨MC, hMS, HMK⟩ : ∃ MC : Array Value, MC.size = (l.length + 1) * 4 ∧ ∀ W : World, (Instr.makeSlice 47 (.int .i64 0) (.int .i64 ((l.length : Int) + 1))).run Tryz.prog W = .ok (.slice (some ⟨W.heap.size, 0, none⟩) 0 (l.length + 1)) (W.alloc (.cells MC 82)) := ⟨madeCells ((.agg #[.int .u8 0, .string ⟨#[]⟩, .string ⟨#[]⟩, .int .u32 0]) : Value).cells ((l.length + 1) * 4), madeCells_size _ _, fun W => by
    have h := run_make0 (P := Tryz.prog) 47 82 (.agg #[.int .u8 0, .string ⟨#[]⟩, .string ⟨#[]⟩, .int .u32 0]) 4 48 Tryz.underlying47 infoTwOps (by decide) (l.length + 1) (by omega) W
    rwa [show ((l.length + 1 : Nat) : Int) = (l.length : Int) + 1 by omega] at h⟩
  have hw1 : IntKind.i64.wrap ((l.length : Int) + 1) = (l.length : Int) + 1 := IntWalk.i64_in _ (by omega)
  have HC := Aside0.mk hr
  have hul := Tryz.underlying82
  clear hr
  go_enter Tryz.func41, Tryz.ntmps41
  go_wp2
  obtain ⟨wo, hwo⟩ : ∃ wo, wo = w.alloc (.cells MC 82) := ⟨_, rfl⟩
  have HB0 := Aside0.mk (show Below w.heap.size w wo by rw [hwo]; exact below_alloc (Below.refl _ _) _)
  have HR0 := Aside0.mk (show Fd.Row fdOp 82 wo [w.heap.size] (.slice (some ⟨w.heap.size, 0, none⟩) 0 (l.length + 1)) [] by
    rw [hwo]; exact made0_row fdOp 82 w _ (l.length + 1) (by omega) hMS)
  rw [← hwo]
  clear hwo HMK
  go_loopw [3, 4] (fun v i wr => ∃ (k : Nat) (F : List Nat), k ≤ l.length ∧ i = .int .i64 k ∧ Aside0 (Fd.Row fdOp 82 wr F v (l.take k)) ∧ Aside0 F.Nodup ∧ Aside0 (∀ b ∈ F, w.heap.size ≤ b) ∧ Aside0 (Below w.heap.size w wr)) (fun _ i _ => l.length - (intOf i).toNat)
  case atStart => exact ⟨0, [w.heap.size], Nat.zero_le _, rfl, HR0, ⟨by simp⟩, ⟨by simp⟩, HB0⟩
  case round =>
    clear HR0 HB0
    obtain ⟨wq, hwq⟩ : ∃ wq, wq = wr := ⟨_, rfl⟩
    subst hwq
    obtain ⟨k, F, hk, rfl, HR, HN, HF, HB⟩ := hrel
    obtain ⟨Av, cv, ev, hcv, _⟩ := Fd.row_reads HR.out
    rw [List.length_take, Nat.min_eq_left hk] at ev hcv
    subst ev
    have hsz : w.heap.size ≤ wq.heap.size := HB.out.size
    by_cases hlt : k < l.length
    · have hlt' : (k : Int) < (l.length : Int) := by omega
      have hk0 : (0 : Int) ≤ (k : Int) := by omega
      obtain ⟨ad, e1, hx0, hx1, hx2, hx3⟩ := at_T82 (Kd.C_below HC.out HB.out) (k : Int) hk0 hlt'
      subst e1
      simp only [Int.toNat_natCast] at hx0 hx1 hx2 hx3
      have HTK := Aside0.mk (readOps l k hlt)
      generalize rd_T82 l (k : Int) = x at *
      have HM := Aside0.mk (show fdOp.M wq [] x [.int .u8 x.f0, .string x.f1, .string x.f2, .int .u32 x.f3] from ⟨rfl, k82_mk _ _⟩)
      go_wp2_with (first | (at_builtin; (refine Fd.R_append (W := wq) fdOp rfl (.tmp 15) (.tmp 20) 47 82 (.agg #[.int .u8 0, .string ⟨#[]⟩, .string ⟨#[]⟩, .int .u32 0]) 48 rfl Tryz.underlying47 infoTwOps rfl (show 0 < 4 from by decide) (by decide) (.slice Av k cv) (l.take k) x [.int .u8 x.f0, .string x.f1, .string x.f2, .int .u32 x.f3] F [] rfl rfl HM.out HR.out (by rw [List.append_nil]; exact HN.out) (by rw [List.length_take]; omega) ?_); intro v1 w6 F6 h1 h2 h3 h4; have R6 := Aside0.mk h1; have N6 := Aside0.mk h2; have K6 := Aside0.mk h3; have L6 := Aside0.mk h4; clear h1 h2 h3 h4))
      go_roundw
      case rel =>
        refine ⟨k + 1, F6, by omega, by go_num, ⟨by rw [HTK.out]; exact R6.out⟩, N6, ⟨fun b hb => ?_⟩, ⟨HB.out.trans (K6.out.below HF.out hsz)⟩⟩
        rcases L6.out b hb with h | h | h
        · exact HF.out b h
        · cases h
        · omega
      case measure => simp [intOf]; omega
    · obtain rfl : k = l.length := by omega
      have hlt' : ¬ ((l.length : Int) < (l.length : Int)) := by omega
      have etk : l.take l.length = l := List.take_of_length_le (Nat.le_refl _)
      rw [etk] at HR
      have HM := Aside0.mk (show fdOp.M wq [] ⟨0, spareKey, ⟨#[]⟩, 0⟩ [.int .u8 0, .string spareKey, .string ⟨#[]⟩, .int .u32 0] from ⟨rfl, k82_mk _ _⟩)
      unfold spareKey at HM
      have HU := Aside0.mk infoTwOps
      go_wp2_with (first | (at_builtin; (refine Fd.R_append (W := wq) fdOp rfl (.tmp 22) (.tmp 24) 47 82 (.agg #[.int .u8 0, .string ⟨#[]⟩, .string ⟨#[]⟩, .int .u32 0]) 48 rfl Tryz.underlying47 infoTwOps rfl (show 0 < 4 from by decide) (by decide) (.slice Av l.length cv) l ⟨0, ⟨#[115, 112, 97, 114, 101]⟩, ⟨#[]⟩, 0⟩ [.int .u8 0, .string ⟨#[115, 112, 97, 114, 101]⟩, .string ⟨#[]⟩, .int .u32 0] F [] rfl rfl HM.out HR.out (by rw [List.append_nil]; exact HN.out) (by omega) ?_); intro v1 w6 F6 h1 h2 h3 h4; obtain ⟨A2, c2, ev2, hc2, _⟩ := Fd.row_reads h1; rw [List.length_append, List.length_singleton] at ev2 hc2; subst ev2; have hcut := cut_up (P := Tryz.prog) 47 82 .i64 Tryz.underlying47 HU.out A2 (l.length + 1) c2 (l.length : Int) (by omega) (by omega); rw [Int.toNat_natCast] at hcut; have R6 := Aside0.mk h1; have N6 := Aside0.mk h2; have K6 := Aside0.mk h3; have L6 := Aside0.mk h4; clear h1 h2 h3 h4))
      go_ret
      refine ⟨_, rfl, F6, ⟨A2, c2, rfl, hc2, R6.out⟩, N6.out, fun b hb => ?_, HB.out.trans (K6.out.below HF.out hsz)⟩
      rcases L6.out b hb with h | h | h
      · exact HF.out b h
      · cases h
      · omega
theorem readLOps (l : List S82) (k : Nat) (hk : k < l.length) : rd_T82 (l ++ [⟨0, spareKey, ⟨#[]⟩, 0⟩]) (k : Int) = rd_T82 l (k : Int) := by
  simp [rd_T82, List.getElem?_append_left hk]
theorem readSOps (l : List S82) : rd_T82 (l ++ [⟨0, spareKey, ⟨#[]⟩, 0⟩]) (l.length : Int) = ⟨0, spareKey, ⟨#[]⟩, 0⟩ := by
  simp [rd_T82]
set_option maxHeartbeats 3200000 in
set_option maxRecDepth 100000 in
theorem leftOps_calls (w : World) (At : Option Addr) (ct : Nat) (A0 : Option Addr) (c0 : Nat) (l : List S82) (ht : Kd.C k82 w At (l.length + 1) (l ++ [⟨0, spareKey, ⟨#[]⟩, 0⟩])) (hct : l.length + 1 ≤ ct) (hr : Kd.C k82 w A0 l.length l) (hc0 : l.length ≤ c0) (hl : l.length ≤ 1000000000) :
    Calls Tryz.prog 49 #[.slice At l.length ct, .slice A0 l.length c0] w fun e w' => e = .returned (.bool true) ∧ Below w.heap.size w w' := by
  have hw1 : IntKind.i64.wrap ((l.length : Int) + 1) = (l.length : Int) + 1 := IntWalk.i64_in _ (by omega)
  have hcap : ¬ ((ct : Int) ≤ (l.length : Int)) := by omega
  have hcut := cut_up (P := Tryz.prog) 47 82 .i64 Tryz.underlying47 infoTwOps At l.length ct ((l.length : Int) + 1) (by omega) (by omega)
  rw [show ((l.length : Int) + 1).toNat = l.length + 1 by omega] at hcut
  have hul := Tryz.underlying82
  have HT := Aside0.mk ht
  have HC := Aside0.mk hr
  clear ht hr
  go_enter Tryz.func49, Tryz.ntmps49
  go_wp2
  go_loopw [5] (fun i wr => ∃ (k : Nat), k ≤ l.length ∧ i = .int .i64 k ∧ ∃ m, wr = w.drewN m) (fun i _ => l.length - (intOf i).toNat)
  case atStart => exact ⟨0, Nat.zero_le _, rfl, 0, rfl⟩
  case round =>
    obtain ⟨k, hk, rfl, m, rfl⟩ := hrel
    have hb := pw_below_drewN (Below.refl w.heap.size w) m
    by_cases hlt : k < l.length
    · have hlt' : (k : Int) < (l.length : Int) := by omega
      have hk0 : (0 : Int) ≤ (k : Int) := by omega
      obtain ⟨ad, e1, hx0, hx1, hx2, hx3⟩ := at_T82 HC.out (k : Int) hk0 hlt'
      subst e1
      obtain ⟨at_, e1, hy0, hy1, hy2, hy3⟩ := at_T82 HT.out (k : Int) hk0 (by omega)
      subst e1
      simp only [Int.toNat_natCast] at hx0 hx1 hx2 hx3 hy0 hy1 hy2 hy3
      simp only [readLOps l k hlt] at hy0 hy1 hy2 hy3
      generalize rd_T82 l (k : Int) = x at *
      go_wp2
      repeat (go_quiet (fail); try go_wp2)
      go_roundw
      case rel => exact ⟨k + 1, by omega, by go_num, _, rfl⟩
      case measure => simp [intOf]; omega
    · obtain rfl : k = l.length := by omega
      have hlt' : ¬ ((l.length : Int) < (l.length : Int)) := by omega
      obtain ⟨at_, e1, hy0, hy1, hy2, hy3⟩ := at_T82 HT.out (l.length : Int) (by omega) (by omega)
      subst e1
      simp only [Int.toNat_natCast] at hy0 hy1 hy2 hy3
      simp only [readSOps l] at hy0 hy1 hy2 hy3
      try simp only [spareKey] at hy0 hy1 hy2 hy3
      replace hy0 := cell_on hb hy0
      replace hy1 := cell_on hb hy1
      replace hy2 := cell_on hb hy2
      replace hy3 := cell_on hb hy3
      generalize w.drewN m = W at *
      have HB := Aside0.mk hb
      clear hb
      go_wp2
      repeat (go_quiet (fail); try go_wp2)
      go_ret
      exact ⟨rfl, HB.out.alloc HB.out.size _⟩
end Go.Proofs.YtcohodkpppmaoaaGreatDoor.Q
namespace Go.Proofs.YtcohodkpppmaoaaGreatDoor.Q
open Go.RowKit Go.Proofs.YtcohodkpppmaoaaGreatDoorW.PrintWords Go.Proofs.YtcohodkpppmaoaaGreatDoorW.PrintLast Go.Proofs.YtcohodkpppmaoaaGreatDoorW.PrintMore
set_option linter.unusedVariables false

theorem blk6p {w : World} {g t : Nat} {a b c d x y : Value} (h : w.heap[g]? = some (.cells #[a, b, c, d, x, y] t (0, 0))) : (w.cell? ⟨g, 0, none⟩ = some a ∧ w.cell? ⟨g, 1, none⟩ = some b ∧ w.cell? ⟨g, 2, none⟩ = some c ∧ w.cell? ⟨g, 3, none⟩ = some d ∧ w.cell? ⟨g, 4, none⟩ = some x ∧ w.cell? ⟨g, 5, none⟩ = some y) ∧ (w.frozen? ⟨g, 0, none⟩ = false ∧ w.frozen? ⟨g, 1, none⟩ = false ∧ w.frozen? ⟨g, 2, none⟩ = false ∧ w.frozen? ⟨g, 3, none⟩ = false ∧ w.frozen? ⟨g, 4, none⟩ = false ∧ w.frozen? ⟨g, 5, none⟩ = false) :=
  ⟨⟨blk_cell h 0, blk_cell h 1, blk_cell h 2, blk_cell h 3, blk_cell h 4, blk_cell h 5⟩, ⟨blk_frozen h 0, blk_frozen h 1, blk_frozen h 2, blk_frozen h 3, blk_frozen h 4, blk_frozen h 5⟩⟩
theorem put6 {w : World} {g t : Nat} {a0 a1 a2 a3 a4 a5 : Value} (h : w.heap[g]? = some (.cells #[a0, a1, a2, a3, a4, a5] t (0, 0))) (b0 b1 b2 b3 b4 b5 : Value) :
    ((((((w.setCell ⟨g, 0, none⟩ b0).setCell ⟨g, 1, none⟩ b1).setCell ⟨g, 2, none⟩ b2).setCell ⟨g, 3, none⟩ b3).setCell ⟨g, 4, none⟩ b4).setCell ⟨g, 5, none⟩ b5).heap[g]? = some (.cells #[b0, b1, b2, b3, b4, b5] t (0, 0)) :=
  blk_put (cs' := #[b0, b1, b2, b3, b4, b5]) (blk_put (cs' := #[b0, b1, b2, b3, b4, a5]) (blk_put (cs' := #[b0, b1, b2, b3, a4, a5]) (blk_put (cs' := #[b0, b1, b2, a3, a4, a5]) (blk_put (cs' := #[b0, b1, a2, a3, a4, a5]) (blk_put (cs' := #[b0, a1, a2, a3, a4, a5]) h 0 _ rfl) 1 _ rfl) 2 _ rfl) 3 _ rfl) 4 _ rfl) 5 _ rfl
theorem below6 {w W : World} {B g : Nat} (h : Below B w W) (hg : B ≤ g) (b0 b1 b2 b3 b4 b5 : Value) : Below B w ((((((W.setCell ⟨g, 0, none⟩ b0).setCell ⟨g, 1, none⟩ b1).setCell ⟨g, 2, none⟩ b2).setCell ⟨g, 3, none⟩ b3).setCell ⟨g, 4, none⟩ b4).setCell ⟨g, 5, none⟩ b5) :=
  (((((h.setCell hg _).setCell hg _).setCell hg _).setCell hg _).setCell hg _).setCell hg _
theorem far6 {W : World} {g k : Nat} (hk : k ≠ g) (b0 b1 b2 b3 b4 b5 : Value) : ((((((W.setCell ⟨g, 0, none⟩ b0).setCell ⟨g, 1, none⟩ b1).setCell ⟨g, 2, none⟩ b2).setCell ⟨g, 3, none⟩ b3).setCell ⟨g, 4, none⟩ b4).setCell ⟨g, 5, none⟩ b5).heap[k]? = W.heap[k]? :=
  (Below.heap_setCell _ _ _ _ hk).trans ((Below.heap_setCell _ _ _ _ hk).trans ((Below.heap_setCell _ _ _ _ hk).trans ((Below.heap_setCell _ _ _ _ hk).trans ((Below.heap_setCell _ _ _ _ hk).trans (Below.heap_setCell _ _ _ _ hk)))))
end Go.Proofs.YtcohodkpppmaoaaGreatDoor.Q
namespace Go.Proofs.YtcohodkpppmaoaaGreatDoor.Q
open Go.RowKit Go.Proofs.YtcohodkpppmaoaaGreatDoorW.PrintWords Go.Proofs.YtcohodkpppmaoaaGreatDoorW.PrintLast Go.Proofs.YtcohodkpppmaoaaGreatDoorW.PrintMore
set_option linter.unusedVariables false
def spareOp : S82 := ⟨0, spareKey, ⟨#[]⟩, 0⟩
theorem blk6w {w : World} {g t : Nat} {a b c d x y : Value} (h : w.heap[g]? = some (.cells #[a, b, c, d, x, y] t (0, 0))) : w.cell? ⟨g, 0, none⟩ = some a ∧ w.cell? ⟨g, 1, none⟩ = some b ∧ w.cell? ⟨g, 2, none⟩ = some c ∧ w.cell? ⟨g, 3, none⟩ = some d ∧ w.cell? ⟨g, 4, none⟩ = some x ∧ w.cell? ⟨g, 5, none⟩ = some y :=
  ⟨blk_cell h 0, blk_cell h 1, blk_cell h 2, blk_cell h 3, blk_cell h 4, blk_cell h 5⟩
set_option maxHeartbeats 3200000 in
set_option maxRecDepth 100000 in
theorem twinMsg_calls (w : World) (a b c d : Int) (A4 : Option Addr) (c4 : Nat) (l4 : List S82) (A5 : Option Addr) (c5 : Nat) (l5 : List ResT') (h4 : Kd.C k82 w A4 l4.length l4) (hc4 : l4.length ≤ c4) (h5 : Kd.C k145 w A5 l5.length l5) (hc5 : l5.length ≤ c5) (hl4 : l4.length ≤ 1000000000) (hl5 : l5.length ≤ 1000000000) (hlr : ∀ x ∈ l5, x.f0.length ≤ 1000000000) :
    Calls Tryz.prog 12 #[.agg #[.int .u8 a, .int .u8 b, .int .u8 c, .int .u32 d, .slice A4 l4.length c4, .slice A5 l5.length c5]] w fun e w' => ∃ B4 k4 B5 k5, e = .returned (.agg #[.int .u8 a, .int .u8 b, .int .u8 c, .int .u32 d, .slice B4 l4.length k4, .slice B5 l5.length k5]) ∧ ∃ F4 F5, Twin fdOp 82 w' F4 (.slice B4 l4.length k4) l4 spareOp ∧ Twin fdTR 145 w' F5 (.slice B5 l5.length k5) (l5.map twOf) spareRes ∧ F4.Nodup ∧ F5.Nodup ∧ (∀ x ∈ F4, ∀ y ∈ F5, x ≠ y) ∧ (∀ x ∈ F4, w.heap.size ≤ x) ∧ (∀ x ∈ F5, w.heap.size ≤ x) ∧ Below w.heap.size w w' := by
  have hu := Tryz.underlying50
  have H4 := Aside0.mk h4
  have H5 := Aside0.mk h5
  have HLR := Aside0.mk hlr
  clear h4 h5 hlr
  go_enter Tryz.func12, Tryz.ntmps12
  go_wp2_with fail
  obtain ⟨w1, hw1⟩ : ∃ w1, w1 = (w.alloc (.cells #[.int .u8 a, .int .u8 b, .int .u8 c, .int .u32 d, .slice A4 l4.length c4, .slice A5 l5.length c5] 50)).alloc (.cells #[.int .u8 0, .int .u8 0, .int .u8 0, .int .u32 0, .slice none 0 0, .slice none 0 0] 50) := ⟨_, rfl⟩
  have hb0 := below_alloc (Below.refl w.heap.size w) (.cells #[.int .u8 a, .int .u8 b, .int .u8 c, .int .u32 d, .slice A4 l4.length c4, .slice A5 l5.length c5] 50)
  have hb1 : Below w.heap.size w w1 := by rw [hw1]; exact hb0.alloc hb0.size _
  have hbx : w1.heap[w.heap.size]? = some (.cells #[.int .u8 a, .int .u8 b, .int .u8 c, .int .u32 d, .slice A4 l4.length c4, .slice A5 l5.length c5] 50 (0, 0)) := by
    rw [hw1]
    exact blk_below (blk_new w _) (below_alloc (Below.refl _ _) _)
  have hbo : w1.heap[w.heap.size + 1]? = some (.cells #[.int .u8 0, .int .u8 0, .int .u8 0, .int .u32 0, .slice none 0 0, .slice none 0 0] 50 (0, 0)) := by
    rw [hw1]
    have h := blk_new (w.alloc (.cells #[.int .u8 a, .int .u8 b, .int .u8 c, .int .u32 d, .slice A4 l4.length c4, .slice A5 l5.length c5] 50)) (.cells #[.int .u8 0, .int .u8 0, .int .u8 0, .int .u32 0, .slice none 0 0, .slice none 0 0] 50)
    rwa [alloc_size] at h
  rw [← hw1]
  have hz1 := blk_lt hbo
  clear hw1 hb0
  have hd1 := below_drew (Below.refl w1.heap.size w1)
  have hz : w.heap.size + 2 ≤ w1.drew.heap.size := by have := hd1.size; omega
  have BB := Aside0.mk (below_step hb1 hd1)
  have BX := Aside0.mk (blk_below hbx hd1)
  have BO := Aside0.mk (blk_below hbo hd1)
  have HF := Aside0.mk (blk6w hbx)
  have HC := Aside0.mk (blk6w BX.out)
  clear hb1 hd1 hbx hbo
  first | (go_region_held3 (fun w' : World => w'.cell? ⟨w.heap.size, 0, none⟩ = some (.int .u8 a) ∧ w'.cell? ⟨w.heap.size, 1, none⟩ = some (.int .u8 b) ∧ w'.cell? ⟨w.heap.size, 2, none⟩ = some (.int .u8 c) ∧ w'.cell? ⟨w.heap.size, 3, none⟩ = some (.int .u32 d) ∧ w'.cell? ⟨w.heap.size, 4, none⟩ = some (.slice A4 l4.length c4) ∧ w'.cell? ⟨w.heap.size, 5, none⟩ = some (.slice A5 l5.length c5)) (first | with_reducible exact HC.out | with_reducible exact HS2.out) (first
     | (go_at_call 41
        refine (twinOps_calls _ A4 c4 l4 (Kd.C_below H4.out BB.out) hc4 hl4).mono ?_
        rintro e wn ⟨v4, rfl, F4, hT4, hN4, hF4, hb1⟩
        obtain ⟨B4, k4, rfl, hk4, _, _⟩ := hT4.reads
        have hz' := Nat.le_trans hz hb1.size
        have T4 := Aside0.mk hT4
        have N4 := Aside0.mk hN4
        have L4 := Aside0.mk hT4.lt
        have G4 := Aside0.mk (show ∀ x ∈ F4, w.heap.size + 2 ≤ x from fun x hx => Nat.le_trans hz (hF4 x hx))
        try have T5 := Aside0.mk (T5.out.below hb1)
        try have DJ := Aside0.mk (show ∀ x ∈ F4, ∀ y ∈ F5, x ≠ y from fun x hx y hy e => by have h1 := hF4 x hx; have h2 := L5.out y hy; omega)
        have BB := Aside0.mk (below_step BB.out hb1)
        have BX := Aside0.mk (blk_below BX.out hb1)
        have BO := Aside0.mk (blk_below BO.out hb1)
        have HC := Aside0.mk (blk6w BX.out)
        obtain ⟨⟨x0, x1, x2, x3, x4, x5⟩, ⟨y0, y1, y2, y3, y4, y5⟩⟩ := blk6p BO.out
        try have HS2 := Aside0.mk (blk6w ((far6 (W := wn) (g := w.heap.size + 1) (k := w.heap.size) (by omega) (.int .u8 a) (.int .u8 b) (.int .u8 c) (.int .u32 d) (.slice B4 l4.length k4) (.slice B5 l5.length k5)).trans BX.out))
        have hz := hz'
        clear hT4 hN4 hF4 hb1 hz')
     | (go_at_call 52
        refine (twinResults_calls _ A5 c5 l5 (Kd.C_below H5.out BB.out) hc5 hl5 HLR.out).mono ?_
        rintro e wn ⟨v5, rfl, F5, hT5, hN5, hF5, hb1⟩
        obtain ⟨B5, k5, e5, hk5, _, _⟩ := hT5.reads
        rw [List.length_map] at e5 hk5
        subst e5
        have hz' := Nat.le_trans hz hb1.size
        have T5 := Aside0.mk hT5
        have N5 := Aside0.mk hN5
        have L5 := Aside0.mk hT5.lt
        have G5 := Aside0.mk (show ∀ x ∈ F5, w.heap.size + 2 ≤ x from fun x hx => Nat.le_trans hz (hF5 x hx))
        try have T4 := Aside0.mk (T4.out.below hb1)
        try have DJ := Aside0.mk (show ∀ x ∈ F4, ∀ y ∈ F5, x ≠ y from fun x hx y hy e => by have h1 := hF5 y hy; have h2 := L4.out x hx; omega)
        have BB := Aside0.mk (below_step BB.out hb1)
        have BX := Aside0.mk (blk_below BX.out hb1)
        have BO := Aside0.mk (blk_below BO.out hb1)
        have HC := Aside0.mk (blk6w BX.out)
        obtain ⟨⟨x0, x1, x2, x3, x4, x5⟩, ⟨y0, y1, y2, y3, y4, y5⟩⟩ := blk6p BO.out
        try have HS2 := Aside0.mk (blk6w ((far6 (W := wn) (g := w.heap.size + 1) (k := w.heap.size) (by omega) (.int .u8 a) (.int .u8 b) (.int .u8 c) (.int .u32 d) (.slice B4 l4.length k4) (.slice B5 l5.length k5)).trans BX.out))
        have hz := hz'
        clear hT5 hN5 hF5 hb1 hz'))) | fail "held3"
  all_goals
    go_wp2
    try simp only [Exit.inBlock, Exit.then]
    refine bodyPost_ret (results_cell_row rfl _ _ (w.heap.size + 1) 50 #[.int .u8 a, .int .u8 b, .int .u8 c, .int .u32 d, .slice B4 l4.length k4, .slice B5 l5.length k5] (0, 0) _ rfl (put6 BO.out _ _ _ _ _ _) hu rfl (by kernel_rfl)) rfl ?_
    have hkp : ∀ k, w.heap.size + 2 ≤ k → _ := fun k hk => far6 (W := wn) (g := w.heap.size + 1) (k := k) (by omega) (.int .u8 a) (.int .u8 b) (.int .u8 c) (.int .u32 d) (.slice B4 l4.length k4) (.slice B5 l5.length k5)
    refine ⟨B4, k4, B5, k5, rfl, F4, F5, ?_, ?_, N4.out, N5.out, DJ.out, fun x hx => by have := G4.out x hx; omega, fun x hx => by have := G5.out x hx; omega, below6 BB.out (Nat.le_succ _) _ _ _ _ _ _⟩
    · obtain ⟨A', c', ev, h2, h3⟩ := T4.out
      exact ⟨A', c', ev, h2, Fd.row_move (fun b hb => hkp b (G4.out b hb)) h3⟩
    · obtain ⟨A', c', ev, h2, h3⟩ := T5.out
      exact ⟨A', c', ev, h2, Fd.row_move (fun b hb => hkp b (G5.out b hb)) h3⟩
set_option maxRecDepth 100000 in
theorem leftMsg_calls (w : World) (a b c d : Int) (B4 : Option Addr) (k4 : Nat) (B5 : Option Addr) (k5 : Nat) (F4 F5 : List Nat) (A4 : Option Addr) (c4 : Nat) (l4 : List S82) (A5 : Option Addr) (c5 : Nat) (l5 : List ResT') (t4 : Twin fdOp 82 w F4 (.slice B4 l4.length k4) l4 spareOp) (t5 : Twin fdTR 145 w F5 (.slice B5 l5.length k5) (l5.map twOf) spareRes) (h4 : Kd.C k82 w A4 l4.length l4) (hc4 : l4.length ≤ c4) (h5 : Kd.C k145 w A5 l5.length l5) (hc5 : l5.length ≤ c5) (hl4 : l4.length ≤ 1000000000) (hl5 : l5.length ≤ 1000000000) (hlr : ∀ x ∈ l5, x.f0.length ≤ 1000000000) :
    Calls Tryz.prog 25 #[.agg #[.int .u8 a, .int .u8 b, .int .u8 c, .int .u32 d, .slice B4 l4.length k4, .slice B5 l5.length k5], .agg #[.int .u8 a, .int .u8 b, .int .u8 c, .int .u32 d, .slice A4 l4.length c4, .slice A5 l5.length c5]] w fun e w' => e = .returned (.bool true) ∧ Below w.heap.size w w' := by
  have hu := Tryz.underlying50
  obtain ⟨w1, hw1⟩ : ∃ w1, w1 = (w.alloc (.cells #[.int .u8 a, .int .u8 b, .int .u8 c, .int .u32 d, .slice B4 l4.length k4, .slice B5 l5.length k5] 50)).alloc (.cells #[.int .u8 a, .int .u8 b, .int .u8 c, .int .u32 d, .slice A4 l4.length c4, .slice A5 l5.length c5] 50) := ⟨_, rfl⟩
  have hb0 := below_alloc (Below.refl w.heap.size w) (.cells #[.int .u8 a, .int .u8 b, .int .u8 c, .int .u32 d, .slice B4 l4.length k4, .slice B5 l5.length k5] 50)
  have hb1 : Below w.heap.size w w1 := by rw [hw1]; exact hb0.alloc hb0.size _
  have hbx : w1.heap[w.heap.size]? = some (.cells #[.int .u8 a, .int .u8 b, .int .u8 c, .int .u32 d, .slice B4 l4.length k4, .slice B5 l5.length k5] 50 (0, 0)) := by
    rw [hw1]
    exact blk_below (blk_new w _) (below_alloc (Below.refl _ _) _)
  have hbo : w1.heap[w.heap.size + 1]? = some (.cells #[.int .u8 a, .int .u8 b, .int .u8 c, .int .u32 d, .slice A4 l4.length c4, .slice A5 l5.length c5] 50 (0, 0)) := by
    rw [hw1]
    have h := blk_new (w.alloc (.cells #[.int .u8 a, .int .u8 b, .int .u8 c, .int .u32 d, .slice B4 l4.length k4, .slice B5 l5.length k5] 50)) (.cells #[.int .u8 a, .int .u8 b, .int .u8 c, .int .u32 d, .slice A4 l4.length c4, .slice A5 l5.length c5] 50)
    rwa [alloc_size] at h
  have C1 := Aside0.mk (leftOps_calls w1 B4 k4 A4 c4 l4 (Kd.C_below t4.c.2.1 hb1) t4.c.2.2 (Kd.C_below h4 hb1) hc4 hl4)
  have T5 := Aside0.mk (t5.below hb1)
  have H5 := Aside0.mk (Kd.C_below h5 hb1)
  have HB := Aside0.mk hb1
  have BX := Aside0.mk hbx
  have BO := Aside0.mk hbo
  clear t4 t5 h4 h5 hb0 hb1 hbx hbo
  go_enter Tryz.func25, Tryz.ntmps25
  go_wp2_with fail
  rw [← hw1]
  clear hw1
  with_reducible refine C1.out.mono ?_
  rintro e w2 ⟨rfl, hb2⟩
  have bx := blk_below BX.out hb2
  have bo := blk_below BO.out hb2
  have x5 := blk_cell bx 5
  have o5 := blk_cell bo 5
  have HB2 := Aside0.mk (below_step HB.out hb2)
  have C2 := Aside0.mk (leftResults_calls w2 B5 k5 F5 A5 c5 l5 (T5.out.below hb2) (Kd.C_below H5.out hb2) hc5 hl5 hlr)
  clear hb2 bx bo BX BO HB T5 H5 C1
  go_wp2_with fail
  with_reducible refine C2.out.mono ?_
  rintro e w3 ⟨rfl, hb3⟩
  have HB3 := Aside0.mk (below_step HB2.out hb3)
  clear hb3 C2
  go_wp2
  go_ret
  exact ⟨rfl, HB3.out⟩
end Go.Proofs.YtcohodkpppmaoaaGreatDoor.Q
namespace Go.Proofs.YtcohodkpppmaoaaGreatDoor.Q
open Go.RowKit Go.Proofs.YtcohodkpppmaoaaGreatDoorW.PrintWords Go.Proofs.YtcohodkpppmaoaaGreatDoorW.PrintLast Go.Proofs.YtcohodkpppmaoaaGreatDoorW.PrintMore
set_option linter.unusedVariables false

/-- A room at block h: its messages L, in blocks G of its own. -/
def RoomAt (w : World) (h : Nat) (most : Int) (L : List MsgT) (G : List Nat) : Prop :=
  ∃ v, w.heap[h]? = some (.cells #[v, .int .i64 most, .func (.func 67) #[] #[]] 108 (0, 0)) ∧ Fd.Row fdMsg 50 w G v L
/-- A bag at block g, with its room; F: all their blocks. -/
def BagAt (w : World) (g : Nat) (most : Int) (L : List MsgT) (F : List Nat) : Prop :=
  ∃ h G, w.heap[g]? = some (.cells #[.pointer (some ⟨h, 0, none⟩)] 110 (0, 0)) ∧ RoomAt w h most L G ∧ F = g :: h :: G ∧ F.Nodup

theorem RoomAt.keeps {w w1 : World} {h : Nat} {most : Int} {L : List MsgT} {G F : List Nat} (hr : RoomAt w h most L G) (hk : Keeps F w w1) (hF : ∀ b ∈ h :: G, b ∉ F) : RoomAt w1 h most L G := by
  obtain ⟨v, h1, h2⟩ := hr
  exact ⟨v, hk.blk h1 (hF h (by simp)), Fd.row_keeps h2 hk (fun b hb => hF b (by simp [hb]))⟩
theorem BagAt.keeps {w w1 : World} {g : Nat} {most : Int} {L : List MsgT} {F F' : List Nat} (hr : BagAt w g most L F) (hk : Keeps F' w w1) (hF : ∀ b ∈ F, b ∉ F') : BagAt w1 g most L F := by
  obtain ⟨h, G, h1, h2, rfl, h3⟩ := hr
  exact ⟨h, G, hk.blk h1 (hF g (by simp)), h2.keeps hk (fun b hb => hF b (by simp only [List.mem_cons] at hb ⊢; exact .inr hb)), rfl, h3⟩
theorem BagAt.below {w w1 : World} {g : Nat} {most : Int} {L : List MsgT} {F : List Nat} (hr : BagAt w g most L F) (hb : Below w.heap.size w w1) : BagAt w1 g most L F := hr.keeps (Keeps.of_below hb []) (fun _ _ h => by cases h)
theorem BagAt.lt {w : World} {g : Nat} {most : Int} {L : List MsgT} {F : List Nat} (hr : BagAt w g most L F) : ∀ b ∈ F, b < w.heap.size := by
  obtain ⟨h, G, h1, ⟨v, h2, h3⟩, rfl, _⟩ := hr
  intro b hb
  simp only [List.mem_cons] at hb
  rcases hb with rfl | rfl | hb
  · exact blk_lt h1
  · exact blk_lt h2
  · exact Fd.row_lt h3 b hb
theorem BagAt.nodup {w : World} {g : Nat} {most : Int} {L : List MsgT} {F : List Nat} (hr : BagAt w g most L F) : F.Nodup := by
  obtain ⟨h, G, h1, h2, rfl, h3⟩ := hr
  exact h3

/-- Where a message that is read lies. -/
structure MsgIn (w : World) (m : MsgT) (v4 v5 : Value) : Prop where
  read : ∃ A4 c4 A5 c5, v4 = .slice A4 m.f4.length c4 ∧ v5 = .slice A5 m.f5.length c5 ∧ m.f4.length ≤ c4 ∧ k82.C w A4 m.f4.length m.f4 ∧ m.f5.length ≤ c5 ∧ k145.C w A5 m.f5.length m.f5
theorem MsgIn.below {w w1 : World} {m : MsgT} {v4 v5 : Value} (h : MsgIn w m v4 v5) (hb : Below w.heap.size w w1) : MsgIn w1 m v4 v5 := by
  obtain ⟨A4, c4, A5, c5, e4, e5, l4, h4, l5, h5⟩ := h.read
  exact ⟨A4, c4, A5, c5, e4, e5, l4, Kd.C_below h4 hb, l5, Kd.C_below h5 hb⟩
theorem MsgIn.of_M {w : World} {F : List Nat} {m : MsgT} {cs : List Value} (h : fdMsg.M w F m cs) : ∃ v4 v5, cs = (msgCells m v4 v5).toList ∧ MsgIn w m v4 v5 := by
  obtain ⟨v4, v5, F4, F5, rfl, rfl, h4, h5⟩ := h
  obtain ⟨A4, c4, rfl, l4, g4⟩ := Fd.row_reads h4
  obtain ⟨A5, c5, rfl, l5, g5⟩ := Fd.row_reads h5
  exact ⟨_, _, rfl, A4, c4, A5, c5, rfl, rfl, l4, g4, l5, g5⟩

/-- What like leaves. -/
def Liked (w : World) (m : MsgT) (e : Ending) (w' : World) : Prop := ∃ v4 v5 F, e = .returned (.agg (msgCells m v4 v5)) ∧ fdMsg.M w' F m (msgCells m v4 v5).toList ∧ F.Nodup ∧ (∀ b ∈ F, w.heap.size ≤ b) ∧ Below w.heap.size w w'
theorem liked (w : World) (m : MsgT) {v4 v5 : Value} (h : MsgIn w m v4 v5) (hB : msgB m) : Calls Tryz.prog 67 #[.agg (msgCells m v4 v5)] w (Liked w m) := by
  obtain ⟨A4, c4, A5, c5, rfl, rfl, l4, h4, l5, h5⟩ := h.read
  refine (like_calls w m A4 c4 A5 c5 l4 h4 l5 h5 hB).mono ?_
  rintro e w' ⟨cs, F, rfl, hM, h1, h2, h3⟩
  obtain ⟨v4, v5, hc, _⟩ := MsgIn.of_M hM
  obtain rfl : cs = msgCells m v4 v5 := Array.ext' hc
  exact ⟨v4, v5, F, rfl, hM, h1, h2, h3⟩

theorem there_yes (w : World) (g h : Nat) (hg : w.cell? ⟨g, 0, none⟩ = some (.pointer (some ⟨h, 0, none⟩))) : Calls Tryz.prog 68 #[.pointer (some ⟨g, 0, none⟩)] w fun e w' => e = .returned (.bool true) ∧ w = w' := by
  go_enter Tryz.func68, Tryz.ntmps68
  go_wp2
  go_ret
  exact ⟨rfl, rfl⟩
def hasB (i : Int) (n : Nat) : Bool := decide (0 ≤ i) && decide (i < (n : Int))
theorem has_calls (w : World) (h n c : Nat) (A : Option Addr) (i : Int) (hg : w.cell? ⟨h, 0, none⟩ = some (.slice A n c)) : Calls Tryz.prog 163 #[.pointer (some ⟨h, 0, none⟩), .int .i64 i] w fun e w' => e = .returned (.bool (hasB i n)) ∧ w = w' := by
  unfold hasB
  by_cases h0 : 0 ≤ i
  · have h0' : decide (0 ≤ i) = true := decide_eq_true h0
    rw [h0']
    go_enter Tryz.func163, Tryz.ntmps163
    go_wp2
    all_goals
      go_ret
      exact ⟨by simp, rfl⟩
  · have h0' : decide (0 ≤ i) = false := decide_eq_false h0
    rw [h0']
    go_enter Tryz.func163, Tryz.ntmps163
    go_wp2
    all_goals
      go_ret
      exact ⟨by simp, rfl⟩
theorem ask_calls (w : World) (g h n c : Nat) (A : Option Addr) (i : Int) (hg : w.cell? ⟨g, 0, none⟩ = some (.pointer (some ⟨h, 0, none⟩))) (hh : w.cell? ⟨h, 0, none⟩ = some (.slice A n c)) :
    Calls Tryz.prog 71 #[.pointer (some ⟨g, 0, none⟩), .int .i64 i] w fun e w' => e = .returned (.int .i64 (if hasB i n = true then 0 else 1)) ∧ w = w' := by
  have hmf : ∀ (fn : Fn) (first cap : Array Value) (w : World), (Instr.makeFunc fn first cap).run Tryz.prog w = .ok (.func fn first cap) w := fun _ _ _ _ => rfl
  cases hb : hasB i n with
  | true =>
    have HB := Aside0.mk hb
    clear hb
    go_enter Tryz.func71, Tryz.ntmps71
    go_wp2_with fail
    refine (there_yes w g h hg).mono ?_
    rintro e w' ⟨rfl, rfl⟩
    go_wp2_with fail
    refine (has_calls w h n c A i hh).mono ?_
    rintro e w' ⟨rfl, rfl⟩
    rw [HB.out]
    go_wp2
    go_ret
    exact ⟨rfl, rfl⟩
  | false =>
    have HB := Aside0.mk hb
    clear hb
    go_enter Tryz.func71, Tryz.ntmps71
    go_wp2_with fail
    refine (there_yes w g h hg).mono ?_
    rintro e w' ⟨rfl, rfl⟩
    go_wp2_with fail
    refine (has_calls w h n c A i hh).mono ?_
    rintro e w' ⟨rfl, rfl⟩
    rw [HB.out]
    go_wp2
    go_ret
    exact ⟨rfl, rfl⟩

def NewPost (w : World) (most : Int) (e : Ending) (w' : World) : Prop := ∃ g F, e = .returned (.tuple #[.pointer (some ⟨g, 0, none⟩), .int .i64 0]) ∧ BagAt w' g most [] F ∧ (∀ b ∈ F, w.heap.size ≤ b) ∧ Below w.heap.size w w'
theorem new_yes (w : World) (most : Int) (h1 : 1 ≤ most) (h2 : most ≤ 256) : Calls Tryz.prog 10 #[.int .i64 most] w (NewPost w most) := by
  have c1 : decide (most < 1) = false := decide_eq_false (by omega)
  have c2 : decide (256 < most) = false := decide_eq_false (by omega)
  go_enter Tryz.func10, Tryz.ntmps10
  go_wp2
  go_ret2
  have b1 := blk_new w (.cells #[.slice none 0 0, .int .i64 most, .func (.func 67) #[] #[]] 108)
  refine ⟨w.heap.size + 1, [w.heap.size + 1, w.heap.size], rfl, ⟨w.heap.size, [], ?_, ⟨_, blk_alloc b1 _, Fd.row_nil _ _ _⟩, rfl, by simp⟩, ?_, below_alloc (below_alloc (Below.refl _ _) _) _⟩
  · have := blk_new (w.alloc (.cells #[.slice none 0 0, .int .i64 most, .func (.func 67) #[] #[]] 108)) (.cells #[.pointer (some ⟨w.heap.size, 0, none⟩)] 110)
    rwa [alloc_size'] at this
  · intro b hb
    simp at hb
    omega
theorem new_no (w : World) (most : Int) (h : most < 1 ∨ 256 < most) : Calls Tryz.prog 10 #[.int .i64 most] w fun e w' => e = .returned (.tuple #[.pointer none, .int .i64 1]) ∧ w = w' := by
  by_cases h1 : most < 1
  · have c1 : decide (most < 1) = true := decide_eq_true h1
    go_enter Tryz.func10, Tryz.ntmps10
    go_wp2
    go_ret2
    exact ⟨rfl, rfl⟩
  · have c1 : decide (most < 1) = false := decide_eq_false h1
    have c2 : decide (256 < most) = true := decide_eq_true (by omega)
    go_enter Tryz.func10, Tryz.ntmps10
    go_wp2
    go_ret2
    exact ⟨rfl, rfl⟩

def AddPost (w : World) (h : Nat) (most : Int) (L : List MsgT) (G : List Nat) (m : MsgT) (e : Ending) (w' : World) : Prop := ∃ G', e = .returned (.bool true) ∧ RoomAt w' h most (L ++ [m]) G' ∧ (h :: G').Nodup ∧ Keeps (h :: G) w w' ∧ ∀ b ∈ G', b ∈ G ∨ w.heap.size ≤ b
theorem nodup_new {G F : List Nat} {n : Nat} (hG : G.Nodup) (hF : F.Nodup) (h1 : ∀ b ∈ G, b < n) (h2 : ∀ b ∈ F, n ≤ b) : (G ++ F).Nodup :=
  List.nodup_append.2 ⟨hG, hF, fun a ha b hb e => by have := h1 a ha; have := h2 b hb; omega⟩
theorem add_fin {w w5 w6 : World} {h : Nat} {most : Int} {L : List MsgT} {G F5 F6 : List Nat} {m : MsgT} {v0 v1 : Value} (hnd : (h :: G).Nodup) (hG : ∀ b ∈ G, b < w.heap.size) (hh : h < w.heap.size) (h5 : Below w.heap.size w w5) (l5 : ∀ b ∈ F5, w.heap.size ≤ b)
    (r6 : Fd.Row fdMsg 50 w6 F6 v1 (L ++ [m])) (n6 : F6.Nodup) (k6 : Keeps G w5 w6) (l6 : ∀ b ∈ F6, b ∈ G ∨ b ∈ F5 ∨ w5.heap.size ≤ b) (b6 : w6.heap[h]? = some (.cells #[v0, .int .i64 most, .func (.func 67) #[] #[]] 108 (0, 0))) :
    AddPost w h most L G m (.returned (.bool true)) (w6.setCell ⟨h, 0, none⟩ v1) := by
  have h5s := h5.size
  have l6' : ∀ b ∈ F6, b ∈ G ∨ w.heap.size ≤ b := fun b hb => by
    rcases l6 b hb with h1 | h1 | h1
    · exact .inl h1
    · exact .inr (l5 b h1)
    · exact .inr (by omega)
  have hF6 : h ∉ F6 := fun hx => by
    rcases l6' h hx with h1 | h1
    · exact (List.nodup_cons.1 hnd).1 h1
    · omega
  refine ⟨F6, rfl, ⟨v1, blk_put b6 0 v1 rfl, Fd.row_keeps r6 ((Keeps.refl [h] w6).setCell (p := ⟨h, 0, none⟩) (.inl (by simp)) v1) (fun b hb hx => ?_)⟩, List.nodup_cons.2 ⟨hF6, n6⟩, ?_, l6'⟩
  · simp at hx
    subst hx
    exact hF6 hb
  · exact ((Keeps.of_below h5 (h :: G)).trans k6 (fun x hx => .inl (by simp [hx]))).setCell (p := ⟨h, 0, none⟩) (.inl (by simp)) v1
set_option maxHeartbeats 3200000 in
set_option maxRecDepth 100000 in
theorem add_yes (w : World) (h : Nat) (most : Int) (L : List MsgT) (G : List Nat) (m : MsgT) (v4 v5 : Value) (hR : RoomAt w h most L G) (hnd : (h :: G).Nodup) (hne : (L.length : Int) ≠ most) (hL : L.length ≤ 65536) (hm : MsgIn w m v4 v5) (hB : msgB m) :
    Calls Tryz.prog 69 #[.pointer (some ⟨h, 0, none⟩), .agg (msgCells m v4 v5)] w (AddPost w h most L G m) := by
  obtain ⟨v, hb, hr⟩ := hR
  obtain ⟨A, c, rfl, hlc, hC⟩ := Fd.row_reads hr
  have hu := Tryz.underlying50
  have c0 := blk_cell hb 0
  have c1 := blk_cell hb 1
  have c2 := blk_cell hb 2
  have f0 := blk_frozen hb 0
  have hlt : h < w.heap.size := blk_lt hb
  have hne' : ((L.length : Int) == most) = false := by simpa using hne
  have HBK := Aside0.mk hb
  have HR := Aside0.mk hr
  have HM := Aside0.mk hm
  have HMB := Aside0.mk hB
  have HND := Aside0.mk hnd
  obtain ⟨A4, c4, A5, c5, rfl, rfl, _⟩ := hm.read
  clear hb hr hm hB hnd hne hC hlc
  unfold msgCells
  go_enter Tryz.func69, Tryz.ntmps69
  go_wp2_with fail
  go_region
  go_wp2_with fail
  go_region_law (first
    | (go_simp
       go_at_call 67
       refine (liked _ m (HM.out.below (below_drew1 (below_drew1 (below_alloc (Below.refl w.heap.size w) _)))) HMB.out).mono ?_
       rintro e w5 ⟨x4, x5, F5, rfl, hM, hn5, hl5, hb5⟩
       have B5 := Aside0.mk (below_step (below_drew1 (below_drew1 (below_alloc (Below.refl w.heap.size w) _))) hb5)
       have bk5 := blk_below HBK.out B5.out
       have k0 := blk_cell bk5 0
       have k2 := blk_cell bk5 2
       have hlt5 := blk_lt bk5
       have M5 := Aside0.mk hM
       have N5 := Aside0.mk hn5
       have L5 := Aside0.mk (show ∀ b ∈ F5, w.heap.size ≤ b from fun b hb => Nat.le_trans (below_drew1 (below_drew1 (below_alloc (Below.refl w.heap.size w) _))).size (hl5 b hb))
       have BK5 := Aside0.mk bk5
       clear hM hn5 hl5 hb5 bk5
       unfold msgCells)
    | (refine Fd.R_append_step fdMsg rfl (.tmp 19) (.tmp 26) 60 50 (.agg #[.int .u8 0, .int .u8 0, .int .u8 0, .int .u32 0, .slice none 0 0, .slice none 0 0]) 56 rfl Tryz.underlying60 infoMsg rfl (show 0 < 6 from by decide) (by decide) (.slice A L.length c) L m [.int .u8 m.f0, .int .u8 m.f1, .int .u8 m.f2, .int .u32 m.f3, x4, x5] G F5 (by simp [Act.eval]) (by simp [Act.eval]) M5.out (Fd.row_below HR.out B5.out) (nodup_new (List.nodup_cons.1 HND.out).2 N5.out (Fd.row_lt HR.out) L5.out) (by omega) ?_
       intro v1 w6 F6 h1 h2 h3 h4
       obtain ⟨A1, d1, rfl, _⟩ := Fd.row_reads h1
       rw [show (L ++ [m]).length = L.length + 1 from by simp] at h1 ⊢
       have hh : h ∉ G := (List.nodup_cons.1 HND.out).1
       have bk6 := h3.blk BK5.out hh
       have j0 := blk_cell bk6 0
       have j1 := blk_frozen bk6 0
       have BK6 := Aside0.mk bk6
       have R6 := Aside0.mk h1
       have N6 := Aside0.mk h2
       have K6 := Aside0.mk h3
       have L6 := Aside0.mk h4
       clear h1 h2 h3 h4 bk6))
  all_goals
    go_wp2
    go_ret
    exact add_fin HND.out (Fd.row_lt HR.out) (blk_lt HBK.out) B5.out L5.out R6.out N6.out K6.out L6.out BK6.out

set_option maxRecDepth 100000 in
theorem add_no (w : World) (h : Nat) (most : Int) (L : List MsgT) (G : List Nat) (m : MsgT) (v4 v5 : Value) (hR : RoomAt w h most L G) (hne : (L.length : Int) = most) :
    Calls Tryz.prog 69 #[.pointer (some ⟨h, 0, none⟩), .agg (msgCells m v4 v5)] w fun e w' => e = .returned (.bool false) ∧ Below w.heap.size w w' := by
  obtain ⟨v, hb, hr⟩ := hR
  obtain ⟨A, c, rfl, hlc, hC⟩ := Fd.row_reads hr
  have c0 := blk_cell hb 0
  have c1 := blk_cell hb 1
  have hlt : h < w.heap.size := blk_lt hb
  have hne' : ((L.length : Int) == most) = true := by simpa using hne
  clear hb hr hne hC hlc
  unfold msgCells
  go_enter Tryz.func69, Tryz.ntmps69
  go_wp2_with fail
  go_region
  go_wp2
  go_ret
  exact ⟨rfl, below_drew1 (below_alloc (Below.refl _ _) _)⟩

end Go.Proofs.YtcohodkpppmaoaaGreatDoor.Q
namespace Go.Proofs.YtcohodkpppmaoaaGreatDoor.Q
open Go.RowKit Go.Proofs.YtcohodkpppmaoaaGreatDoorW.PrintWords Go.Proofs.YtcohodkpppmaoaaGreatDoorW.PrintLast Go.Proofs.YtcohodkpppmaoaaGreatDoorW.PrintMore
set_option linter.unusedVariables false

def AddedPost (w : World) (g : Nat) (most : Int) (L : List MsgT) (F : List Nat) (m : MsgT) (e : Ending) (w' : World) : Prop := ∃ F', e = .returned (.int .i64 0) ∧ BagAt w' g most (L ++ [m]) F' ∧ Keeps F w w' ∧ ∀ b ∈ F', b ∈ F ∨ w.heap.size ≤ b
set_option maxHeartbeats 3200000 in
set_option maxRecDepth 100000 in
theorem Add_yes (w : World) (g : Nat) (most : Int) (L : List MsgT) (F : List Nat) (m : MsgT) (v4 v5 : Value) (hR : BagAt w g most L F) (hne : (L.length : Int) ≠ most) (hL : L.length ≤ 65536) (hm : MsgIn w m v4 v5) (hB : msgB m) :
    Calls Tryz.prog 13 #[.pointer (some ⟨g, 0, none⟩), .agg (msgCells m v4 v5)] w (AddedPost w g most L F m) := by
  obtain ⟨h, G, hg, hr, rfl, hnd⟩ := hR
  have c0 := blk_cell hg 0
  have hlt : g < w.heap.size := blk_lt hg
  have HG := Aside0.mk hg
  have HR := Aside0.mk hr
  have HM := Aside0.mk hm
  have HMB := Aside0.mk hB
  have HNE := Aside0.mk hne
  have HND := Aside0.mk hnd
  obtain ⟨A4, c4, A5, c5, rfl, rfl, _⟩ := hm.read
  clear hg hr hm hB hne hnd
  unfold msgCells
  go_enter Tryz.func13, Tryz.ntmps13
  go_wp2_with fail
  refine (there_yes _ g h (cell_later (below_alloc (Below.refl w.heap.size w) _) c0)).mono ?_
  rintro e w' ⟨rfl, rfl⟩
  go_wp2_with fail
  go_region_with (first
    | (go_at_call 69
       have hbw := below_drew1 (below_alloc (Below.refl w.heap.size w) (.cells #[.int .u8 m.f0, .int .u8 m.f1, .int .u8 m.f2, .int .u32 m.f3, .slice A4 m.f4.length c4, .slice A5 m.f5.length c5] 50))
       refine (add_yes _ h most L G m _ _ (HR.out.keeps (Keeps.of_below hbw []) (fun _ _ hx => by cases hx)) (List.nodup_cons.1 HND.out).2 HNE.out hL (HM.out.below hbw) HMB.out).mono ?_
       rintro e w5 ⟨G5, rfl, r5, n5, k5, l5⟩
       have R5 := Aside0.mk r5
       have N5 := Aside0.mk n5
       have K5 := Aside0.mk ((Keeps.of_below hbw (h :: G)).trans k5 (fun x hx => .inl hx))
       have L5 := Aside0.mk (show ∀ b ∈ G5, b ∈ G ∨ w.heap.size ≤ b from fun b hb => (l5 b hb).imp id (fun h => Nat.le_trans hbw.size h))
       clear r5 n5 k5 l5 hbw))
  all_goals
    go_wp2
    go_ret
    have hgn := (List.nodup_cons.1 HND.out).1
    refine ⟨g :: h :: G5, rfl, ⟨h, G5, K5.out.blk HG.out hgn, R5.out, rfl, List.nodup_cons.2 ⟨fun hx => ?_, N5.out⟩⟩, K5.out.mono (fun x hx => .inl (by simp only [List.mem_cons] at hx ⊢; exact .inr hx)), fun b hb => ?_⟩
    · rcases List.mem_cons.1 hx with hx | hx
      · exact hgn (by simp [hx])
      · rcases L5.out g hx with h1 | h1
        · exact hgn (by simp [h1])
        · have := blk_lt HG.out
          omega
    · simp only [List.mem_cons] at hb ⊢
      rcases hb with hb | hb | hb
      · exact .inl (.inl hb)
      · exact .inl (.inr (.inl hb))
      · exact (L5.out b hb).imp (fun h1 => .inr (.inr h1)) id
set_option maxRecDepth 100000 in
theorem Add_no (w : World) (g : Nat) (most : Int) (L : List MsgT) (F : List Nat) (m : MsgT) (v4 v5 : Value) (hR : BagAt w g most L F) (hne : (L.length : Int) = most) (hm : MsgIn w m v4 v5) :
    Calls Tryz.prog 13 #[.pointer (some ⟨g, 0, none⟩), .agg (msgCells m v4 v5)] w fun e w' => e = .returned (.int .i64 5) ∧ Below w.heap.size w w' := by
  obtain ⟨h, G, hg, hr, rfl, hnd⟩ := hR
  have c0 := blk_cell hg 0
  have hlt : g < w.heap.size := blk_lt hg
  have HR := Aside0.mk hr
  have HNE := Aside0.mk hne
  obtain ⟨A4, c4, A5, c5, rfl, rfl, _⟩ := hm.read
  clear hg hr hm hne hnd
  unfold msgCells
  go_enter Tryz.func13, Tryz.ntmps13
  go_wp2_with fail
  refine (there_yes _ g h (cell_later (below_alloc (Below.refl w.heap.size w) _) c0)).mono ?_
  rintro e w' ⟨rfl, rfl⟩
  go_wp2_with fail
  go_region_with (first
    | (go_at_call 69
       have hbw := below_drew1 (below_alloc (Below.refl w.heap.size w) (.cells #[.int .u8 m.f0, .int .u8 m.f1, .int .u8 m.f2, .int .u32 m.f3, .slice A4 m.f4.length c4, .slice A5 m.f5.length c5] 50))
       refine (add_no _ h most L G m _ _ (HR.out.keeps (Keeps.of_below hbw []) (fun _ _ hx => by cases hx)) HNE.out).mono ?_
       rintro e w5 ⟨rfl, hb5⟩
       have B5 := Aside0.mk (below_step hbw hb5)
       clear hb5 hbw))
  all_goals
    go_wp2
    go_ret
    exact ⟨rfl, B5.out⟩
end Go.Proofs.YtcohodkpppmaoaaGreatDoor.Q
