/-
  concordatlaw02.alive: some answers that the document fixes.
-/
import Derived.Test.YtcohodkpppmaoaaQB3
import Derived.Test.YtcohodkpppmaoaaQB5
import Derived.Test.YtcohodkpppmaoaaQB6
import Derived.Test.YtcohodkpppmaoaaQB7
import Derived.Test.YtcohodkpppmaoaaEvPut
import Derived.Test.YtcohodkpppmaoaaGet
import Derived.Lib.SlBytesConst
namespace Go.Proofs.Ytcohodkpppmaoaa.Q
open Go.RowKit Go.Proofs.YtcohodkpppmaoaaW.PrintWords Go.Proofs.YtcohodkpppmaoaaW.PrintLast Go.Proofs.YtcohodkpppmaoaaW.PrintMore
set_option linter.unusedVariables false

theorem C_lit {α : Type} {d : Kd α} {w : World} {g t : Nat} {fr : Nat × Nat} {cells : List Value} {xs : List α} (hb : w.heap[g]? = some (.cells cells.toArray t fr)) (hr : Reps (d.K w) d.sz xs cells) (hn : xs.length ≤ 9223372036854775807) : d.C w (some ⟨g, 0, none⟩) xs.length xs := by
  refine ⟨rfl, hn, fun _ => ⟨_, rfl, fun j p hj => ⟨(cells.drop (j * d.sz)).take d.sz, ?_, hr.2 j p hj, fun i u hu => ?_⟩⟩⟩
  · have hjl := (List.getElem?_eq_some_iff.1 hj).1
    have h1 : j * d.sz + d.sz ≤ cells.length := by rw [hr.1, ← Nat.succ_mul]; exact Nat.mul_le_mul_right _ hjl
    rw [List.length_take, List.length_drop]
    omega
  · rw [List.getElem?_take] at hu
    split at hu
    · rw [List.getElem?_drop] at hu
      have : ((⟨g, 0, none⟩ : Addr).add (j * d.sz + i)) = ⟨g, j * d.sz + i, none⟩ := by unfold Addr.add; split <;> simp_all
      rw [this]
      simpa [World.cell?, hb] using hu
    · cases hu
theorem reps_1 {α : Type} {d : Kd α} {w : World} {x : α} {cs : List Value} (h : d.K w x cs) : Reps (d.K w) d.sz [x] cs := by
  have := (Reps.none (d.K w) d.sz).snoc h (d.K_len h)
  simpa using this
theorem reps_2 {α : Type} {d : Kd α} {w : World} {x y : α} {cs ds : List Value} (h : d.K w x cs) (k : d.K w y ds) : Reps (d.K w) d.sz [x, y] (cs ++ ds) := (reps_1 h).snoc k (d.K_len k)

def concordatlaw02_alive.f : Option Bool := some true

def tA : ByteArray := ⟨#[97]⟩
def tB : ByteArray := ⟨#[98]⟩
def tZ : ByteArray := ⟨#[65]⟩
def t0 : ByteArray := ⟨#[]⟩
theorem alive_a : putOps [⟨2, tA, t0, 5⟩, ⟨4, tA, tB, 0⟩] = ([0, 2, 2, 1, 97, 0, 0, 0, 0, 5, 4, 1, 97, 1, 98, 0, 0, 0, 0], 0) := by decide
theorem alive_b : putResults [⟨[⟨tA, 1⟩]⟩, ⟨[]⟩] = ([0, 2, 0, 1, 1, 97, 0, 0, 0, 1, 0, 0], 0) := by decide
theorem alive_c : putChanges [⟨tA, 7, false⟩, ⟨tB, 0, true⟩] = ([0, 2, 1, 97, 0, 0, 0, 0, 7, 1, 98, 1, 0, 0, 0, 0], 0) := by decide
theorem alive_h : putOps [⟨1, tZ, t0, 0⟩] = ([], 1) := by decide
theorem alive_i : rows_GetOps.f [0, 1] = some ([], 4) := by kernel_rfl
theorem alive_j : rows_GetChanges.f [0, 1, 1, 97, 1, 0, 0, 0, 7] = some ([], 4) := by kernel_rfl
theorem alive_sa : strOfNums [0, 2, 2, 1, 97, 0, 0, 0, 0, 5, 4, 1, 97, 1, 98, 0, 0, 0, 0] = ⟨#[0, 2, 2, 1, 97, 0, 0, 0, 0, 5, 4, 1, 97, 1, 98, 0, 0, 0, 0]⟩ := by kernel_rfl
theorem alive_sb : strOfNums [0, 2, 0, 1, 1, 97, 0, 0, 0, 1, 0, 0] = ⟨#[0, 2, 0, 1, 1, 97, 0, 0, 0, 1, 0, 0]⟩ := by kernel_rfl
theorem alive_sc : strOfNums [0, 2, 1, 97, 0, 0, 0, 0, 7, 1, 98, 1, 0, 0, 0, 0] = ⟨#[0, 2, 1, 97, 0, 0, 0, 0, 7, 1, 98, 1, 0, 0, 0, 0]⟩ := by kernel_rfl
theorem alive_u : rows_Check.f 1 tA t0 5 = some false := (opCheck_eq ⟨1, tA, t0, 5⟩).trans (congrArg some (by decide))
theorem alive_v : rows_Check.f 4 tA t0 0 = some false := (opCheck_eq ⟨4, tA, t0, 0⟩).trans (congrArg some (by decide))

set_option maxHeartbeats 3200000 in
set_option maxRecDepth 100000 in
theorem concordatlaw02_alive.calls (r : Bool) (w : World) (h : concordatlaw02_alive.f = some r) : Calls Try.prog 39 #[] w fun e w' => e = .returned (.bool r) ∧ Below w.heap.size w w' := by
  obtain rfl : true = r := Option.some.inj h
  clear h
  obtain ⟨ka, hka⟩ := (ev_putOps [⟨2, tA, t0, 5⟩, ⟨4, tA, tB, 0⟩] (by decide)).rounds
  obtain ⟨kb, hkb⟩ := (ev_putResults [⟨[⟨tA, 1⟩]⟩, ⟨[]⟩] (by decide) (by decide)).rounds
  obtain ⟨kc, hkc⟩ := (ev_putChanges [⟨tA, 7, false⟩, ⟨tB, 0, true⟩] (by decide)).rounds
  obtain ⟨kh, hkh⟩ := (ev_putOps [⟨1, tZ, t0, 0⟩] (by decide)).rounds
  rw [alive_a] at hka
  rw [alive_b] at hkb
  rw [alive_c] at hkc
  rw [alive_h] at hkh
  have HKA := Aside0.mk hka
  have HKB := Aside0.mk hkb
  have HKC := Aside0.mk hkc
  have HKH := Aside0.mk hkh
  clear hka hkb hkc hkh
  have hu1 := Try.underlying68
  have hu2 := Try.underlying26
  have hu3 := Try.underlying73
  have hu4 := Try.underlying71
  go_enter Try.func39, Try.ntmps39
  go_wp2_with fail
  refine (rows_PutOps.calls ka (some ⟨w.heap.size, 0, none⟩) 2 [⟨2, tA, t0, 5⟩, ⟨4, tA, tB, 0⟩] _ _ _ (C_lit (cells := [.int .u8 2, .string tA, .string t0, .int .u32 5, .int .u8 4, .string tA, .string tB, .int .u32 0]) (blk_new w _) (reps_2 (k68_mk _ ⟨2, tA, t0, 5⟩) (k68_mk _ ⟨4, tA, tB, 0⟩)) (by decide)) (by decide) HKA.out).mono ?_
  rintro e w1 ⟨va, rfl, hO, hB⟩
  have HB1 := Aside0.mk (below_step (below_alloc (Below.refl w.heap.size w) _) hB)
  obtain ⟨Aa, ca, rfl, hca, hCa⟩ := Kd.R_reads hO
  have CA1 := Aside0.mk hCa
  clear hO hB hCa
  go_wp2_with fail
  have s1 := alloc_size w1 (.cells #[.string tA, .int .u32 1] 73)
  have n1 := blk_new (w1.alloc (.cells #[.string tA, .int .u32 1] 73)) (.cells #[.slice (some ⟨w1.heap.size, 0, none⟩) 1 1, .slice none 0 0] 71)
  rw [s1] at n1
  refine (rows_PutResults.calls kb (some ⟨w1.heap.size + 1, 0, none⟩) 2 [⟨[⟨tA, 1⟩]⟩, ⟨[]⟩] _ _ _ (C_lit (cells := [.slice (some ⟨w1.heap.size, 0, none⟩) 1 1, .slice none 0 0]) n1 (reps_2 (k71_mk _ ⟨[⟨tA, 1⟩]⟩ (by decide) (C_lit (cells := [.string tA, .int .u32 1]) (blk_alloc (blk_new w1 _) _) (reps_1 (k73_mk _ ⟨tA, 1⟩)) (by decide))) (k71_mk _ ⟨[]⟩ (A0 := none) (c0 := 0) (by decide) (Kd.C_nil _ _))) (by decide)) (by decide) HKB.out).mono ?_
  clear n1 s1
  rintro e w2 ⟨vb, rfl, hO, hB⟩
  have hB' := below_step (below_alloc (below_alloc (Below.refl w1.heap.size w1) _) _) hB
  have HB2 := Aside0.mk (below_step HB1.out hB')
  have CA2 := Aside0.mk (Kd.C_below CA1.out hB')
  obtain ⟨Ab, cb, rfl, hcb, hCb⟩ := Kd.R_reads hO
  have CB2 := Aside0.mk hCb
  clear hO hB hCb hB' CA1 HB1
  go_wp2_with fail
  refine (rows_PutChanges.calls kc (some ⟨w2.heap.size, 0, none⟩) 2 [⟨tA, 7, false⟩, ⟨tB, 0, true⟩] _ _ _ (C_lit (cells := [.string tA, .int .u32 7, .bool false, .string tB, .int .u32 0, .bool true]) (blk_new w2 _) (reps_2 (k26_mk _ ⟨tA, 7, false⟩) (k26_mk _ ⟨tB, 0, true⟩)) (by decide)) (by decide) HKC.out).mono ?_
  rintro e w3 ⟨vc, rfl, hO, hB⟩
  have hB' := below_step (below_alloc (Below.refl w2.heap.size w2) _) hB
  have HB3 := Aside0.mk (below_step HB2.out hB')
  have CA3 := Aside0.mk (Kd.C_below CA2.out hB')
  have CB3 := Aside0.mk (Kd.C_below CB2.out hB')
  obtain ⟨Ac, cc, rfl, hcc, hCc⟩ := Kd.R_reads hO
  have CC3 := Aside0.mk hCc
  clear hO hB hCc hB' CA2 CB2 HB2
  go_wp2_with fail
  refine (rows_PutOps.calls kh (some ⟨w3.heap.size, 0, none⟩) 1 [⟨1, tZ, t0, 0⟩] _ _ _ (C_lit (cells := [.int .u8 1, .string tZ, .string t0, .int .u32 0]) (blk_new w3 _) (reps_1 (k68_mk _ ⟨1, tZ, t0, 0⟩)) (by decide)) (by decide) HKH.out).mono ?_
  rintro e w4 ⟨vh, rfl, hO, hB⟩
  have hB' := below_step (below_alloc (Below.refl w3.heap.size w3) _) hB
  have HB4 := Aside0.mk (below_step HB3.out hB')
  have CA4 := Aside0.mk (Kd.C_below CA3.out hB')
  have CB4 := Aside0.mk (Kd.C_below CB3.out hB')
  have CC4 := Aside0.mk (Kd.C_below CC3.out hB')
  clear hO hB hB' CA3 CB3 CC3 HB3
  go_wp2_with fail
  refine (rows_GetOps.calls (some ⟨w4.heap.size, 0, none⟩) 2 [0, 1] _ _ _ (C_lit (cells := [.int .u8 0, .int .u8 1]) (blk_new w4 _) (reps_2 (cs := [.int .u8 0]) (ds := [.int .u8 1]) rfl rfl) (by decide)) (by decide) alive_i).mono ?_
  rintro e w5 ⟨vi, rfl, hO, hB⟩
  have hB' := below_step (below_alloc (Below.refl w4.heap.size w4) _) hB
  have HB5 := Aside0.mk (below_step HB4.out hB')
  have CA5 := Aside0.mk (Kd.C_below CA4.out hB')
  have CB5 := Aside0.mk (Kd.C_below CB4.out hB')
  have CC5 := Aside0.mk (Kd.C_below CC4.out hB')
  clear hO hB hB' CA4 CB4 CC4 HB4
  have hcc := Lib.run_convert_bytes_const (P := Try.prog) w5 28 5 #[.int .u8 0, .int .u8 1, .int .u8 1, .int .u8 97, .int .u8 1, .int .u8 0, .int .u8 0, .int .u8 0, .int .u8 7] 9 9 Try.underlying28 Try.underlying5
  go_wp2_with fail
  refine (rows_GetChanges.calls (some ⟨w5.heap.size, 0, none⟩) 9 [0, 1, 1, 97, 1, 0, 0, 0, 7] _ _ _ (C_lit (cells := [.int .u8 0, .int .u8 1, .int .u8 1, .int .u8 97, .int .u8 1, .int .u8 0, .int .u8 0, .int .u8 0, .int .u8 7]) (blk_new w5 _) ?hreps (by decide)) (by decide) alive_j).mono ?_
  case hreps => exact ((((((((reps_1 (d := Kd.int .u8) (cs := [.int .u8 0]) rfl).snoc (c := [.int .u8 1]) rfl rfl).snoc (c := [.int .u8 1]) rfl rfl).snoc (c := [.int .u8 97]) rfl rfl).snoc (c := [.int .u8 1]) rfl rfl).snoc (c := [.int .u8 0]) rfl rfl).snoc (c := [.int .u8 0]) rfl rfl).snoc (c := [.int .u8 0]) rfl rfl).snoc (c := [.int .u8 7]) rfl rfl
  rintro e w6 ⟨vj, rfl, hO, hB⟩
  have hB' := below_step (below_alloc (Below.refl w5.heap.size w5) _) hB
  have HB6 := Aside0.mk (below_step HB5.out hB')
  have hcva := Kd.C_string (P := Try.prog) (src := 28) (dst := 9) (c := ca) Try.underlying28 Try.underlying5 Try.underlying9 (Kd.C_below CA5.out hB')
  have hcvb := Kd.C_string (P := Try.prog) (src := 28) (dst := 9) (c := cb) Try.underlying28 Try.underlying5 Try.underlying9 (Kd.C_below CB5.out hB')
  have hcvc := Kd.C_string (P := Try.prog) (src := 28) (dst := 9) (c := cc) Try.underlying28 Try.underlying5 Try.underlying9 (Kd.C_below CC5.out hB')
  rw [alive_sa] at hcva
  replace hcva : (convert 28 9 (.slice Aa 19 ca)).run Try.prog w6 = _ := hcva
  rw [alive_sb] at hcvb
  replace hcvb : (convert 28 9 (.slice Ab 12 cb)).run Try.prog w6 = _ := hcvb
  rw [alive_sc] at hcvc
  replace hcvc : (convert 28 9 (.slice Ac 16 cc)).run Try.prog w6 = _ := hcvc
  clear hO hB hB' CA5 CB5 CC5 HB5
  go_wp2_with fail
  refine (rows_Check.calls 1 tA t0 5 false w6 alive_u).mono ?_
  rintro e w7 ⟨rfl, hB⟩
  have HB7 := Aside0.mk (below_step HB6.out hB)
  clear hB hcva hcvb hcvc
  go_wp2_with fail
  refine (rows_Check.calls 4 tA t0 0 false w7 alive_v).mono ?_
  rintro e w8 ⟨rfl, hB⟩
  have HB8 := Aside0.mk (below_step HB7.out hB)
  clear hB
  go_wp2
  go_ret
  exact ⟨rfl, HB8.out⟩

end Go.Proofs.Ytcohodkpppmaoaa.Q
