/-
  concordatlaw07.alive: some answers that the document fixes.
-/
import Derived.Test.YtcohodkpppmaoaaDoorQC3
import Derived.Test.YtcohodkpppmaoaaDoorPPut
import Derived.Test.YtcohodkpppmaoaaDoorPText
namespace Go.Proofs.YtcohodkpppmaoaaDoor.Q
open Go.RowKit Go.Proofs.YtcohodkpppmaoaaDoorW.PrintWords Go.Proofs.YtcohodkpppmaoaaDoorW.PrintLast Go.Proofs.YtcohodkpppmaoaaDoorW.PrintMore
set_option linter.unusedVariables false

theorem C_lit {α : Type} {d : Kd α} {w : World} {g t : Nat} {fr : Nat × Nat} {cells : List Value} {xs : List α} (hb : w.heap[g]? = some (.cells cells.toArray t fr)) (hr : Reps (d.K w) d.sz xs cells) (hn : xs.length ≤ 9223372036854775807) : d.C w (some ⟨g, 0, none⟩) xs.length xs := by
  refine ⟨rfl, hn, fun _ => ⟨_, rfl, fun j p hj => ⟨(cells.drop (j * d.sz)).take d.sz, ?_, hr.2 j p hj, fun i u hu => ?_⟩⟩⟩
  · have hjl := (List.getElem?_eq_some_iff.1 hj).1
    have h1 : j * d.sz + d.sz ≤ cells.length := by rw [hr.1, ← Nat.succ_mul]; exact Nat.mul_le_mul_right _ hjl
    rw [List.length_take, List.length_drop]
    omega
  · rw [List.getElem?_take] at hu
    split at hu
    · rw [List.getElem?_drop] at hu
      have : ((⟨g, 0, none⟩ : Addr).add (j * d.sz + i)) = ⟨g, j * d.sz + i, none⟩ := by unfold Addr.add; split <;> simp_all
      rw [this]
      simpa [World.cell?, hb] using hu
    · cases hu
theorem reps_1 {α : Type} {d : Kd α} {w : World} {x : α} {cs : List Value} (h : d.K w x cs) : Reps (d.K w) d.sz [x] cs := by
  have := (Reps.none (d.K w) d.sz).snoc h (d.K_len h)
  simpa using this
theorem reps_2 {α : Type} {d : Kd α} {w : World} {x y : α} {cs ds : List Value} (h : d.K w x cs) (k : d.K w y ds) : Reps (d.K w) d.sz [x, y] (cs ++ ds) := (reps_1 h).snoc k (d.K_len k)


def concordatlaw07_alive.f : Option Bool := some true
def tZ : ByteArray := ⟨#[65]⟩
def t0 : ByteArray := ⟨#[]⟩
def bA : List Int := [2, 2, 0, 0, 0, 0, 5, 0, 0, 0, 2, 0, 0, 0, 1, 0, 0]
theorem alive7_a : packets_Put.f 2 2 0 5 [] [⟨[]⟩] = some (bA, 0) := by decide
theorem alive7_b : packets_Get.f bA = some (2, 2, 0, 5, [], [⟨[]⟩], 0) := by kernel_rfl
theorem alive7_c : packets_Put.f 0 0 0 0 [] [] = some ([], 1) := by decide
theorem alive7_d : packets_Put.f 1 4 0 0 [] [] = some ([], 1) := by decide
theorem alive7_e : packets_Put.f 1 0 0 0 [⟨1, tZ, t0, 0⟩] [] = some ([], 1) := by decide
theorem alive7_g : packets_Get.f [] = some (0, 0, 0, 0, [], [], 4) := by kernel_rfl
theorem alive7_s : concordatlaw01_SameMsg.f 10 2 2 0 5 [] [⟨[]⟩] 2 2 0 5 [] [⟨[]⟩] = some true := by kernel_rfl
theorem alive7_t : packets_Text.f 2 2 0 5 [] [⟨[]⟩] = some ⟨#[50, 32, 50, 32, 48, 32, 53]⟩ := by kernel_rfl
theorem alive7_u : packets_Text.f 0 0 0 0 [] [] = some ⟨#[48, 32, 48, 32, 48, 32, 48]⟩ := by kernel_rfl
theorem alive7_z : strOfNums bA = ⟨#[2, 2, 0, 0, 0, 0, 5, 0, 0, 0, 2, 0, 0, 0, 1, 0, 0]⟩ := by kernel_rfl
theorem alloc_size7 (w : World) (o : Obj) : (w.alloc o).heap.size = w.heap.size + 1 := by show (w.heap.push o).size = _; simp
set_option maxHeartbeats 3200000 in
set_option maxRecDepth 100000 in
theorem concordatlaw07_alive.calls (r : Bool) (w : World) (h : concordatlaw07_alive.f = some r) (hT0_ : TabOk w) : Calls Tryd.prog 14 #[] w fun e w' => e = .returned (.bool r) ∧ Below w.heap.size w w' := by
  obtain rfl : true = r := Option.some.inj h
  clear h
  have HT := Aside0.mk hT0_
  clear hT0_
  have hu1 := Tryd.underlying62
  have hu4 := Tryd.underlying59
  have hu5 := Tryd.underlying27
  go_enter Tryd.func14, Tryd.ntmps14
  go_wp2_with fail
  obtain ⟨W0, hW0⟩ : ∃ W0, W0 = ((w.alloc (.cells #[.slice none 0 0] 59)).alloc (.cells #[.int .u8 2, .int .u8 2, .int .u8 0, .int .u32 5, .slice none 0 0, .slice (some ⟨w.heap.size, 0, none⟩) 1 1] 27)) := ⟨_, rfl⟩
  have B0 : Below w.heap.size w W0 := by rw [hW0]; exact below_alloc (below_alloc (Below.refl _ _) _) _
  have X0 : W0.heap[w.heap.size + 1]? = some (.cells #[.int .u8 2, .int .u8 2, .int .u8 0, .int .u32 5, .slice none 0 0, .slice (some ⟨w.heap.size, 0, none⟩) 1 1] 27 (0, 0)) := by
    rw [hW0]
    have := blk_new (w.alloc (.cells #[.slice none 0 0] 59)) (.cells #[.int .u8 2, .int .u8 2, .int .u8 0, .int .u32 5, .slice none 0 0, .slice (some ⟨w.heap.size, 0, none⟩) 1 1] 27)
    rwa [alloc_size7] at this
  have CR : Kd.C k59 W0 (some ⟨w.heap.size, 0, none⟩) 1 [⟨[]⟩] := by
    rw [hW0]
    exact C_lit (cells := [.slice none 0 0]) (blk_alloc (blk_new w (.cells #[.slice none 0 0] 59)) _) (reps_1 (k59_mk _ ⟨[]⟩ (A0 := none) (c0 := 0) (by decide) (Kd.C_nil _ _))) (by decide)
  rw [← hW0]
  clear hW0
  refine (packets_Put.calls 2 2 0 5 none 0 [] (some ⟨w.heap.size, 0, none⟩) 1 [⟨[]⟩] bA 0 W0 (Kd.C_nil _ _) (Nat.le_refl _) CR (by decide) alive7_a).mono ?_
  rintro e w1 ⟨va, rfl, hO, hb⟩
  obtain ⟨Aa, ca, rfl, hca, hCa⟩ := Kd.R_reads hO
  have B1 := Aside0.mk (below_step B0 hb)
  have X1 := Aside0.mk (blk_below X0 hb)
  have R1 := Aside0.mk (Kd.C_below CR hb)
  have CA1 := Aside0.mk hCa
  clear hO hb hCa B0 X0 CR
  go_wp2_with fail
  refine (packets_Get.calls Aa ca bA 2 2 0 5 [] [⟨[]⟩] 0 w1 CA1.out hca alive7_b).mono ?_
  rintro e w2 ⟨vo, vr, rfl, hO, hS, hb⟩
  obtain ⟨Ao, co, rfl, hco, hCo⟩ := Kd.R_reads hO
  obtain ⟨Ar, cr, rfl, hcr, hCr⟩ := Kd.R_reads (Kd.S_R hS)
  have hbx := below_alloc (Below.refl w2.heap.size w2) (.cells #[.int .u8 2, .int .u8 2, .int .u8 0, .int .u32 5, .slice Ao 0 co, .slice Ar 1 cr] 27)
  have hb' := below_step hb hbx
  have B2 := Aside0.mk (below_step B1.out hb')
  have X2 := Aside0.mk (blk_below X1.out hb')
  have R2 := Aside0.mk (Kd.C_below R1.out hb')
  have CA2 := Aside0.mk (Kd.C_below CA1.out hb')
  have CO2 := Aside0.mk (Kd.C_below hCo hbx)
  have CQ2 := Aside0.mk (Kd.C_below hCr hbx)
  have Y2 := Aside0.mk (blk_new w2 (.cells #[.int .u8 2, .int .u8 2, .int .u8 0, .int .u32 5, .slice Ao 0 co, .slice Ar 1 cr] 27))
  clear hO hS hb hbx hb' hCo hCr B1 X1 R1 CA1
  go_wp2_with fail
  refine (packets_Put.calls 0 0 0 0 none 0 [] none 0 [] [] 1 _ (Kd.C_nil _ _) (Nat.le_refl _) (Kd.C_nil _ _) (Nat.le_refl _) alive7_c).mono ?_
  rintro e w3 ⟨vc, rfl, hO, hb⟩
  obtain ⟨Ac, cc, rfl, hcc, hCc⟩ := Kd.R_reads hO
  have B3 := Aside0.mk (below_step B2.out hb)
  have X3 := Aside0.mk (blk_below X2.out hb)
  have R3 := Aside0.mk (Kd.C_below R2.out hb)
  have CA3 := Aside0.mk (Kd.C_below CA2.out hb)
  have CO3 := Aside0.mk (Kd.C_below CO2.out hb)
  have CQ3 := Aside0.mk (Kd.C_below CQ2.out hb)
  have Y3 := Aside0.mk (blk_below Y2.out hb)
  clear B2 X2 R2 CA2 CO2 CQ2 Y2
  clear hO hb hCc hcc
  go_wp2_with fail
  refine (packets_Put.calls 1 4 0 0 none 0 [] none 0 [] [] 1 w3 (Kd.C_nil _ _) (Nat.le_refl _) (Kd.C_nil _ _) (Nat.le_refl _) alive7_d).mono ?_
  rintro e w4 ⟨vd, rfl, hO, hb⟩
  obtain ⟨Ad, cd, rfl, hcd, hCd⟩ := Kd.R_reads hO
  have B4 := Aside0.mk (below_step B3.out hb)
  have X4 := Aside0.mk (blk_below X3.out hb)
  have R4 := Aside0.mk (Kd.C_below R3.out hb)
  have CA4 := Aside0.mk (Kd.C_below CA3.out hb)
  have CO4 := Aside0.mk (Kd.C_below CO3.out hb)
  have CQ4 := Aside0.mk (Kd.C_below CQ3.out hb)
  have Y4 := Aside0.mk (blk_below Y3.out hb)
  clear B3 X3 R3 CA3 CO3 CQ3 Y3
  clear hO hb hCd hcd
  go_wp2_with fail
  refine (packets_Put.calls 1 0 0 0 (some ⟨w4.heap.size, 0, none⟩) 1 [⟨1, tZ, t0, 0⟩] none 0 [] [] 1 _ (C_lit (cells := [.int .u8 1, .string tZ, .string t0, .int .u32 0]) (blk_new w4 _) (reps_1 (k62_mk _ ⟨1, tZ, t0, 0⟩)) (by decide)) (by decide) (Kd.C_nil _ _) (Nat.le_refl _) alive7_e).mono ?_
  rintro e w5 ⟨ve, rfl, hO, hb0⟩
  have hb := below_step (below_alloc (Below.refl w4.heap.size w4) _) hb0
  obtain ⟨Ae, ce, rfl, hce, hCe⟩ := Kd.R_reads hO
  have B5 := Aside0.mk (below_step B4.out hb)
  have X5 := Aside0.mk (blk_below X4.out hb)
  have R5 := Aside0.mk (Kd.C_below R4.out hb)
  have CA5 := Aside0.mk (Kd.C_below CA4.out hb)
  have CO5 := Aside0.mk (Kd.C_below CO4.out hb)
  have CQ5 := Aside0.mk (Kd.C_below CQ4.out hb)
  have Y5 := Aside0.mk (blk_below Y4.out hb)
  clear B4 X4 R4 CA4 CO4 CQ4 Y4
  clear hO hb hb0 hCe hce
  go_wp2_with fail
  refine (packets_Get.calls none 0 [] 0 0 0 0 [] [] 4 w5 (Kd.C_nil _ _) (Nat.le_refl _) alive7_g).mono ?_
  rintro e w6 ⟨vf, vg, rfl, hO, hS, hb0⟩
  obtain ⟨Af, cf, rfl, hcf, hCf⟩ := Kd.R_reads hO
  obtain ⟨Ag, cg, rfl, hcg, hCg⟩ := Kd.R_reads (Kd.S_R hS)
  have hb := below_step hb0 (below_alloc (Below.refl w6.heap.size w6) (.cells #[.int .u8 0, .int .u8 0, .int .u8 0, .int .u32 0, .slice Af 0 cf, .slice Ag 0 cg] 27))
  have B6 := Aside0.mk (below_step B5.out hb)
  have X6 := Aside0.mk (blk_below X5.out hb)
  have R6 := Aside0.mk (Kd.C_below R5.out hb)
  have CA6 := Aside0.mk (Kd.C_below CA5.out hb)
  have CO6 := Aside0.mk (Kd.C_below CO5.out hb)
  have CQ6 := Aside0.mk (Kd.C_below CQ5.out hb)
  have Y6 := Aside0.mk (blk_below Y5.out hb)
  clear B5 X5 R5 CA5 CO5 CQ5 Y5
  have hcva := Kd.C_string (P := Tryd.prog) (src := 32) (dst := 9) (c := ca) Tryd.underlying32 Tryd.underlying5 Tryd.underlying9 CA6.out
  rw [alive7_z] at hcva
  obtain ⟨⟨x0, x1, x2, x3, x4, x5⟩, _⟩ := blk6p X6.out
  obtain ⟨⟨y0, y1, y2, y3, y4, y5⟩, _⟩ := blk6p Y6.out
  clear hO hS hb hb0 hCf hcf hCg hcg
  go_wp2_with fail
  refine (concordatlaw01_SameMsg.calls 10 2 2 0 5 Ao co [] Ar cr [⟨[]⟩] 2 2 0 5 none 0 [] (some ⟨w.heap.size, 0, none⟩) 1 [⟨[]⟩] true _ CO6.out hco CQ6.out hcr (Kd.C_nil _ _) (Nat.le_refl _) R6.out (by decide) alive7_s).mono ?_
  rintro e w7 ⟨rfl, hb⟩
  have B7 := Aside0.mk (below_step B6.out hb)
  have X7 := Aside0.mk (blk_below X6.out hb)
  have R7 := Aside0.mk (Kd.C_below R6.out hb)
  clear hb hcva x0 x1 x2 x3 x4 x5 y0 y1 y2 y3 y4 y5 B6 X6 R6 CA6 CO6 CQ6 Y6
  obtain ⟨⟨x0, x1, x2, x3, x4, x5⟩, _⟩ := blk6p X7.out
  go_wp2_with fail
  refine (packets_Text.calls 2 2 0 5 none 0 [] (some ⟨w.heap.size, 0, none⟩) 1 [⟨[]⟩] _ w7 (Kd.C_nil _ _) (Nat.le_refl _) R7.out (by decide) alive7_t (TabOk.below HT.out B7.out)).mono ?_
  rintro e w8 ⟨rfl, hb⟩
  have B8 := Aside0.mk (below_step B7.out hb)
  clear hb x0 x1 x2 x3 x4 x5 X7 R7 B7
  go_wp2_with fail
  refine (packets_Text.calls 0 0 0 0 none 0 [] none 0 [] _ w8 (Kd.C_nil _ _) (Nat.le_refl _) (Kd.C_nil _ _) (Nat.le_refl _) alive7_u (TabOk.below HT.out B8.out)).mono ?_
  rintro e w9 ⟨rfl, hb⟩
  have B9 := Aside0.mk (below_step B8.out hb)
  clear hb B8
  go_wp2
  go_ret
  exact ⟨rfl, B9.out⟩
end Go.Proofs.YtcohodkpppmaoaaDoor.Q
