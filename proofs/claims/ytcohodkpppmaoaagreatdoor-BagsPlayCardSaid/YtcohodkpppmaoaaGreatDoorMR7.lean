/-
  The book's lists of kind Row: all are as they were marked.
  The book's lists of kind Op: each is written over with its marks.
  The book's lists of kind Op: each grows by forty marks.
  The book's lists of kind Op: all are as they were marked.
  The book's lists of kind Result: each is written over with its marks.
  The book's lists of kind Result: each grows by forty marks.
  The book's lists of kind Result: all are as they were marked.
-/
import Derived.Test.YtcohodkpppmaoaaGreatDoorMR5
import Derived.Test.YtcohodkpppmaoaaGreatDoorMR6
import Derived.WalkSpells
import Derived.BigRegion
set_option linter.unusedSimpArgs false
set_option linter.unusedVariables false
namespace Go.Proofs.YtcohodkpppmaoaaGreatDoor.Q
open Go.RowKit Go.Proofs.YtcohodkpppmaoaaGreatDoorW.PrintWords Go.Proofs.YtcohodkpppmaoaaGreatDoorW.PrintLast Go.Proofs.YtcohodkpppmaoaaGreatDoorW.PrintMore
set_option linter.unusedVariables false

set_option maxHeartbeats 6400000 in
set_option maxRecDepth 100000 in
theorem lookRow_calls (w : World) (g : Nat) (bc : Array Value) (hb : w.heap[g]? = some (.cells bc 44 (0, 0))) (V : Value) (hV : bc[5]? = some V) (E : List Ent) (F : List Nat) (HR : Fd.Row (fdC fdRow.k mkRow) 184 w F V E)
    (hn : ∀ x ∈ E, (0 ≤ x.num ∧ x.num ≤ 1000000000000000) ∧ x.len ≤ 1000000000) (hT : TabOk w) :
    Calls Tryz.prog 102 #[.pointer (some ⟨g, 0, none⟩)] w fun e w' => e = .returned (.bool true) ∧ Below w.heap.size w w' := by
  obtain ⟨A1, c1, ev, hc1, hC1⟩ := Fd.row_reads HR
  subst ev
  have hu := Tryz.underlying44
  have huh := Tryz.underlying184
  have hlE : E.length ≤ maxLen := Kd.C_max hC1
  unfold maxLen at hlE
  have HB := Aside0.mk hb
  have HN := Aside0.mk hn
  have HT := Aside0.mk hT
  have HR0 := Aside0.mk HR
  have HB0 := Aside0.mk (Below.refl w.heap.size w)
  have q1 : w.cell? ⟨g, 5, none⟩ = some (.slice A1 E.length c1) := by simp [World.cell?, hb, hV]
  clear HR hb hn hT hC1
  go_enter Tryz.func102, Tryz.ntmps102
  go_wp2
  clear q1
  go_loopw [3] (fun i wr => ∃ k : Nat, k ≤ E.length ∧ i = .int .i64 k ∧ Aside0 (Below w.heap.size w wr)) (fun i _ => E.length - (intOf i).toNat)
  case atStart => exact ⟨0, Nat.zero_le _, rfl, HB0⟩
  case round =>
    clear HB0
    obtain ⟨wq, hwq⟩ : ∃ wq, wq = wr := ⟨_, rfl⟩
    subst hwq
    obtain ⟨k, hk, rfl, HBQ⟩ := hrel
    have hbr := blk_below HB.out HBQ.out
    have q1 : wq.cell? ⟨g, 5, none⟩ = some (.slice A1 E.length c1) := by simp [World.cell?, hbr, hV]
    clear hbr
    by_cases hlt : k < E.length
    · have hlt' : (k : Int) < (E.length : Int) := by omega
      have hk0 : (0 : Int) ≤ (k : Int) := by omega
      obtain ⟨inner, G, ho, he, rfl⟩ := Fd.row_below HR0.out HBQ.out
      obtain ⟨c0, c, c2, F0, F', F1, rfl, hl0, rfl, _, hM, _⟩ := Fd.els_at hlt he
      obtain ⟨x, hxe⟩ : ∃ x, E[k] = x := ⟨_, rfl⟩
      rw [hxe] at hM
      obtain ⟨gh, cap, ev, _, _⟩ := ho.form (by omega)
      injection ev with ea _ ec
      subst ea ec
      obtain ⟨L, rfl, hS⟩ := hM
      obtain ⟨Av, cv, Al, cl, hAv, ⟨gl, rfl⟩, hxv, rfl, _, _, _, _⟩ := hS.2 wq (fun _ _ => rfl)
      have hl0' : c0.length = k * 3 := hl0
      have hcell : ∀ j u, [x.v, .slice (some ⟨gl, 0, none⟩) (x.len + 40) cl, .int .i64 x.num][j]? = some u → wq.cell? ⟨gh, k * 3 + j, none⟩ = some u := by
        intro j u hu
        have h := ho.cells (g := gh) rfl (k * 3 + j) u (by rw [List.getElem?_append_right (by omega), hl0', Nat.add_sub_cancel_left, List.getElem?_append_left (by exact (List.getElem?_eq_some_iff.1 hu).1)]; exact hu)
        rwa [add_plain] at h
      have d0 := hcell 0 (.slice Av x.len cv) (by rw [← hxv]; rfl)
      have d1 := hcell 1 (.slice (some ⟨gl, 0, none⟩) (x.len + 40) cl) rfl
      have d2 := hcell 2 (.int .i64 x.num) rfl
      rw [Nat.add_zero] at d0
      obtain ⟨⟨hn0, hn1⟩, hxn⟩ := HN.out x (hxe ▸ List.getElem_mem hlt)
      obtain ⟨num, hnum⟩ : ∃ num, x.num = num := ⟨_, rfl⟩
      rw [hnum] at d2 hn0 hn1
      have HS := Aside0.mk hS
      have HNU := Aside0.mk hnum
      have HXV := Aside0.mk hxv
      have hw40 : IntKind.i64.wrap ((x.len : Int) + 40) = (x.len : Int) + 40 := IntWalk.i64_in _ (by omega)
      have hc40 : (((x.len + 40 : Nat) : Int)) = (x.len : Int) + 40 := by omega
      clear hcell hnum hxe ho he hl0 hl0' hS
      go_wp2_with fail
      obtain ⟨wo, hwo⟩ : ∃ wo, wo = wq.alloc (.cells #[.slice Av x.len cv, .slice (some ⟨gl, 0, none⟩) (x.len + 40) cl, .int .i64 num] 184) := ⟨_, rfl⟩
      have hbo : Below wq.heap.size wq wo := by rw [hwo]; exact below_alloc (Below.refl _ _) _
      have HBX := Aside0.mk (show wo.heap[wq.heap.size]? = some (.cells #[.slice Av x.len cv, .slice (some ⟨gl, 0, none⟩) (x.len + 40) cl, .int .i64 num] 184 (0, 0)) from by rw [hwo]; exact blk_new wq _)
      have HWO := Aside0.mk hbo
      have HBO := Aside0.mk (below_step HBQ.out hbo)
      rw [← hwo]
      clear hbo d0 d1 d2 q1
      go_loopw [5] (fun i wr => ∃ m : Nat, m ≤ x.len + 40 ∧ i = .int .i64 m ∧ Aside0 (Below wo.heap.size wo wr)) (fun i _ => x.len + 40 - (intOf i).toNat)
      case atStart => exact ⟨0, Nat.zero_le _, rfl, Aside0.mk (Below.refl _ _)⟩
      case round =>
        obtain ⟨m, hm, rfl, HI⟩ := hrel
        have hbx := blk_below HBX.out HI.out
        have hBX := Aside0.mk hbx
        have b0 := blk_cell hbx 0
        have b1 := blk_cell hbx 1
        have b2 := blk_cell hbx 2
        have HBR := Aside0.mk (below_step HBO.out HI.out)
        have hqr := below_step HWO.out HI.out
        have hbl := blk_lt hbx
        by_cases hml : m < x.len + 40
        · have hml' : (m : Int) < (x.len : Int) + 40 := by omega
          have hm0 : (0 : Int) ≤ (m : Int) := by omega
          obtain ⟨Av', cv', Al', cl', hAv', _, hxv', hL', _, _, hCv, hCl⟩ := HS.out.2 wr (fun b hb => hqr.block b (HS.out.1 b hb))
          have ex := HXV.out.symm.trans hxv'
          injection ex with ex1 _ ex2
          subst ex1 ex2
          injection hL' with ex1 _ ex2
          subst ex1 ex2
          rw [HNU.out] at hCv hCl
          obtain ⟨cc, hK, hcc⟩ := marks_at hCl m hml
          obtain rfl : cc = [.string (wordOf num), .int .u32 0] := k148_open hK
          have hd1 := below_drew (Below.refl wr.heap.size wr)
          have HD1 := Aside0.mk hd1
          have hcc0 : wr.cell? ⟨gl, m * 2, none⟩ = some (.string (wordOf num)) := hcc 0 _ rfl
          have hcc1 : wr.cell? ⟨gl, m * 2 + 1, none⟩ = some (.int .u32 0) := hcc 1 _ rfl
          by_cases hml2 : m < x.len
          · have hml2' : (m : Int) < (x.len : Int) := by omega
            obtain ⟨gv, rfl⟩ : ∃ gv, Av = some ⟨gv, 0, none⟩ := by
              rcases hAv with h | h
              · omega
              · exact h
            obtain ⟨cc', hK', hcc'⟩ := marks_at hCv m hml2
            obtain rfl : cc' = [.string (wordOf num), .int .u32 0] := k148_open hK'
            have hcc'0 : wr.cell? ⟨gv, m * 2, none⟩ = some (.string (wordOf num)) := hcc' 0 _ rfl
            have hcc'1 : wr.cell? ⟨gv, m * 2 + 1, none⟩ = some (.int .u32 0) := hcc' 1 _ rfl
            go_wp2_with fail
            have HS0 := Aside0.mk (show wr.drew.cell? ⟨wq.heap.size, 0, none⟩ = some (.slice (some ⟨gv, 0, none⟩) x.len cv) ∧ wr.drew.cell? ⟨wq.heap.size, 1, none⟩ = some (.slice (some ⟨gl, 0, none⟩) (x.len + 40) cl) ∧ wr.drew.cell? ⟨wq.heap.size, 2, none⟩ = some (.int .i64 num) ∧ wr.drew.cell? ⟨gl, m * 2, none⟩ = some (.string (wordOf num)) ∧ wr.drew.cell? ⟨gl, m * 2 + 1, none⟩ = some (.int .u32 0) ∧ wr.drew.cell? ⟨gv, m * 2, none⟩ = some (.string (wordOf num)) ∧ wr.drew.cell? ⟨gv, m * 2 + 1, none⟩ = some (.int .u32 0) from ⟨cell_on hd1 b0, cell_on hd1 b1, cell_on hd1 b2, cell_on hd1 hcc0, cell_on hd1 hcc1, cell_on hd1 hcc'0, cell_on hd1 hcc'1⟩)
            have HF := Aside0.mk (show wr.cell? ⟨wq.heap.size, 0, none⟩ = some (.slice (some ⟨gv, 0, none⟩) x.len cv) ∧ wr.cell? ⟨wq.heap.size, 1, none⟩ = some (.slice (some ⟨gl, 0, none⟩) (x.len + 40) cl) ∧ wr.cell? ⟨wq.heap.size, 2, none⟩ = some (.int .i64 num) ∧ wr.cell? ⟨gl, m * 2, none⟩ = some (.string (wordOf num)) ∧ wr.cell? ⟨gl, m * 2 + 1, none⟩ = some (.int .u32 0) ∧ wr.cell? ⟨gv, m * 2, none⟩ = some (.string (wordOf num)) ∧ wr.cell? ⟨gv, m * 2 + 1, none⟩ = some (.int .u32 0) from ⟨b0, b1, b2, hcc0, hcc1, hcc'0, hcc'1⟩)
            have C1 := Aside0.mk (concordatlaw01_isRow.calls (wordOf num) 0 num true wr.drew (by unfold concordatlaw01_isRow.f; rw [word_f hn0 hn1]; simp) (TabOk.below HT.out (below_step HBR.out HD1.out)))
            first | (go_region_held3 (fun w' : World => w'.cell? ⟨wq.heap.size, 0, none⟩ = some (.slice (some ⟨gv, 0, none⟩) x.len cv) ∧ w'.cell? ⟨wq.heap.size, 1, none⟩ = some (.slice (some ⟨gl, 0, none⟩) (x.len + 40) cl) ∧ w'.cell? ⟨wq.heap.size, 2, none⟩ = some (.int .i64 num) ∧ w'.cell? ⟨gl, m * 2, none⟩ = some (.string (wordOf num)) ∧ w'.cell? ⟨gl, m * 2 + 1, none⟩ = some (.int .u32 0) ∧ w'.cell? ⟨gv, m * 2, none⟩ = some (.string (wordOf num)) ∧ w'.cell? ⟨gv, m * 2 + 1, none⟩ = some (.int .u32 0)) (first | with_reducible exact HS0.out | with_reducible exact HS1.out | with_reducible exact HS2.out) (first
              | (go_at_call 180
                 with_reducible refine C1.out.mono ?_
                 rintro e w1 ⟨rfl, hb1⟩
                 have HB1 := Aside0.mk (below_step HD1.out hb1)
                 have C2 := Aside0.mk (concordatlaw01_isRow.calls (wordOf num) 0 num true w1 (by unfold concordatlaw01_isRow.f; rw [word_f hn0 hn1]; simp) (TabOk.below HT.out (below_step HBR.out HB1.out)))
                 have HS1 := Aside0.mk (show w1.cell? ⟨wq.heap.size, 0, none⟩ = some (.slice (some ⟨gv, 0, none⟩) x.len cv) ∧ w1.cell? ⟨wq.heap.size, 1, none⟩ = some (.slice (some ⟨gl, 0, none⟩) (x.len + 40) cl) ∧ w1.cell? ⟨wq.heap.size, 2, none⟩ = some (.int .i64 num) ∧ w1.cell? ⟨gl, m * 2, none⟩ = some (.string (wordOf num)) ∧ w1.cell? ⟨gl, m * 2 + 1, none⟩ = some (.int .u32 0) ∧ w1.cell? ⟨gv, m * 2, none⟩ = some (.string (wordOf num)) ∧ w1.cell? ⟨gv, m * 2 + 1, none⟩ = some (.int .u32 0) from ⟨cell_on hb1 (HS0.out.1), cell_on hb1 (HS0.out.2.1), cell_on hb1 (HS0.out.2.2.1), cell_on hb1 (HS0.out.2.2.2.1), cell_on hb1 (HS0.out.2.2.2.2.1), cell_on hb1 (HS0.out.2.2.2.2.2.1), cell_on hb1 (HS0.out.2.2.2.2.2.2)⟩)
                 clear hb1)
              | (go_at_call 180
                 with_reducible refine C2.out.mono ?_
                 rintro e w2 ⟨rfl, hb2⟩
                 have HB2 := Aside0.mk (below_step HB1.out hb2)
                 have HS2 := Aside0.mk (show w2.cell? ⟨wq.heap.size, 0, none⟩ = some (.slice (some ⟨gv, 0, none⟩) x.len cv) ∧ w2.cell? ⟨wq.heap.size, 1, none⟩ = some (.slice (some ⟨gl, 0, none⟩) (x.len + 40) cl) ∧ w2.cell? ⟨wq.heap.size, 2, none⟩ = some (.int .i64 num) ∧ w2.cell? ⟨gl, m * 2, none⟩ = some (.string (wordOf num)) ∧ w2.cell? ⟨gl, m * 2 + 1, none⟩ = some (.int .u32 0) ∧ w2.cell? ⟨gv, m * 2, none⟩ = some (.string (wordOf num)) ∧ w2.cell? ⟨gv, m * 2 + 1, none⟩ = some (.int .u32 0) from ⟨cell_on hb2 (HS1.out.1), cell_on hb2 (HS1.out.2.1), cell_on hb2 (HS1.out.2.2.1), cell_on hb2 (HS1.out.2.2.2.1), cell_on hb2 (HS1.out.2.2.2.2.1), cell_on hb2 (HS1.out.2.2.2.2.2.1), cell_on hb2 (HS1.out.2.2.2.2.2.2)⟩)
                 clear hb2))) | fail "held3"
            all_goals
              go_wp2
              refine ⟨⟨m + 1, by omega, by first | rfl | simp, Aside0.mk (below_step HI.out HB2.out)⟩, ?_⟩
              try simp only [intOf]
              omega
          · have hml2' : ¬ ((m : Int) < (x.len : Int)) := by omega
            go_wp2_with fail
            have HS0 := Aside0.mk (show wr.drew.cell? ⟨wq.heap.size, 0, none⟩ = some (.slice Av x.len cv) ∧ wr.drew.cell? ⟨wq.heap.size, 1, none⟩ = some (.slice (some ⟨gl, 0, none⟩) (x.len + 40) cl) ∧ wr.drew.cell? ⟨wq.heap.size, 2, none⟩ = some (.int .i64 num) ∧ wr.drew.cell? ⟨gl, m * 2, none⟩ = some (.string (wordOf num)) ∧ wr.drew.cell? ⟨gl, m * 2 + 1, none⟩ = some (.int .u32 0) from ⟨cell_on hd1 b0, cell_on hd1 b1, cell_on hd1 b2, cell_on hd1 hcc0, cell_on hd1 hcc1⟩)
            refine wp_region_held_drew (S := fun w' : World => w'.cell? ⟨wq.heap.size, 0, none⟩ = some (.slice Av x.len cv) ∧ w'.cell? ⟨wq.heap.size, 1, none⟩ = some (.slice (some ⟨gl, 0, none⟩) (x.len + 40) cl) ∧ w'.cell? ⟨wq.heap.size, 2, none⟩ = some (.int .i64 num) ∧ w'.cell? ⟨gl, m * 2, none⟩ = some (.string (wordOf num)) ∧ w'.cell? ⟨gl, m * 2 + 1, none⟩ = some (.int .u32 0)) (by kernel_rfl) HS0.out (fun _ => ?_)
            refine jrun (i := 0) (v := ?_) rfl rfl (by kernel_rfl) (by kernel_rfl) (by kernel_rfl) (by kernel_rfl) (fun _ _ _ h => h) HS0.out ?_ ?_
            rotate_left
            · rintro W' ⟨s0, s1, s2, s3, s4⟩; simp only [List.getElem_toArray, List.getElem_cons_succ, List.getElem_cons_zero]; go_simp; try with_reducible rfl
            (try simp only [Act.put, List.setIfInBounds_toArray, List.set_cons_zero, List.set_cons_succ])
            refine jrun (i := 1) (v := ?_) rfl rfl (by kernel_rfl) (by kernel_rfl) (by kernel_rfl) (by kernel_rfl) (fun _ _ _ h => h) HS0.out ?_ ?_
            rotate_left
            · rintro W' ⟨s0, s1, s2, s3, s4⟩; simp only [List.getElem_toArray, List.getElem_cons_succ, List.getElem_cons_zero]; go_simp; try with_reducible rfl
            (try simp only [Act.put, List.setIfInBounds_toArray, List.set_cons_zero, List.set_cons_succ])
            refine jrun (i := 2) (v := ?_) rfl rfl (by kernel_rfl) (by kernel_rfl) (by kernel_rfl) (by kernel_rfl) (fun _ _ _ h => h) HS0.out ?_ ?_
            rotate_left
            · rintro W' ⟨s0, s1, s2, s3, s4⟩; simp only [List.getElem_toArray, List.getElem_cons_succ, List.getElem_cons_zero]; go_simp; try with_reducible rfl
            (try simp only [Act.put, List.setIfInBounds_toArray, List.set_cons_zero, List.set_cons_succ])
            refine jrun (i := 3) (v := ?_) rfl rfl (by kernel_rfl) (by kernel_rfl) (by kernel_rfl) (by kernel_rfl) (fun _ _ _ h => h) HS0.out ?_ ?_
            rotate_left
            · rintro W' ⟨s0, s1, s2, s3, s4⟩; simp only [List.getElem_toArray, List.getElem_cons_succ, List.getElem_cons_zero]; go_simp; try with_reducible rfl
            (try simp only [Act.put, List.setIfInBounds_toArray, List.set_cons_zero, List.set_cons_succ])
            refine jrun (i := 4) (v := ?_) rfl rfl (by kernel_rfl) (by kernel_rfl) (by kernel_rfl) (by kernel_rfl) (fun _ _ _ h => h) HS0.out ?_ ?_
            rotate_left
            · rintro W' ⟨s0, s1, s2, s3, s4⟩; simp only [List.getElem_toArray, List.getElem_cons_succ, List.getElem_cons_zero]; go_simp; try with_reducible rfl
            (try simp only [Act.put, List.setIfInBounds_toArray, List.set_cons_zero, List.set_cons_succ])
            refine jrun (i := 5) (v := ?_) rfl rfl (by kernel_rfl) (by kernel_rfl) (by kernel_rfl) (by kernel_rfl) (fun _ _ _ h => h) HS0.out ?_ ?_
            rotate_left
            · rintro W' ⟨s0, s1, s2, s3, s4⟩; simp only [List.getElem_toArray, List.getElem_cons_succ, List.getElem_cons_zero]; go_simp; try with_reducible rfl
            (try simp only [Act.put, List.setIfInBounds_toArray, List.set_cons_zero, List.set_cons_succ])
            refine jrun (i := 6) (v := ?_) rfl rfl (by kernel_rfl) (by kernel_rfl) (by kernel_rfl) (by kernel_rfl) (fun _ _ _ h => h) HS0.out ?_ ?_
            rotate_left
            · rintro W' ⟨s0, s1, s2, s3, s4⟩; simp only [List.getElem_toArray, List.getElem_cons_succ, List.getElem_cons_zero]; go_simp; try with_reducible rfl
            (try simp only [Act.put, List.setIfInBounds_toArray, List.set_cons_zero, List.set_cons_succ])
            refine wpAnyH_ready (rs := [7]) (by kernel_rfl) (by simp) ?_
            refine AllReadyH.cons rfl (fun K hK => ?_) AllReadyH.nil
            rw [if_pos (by kernel_rfl)]
            simp only [List.getElem_toArray, List.getElem_cons_succ, List.getElem_cons_zero]
            go_simp
            (go_at_call 180; refine (concordatlaw01_isRow.calls (wordOf num) 0 num true wr.drew (by unfold concordatlaw01_isRow.f; rw [word_f hn0 hn1]; simp) (TabOk.below HT.out (below_step HBR.out HD1.out))).mono ?_; rintro e w1 ⟨rfl, hb1⟩; have HB1 := Aside0.mk (below_step HD1.out hb1); have HS1 := Aside0.mk (show w1.cell? ⟨wq.heap.size, 0, none⟩ = some (.slice Av x.len cv) ∧ w1.cell? ⟨wq.heap.size, 1, none⟩ = some (.slice (some ⟨gl, 0, none⟩) (x.len + 40) cl) ∧ w1.cell? ⟨wq.heap.size, 2, none⟩ = some (.int .i64 num) ∧ w1.cell? ⟨gl, m * 2, none⟩ = some (.string (wordOf num)) ∧ w1.cell? ⟨gl, m * 2 + 1, none⟩ = some (.int .u32 0) from ⟨cell_on hb1 (HS0.out.1), cell_on hb1 (HS0.out.2.1), cell_on hb1 (HS0.out.2.2.1), cell_on hb1 (HS0.out.2.2.2.1), cell_on hb1 (HS0.out.2.2.2.2)⟩); clear hb1)
            refine hK.out _ _ HS1.out (fun _ => ?_)
            clear hK K
            (try simp only [Act.put, List.setIfInBounds_toArray, List.set_cons_zero, List.set_cons_succ])
            refine jrun (i := 8) (v := ?_) rfl rfl (by kernel_rfl) (by kernel_rfl) (by kernel_rfl) (by kernel_rfl) (fun _ _ _ h => h) HS1.out ?_ ?_
            rotate_left
            · rintro W' ⟨s0, s1, s2, s3, s4⟩; simp only [List.getElem_toArray, List.getElem_cons_succ, List.getElem_cons_zero]; go_simp; try with_reducible rfl
            (try simp only [Act.put, List.setIfInBounds_toArray, List.set_cons_zero, List.set_cons_succ])
            refine jrun (i := 9) (v := ?_) rfl rfl (by kernel_rfl) (by kernel_rfl) (by kernel_rfl) (by kernel_rfl) (fun _ _ _ h => h) HS1.out ?_ ?_
            rotate_left
            · rintro W' ⟨s0, s1, s2, s3, s4⟩; simp only [List.getElem_toArray, List.getElem_cons_succ, List.getElem_cons_zero]; go_simp; try with_reducible rfl
            (try simp only [Act.put, List.setIfInBounds_toArray, List.set_cons_zero, List.set_cons_succ])
            refine jrun (i := 10) (v := ?_) rfl rfl (by kernel_rfl) (by kernel_rfl) (by kernel_rfl) (by kernel_rfl) (fun _ _ _ h => h) HS1.out ?_ ?_
            rotate_left
            · rintro W' ⟨s0, s1, s2, s3, s4⟩; simp only [List.getElem_toArray, List.getElem_cons_succ, List.getElem_cons_zero]; go_simp; try with_reducible rfl
            (try simp only [Act.put, List.setIfInBounds_toArray, List.set_cons_zero, List.set_cons_succ])
            refine jrun (i := 11) (v := ?_) rfl rfl (by kernel_rfl) (by kernel_rfl) (by kernel_rfl) (by kernel_rfl) (fun _ _ _ h => h) HS1.out ?_ ?_
            rotate_left
            · rintro W' ⟨s0, s1, s2, s3, s4⟩; simp only [List.getElem_toArray, List.getElem_cons_succ, List.getElem_cons_zero]; go_simp; try with_reducible rfl
            (try simp only [Act.put, List.setIfInBounds_toArray, List.set_cons_zero, List.set_cons_succ])
            refine jrun (i := 12) (v := ?_) rfl rfl (by kernel_rfl) (by kernel_rfl) (by kernel_rfl) (by kernel_rfl) (fun _ _ _ h => h) HS1.out ?_ ?_
            rotate_left
            · rintro W' ⟨s0, s1, s2, s3, s4⟩; simp only [List.getElem_toArray, List.getElem_cons_succ, List.getElem_cons_zero]; go_simp; try with_reducible rfl
            (try simp only [Act.put, List.setIfInBounds_toArray, List.set_cons_zero, List.set_cons_succ])
            refine jrun (i := 13) (v := ?_) rfl rfl (by kernel_rfl) (by kernel_rfl) (by kernel_rfl) (by kernel_rfl) (fun _ _ _ h => h) HS1.out ?_ ?_
            rotate_left
            · rintro W' ⟨s0, s1, s2, s3, s4⟩; simp only [List.getElem_toArray, List.getElem_cons_succ, List.getElem_cons_zero]; go_simp; try with_reducible rfl
            (try simp only [Act.put, List.setIfInBounds_toArray, List.set_cons_zero, List.set_cons_succ])
            refine jrun (i := 14) (v := ?_) rfl rfl (by kernel_rfl) (by kernel_rfl) (by kernel_rfl) (by kernel_rfl) (fun _ _ _ h => h) HS1.out ?_ ?_
            rotate_left
            · rintro W' ⟨s0, s1, s2, s3, s4⟩; simp only [List.getElem_toArray, List.getElem_cons_succ, List.getElem_cons_zero]; go_simp; try with_reducible rfl
            (try simp only [Act.put, List.setIfInBounds_toArray, List.set_cons_zero, List.set_cons_succ])
            refine jrun (i := 15) (v := ?_) rfl rfl (by kernel_rfl) (by kernel_rfl) (by kernel_rfl) (by kernel_rfl) (fun _ _ _ h => h) HS1.out ?_ ?_
            rotate_left
            · rintro W' ⟨s0, s1, s2, s3, s4⟩; simp only [List.getElem_toArray, List.getElem_cons_succ, List.getElem_cons_zero]; go_simp; try with_reducible rfl
            (try simp only [Act.put, List.setIfInBounds_toArray, List.set_cons_zero, List.set_cons_succ])
            refine jskip (i := 16) rfl rfl (by kernel_rfl) (by kernel_rfl) (by kernel_rfl) (by kernel_rfl) (fun _ _ _ h => h) HS1.out ?_
            (try simp only [Act.put, List.setIfInBounds_toArray, List.set_cons_zero, List.set_cons_succ])
            refine jskip (i := 17) rfl rfl (by kernel_rfl) (by kernel_rfl) (by kernel_rfl) (by kernel_rfl) (fun _ _ _ h => h) HS1.out ?_
            (try simp only [Act.put, List.setIfInBounds_toArray, List.set_cons_zero, List.set_cons_succ])
            refine jskip (i := 18) rfl rfl (by kernel_rfl) (by kernel_rfl) (by kernel_rfl) (by kernel_rfl) (fun _ _ _ h => h) HS1.out ?_
            (try simp only [Act.put, List.setIfInBounds_toArray, List.set_cons_zero, List.set_cons_succ])
            refine jskip (i := 19) rfl rfl (by kernel_rfl) (by kernel_rfl) (by kernel_rfl) (by kernel_rfl) (fun _ _ _ h => h) HS1.out ?_
            (try simp only [Act.put, List.setIfInBounds_toArray, List.set_cons_zero, List.set_cons_succ])
            refine jskip (i := 20) rfl rfl (by kernel_rfl) (by kernel_rfl) (by kernel_rfl) (by kernel_rfl) (fun _ _ _ h => h) HS1.out ?_
            (try simp only [Act.put, List.setIfInBounds_toArray, List.set_cons_zero, List.set_cons_succ])
            refine jskip (i := 21) rfl rfl (by kernel_rfl) (by kernel_rfl) (by kernel_rfl) (by kernel_rfl) (fun _ _ _ h => h) HS1.out ?_
            (try simp only [Act.put, List.setIfInBounds_toArray, List.set_cons_zero, List.set_cons_succ])
            refine jskip (i := 22) rfl rfl (by kernel_rfl) (by kernel_rfl) (by kernel_rfl) (by kernel_rfl) (fun _ _ _ h => h) HS1.out ?_
            (try simp only [Act.put, List.setIfInBounds_toArray, List.set_cons_zero, List.set_cons_succ])
            refine wpAnyH_ready (rs := [23]) (by kernel_rfl) (by simp) ?_
            refine AllReadyH.cons rfl (fun K hK => ?_) AllReadyH.nil
            rw [if_neg (wanted_no (by kernel_rfl))]
            refine hK.out _ _ HS1.out (fun _ => ?_)
            clear hK K
            (try simp only [Act.put, List.setIfInBounds_toArray, List.set_cons_zero, List.set_cons_succ])
            refine jskip (i := 24) rfl rfl (by kernel_rfl) (by kernel_rfl) (by kernel_rfl) (by kernel_rfl) (fun _ _ _ h => h) HS1.out ?_
            (try simp only [Act.put, List.setIfInBounds_toArray, List.set_cons_zero, List.set_cons_succ])
            refine jrun (i := 25) (v := ?_) rfl rfl (by kernel_rfl) (by kernel_rfl) (by kernel_rfl) (by kernel_rfl) (fun _ _ _ h => h) HS1.out ?_ ?_
            rotate_left
            · rintro W' ⟨s0, s1, s2, s3, s4⟩; simp only [List.getElem_toArray, List.getElem_cons_succ, List.getElem_cons_zero]; go_simp; try with_reducible rfl
            (try simp only [Act.put, List.setIfInBounds_toArray, List.set_cons_zero, List.set_cons_succ])
            refine jrun (i := 26) (v := ?_) rfl rfl (by kernel_rfl) (by kernel_rfl) (by kernel_rfl) (by kernel_rfl) (fun _ _ _ h => h) HS1.out ?_ ?_
            rotate_left
            · rintro W' ⟨s0, s1, s2, s3, s4⟩; simp only [List.getElem_toArray, List.getElem_cons_succ, List.getElem_cons_zero]; go_simp; try with_reducible rfl
            (try simp only [Act.put, List.setIfInBounds_toArray, List.set_cons_zero, List.set_cons_succ])
            refine wpAnyH_done (by kernel_rfl) ?_ _
            go_wp2
            refine ⟨⟨m + 1, by omega, by first | rfl | simp, Aside0.mk (below_step HI.out HB1.out)⟩, ?_⟩
            try simp only [intOf]
            omega
        · go_wp2
          refine ⟨⟨k + 1, by omega, by first | rfl | simp, HBR⟩, ?_⟩
          try simp only [intOf]
          omega
    · go_wp2
      go_ret
      exact ⟨rfl, HBQ.out⟩
end Go.Proofs.YtcohodkpppmaoaaGreatDoor.Q
namespace Go.Proofs.YtcohodkpppmaoaaGreatDoor.Q
open Go.RowKit Go.Proofs.YtcohodkpppmaoaaGreatDoorW.PrintWords Go.Proofs.YtcohodkpppmaoaaGreatDoorW.PrintLast Go.Proofs.YtcohodkpppmaoaaGreatDoorW.PrintMore
set_option linter.unusedVariables false
set_option maxHeartbeats 6400000 in
set_option maxRecDepth 100000 in
theorem fillOp_calls (w : World) (g : Nat) (bc : Array Value) (hb : w.heap[g]? = some (.cells bc 44 (0, 0))) (V : Value) (hV : bc[6]? = some V) (E : List Ent) (F : List Nat) (HR : Fd.Row (fdA 82 4) 187 w F V E) (hnd : F.Nodup) (hg : g ∉ F)
    (hn : ∀ x ∈ E, 0 ≤ x.num ∧ x.num ≤ 1000000000000000) (w0 : World) (hT : TabOk w0) (hw0 : Below w0.heap.size w0 w) (hF : ∀ b ∈ F, w0.heap.size ≤ b) :
    Calls Tryz.prog 79 #[.pointer (some ⟨g, 0, none⟩)] w fun e w' => e = .returned (.tuple #[]) ∧ ∃ F', Fd.Row (fdB fdOp 82 mkOp) 187 w' F' V E ∧ F'.Nodup ∧ Keeps F w w' ∧ ∀ b ∈ F', b ∈ F ∨ w.heap.size ≤ b := by
  obtain ⟨A1, c1, ev, hc1, hC1⟩ := Fd.row_reads HR
  subst ev
  have hu := Tryz.underlying44
  have huh := Tryz.underlying187
  have hlE : E.length ≤ maxLen := Kd.C_max hC1
  unfold maxLen at hlE
  have HM0 := Aside0.mk (mix_start (dB := fdB fdOp 82 mkOp) (E' := E) HR rfl hnd rfl)
  have HB := Aside0.mk hb
  have HG := Aside0.mk hg
  have HN := Aside0.mk hn
  have HT := Aside0.mk hT
  have HW0 := Aside0.mk hw0
  have HF := Aside0.mk hF
  have q1 : w.cell? ⟨g, 6, none⟩ = some (.slice A1 E.length c1) := by simp [World.cell?, hb, hV]
  clear HR hnd hb hg hn hT hC1 hw0 hF
  go_enter Tryz.func79, Tryz.ntmps79
  go_wp2
  clear q1
  go_loopw [2] (fun i wr => ∃ k : Nat, k ≤ E.length ∧ i = .int .i64 k ∧ Aside0 (Mix (fdB fdOp 82 mkOp) (fdA 82 4) 187 w wr F (.slice A1 E.length c1) E E k)) (fun i _ => E.length - (intOf i).toNat)
  case atStart => exact ⟨0, Nat.zero_le _, rfl, HM0⟩
  case round =>
    clear HM0
    obtain ⟨wq, hwq⟩ : ∃ wq, wq = wr := ⟨_, rfl⟩
    subst hwq
    obtain ⟨k, hk, rfl, HM⟩ := hrel
    have hbr := HM.out.keep.blk HB.out HG.out
    have q1 : wq.cell? ⟨g, 6, none⟩ = some (.slice A1 E.length c1) := by simp [World.cell?, hbr, hV]
    have HBR := Aside0.mk hbr
    clear hbr
    by_cases hlt : k < E.length
    · have hlt' : (k : Int) < (E.length : Int) := by omega
      have hk0 : (0 : Int) ≤ (k : Int) := by omega
      obtain ⟨c0, cs, c2, G0, Gx, G1, gh, cap, ev, ho, hl0, _, hx, _⟩ := HM.out.next rfl hlt
      injection ev with ea _ ec
      subst ea ec
      obtain ⟨x, hxe⟩ : ∃ x, E[k] = x := ⟨_, rfl⟩
      rw [hxe] at hx
      obtain ⟨rfl, hlong, ⟨inner, hox⟩, rfl⟩ := hx
      have hcell : ∀ j u, (entCells x)[j]? = some u → wq.cell? ⟨gh, k * 3 + j, none⟩ = some u := by
        intro j u hu
        have h := ho.cells (g := gh) rfl (k * 3 + j) u (by rw [List.getElem?_append_right (by omega), hl0, Nat.add_sub_cancel_left, List.getElem?_append_left (by exact (List.getElem?_eq_some_iff.1 hu).1)]; exact hu)
        rwa [add_plain] at h
      obtain ⟨Ax, cx, hxv⟩ := own_slice hox
      have d0 := hcell 0 (.slice Ax x.len cx) (by rw [← hxv]; rfl)
      have d1 := hcell 1 (.slice none 0 0) (by rw [← hlong]; rfl)
      have d2 := hcell 2 (.int .i64 x.num) rfl
      rw [Nat.add_zero] at d0
      have hmx : x.len ≤ 9223372036854775807 := by
        rcases hox.2 with ⟨_, h⟩ | ⟨_, _, _, _, _, _, h, h2, _⟩
        · omega
        · unfold maxLen at h2
          omega
      have hnx := HN.out x (hxe ▸ List.getElem_mem hlt)
      obtain ⟨num, hnum⟩ : ∃ num, x.num = num := ⟨_, rfl⟩
      rw [hnum] at d2 hnx
      obtain ⟨hn0, hn1⟩ := hnx
      have HXV := Aside0.mk hxv
      have HXE := Aside0.mk hxe
      have HNU := Aside0.mk hnum
      have HOX := Aside0.mk hox
      have hghl : gh < wq.heap.size := own_lt ho gh rfl
      clear ho hl0 hcell hxe hnum hox hlong
      go_wp2_with fail
      obtain ⟨wo, hwo⟩ : ∃ wo, wo = wq.alloc (.cells #[.slice Ax x.len cx, .slice none 0 0, .int .i64 num] 187) := ⟨_, rfl⟩
      have hbo : Below wq.heap.size wq wo := by rw [hwo]; exact below_alloc (Below.refl _ _) _
      have HBX := Aside0.mk (show wo.heap[wq.heap.size]? = some (.cells #[.slice Ax x.len cx, .slice none 0 0, .int .i64 num] 187 (0, 0)) from by rw [hwo]; exact blk_new wq _)
      have MW := Aside0.mk (HM.out.below hbo)
      have HOO := Aside0.mk (pw_own_below HOX.out hbo)
      have hnb : ∀ b ∈ x.v.ownBlock.toList, b ≠ wq.heap.size := fun b hx => by have := own_lt HOX.out b (by simpa using hx); omega
      have HNB := Aside0.mk hnb
      have HBW := Aside0.mk (HW0.out.trans (MW.out.keep.below HF.out HW0.out.size))
      have HXL := Aside0.mk (show ∀ b ∈ x.v.ownBlock.toList, w0.heap.size ≤ b from fun b hx => by
        obtain ⟨_, _, _, _, Gx, _, _, _, _, _, _, _, hx', _, _, hs⟩ := HM.out.next rfl hlt
        rw [HXE.out] at hx'
        rcases hs b (by rw [hx'.2.2.2]; simp [hx]) with h | h
        · exact HF.out b h
        · exact Nat.le_trans HW0.out.size h)
      have HI0 := Aside0.mk (In.start (d := fdOp) (mk := mkOp x.num) ⟨_, HOO.out⟩)
      rw [← hwo]
      clear hbo hnb HM HOX d0 d1 d2 q1 HBR hghl
      go_loopw [4] (fun i wi => ∃ m : Nat, m ≤ x.len ∧ i = .int .i64 m ∧ Aside0 (In fdOp 82 (mkOp x.num) wo wi x m)) (fun i _ => x.len - (intOf i).toNat)
      case atStart => exact ⟨0, Nat.zero_le _, rfl, HI0⟩
      case round =>
        clear HI0
        obtain ⟨m, hm, rfl, HI⟩ := hrel
        have hbx := HI.out.keep.blk HBX.out (fun hx => HNB.out _ hx rfl)
        have hBX := Aside0.mk hbx
        have b0 := blk_cell hbx 0
        have b2 := blk_cell hbx 2
        have HBI := Aside0.mk (HBW.out.trans (HI.out.keep.below HXL.out HBW.out.size))
        by_cases hml : m < x.len
        · have hml' : (m : Int) < (x.len : Int) := by omega
          have hm0 : (0 : Int) ≤ (m : Int) := by omega
          obtain ⟨gx, capx, evx⟩ := HI.out.slice hml
          have ex := HXV.out.symm.trans evx
          injection ex with ex1 _ ex2
          subst ex1 ex2
          have hne : gx ≠ wq.heap.size := fun e => HNB.out gx (by rw [HXV.out]; simp [Value.ownBlock]) e
          obtain ⟨hgx, _⟩ := HI.out.cells HXV.out hml
          have hbxl : wq.heap.size < wr.heap.size := blk_lt hbx
          have hd1 := below_drew (Below.refl wr.heap.size wr)
          have HD1 := Aside0.mk hd1
          have HBD := Aside0.mk (HBI.out.trans (Below.mono hd1 HBI.out.size))
          have HS0 := Aside0.mk (show wr.drew.cell? ⟨wq.heap.size, 0, none⟩ = some (.slice (some ⟨gx, 0, none⟩) x.len cx) ∧ wr.drew.cell? ⟨wq.heap.size, 2, none⟩ = some (.int .i64 num) from ⟨(hd1.cell hbxl).trans (blk_cell hbx 0), (hd1.cell hbxl).trans (blk_cell hbx 2)⟩)
          clear hd1 evx
          go_wp2_with fail
          first | (go_region_held3 (fun w' : World => w'.cell? ⟨wq.heap.size, 0, none⟩ = some (.slice (some ⟨gx, 0, none⟩) x.len cx) ∧ w'.cell? ⟨wq.heap.size, 2, none⟩ = some (.int .i64 num)) (first | with_reducible exact HS0.out | with_reducible exact HS1.out | with_reducible exact HS2.out) (
            (go_at_call 169
             refine (op_calls num hn0 hn1 _ (TabOk.below HT.out HBD.out)).mono ?_
             rintro e w1 ⟨rfl, hb1⟩
             have hb2 : Below wr.heap.size wr w1 := below_step HD1.out hb1
             have HI1 := Aside0.mk (HI.out.below hb2)
             have HB2 := Aside0.mk hb2
             obtain ⟨hgx1, us, husl, hus⟩ := HI1.out.cells HXV.out hml
             rw [show (fdOp).k.sz = 4 from rfl] at husl
             obtain ⟨u0, y0⟩ : ∃ u, us[0]? = some u := ⟨_, List.getElem?_eq_getElem (by rw [husl]; decide)⟩
             have y0a : w1.cell? ⟨gx, m * 4, none⟩ = some u0 := (hus 0 u0 y0).1
             have y0b : w1.frozen? ⟨gx, m * 4, none⟩ = false := (hus 0 u0 y0).2
             obtain ⟨u1, y1⟩ : ∃ u, us[1]? = some u := ⟨_, List.getElem?_eq_getElem (by rw [husl]; decide)⟩
             have y1a : w1.cell? ⟨gx, m * 4 + 1, none⟩ = some u1 := (hus 1 u1 y1).1
             have y1b : w1.frozen? ⟨gx, m * 4 + 1, none⟩ = false := (hus 1 u1 y1).2
             obtain ⟨u2, y2⟩ : ∃ u, us[2]? = some u := ⟨_, List.getElem?_eq_getElem (by rw [husl]; decide)⟩
             have y2a : w1.cell? ⟨gx, m * 4 + 2, none⟩ = some u2 := (hus 2 u2 y2).1
             have y2b : w1.frozen? ⟨gx, m * 4 + 2, none⟩ = false := (hus 2 u2 y2).2
             obtain ⟨u3, y3⟩ : ∃ u, us[3]? = some u := ⟨_, List.getElem?_eq_getElem (by rw [husl]; decide)⟩
             have y3a : w1.cell? ⟨gx, m * 4 + 3, none⟩ = some u3 := (hus 3 u3 y3).1
             have y3b : w1.frozen? ⟨gx, m * 4 + 3, none⟩ = false := (hus 3 u3 y3).2
             have HS1 := Aside0.mk (show w1.cell? ⟨wq.heap.size, 0, none⟩ = some (.slice (some ⟨gx, 0, none⟩) x.len cx) ∧ w1.cell? ⟨wq.heap.size, 2, none⟩ = some (.int .i64 num) from ⟨(hb1.cell hbxl).trans HS0.out.1, (hb1.cell hbxl).trans HS0.out.2⟩)
             have HM1 := Aside0.mk (show fdOp.M w1 [] (mkOp x.num) [.int .u8 0, .string (wordOf num), .string ⟨#[]⟩, .int .u32 0] from by rw [HNU.out]; exact M_op _ num)
             have hkc := keeps_chunk (g := gx) (F := [gx]) (by simp) [.int .u8 0, .string (wordOf num), .string ⟨#[]⟩, .int .u32 0] (o := m * 4) (Keeps.refl [gx] w1)
             simp only [chunk, Nat.add_assoc, Nat.reduceAdd] at hkc
             have hx1 : wq.heap.size < w1.heap.size := Nat.lt_of_lt_of_le hbxl hb2.size
             have hh2 : (((((w1).setCell ⟨gx, m * 4, none⟩ (.int .u8 0)).setCell ⟨gx, m * 4 + 1, none⟩ (.string (wordOf num))).setCell ⟨gx, m * 4 + 2, none⟩ (.string ⟨#[]⟩)).setCell ⟨gx, m * 4 + 3, none⟩ (.int .u32 0)).cell? ⟨wq.heap.size, 0, none⟩ = some (.slice (some ⟨gx, 0, none⟩) x.len cx) ∧ (((((w1).setCell ⟨gx, m * 4, none⟩ (.int .u8 0)).setCell ⟨gx, m * 4 + 1, none⟩ (.string (wordOf num))).setCell ⟨gx, m * 4 + 2, none⟩ (.string ⟨#[]⟩)).setCell ⟨gx, m * 4 + 3, none⟩ (.int .u32 0)).cell? ⟨wq.heap.size, 2, none⟩ = some (.int .i64 num) :=
               ⟨(World.cell?_of_block (w := w1) (hkc.block _ hx1 (by simpa using hne.symm))).trans HS1.out.1, (World.cell?_of_block (w := w1) (hkc.block _ hx1 (by simpa using hne.symm))).trans HS1.out.2⟩
             have HS2 := Aside0.mk hh2
             have hi2 := HI.out.step hb2 HXV.out hml HM1.out (by simp) (fun _ h => by cases h)
             rw [show m * (fdOp).k.sz = m * 4 from rfl] at hi2
             simp only [chunk, Nat.add_assoc, Nat.reduceAdd] at hi2
             have HI2 := Aside0.mk (show In fdOp 82 (mkOp x.num) wo (((((w1).setCell ⟨gx, m * 4, none⟩ (.int .u8 0)).setCell ⟨gx, m * 4 + 1, none⟩ (.string (wordOf num))).setCell ⟨gx, m * 4 + 2, none⟩ (.string ⟨#[]⟩)).setCell ⟨gx, m * 4 + 3, none⟩ (.int .u32 0)) x (m + 1) from hi2)
             clear hh2 hi2
             clear hb1 hb2 hkc hx1 hus husl))) | fail "held3"
          all_goals
            go_wp2
            refine ⟨⟨m + 1, by omega, by first | rfl | simp, HI2⟩, ?_⟩
            try simp only [intOf]
            omega
        · go_wp2
          obtain rfl : m = x.len := by omega
          refine ⟨⟨k + 1, by omega, by first | rfl | simp, Aside0.mk (mix_in rfl MW.out hlt HXE.out HI.out)⟩, ?_⟩
          try simp only [intOf]
          omega
    · go_wp2
      go_end0
      obtain rfl : k = E.length := by omega
      exact ⟨rfl, mix_done HM.out rfl⟩
end Go.Proofs.YtcohodkpppmaoaaGreatDoor.Q
namespace Go.Proofs.YtcohodkpppmaoaaGreatDoor.Q
open Go.RowKit Go.Proofs.YtcohodkpppmaoaaGreatDoorW.PrintWords Go.Proofs.YtcohodkpppmaoaaGreatDoorW.PrintLast Go.Proofs.YtcohodkpppmaoaaGreatDoorW.PrintMore
set_option linter.unusedVariables false
theorem infoElOp : (Tryz.prog.info? 82).map (fun i => (i.zero, i.size, i.bytes)) = some (some (.agg #[.int .u8 0, .string ⟨#[]⟩, .string ⟨#[]⟩, .int .u32 0]), 4, 48) := by kernel_rfl
set_option maxHeartbeats 6400000 in
set_option maxRecDepth 100000 in
theorem growOp_calls (w : World) (g : Nat) (bc : Array Value) (hb : w.heap[g]? = some (.cells bc 44 (0, 0))) (V : Value) (hV : bc[6]? = some V) (E : List Ent) (F : List Nat) (HR : Fd.Row (fdB fdOp 82 mkOp) 187 w F V E) (hnd : F.Nodup) (hg : g ∉ F)
    (hn : ∀ x ∈ E, (0 ≤ x.num ∧ x.num ≤ 1000000000000000) ∧ x.len ≤ 1000000000) (w0 : World) (hT : TabOk w0) (hw0 : Below w0.heap.size w0 w) (hF : ∀ b ∈ F, w0.heap.size ≤ b) :
    Calls Tryz.prog 91 #[.pointer (some ⟨g, 0, none⟩)] w fun e w' => e = .returned (.tuple #[]) ∧ ∃ F', Fd.Row (fdC fdOp.k mkOp) 187 w' F' V E ∧ F'.Nodup ∧ Keeps F w w' ∧ ∀ b ∈ F', b ∈ F ∨ w.heap.size ≤ b := by
  obtain ⟨A1, c1, ev, hc1, hC1⟩ := Fd.row_reads HR
  subst ev
  have hu := Tryz.underlying44
  have huh := Tryz.underlying187
  have hlE : E.length ≤ maxLen := Kd.C_max hC1
  unfold maxLen at hlE
  have HM0 := Aside0.mk (mix_start (dB := fdC fdOp.k mkOp) (E' := E) HR rfl hnd rfl)
  have HB := Aside0.mk hb
  have HG := Aside0.mk hg
  have HN := Aside0.mk hn
  have HT := Aside0.mk hT
  have HW0 := Aside0.mk hw0
  have HF := Aside0.mk hF
  have q1 : w.cell? ⟨g, 6, none⟩ = some (.slice A1 E.length c1) := by simp [World.cell?, hb, hV]
  clear HR hnd hb hg hn hT hC1 hw0 hF
  go_enter Tryz.func91, Tryz.ntmps91
  go_wp2
  clear q1
  go_loopw [2] (fun i wr => ∃ k : Nat, k ≤ E.length ∧ i = .int .i64 k ∧ Aside0 (Mix (fdC fdOp.k mkOp) (fdB fdOp 82 mkOp) 187 w wr F (.slice A1 E.length c1) E E k)) (fun i _ => E.length - (intOf i).toNat)
  case atStart => exact ⟨0, Nat.zero_le _, rfl, HM0⟩
  case round =>
    clear HM0
    obtain ⟨wq, hwq⟩ : ∃ wq, wq = wr := ⟨_, rfl⟩
    subst hwq
    obtain ⟨k, hk, rfl, HM⟩ := hrel
    have hbr := HM.out.keep.blk HB.out HG.out
    have q1 : wq.cell? ⟨g, 6, none⟩ = some (.slice A1 E.length c1) := by simp [World.cell?, hbr, hV]
    have HBR := Aside0.mk hbr
    clear hbr
    by_cases hlt : k < E.length
    · have hlt' : (k : Int) < (E.length : Int) := by omega
      have hk0 : (0 : Int) ≤ (k : Int) := by omega
      obtain ⟨c0, cs, c2, G0, Gx, G1, gh, cap, ev, ho, hl0, he0, hx, he1, hnd', hsb'⟩ := HM.out.next rfl hlt
      injection ev with ea _ ec
      subst ea ec
      obtain ⟨x, hxe⟩ : ∃ x, E[k] = x := ⟨_, rfl⟩
      rw [hxe] at hx
      have hxM := hx
      obtain ⟨rfl, hlong, hrx⟩ := hx
      have hcell : ∀ j u, (entCells x)[j]? = some u → wq.cell? ⟨gh, k * 3 + j, none⟩ = some u := by
        intro j u hu
        have h := ho.cells (g := gh) rfl (k * 3 + j) u (by rw [List.getElem?_append_right (by omega), hl0, Nat.add_sub_cancel_left, List.getElem?_append_left (by exact (List.getElem?_eq_some_iff.1 hu).1)]; exact hu)
        rwa [add_plain] at h
      obtain ⟨Ax, cx, hxv, _, _⟩ := Fd.row_reads hrx
      rw [List.length_replicate] at hxv
      have d0 := hcell 0 (.slice Ax x.len cx) (by rw [← hxv]; rfl)
      have d1 := hcell 1 (.slice none 0 0) (by rw [← hlong]; rfl)
      have d2 := hcell 2 (.int .i64 x.num) rfl
      rw [Nat.add_zero] at d0
      have hnx := HN.out x (hxe ▸ List.getElem_mem hlt)
      obtain ⟨num, hnum⟩ : ∃ num, x.num = num := ⟨_, rfl⟩
      rw [hnum] at d2 hnx
      obtain ⟨⟨hn0, hn1⟩, hxn⟩ := hnx
      have HXV := Aside0.mk hxv
      have HXE := Aside0.mk hxe
      have HNU := Aside0.mk hnum
      have hghl : gh < wq.heap.size := own_lt ho gh rfl
      clear hcell hxe hnum hrx hlong
      go_wp2_with fail
      obtain ⟨wo, hwo⟩ : ∃ wo, wo = wq.alloc (.cells #[.slice Ax x.len cx, .slice none 0 0, .int .i64 num] 187) := ⟨_, rfl⟩
      have hbo : Below wq.heap.size wq wo := by rw [hwo]; exact below_alloc (Below.refl _ _) _
      have HBX := Aside0.mk (show wo.heap[wq.heap.size]? = some (.cells #[.slice Ax x.len cx, .slice none 0 0, .int .i64 num] 187 (0, 0)) from by rw [hwo]; exact blk_new wq _)
      have MW := Aside0.mk (HM.out.below hbo)
      have ho' := own_move ho (fun b hb => hbo.block b (own_lt ho b hb))
      have e0' := Fd.els_move (fun b hx => hbo.block b (Fd.els_lt he0 b hx)) he0
      have e1' := Fd.els_move (fun b hx => hbo.block b (Fd.els_lt he1 b hx)) he1
      have hGx := (fdB fdOp 82 mkOp).lt hxM
      have hx' := (fdB fdOp 82 mkOp).move (fun b hx => hbo.block b (hGx b hx)) hxM
      have hndx : Gx.Nodup := (List.nodup_append.1 (List.nodup_append.1 (List.nodup_append.1 hnd').2.1).2.1).1
      have HO' := Aside0.mk ho'
      have HL' := Aside0.mk hl0
      have HE0 := Aside0.mk e0'
      have HX' := Aside0.mk hx'
      have HE1 := Aside0.mk e1'
      have HND := Aside0.mk hnd'
      have HSB := Aside0.mk hsb'
      have HBW := Aside0.mk (HW0.out.trans (MW.out.keep.below HF.out HW0.out.size))
      have HXL := Aside0.mk (show ∀ b ∈ Gx, w0.heap.size ≤ b from fun b hx => by
        rcases hsb' b (by simp [hx]) with h | h
        · exact HF.out b h
        · exact Nat.le_trans HW0.out.size h)
      have HNB := Aside0.mk (show wq.heap.size ∉ Gx from fun hx => Nat.lt_irrefl _ (hGx _ hx))
      have HI0 := Aside0.mk (Gr.start hx'.2.2 hndx)
      rw [← hwo]
      clear hbo HM d0 d1 d2 q1 HBR hghl ho hl0 ho' e0' he0 he1 hx' e1' hnd' hsb' hGx hndx hxM
      have hd0 : (0 : Nat) ≤ 40 := Nat.zero_le _
      go_loopw [4, 5] (fun l i wr => ∃ m : Nat, m ≤ 40 ∧ i = .int .i64 m ∧ Aside0 (Gr fdOp 82 (mkOp x.num) wo wr Gx x l m)) (fun l i _ => 40 - (intOf i).toNat)
      case atStart => exact ⟨0, Nat.zero_le _, rfl, by rw [← HXV.out]; exact HI0⟩
      case round =>
        clear HI0
        obtain ⟨m, hm, rfl, HI⟩ := hrel
        have hbx := HI.out.keep.blk HBX.out HNB.out
        have hBX := Aside0.mk hbx
        have b2 := blk_cell hbx 2
        clear hbx
        have HBI := Aside0.mk (HBW.out.trans (HI.out.keep.below HXL.out HBW.out.size))
        by_cases hml : m < 40
        · have hml' : (m : Int) < 40 := by omega
          have hm0 : (0 : Int) ≤ (m : Int) := by omega
          go_wp2_with fail
          refine (op_calls num hn0 hn1 _ (TabOk.below HT.out HBI.out)).mono ?_
          rintro e w1 ⟨rfl, hb1⟩
          have HM1 := Aside0.mk (show fdOp.M w1 [] (mkOp x.num) [.int .u8 0, .string (wordOf num), .string ⟨#[]⟩, .int .u32 0] from by rw [HNU.out]; exact M_op _ num)
          have HB1 := Aside0.mk hb1
          clear hb1
          go_wp2_with (first | (at_builtin; refine Gr.step HI.out HB1.out rfl (.tmp 28) (.tmp 32) 47 (.agg #[.int .u8 0, .string ⟨#[]⟩, .string ⟨#[]⟩, .int .u32 0]) 48 [.int .u8 0, .string (wordOf num), .string ⟨#[]⟩, .int .u32 0] [] rfl Tryz.underlying47 infoElOp rfl (by decide) (by decide) (by simp [Act.eval, Act.put]) (by simp [Act.eval, Act.put]) HM1.out (by simp) (fun _ h => by cases h) (by omega) ?_; intro v1 w2 hg; have HG2 := Aside0.mk hg; clear hg))
          refine ⟨⟨m + 1, by omega, by first | rfl | simp, HG2⟩, ?_⟩
          try simp only [intOf]
          omega
        · obtain rfl : m = 40 := by omega
          obtain ⟨A2, c2', rfl⟩ := HI.out.len
          have hgGx : g ∉ Gx := fun hx => by
            rcases HSB.out g (by simp [hx]) with h | h
            · exact HG.out h
            · have := blk_lt HB.out
              omega
          have hbg := HI.out.keep.blk (MW.out.keep.blk HB.out HG.out) hgGx
          have q1 : wr.cell? ⟨g, 6, none⟩ = some (.slice (some ⟨gh, 0, none⟩) E.length c1) := by simp [World.cell?, hbg, hV]
          have hghx : gh ∉ Gx := fun hx => (List.nodup_append.1 HND.out).2.2 gh (by simp [Value.ownBlock]) gh (by simp [hx]) rfl
          have hor := own_move HO'.out (fun b hb => HI.out.keep.block b (own_lt HO'.out b hb) (fun hx => by rw [show b = gh from by simpa [Value.ownBlock] using hb.symm] at hx; exact hghx hx))
          have y1 : wr.cell? ⟨gh, k * 3 + 1, none⟩ = some x.long := by
            have h := hor.cells (g := gh) rfl (k * 3 + 1) x.long (by rw [HX'.out.1, List.getElem?_append_right (by rw [HL'.out]; omega), HL'.out, Nat.add_sub_cancel_left]; rfl)
            rwa [add_plain] at h
          obtain ⟨cur, hcur⟩ := own_typed hor gh rfl
          have y2 := blk_frozen hcur (k * 3 + 1)
          clear hor hcur hbg
          go_wp2
          refine ⟨⟨k + 1, by omega, by first | rfl | simp, Aside0.mk (mix_gr hlt HXE.out HO'.out HL'.out HE0.out HX'.out HE1.out HND.out HSB.out MW.out.keep HI.out)⟩, ?_⟩
          try simp only [intOf]
          omega
    · go_wp2
      go_end0
      obtain rfl : k = E.length := by omega
      exact ⟨rfl, mix_done HM.out rfl⟩
end Go.Proofs.YtcohodkpppmaoaaGreatDoor.Q
namespace Go.Proofs.YtcohodkpppmaoaaGreatDoor.Q
open Go.RowKit Go.Proofs.YtcohodkpppmaoaaGreatDoorW.PrintWords Go.Proofs.YtcohodkpppmaoaaGreatDoorW.PrintLast Go.Proofs.YtcohodkpppmaoaaGreatDoorW.PrintMore
set_option linter.unusedVariables false

set_option maxHeartbeats 6400000 in
set_option maxRecDepth 100000 in
theorem lookOp_calls (w : World) (g : Nat) (bc : Array Value) (hb : w.heap[g]? = some (.cells bc 44 (0, 0))) (V : Value) (hV : bc[6]? = some V) (E : List Ent) (F : List Nat) (HR : Fd.Row (fdC fdOp.k mkOp) 187 w F V E)
    (hn : ∀ x ∈ E, (0 ≤ x.num ∧ x.num ≤ 1000000000000000) ∧ x.len ≤ 1000000000) (hT : TabOk w) :
    Calls Tryz.prog 103 #[.pointer (some ⟨g, 0, none⟩)] w fun e w' => e = .returned (.bool true) ∧ Below w.heap.size w w' := by
  obtain ⟨A1, c1, ev, hc1, hC1⟩ := Fd.row_reads HR
  subst ev
  have hu := Tryz.underlying44
  have huh := Tryz.underlying187
  have hlE : E.length ≤ maxLen := Kd.C_max hC1
  unfold maxLen at hlE
  have HB := Aside0.mk hb
  have HN := Aside0.mk hn
  have HT := Aside0.mk hT
  have HR0 := Aside0.mk HR
  have HB0 := Aside0.mk (Below.refl w.heap.size w)
  have q1 : w.cell? ⟨g, 6, none⟩ = some (.slice A1 E.length c1) := by simp [World.cell?, hb, hV]
  clear HR hb hn hT hC1
  go_enter Tryz.func103, Tryz.ntmps103
  go_wp2
  clear q1
  go_loopw [3] (fun i wr => ∃ k : Nat, k ≤ E.length ∧ i = .int .i64 k ∧ Aside0 (Below w.heap.size w wr)) (fun i _ => E.length - (intOf i).toNat)
  case atStart => exact ⟨0, Nat.zero_le _, rfl, HB0⟩
  case round =>
    clear HB0
    obtain ⟨wq, hwq⟩ : ∃ wq, wq = wr := ⟨_, rfl⟩
    subst hwq
    obtain ⟨k, hk, rfl, HBQ⟩ := hrel
    have hbr := blk_below HB.out HBQ.out
    have q1 : wq.cell? ⟨g, 6, none⟩ = some (.slice A1 E.length c1) := by simp [World.cell?, hbr, hV]
    clear hbr
    by_cases hlt : k < E.length
    · have hlt' : (k : Int) < (E.length : Int) := by omega
      have hk0 : (0 : Int) ≤ (k : Int) := by omega
      obtain ⟨inner, G, ho, he, rfl⟩ := Fd.row_below HR0.out HBQ.out
      obtain ⟨c0, c, c2, F0, F', F1, rfl, hl0, rfl, _, hM, _⟩ := Fd.els_at hlt he
      obtain ⟨x, hxe⟩ : ∃ x, E[k] = x := ⟨_, rfl⟩
      rw [hxe] at hM
      obtain ⟨gh, cap, ev, _, _⟩ := ho.form (by omega)
      injection ev with ea _ ec
      subst ea ec
      obtain ⟨L, rfl, hS⟩ := hM
      obtain ⟨Av, cv, Al, cl, hAv, ⟨gl, rfl⟩, hxv, rfl, _, _, _, _⟩ := hS.2 wq (fun _ _ => rfl)
      have hl0' : c0.length = k * 3 := hl0
      have hcell : ∀ j u, [x.v, .slice (some ⟨gl, 0, none⟩) (x.len + 40) cl, .int .i64 x.num][j]? = some u → wq.cell? ⟨gh, k * 3 + j, none⟩ = some u := by
        intro j u hu
        have h := ho.cells (g := gh) rfl (k * 3 + j) u (by rw [List.getElem?_append_right (by omega), hl0', Nat.add_sub_cancel_left, List.getElem?_append_left (by exact (List.getElem?_eq_some_iff.1 hu).1)]; exact hu)
        rwa [add_plain] at h
      have d0 := hcell 0 (.slice Av x.len cv) (by rw [← hxv]; rfl)
      have d1 := hcell 1 (.slice (some ⟨gl, 0, none⟩) (x.len + 40) cl) rfl
      have d2 := hcell 2 (.int .i64 x.num) rfl
      rw [Nat.add_zero] at d0
      obtain ⟨⟨hn0, hn1⟩, hxn⟩ := HN.out x (hxe ▸ List.getElem_mem hlt)
      obtain ⟨num, hnum⟩ : ∃ num, x.num = num := ⟨_, rfl⟩
      rw [hnum] at d2 hn0 hn1
      have HS := Aside0.mk hS
      have HNU := Aside0.mk hnum
      have HXV := Aside0.mk hxv
      have hw40 : IntKind.i64.wrap ((x.len : Int) + 40) = (x.len : Int) + 40 := IntWalk.i64_in _ (by omega)
      have hc40 : (((x.len + 40 : Nat) : Int)) = (x.len : Int) + 40 := by omega
      clear hcell hnum hxe ho he hl0 hl0' hS
      go_wp2_with fail
      obtain ⟨wo, hwo⟩ : ∃ wo, wo = wq.alloc (.cells #[.slice Av x.len cv, .slice (some ⟨gl, 0, none⟩) (x.len + 40) cl, .int .i64 num] 187) := ⟨_, rfl⟩
      have hbo : Below wq.heap.size wq wo := by rw [hwo]; exact below_alloc (Below.refl _ _) _
      have HBX := Aside0.mk (show wo.heap[wq.heap.size]? = some (.cells #[.slice Av x.len cv, .slice (some ⟨gl, 0, none⟩) (x.len + 40) cl, .int .i64 num] 187 (0, 0)) from by rw [hwo]; exact blk_new wq _)
      have HWO := Aside0.mk hbo
      have HBO := Aside0.mk (below_step HBQ.out hbo)
      rw [← hwo]
      clear hbo d0 d1 d2 q1
      go_loopw [5] (fun i wr => ∃ m : Nat, m ≤ x.len + 40 ∧ i = .int .i64 m ∧ Aside0 (Below wo.heap.size wo wr)) (fun i _ => x.len + 40 - (intOf i).toNat)
      case atStart => exact ⟨0, Nat.zero_le _, rfl, Aside0.mk (Below.refl _ _)⟩
      case round =>
        obtain ⟨m, hm, rfl, HI⟩ := hrel
        have hbx := blk_below HBX.out HI.out
        have hBX := Aside0.mk hbx
        have b0 := blk_cell hbx 0
        have b1 := blk_cell hbx 1
        have b2 := blk_cell hbx 2
        have HBR := Aside0.mk (below_step HBO.out HI.out)
        have hqr := below_step HWO.out HI.out
        have hbl := blk_lt hbx
        by_cases hml : m < x.len + 40
        · have hml' : (m : Int) < (x.len : Int) + 40 := by omega
          have hm0 : (0 : Int) ≤ (m : Int) := by omega
          obtain ⟨Av', cv', Al', cl', hAv', _, hxv', hL', _, _, hCv, hCl⟩ := HS.out.2 wr (fun b hb => hqr.block b (HS.out.1 b hb))
          have ex := HXV.out.symm.trans hxv'
          injection ex with ex1 _ ex2
          subst ex1 ex2
          injection hL' with ex1 _ ex2
          subst ex1 ex2
          rw [HNU.out] at hCv hCl
          obtain ⟨cc, hK, hcc⟩ := marks_at hCl m hml
          obtain rfl : cc = [.int .u8 0, .string (wordOf num), .string ⟨#[]⟩, .int .u32 0] := k82_open hK
          have hd1 := below_drew (Below.refl wr.heap.size wr)
          have HD1 := Aside0.mk hd1
          have hcc0 : wr.cell? ⟨gl, m * 4, none⟩ = some (.int .u8 0) := hcc 0 _ rfl
          have hcc1 : wr.cell? ⟨gl, m * 4 + 1, none⟩ = some (.string (wordOf num)) := hcc 1 _ rfl
          have hcc2 : wr.cell? ⟨gl, m * 4 + 2, none⟩ = some (.string ⟨#[]⟩) := hcc 2 _ rfl
          have hcc3 : wr.cell? ⟨gl, m * 4 + 3, none⟩ = some (.int .u32 0) := hcc 3 _ rfl
          by_cases hml2 : m < x.len
          · have hml2' : (m : Int) < (x.len : Int) := by omega
            obtain ⟨gv, rfl⟩ : ∃ gv, Av = some ⟨gv, 0, none⟩ := by
              rcases hAv with h | h
              · omega
              · exact h
            obtain ⟨cc', hK', hcc'⟩ := marks_at hCv m hml2
            obtain rfl : cc' = [.int .u8 0, .string (wordOf num), .string ⟨#[]⟩, .int .u32 0] := k82_open hK'
            have hcc'0 : wr.cell? ⟨gv, m * 4, none⟩ = some (.int .u8 0) := hcc' 0 _ rfl
            have hcc'1 : wr.cell? ⟨gv, m * 4 + 1, none⟩ = some (.string (wordOf num)) := hcc' 1 _ rfl
            have hcc'2 : wr.cell? ⟨gv, m * 4 + 2, none⟩ = some (.string ⟨#[]⟩) := hcc' 2 _ rfl
            have hcc'3 : wr.cell? ⟨gv, m * 4 + 3, none⟩ = some (.int .u32 0) := hcc' 3 _ rfl
            go_wp2_with fail
            have HS0 := Aside0.mk (show wr.drew.cell? ⟨wq.heap.size, 0, none⟩ = some (.slice (some ⟨gv, 0, none⟩) x.len cv) ∧ wr.drew.cell? ⟨wq.heap.size, 1, none⟩ = some (.slice (some ⟨gl, 0, none⟩) (x.len + 40) cl) ∧ wr.drew.cell? ⟨wq.heap.size, 2, none⟩ = some (.int .i64 num) ∧ wr.drew.cell? ⟨gl, m * 4, none⟩ = some (.int .u8 0) ∧ wr.drew.cell? ⟨gl, m * 4 + 1, none⟩ = some (.string (wordOf num)) ∧ wr.drew.cell? ⟨gl, m * 4 + 2, none⟩ = some (.string ⟨#[]⟩) ∧ wr.drew.cell? ⟨gl, m * 4 + 3, none⟩ = some (.int .u32 0) ∧ wr.drew.cell? ⟨gv, m * 4, none⟩ = some (.int .u8 0) ∧ wr.drew.cell? ⟨gv, m * 4 + 1, none⟩ = some (.string (wordOf num)) ∧ wr.drew.cell? ⟨gv, m * 4 + 2, none⟩ = some (.string ⟨#[]⟩) ∧ wr.drew.cell? ⟨gv, m * 4 + 3, none⟩ = some (.int .u32 0) from ⟨cell_on hd1 b0, cell_on hd1 b1, cell_on hd1 b2, cell_on hd1 hcc0, cell_on hd1 hcc1, cell_on hd1 hcc2, cell_on hd1 hcc3, cell_on hd1 hcc'0, cell_on hd1 hcc'1, cell_on hd1 hcc'2, cell_on hd1 hcc'3⟩)
            have HF := Aside0.mk (show wr.cell? ⟨wq.heap.size, 0, none⟩ = some (.slice (some ⟨gv, 0, none⟩) x.len cv) ∧ wr.cell? ⟨wq.heap.size, 1, none⟩ = some (.slice (some ⟨gl, 0, none⟩) (x.len + 40) cl) ∧ wr.cell? ⟨wq.heap.size, 2, none⟩ = some (.int .i64 num) ∧ wr.cell? ⟨gl, m * 4, none⟩ = some (.int .u8 0) ∧ wr.cell? ⟨gl, m * 4 + 1, none⟩ = some (.string (wordOf num)) ∧ wr.cell? ⟨gl, m * 4 + 2, none⟩ = some (.string ⟨#[]⟩) ∧ wr.cell? ⟨gl, m * 4 + 3, none⟩ = some (.int .u32 0) ∧ wr.cell? ⟨gv, m * 4, none⟩ = some (.int .u8 0) ∧ wr.cell? ⟨gv, m * 4 + 1, none⟩ = some (.string (wordOf num)) ∧ wr.cell? ⟨gv, m * 4 + 2, none⟩ = some (.string ⟨#[]⟩) ∧ wr.cell? ⟨gv, m * 4 + 3, none⟩ = some (.int .u32 0) from ⟨b0, b1, b2, hcc0, hcc1, hcc2, hcc3, hcc'0, hcc'1, hcc'2, hcc'3⟩)
            have C1 := Aside0.mk (concordatlaw01_isOp.calls 0 (wordOf num) ⟨#[]⟩ 0 num true wr.drew (by unfold concordatlaw01_isOp.f; rw [word_f hn0 hn1]; simp) (TabOk.below HT.out (below_step HBR.out HD1.out)))
            first | (go_region_held3 (fun w' : World => w'.cell? ⟨wq.heap.size, 0, none⟩ = some (.slice (some ⟨gv, 0, none⟩) x.len cv) ∧ w'.cell? ⟨wq.heap.size, 1, none⟩ = some (.slice (some ⟨gl, 0, none⟩) (x.len + 40) cl) ∧ w'.cell? ⟨wq.heap.size, 2, none⟩ = some (.int .i64 num) ∧ w'.cell? ⟨gl, m * 4, none⟩ = some (.int .u8 0) ∧ w'.cell? ⟨gl, m * 4 + 1, none⟩ = some (.string (wordOf num)) ∧ w'.cell? ⟨gl, m * 4 + 2, none⟩ = some (.string ⟨#[]⟩) ∧ w'.cell? ⟨gl, m * 4 + 3, none⟩ = some (.int .u32 0) ∧ w'.cell? ⟨gv, m * 4, none⟩ = some (.int .u8 0) ∧ w'.cell? ⟨gv, m * 4 + 1, none⟩ = some (.string (wordOf num)) ∧ w'.cell? ⟨gv, m * 4 + 2, none⟩ = some (.string ⟨#[]⟩) ∧ w'.cell? ⟨gv, m * 4 + 3, none⟩ = some (.int .u32 0)) (first | with_reducible exact HS0.out | with_reducible exact HS1.out | with_reducible exact HS2.out) (first
              | (go_at_call 181
                 with_reducible refine C1.out.mono ?_
                 rintro e w1 ⟨rfl, hb1⟩
                 have HB1 := Aside0.mk (below_step HD1.out hb1)
                 have C2 := Aside0.mk (concordatlaw01_isOp.calls 0 (wordOf num) ⟨#[]⟩ 0 num true w1 (by unfold concordatlaw01_isOp.f; rw [word_f hn0 hn1]; simp) (TabOk.below HT.out (below_step HBR.out HB1.out)))
                 have HS1 := Aside0.mk (show w1.cell? ⟨wq.heap.size, 0, none⟩ = some (.slice (some ⟨gv, 0, none⟩) x.len cv) ∧ w1.cell? ⟨wq.heap.size, 1, none⟩ = some (.slice (some ⟨gl, 0, none⟩) (x.len + 40) cl) ∧ w1.cell? ⟨wq.heap.size, 2, none⟩ = some (.int .i64 num) ∧ w1.cell? ⟨gl, m * 4, none⟩ = some (.int .u8 0) ∧ w1.cell? ⟨gl, m * 4 + 1, none⟩ = some (.string (wordOf num)) ∧ w1.cell? ⟨gl, m * 4 + 2, none⟩ = some (.string ⟨#[]⟩) ∧ w1.cell? ⟨gl, m * 4 + 3, none⟩ = some (.int .u32 0) ∧ w1.cell? ⟨gv, m * 4, none⟩ = some (.int .u8 0) ∧ w1.cell? ⟨gv, m * 4 + 1, none⟩ = some (.string (wordOf num)) ∧ w1.cell? ⟨gv, m * 4 + 2, none⟩ = some (.string ⟨#[]⟩) ∧ w1.cell? ⟨gv, m * 4 + 3, none⟩ = some (.int .u32 0) from ⟨cell_on hb1 (HS0.out.1), cell_on hb1 (HS0.out.2.1), cell_on hb1 (HS0.out.2.2.1), cell_on hb1 (HS0.out.2.2.2.1), cell_on hb1 (HS0.out.2.2.2.2.1), cell_on hb1 (HS0.out.2.2.2.2.2.1), cell_on hb1 (HS0.out.2.2.2.2.2.2.1), cell_on hb1 (HS0.out.2.2.2.2.2.2.2.1), cell_on hb1 (HS0.out.2.2.2.2.2.2.2.2.1), cell_on hb1 (HS0.out.2.2.2.2.2.2.2.2.2.1), cell_on hb1 (HS0.out.2.2.2.2.2.2.2.2.2.2)⟩)
                 clear hb1)
              | (go_at_call 181
                 with_reducible refine C2.out.mono ?_
                 rintro e w2 ⟨rfl, hb2⟩
                 have HB2 := Aside0.mk (below_step HB1.out hb2)
                 have HS2 := Aside0.mk (show w2.cell? ⟨wq.heap.size, 0, none⟩ = some (.slice (some ⟨gv, 0, none⟩) x.len cv) ∧ w2.cell? ⟨wq.heap.size, 1, none⟩ = some (.slice (some ⟨gl, 0, none⟩) (x.len + 40) cl) ∧ w2.cell? ⟨wq.heap.size, 2, none⟩ = some (.int .i64 num) ∧ w2.cell? ⟨gl, m * 4, none⟩ = some (.int .u8 0) ∧ w2.cell? ⟨gl, m * 4 + 1, none⟩ = some (.string (wordOf num)) ∧ w2.cell? ⟨gl, m * 4 + 2, none⟩ = some (.string ⟨#[]⟩) ∧ w2.cell? ⟨gl, m * 4 + 3, none⟩ = some (.int .u32 0) ∧ w2.cell? ⟨gv, m * 4, none⟩ = some (.int .u8 0) ∧ w2.cell? ⟨gv, m * 4 + 1, none⟩ = some (.string (wordOf num)) ∧ w2.cell? ⟨gv, m * 4 + 2, none⟩ = some (.string ⟨#[]⟩) ∧ w2.cell? ⟨gv, m * 4 + 3, none⟩ = some (.int .u32 0) from ⟨cell_on hb2 (HS1.out.1), cell_on hb2 (HS1.out.2.1), cell_on hb2 (HS1.out.2.2.1), cell_on hb2 (HS1.out.2.2.2.1), cell_on hb2 (HS1.out.2.2.2.2.1), cell_on hb2 (HS1.out.2.2.2.2.2.1), cell_on hb2 (HS1.out.2.2.2.2.2.2.1), cell_on hb2 (HS1.out.2.2.2.2.2.2.2.1), cell_on hb2 (HS1.out.2.2.2.2.2.2.2.2.1), cell_on hb2 (HS1.out.2.2.2.2.2.2.2.2.2.1), cell_on hb2 (HS1.out.2.2.2.2.2.2.2.2.2.2)⟩)
                 clear hb2))) | fail "held3"
            all_goals
              go_wp2
              refine ⟨⟨m + 1, by omega, by first | rfl | simp, Aside0.mk (below_step HI.out HB2.out)⟩, ?_⟩
              try simp only [intOf]
              omega
          · have hml2' : ¬ ((m : Int) < (x.len : Int)) := by omega
            go_wp2_with fail
            have HS0 := Aside0.mk (show wr.drew.cell? ⟨wq.heap.size, 0, none⟩ = some (.slice Av x.len cv) ∧ wr.drew.cell? ⟨wq.heap.size, 1, none⟩ = some (.slice (some ⟨gl, 0, none⟩) (x.len + 40) cl) ∧ wr.drew.cell? ⟨wq.heap.size, 2, none⟩ = some (.int .i64 num) ∧ wr.drew.cell? ⟨gl, m * 4, none⟩ = some (.int .u8 0) ∧ wr.drew.cell? ⟨gl, m * 4 + 1, none⟩ = some (.string (wordOf num)) ∧ wr.drew.cell? ⟨gl, m * 4 + 2, none⟩ = some (.string ⟨#[]⟩) ∧ wr.drew.cell? ⟨gl, m * 4 + 3, none⟩ = some (.int .u32 0) from ⟨cell_on hd1 b0, cell_on hd1 b1, cell_on hd1 b2, cell_on hd1 hcc0, cell_on hd1 hcc1, cell_on hd1 hcc2, cell_on hd1 hcc3⟩)
            refine wp_region_held_drew (S := fun w' : World => w'.cell? ⟨wq.heap.size, 0, none⟩ = some (.slice Av x.len cv) ∧ w'.cell? ⟨wq.heap.size, 1, none⟩ = some (.slice (some ⟨gl, 0, none⟩) (x.len + 40) cl) ∧ w'.cell? ⟨wq.heap.size, 2, none⟩ = some (.int .i64 num) ∧ w'.cell? ⟨gl, m * 4, none⟩ = some (.int .u8 0) ∧ w'.cell? ⟨gl, m * 4 + 1, none⟩ = some (.string (wordOf num)) ∧ w'.cell? ⟨gl, m * 4 + 2, none⟩ = some (.string ⟨#[]⟩) ∧ w'.cell? ⟨gl, m * 4 + 3, none⟩ = some (.int .u32 0)) (by kernel_rfl) HS0.out (fun _ => ?_)
            refine jrun (i := 0) (v := ?_) rfl rfl (by kernel_rfl) (by kernel_rfl) (by kernel_rfl) (by kernel_rfl) (fun _ _ _ h => h) HS0.out ?_ ?_
            rotate_left
            · rintro W' ⟨s0, s1, s2, s3, s4, s5, s6⟩; simp only [List.getElem_toArray, List.getElem_cons_succ, List.getElem_cons_zero]; go_simp; try with_reducible rfl
            (try simp only [Act.put, List.setIfInBounds_toArray, List.set_cons_zero, List.set_cons_succ])
            refine jrun (i := 1) (v := ?_) rfl rfl (by kernel_rfl) (by kernel_rfl) (by kernel_rfl) (by kernel_rfl) (fun _ _ _ h => h) HS0.out ?_ ?_
            rotate_left
            · rintro W' ⟨s0, s1, s2, s3, s4, s5, s6⟩; simp only [List.getElem_toArray, List.getElem_cons_succ, List.getElem_cons_zero]; go_simp; try with_reducible rfl
            (try simp only [Act.put, List.setIfInBounds_toArray, List.set_cons_zero, List.set_cons_succ])
            refine jrun (i := 2) (v := ?_) rfl rfl (by kernel_rfl) (by kernel_rfl) (by kernel_rfl) (by kernel_rfl) (fun _ _ _ h => h) HS0.out ?_ ?_
            rotate_left
            · rintro W' ⟨s0, s1, s2, s3, s4, s5, s6⟩; simp only [List.getElem_toArray, List.getElem_cons_succ, List.getElem_cons_zero]; go_simp; try with_reducible rfl
            (try simp only [Act.put, List.setIfInBounds_toArray, List.set_cons_zero, List.set_cons_succ])
            refine jrun (i := 3) (v := ?_) rfl rfl (by kernel_rfl) (by kernel_rfl) (by kernel_rfl) (by kernel_rfl) (fun _ _ _ h => h) HS0.out ?_ ?_
            rotate_left
            · rintro W' ⟨s0, s1, s2, s3, s4, s5, s6⟩; simp only [List.getElem_toArray, List.getElem_cons_succ, List.getElem_cons_zero]; go_simp; try with_reducible rfl
            (try simp only [Act.put, List.setIfInBounds_toArray, List.set_cons_zero, List.set_cons_succ])
            refine jrun (i := 4) (v := ?_) rfl rfl (by kernel_rfl) (by kernel_rfl) (by kernel_rfl) (by kernel_rfl) (fun _ _ _ h => h) HS0.out ?_ ?_
            rotate_left
            · rintro W' ⟨s0, s1, s2, s3, s4, s5, s6⟩; simp only [List.getElem_toArray, List.getElem_cons_succ, List.getElem_cons_zero]; go_simp; try with_reducible rfl
            (try simp only [Act.put, List.setIfInBounds_toArray, List.set_cons_zero, List.set_cons_succ])
            refine jrun (i := 5) (v := ?_) rfl rfl (by kernel_rfl) (by kernel_rfl) (by kernel_rfl) (by kernel_rfl) (fun _ _ _ h => h) HS0.out ?_ ?_
            rotate_left
            · rintro W' ⟨s0, s1, s2, s3, s4, s5, s6⟩; simp only [List.getElem_toArray, List.getElem_cons_succ, List.getElem_cons_zero]; go_simp; try with_reducible rfl
            (try simp only [Act.put, List.setIfInBounds_toArray, List.set_cons_zero, List.set_cons_succ])
            refine jrun (i := 6) (v := ?_) rfl rfl (by kernel_rfl) (by kernel_rfl) (by kernel_rfl) (by kernel_rfl) (fun _ _ _ h => h) HS0.out ?_ ?_
            rotate_left
            · rintro W' ⟨s0, s1, s2, s3, s4, s5, s6⟩; simp only [List.getElem_toArray, List.getElem_cons_succ, List.getElem_cons_zero]; go_simp; try with_reducible rfl
            (try simp only [Act.put, List.setIfInBounds_toArray, List.set_cons_zero, List.set_cons_succ])
            refine wpAnyH_ready (rs := [7]) (by kernel_rfl) (by simp) ?_
            refine AllReadyH.cons rfl (fun K hK => ?_) AllReadyH.nil
            rw [if_pos (by kernel_rfl)]
            simp only [List.getElem_toArray, List.getElem_cons_succ, List.getElem_cons_zero]
            go_simp
            (go_at_call 181; refine (concordatlaw01_isOp.calls 0 (wordOf num) ⟨#[]⟩ 0 num true wr.drew (by unfold concordatlaw01_isOp.f; rw [word_f hn0 hn1]; simp) (TabOk.below HT.out (below_step HBR.out HD1.out))).mono ?_; rintro e w1 ⟨rfl, hb1⟩; have HB1 := Aside0.mk (below_step HD1.out hb1); have HS1 := Aside0.mk (show w1.cell? ⟨wq.heap.size, 0, none⟩ = some (.slice Av x.len cv) ∧ w1.cell? ⟨wq.heap.size, 1, none⟩ = some (.slice (some ⟨gl, 0, none⟩) (x.len + 40) cl) ∧ w1.cell? ⟨wq.heap.size, 2, none⟩ = some (.int .i64 num) ∧ w1.cell? ⟨gl, m * 4, none⟩ = some (.int .u8 0) ∧ w1.cell? ⟨gl, m * 4 + 1, none⟩ = some (.string (wordOf num)) ∧ w1.cell? ⟨gl, m * 4 + 2, none⟩ = some (.string ⟨#[]⟩) ∧ w1.cell? ⟨gl, m * 4 + 3, none⟩ = some (.int .u32 0) from ⟨cell_on hb1 (HS0.out.1), cell_on hb1 (HS0.out.2.1), cell_on hb1 (HS0.out.2.2.1), cell_on hb1 (HS0.out.2.2.2.1), cell_on hb1 (HS0.out.2.2.2.2.1), cell_on hb1 (HS0.out.2.2.2.2.2.1), cell_on hb1 (HS0.out.2.2.2.2.2.2)⟩); clear hb1)
            refine hK.out _ _ HS1.out (fun _ => ?_)
            clear hK K
            (try simp only [Act.put, List.setIfInBounds_toArray, List.set_cons_zero, List.set_cons_succ])
            refine jrun (i := 8) (v := ?_) rfl rfl (by kernel_rfl) (by kernel_rfl) (by kernel_rfl) (by kernel_rfl) (fun _ _ _ h => h) HS1.out ?_ ?_
            rotate_left
            · rintro W' ⟨s0, s1, s2, s3, s4, s5, s6⟩; simp only [List.getElem_toArray, List.getElem_cons_succ, List.getElem_cons_zero]; go_simp; try with_reducible rfl
            (try simp only [Act.put, List.setIfInBounds_toArray, List.set_cons_zero, List.set_cons_succ])
            refine jrun (i := 9) (v := ?_) rfl rfl (by kernel_rfl) (by kernel_rfl) (by kernel_rfl) (by kernel_rfl) (fun _ _ _ h => h) HS1.out ?_ ?_
            rotate_left
            · rintro W' ⟨s0, s1, s2, s3, s4, s5, s6⟩; simp only [List.getElem_toArray, List.getElem_cons_succ, List.getElem_cons_zero]; go_simp; try with_reducible rfl
            (try simp only [Act.put, List.setIfInBounds_toArray, List.set_cons_zero, List.set_cons_succ])
            refine jrun (i := 10) (v := ?_) rfl rfl (by kernel_rfl) (by kernel_rfl) (by kernel_rfl) (by kernel_rfl) (fun _ _ _ h => h) HS1.out ?_ ?_
            rotate_left
            · rintro W' ⟨s0, s1, s2, s3, s4, s5, s6⟩; simp only [List.getElem_toArray, List.getElem_cons_succ, List.getElem_cons_zero]; go_simp; try with_reducible rfl
            (try simp only [Act.put, List.setIfInBounds_toArray, List.set_cons_zero, List.set_cons_succ])
            refine jrun (i := 11) (v := ?_) rfl rfl (by kernel_rfl) (by kernel_rfl) (by kernel_rfl) (by kernel_rfl) (fun _ _ _ h => h) HS1.out ?_ ?_
            rotate_left
            · rintro W' ⟨s0, s1, s2, s3, s4, s5, s6⟩; simp only [List.getElem_toArray, List.getElem_cons_succ, List.getElem_cons_zero]; go_simp; try with_reducible rfl
            (try simp only [Act.put, List.setIfInBounds_toArray, List.set_cons_zero, List.set_cons_succ])
            refine jrun (i := 12) (v := ?_) rfl rfl (by kernel_rfl) (by kernel_rfl) (by kernel_rfl) (by kernel_rfl) (fun _ _ _ h => h) HS1.out ?_ ?_
            rotate_left
            · rintro W' ⟨s0, s1, s2, s3, s4, s5, s6⟩; simp only [List.getElem_toArray, List.getElem_cons_succ, List.getElem_cons_zero]; go_simp; try with_reducible rfl
            (try simp only [Act.put, List.setIfInBounds_toArray, List.set_cons_zero, List.set_cons_succ])
            refine jrun (i := 13) (v := ?_) rfl rfl (by kernel_rfl) (by kernel_rfl) (by kernel_rfl) (by kernel_rfl) (fun _ _ _ h => h) HS1.out ?_ ?_
            rotate_left
            · rintro W' ⟨s0, s1, s2, s3, s4, s5, s6⟩; simp only [List.getElem_toArray, List.getElem_cons_succ, List.getElem_cons_zero]; go_simp; try with_reducible rfl
            (try simp only [Act.put, List.setIfInBounds_toArray, List.set_cons_zero, List.set_cons_succ])
            refine jrun (i := 14) (v := ?_) rfl rfl (by kernel_rfl) (by kernel_rfl) (by kernel_rfl) (by kernel_rfl) (fun _ _ _ h => h) HS1.out ?_ ?_
            rotate_left
            · rintro W' ⟨s0, s1, s2, s3, s4, s5, s6⟩; simp only [List.getElem_toArray, List.getElem_cons_succ, List.getElem_cons_zero]; go_simp; try with_reducible rfl
            (try simp only [Act.put, List.setIfInBounds_toArray, List.set_cons_zero, List.set_cons_succ])
            refine jrun (i := 15) (v := ?_) rfl rfl (by kernel_rfl) (by kernel_rfl) (by kernel_rfl) (by kernel_rfl) (fun _ _ _ h => h) HS1.out ?_ ?_
            rotate_left
            · rintro W' ⟨s0, s1, s2, s3, s4, s5, s6⟩; simp only [List.getElem_toArray, List.getElem_cons_succ, List.getElem_cons_zero]; go_simp; try with_reducible rfl
            (try simp only [Act.put, List.setIfInBounds_toArray, List.set_cons_zero, List.set_cons_succ])
            refine jskip (i := 16) rfl rfl (by kernel_rfl) (by kernel_rfl) (by kernel_rfl) (by kernel_rfl) (fun _ _ _ h => h) HS1.out ?_
            (try simp only [Act.put, List.setIfInBounds_toArray, List.set_cons_zero, List.set_cons_succ])
            refine jskip (i := 17) rfl rfl (by kernel_rfl) (by kernel_rfl) (by kernel_rfl) (by kernel_rfl) (fun _ _ _ h => h) HS1.out ?_
            (try simp only [Act.put, List.setIfInBounds_toArray, List.set_cons_zero, List.set_cons_succ])
            refine jskip (i := 18) rfl rfl (by kernel_rfl) (by kernel_rfl) (by kernel_rfl) (by kernel_rfl) (fun _ _ _ h => h) HS1.out ?_
            (try simp only [Act.put, List.setIfInBounds_toArray, List.set_cons_zero, List.set_cons_succ])
            refine jskip (i := 19) rfl rfl (by kernel_rfl) (by kernel_rfl) (by kernel_rfl) (by kernel_rfl) (fun _ _ _ h => h) HS1.out ?_
            (try simp only [Act.put, List.setIfInBounds_toArray, List.set_cons_zero, List.set_cons_succ])
            refine jskip (i := 20) rfl rfl (by kernel_rfl) (by kernel_rfl) (by kernel_rfl) (by kernel_rfl) (fun _ _ _ h => h) HS1.out ?_
            (try simp only [Act.put, List.setIfInBounds_toArray, List.set_cons_zero, List.set_cons_succ])
            refine jskip (i := 21) rfl rfl (by kernel_rfl) (by kernel_rfl) (by kernel_rfl) (by kernel_rfl) (fun _ _ _ h => h) HS1.out ?_
            (try simp only [Act.put, List.setIfInBounds_toArray, List.set_cons_zero, List.set_cons_succ])
            refine jskip (i := 22) rfl rfl (by kernel_rfl) (by kernel_rfl) (by kernel_rfl) (by kernel_rfl) (fun _ _ _ h => h) HS1.out ?_
            (try simp only [Act.put, List.setIfInBounds_toArray, List.set_cons_zero, List.set_cons_succ])
            refine wpAnyH_ready (rs := [23]) (by kernel_rfl) (by simp) ?_
            refine AllReadyH.cons rfl (fun K hK => ?_) AllReadyH.nil
            rw [if_neg (wanted_no (by kernel_rfl))]
            refine hK.out _ _ HS1.out (fun _ => ?_)
            clear hK K
            (try simp only [Act.put, List.setIfInBounds_toArray, List.set_cons_zero, List.set_cons_succ])
            refine jskip (i := 24) rfl rfl (by kernel_rfl) (by kernel_rfl) (by kernel_rfl) (by kernel_rfl) (fun _ _ _ h => h) HS1.out ?_
            (try simp only [Act.put, List.setIfInBounds_toArray, List.set_cons_zero, List.set_cons_succ])
            refine jrun (i := 25) (v := ?_) rfl rfl (by kernel_rfl) (by kernel_rfl) (by kernel_rfl) (by kernel_rfl) (fun _ _ _ h => h) HS1.out ?_ ?_
            rotate_left
            · rintro W' ⟨s0, s1, s2, s3, s4, s5, s6⟩; simp only [List.getElem_toArray, List.getElem_cons_succ, List.getElem_cons_zero]; go_simp; try with_reducible rfl
            (try simp only [Act.put, List.setIfInBounds_toArray, List.set_cons_zero, List.set_cons_succ])
            refine jrun (i := 26) (v := ?_) rfl rfl (by kernel_rfl) (by kernel_rfl) (by kernel_rfl) (by kernel_rfl) (fun _ _ _ h => h) HS1.out ?_ ?_
            rotate_left
            · rintro W' ⟨s0, s1, s2, s3, s4, s5, s6⟩; simp only [List.getElem_toArray, List.getElem_cons_succ, List.getElem_cons_zero]; go_simp; try with_reducible rfl
            (try simp only [Act.put, List.setIfInBounds_toArray, List.set_cons_zero, List.set_cons_succ])
            refine wpAnyH_done (by kernel_rfl) ?_ _
            go_wp2
            refine ⟨⟨m + 1, by omega, by first | rfl | simp, Aside0.mk (below_step HI.out HB1.out)⟩, ?_⟩
            try simp only [intOf]
            omega
        · go_wp2
          refine ⟨⟨k + 1, by omega, by first | rfl | simp, HBR⟩, ?_⟩
          try simp only [intOf]
          omega
    · go_wp2
      go_ret
      exact ⟨rfl, HBQ.out⟩
end Go.Proofs.YtcohodkpppmaoaaGreatDoor.Q
namespace Go.Proofs.YtcohodkpppmaoaaGreatDoor.Q
open Go.RowKit Go.Proofs.YtcohodkpppmaoaaGreatDoorW.PrintWords Go.Proofs.YtcohodkpppmaoaaGreatDoorW.PrintLast Go.Proofs.YtcohodkpppmaoaaGreatDoorW.PrintMore
set_option linter.unusedVariables false
set_option maxHeartbeats 6400000 in
set_option maxRecDepth 100000 in
theorem fillResult_calls (w : World) (g : Nat) (bc : Array Value) (hb : w.heap[g]? = some (.cells bc 44 (0, 0))) (V : Value) (hV : bc[9]? = some V) (E : List Ent) (F : List Nat) (HR : Fd.Row (fdA 145 1) 199 w F V E) (hnd : F.Nodup) (hg : g ∉ F)
    (hn : ∀ x ∈ E, 0 ≤ x.num ∧ x.num ≤ 1000000000000000) (w0 : World) (hT : TabOk w0) (hw0 : Below w0.heap.size w0 w) (hF : ∀ b ∈ F, w0.heap.size ≤ b) :
    Calls Tryz.prog 82 #[.pointer (some ⟨g, 0, none⟩)] w fun e w' => e = .returned (.tuple #[]) ∧ ∃ F', Fd.Row (fdB fdResult 145 mkResult) 199 w' F' V E ∧ F'.Nodup ∧ Keeps F w w' ∧ ∀ b ∈ F', b ∈ F ∨ w.heap.size ≤ b := by
  obtain ⟨A1, c1, ev, hc1, hC1⟩ := Fd.row_reads HR
  subst ev
  have hu := Tryz.underlying44
  have huh := Tryz.underlying199
  have hlE : E.length ≤ maxLen := Kd.C_max hC1
  unfold maxLen at hlE
  have HM0 := Aside0.mk (mix_start (dB := fdB fdResult 145 mkResult) (E' := E) HR rfl hnd rfl)
  have HB := Aside0.mk hb
  have HG := Aside0.mk hg
  have HN := Aside0.mk hn
  have HT := Aside0.mk hT
  have HW0 := Aside0.mk hw0
  have HF := Aside0.mk hF
  have q1 : w.cell? ⟨g, 9, none⟩ = some (.slice A1 E.length c1) := by simp [World.cell?, hb, hV]
  clear HR hnd hb hg hn hT hC1 hw0 hF
  go_enter Tryz.func82, Tryz.ntmps82
  go_wp2
  clear q1
  go_loopw [2] (fun i wr => ∃ k : Nat, k ≤ E.length ∧ i = .int .i64 k ∧ Aside0 (Mix (fdB fdResult 145 mkResult) (fdA 145 1) 199 w wr F (.slice A1 E.length c1) E E k)) (fun i _ => E.length - (intOf i).toNat)
  case atStart => exact ⟨0, Nat.zero_le _, rfl, HM0⟩
  case round =>
    clear HM0
    obtain ⟨wq, hwq⟩ : ∃ wq, wq = wr := ⟨_, rfl⟩
    subst hwq
    obtain ⟨k, hk, rfl, HM⟩ := hrel
    have hbr := HM.out.keep.blk HB.out HG.out
    have q1 : wq.cell? ⟨g, 9, none⟩ = some (.slice A1 E.length c1) := by simp [World.cell?, hbr, hV]
    have HBR := Aside0.mk hbr
    clear hbr
    by_cases hlt : k < E.length
    · have hlt' : (k : Int) < (E.length : Int) := by omega
      have hk0 : (0 : Int) ≤ (k : Int) := by omega
      obtain ⟨c0, cs, c2, G0, Gx, G1, gh, cap, ev, ho, hl0, _, hx, _⟩ := HM.out.next rfl hlt
      injection ev with ea _ ec
      subst ea ec
      obtain ⟨x, hxe⟩ : ∃ x, E[k] = x := ⟨_, rfl⟩
      rw [hxe] at hx
      obtain ⟨rfl, hlong, ⟨inner, hox⟩, rfl⟩ := hx
      have hcell : ∀ j u, (entCells x)[j]? = some u → wq.cell? ⟨gh, k * 3 + j, none⟩ = some u := by
        intro j u hu
        have h := ho.cells (g := gh) rfl (k * 3 + j) u (by rw [List.getElem?_append_right (by omega), hl0, Nat.add_sub_cancel_left, List.getElem?_append_left (by exact (List.getElem?_eq_some_iff.1 hu).1)]; exact hu)
        rwa [add_plain] at h
      obtain ⟨Ax, cx, hxv⟩ := own_slice hox
      have d0 := hcell 0 (.slice Ax x.len cx) (by rw [← hxv]; rfl)
      have d1 := hcell 1 (.slice none 0 0) (by rw [← hlong]; rfl)
      have d2 := hcell 2 (.int .i64 x.num) rfl
      rw [Nat.add_zero] at d0
      have hmx : x.len ≤ 9223372036854775807 := by
        rcases hox.2 with ⟨_, h⟩ | ⟨_, _, _, _, _, _, h, h2, _⟩
        · omega
        · unfold maxLen at h2
          omega
      have hnx := HN.out x (hxe ▸ List.getElem_mem hlt)
      obtain ⟨num, hnum⟩ : ∃ num, x.num = num := ⟨_, rfl⟩
      rw [hnum] at d2 hnx
      obtain ⟨hn0, hn1⟩ := hnx
      have HXV := Aside0.mk hxv
      have HXE := Aside0.mk hxe
      have HNU := Aside0.mk hnum
      have HOX := Aside0.mk hox
      have hghl : gh < wq.heap.size := own_lt ho gh rfl
      clear ho hl0 hcell hxe hnum hox hlong
      go_wp2_with fail
      obtain ⟨wo, hwo⟩ : ∃ wo, wo = wq.alloc (.cells #[.slice Ax x.len cx, .slice none 0 0, .int .i64 num] 199) := ⟨_, rfl⟩
      have hbo : Below wq.heap.size wq wo := by rw [hwo]; exact below_alloc (Below.refl _ _) _
      have HBX := Aside0.mk (show wo.heap[wq.heap.size]? = some (.cells #[.slice Ax x.len cx, .slice none 0 0, .int .i64 num] 199 (0, 0)) from by rw [hwo]; exact blk_new wq _)
      have MW := Aside0.mk (HM.out.below hbo)
      have HOO := Aside0.mk (pw_own_below HOX.out hbo)
      have hnb : ∀ b ∈ x.v.ownBlock.toList, b ≠ wq.heap.size := fun b hx => by have := own_lt HOX.out b (by simpa using hx); omega
      have HNB := Aside0.mk hnb
      have HBW := Aside0.mk (HW0.out.trans (MW.out.keep.below HF.out HW0.out.size))
      have HXL := Aside0.mk (show ∀ b ∈ x.v.ownBlock.toList, w0.heap.size ≤ b from fun b hx => by
        obtain ⟨_, _, _, _, Gx, _, _, _, _, _, _, _, hx', _, _, hs⟩ := HM.out.next rfl hlt
        rw [HXE.out] at hx'
        rcases hs b (by rw [hx'.2.2.2]; simp [hx]) with h | h
        · exact HF.out b h
        · exact Nat.le_trans HW0.out.size h)
      have HI0 := Aside0.mk (In.start (d := fdResult) (mk := mkResult x.num) ⟨_, HOO.out⟩)
      rw [← hwo]
      clear hbo hnb HM HOX d0 d1 d2 q1 HBR hghl
      go_loopw [4] (fun i wi => ∃ m : Nat, m ≤ x.len ∧ i = .int .i64 m ∧ Aside0 (In fdResult 145 (mkResult x.num) wo wi x m)) (fun i _ => x.len - (intOf i).toNat)
      case atStart => exact ⟨0, Nat.zero_le _, rfl, HI0⟩
      case round =>
        clear HI0
        obtain ⟨m, hm, rfl, HI⟩ := hrel
        have hbx := HI.out.keep.blk HBX.out (fun hx => HNB.out _ hx rfl)
        have hBX := Aside0.mk hbx
        have b0 := blk_cell hbx 0
        have b2 := blk_cell hbx 2
        have HBI := Aside0.mk (HBW.out.trans (HI.out.keep.below HXL.out HBW.out.size))
        by_cases hml : m < x.len
        · have hml' : (m : Int) < (x.len : Int) := by omega
          have hm0 : (0 : Int) ≤ (m : Int) := by omega
          obtain ⟨gx, capx, evx⟩ := HI.out.slice hml
          have ex := HXV.out.symm.trans evx
          injection ex with ex1 _ ex2
          subst ex1 ex2
          have hne : gx ≠ wq.heap.size := fun e => HNB.out gx (by rw [HXV.out]; simp [Value.ownBlock]) e
          obtain ⟨hgx, _⟩ := HI.out.cells HXV.out hml
          have hbxl : wq.heap.size < wr.heap.size := blk_lt hbx
          have hd1 := below_drew (Below.refl wr.heap.size wr)
          have HD1 := Aside0.mk hd1
          have HBD := Aside0.mk (HBI.out.trans (Below.mono hd1 HBI.out.size))
          have HS0 := Aside0.mk (show wr.drew.cell? ⟨wq.heap.size, 0, none⟩ = some (.slice (some ⟨gx, 0, none⟩) x.len cx) ∧ wr.drew.cell? ⟨wq.heap.size, 2, none⟩ = some (.int .i64 num) from ⟨(hd1.cell hbxl).trans (blk_cell hbx 0), (hd1.cell hbxl).trans (blk_cell hbx 2)⟩)
          clear hd1 evx
          go_wp2_with fail
          first | (go_region_held3 (fun w' : World => w'.cell? ⟨wq.heap.size, 0, none⟩ = some (.slice (some ⟨gx, 0, none⟩) x.len cx) ∧ w'.cell? ⟨wq.heap.size, 2, none⟩ = some (.int .i64 num)) (first | with_reducible exact HS0.out | with_reducible exact HS1.out | with_reducible exact HS2.out) (
            (go_at_call 172
             refine (result_calls num hn0 hn1 _ (TabOk.below HT.out HBD.out)).mono ?_
             rintro e w1 ⟨bb, rfl, hbb, hge, hb1⟩
             have hb2 : Below wr.heap.size wr w1 := below_step HD1.out hb1
             have HI1 := Aside0.mk (HI.out.below hb2)
             have HB2 := Aside0.mk hb2
             obtain ⟨hgx1, us, husl, hus⟩ := HI1.out.cells HXV.out hml
             rw [show (fdResult).k.sz = 1 from rfl] at husl
             obtain ⟨u0, y0⟩ : ∃ u, us[0]? = some u := ⟨_, List.getElem?_eq_getElem (by rw [husl]; decide)⟩
             have y0a : w1.cell? ⟨gx, m, none⟩ = some u0 := by have h := (hus 0 u0 y0).1; rwa [show m * (fdResult).k.sz + 0 = m from Nat.mul_one m] at h
             have y0b : w1.frozen? ⟨gx, m, none⟩ = false := by have h := (hus 0 u0 y0).2; rwa [show m * (fdResult).k.sz + 0 = m from Nat.mul_one m] at h
             have HS1 := Aside0.mk (show w1.cell? ⟨wq.heap.size, 0, none⟩ = some (.slice (some ⟨gx, 0, none⟩) x.len cx) ∧ w1.cell? ⟨wq.heap.size, 2, none⟩ = some (.int .i64 num) from ⟨(hb1.cell hbxl).trans HS0.out.1, (hb1.cell hbxl).trans HS0.out.2⟩)
             have HM1 := Aside0.mk (show fdResult.M w1 [bb] (mkResult x.num) [.slice (some ⟨bb, 0, none⟩) 1 1] from by rw [HNU.out]; exact M_result hbb)
             have hkc := keeps_chunk (g := gx) (F := [gx]) (by simp) [.slice (some ⟨bb, 0, none⟩) 1 1] (o := m) (Keeps.refl [gx] w1)
             simp only [chunk, Nat.add_assoc, Nat.reduceAdd] at hkc
             have hx1 : wq.heap.size < w1.heap.size := Nat.lt_of_lt_of_le hbxl hb2.size
             have hh2 : ((w1).setCell ⟨gx, m, none⟩ (.slice (some ⟨bb, 0, none⟩) 1 1)).cell? ⟨wq.heap.size, 0, none⟩ = some (.slice (some ⟨gx, 0, none⟩) x.len cx) ∧ ((w1).setCell ⟨gx, m, none⟩ (.slice (some ⟨bb, 0, none⟩) 1 1)).cell? ⟨wq.heap.size, 2, none⟩ = some (.int .i64 num) :=
               ⟨(World.cell?_of_block (w := w1) (hkc.block _ hx1 (by simpa using hne.symm))).trans HS1.out.1, (World.cell?_of_block (w := w1) (hkc.block _ hx1 (by simpa using hne.symm))).trans HS1.out.2⟩
             have HS2 := Aside0.mk hh2
             have hi2 := HI.out.step hb2 HXV.out hml HM1.out (by simp) (fun b h => by simp at h; subst h; exact hge)
             rw [show m * (fdResult).k.sz = m from Nat.mul_one m] at hi2
             simp only [chunk, Nat.add_assoc, Nat.reduceAdd] at hi2
             have HI2 := Aside0.mk (show In fdResult 145 (mkResult x.num) wo ((w1).setCell ⟨gx, m, none⟩ (.slice (some ⟨bb, 0, none⟩) 1 1)) x (m + 1) from hi2)
             clear hh2 hi2
             clear hb1 hb2 hkc hx1 hus husl))) | fail "held3"
          all_goals
            go_wp2
            refine ⟨⟨m + 1, by omega, by first | rfl | simp, HI2⟩, ?_⟩
            try simp only [intOf]
            omega
        · go_wp2
          obtain rfl : m = x.len := by omega
          refine ⟨⟨k + 1, by omega, by first | rfl | simp, Aside0.mk (mix_in rfl MW.out hlt HXE.out HI.out)⟩, ?_⟩
          try simp only [intOf]
          omega
    · go_wp2
      go_end0
      obtain rfl : k = E.length := by omega
      exact ⟨rfl, mix_done HM.out rfl⟩
end Go.Proofs.YtcohodkpppmaoaaGreatDoor.Q
namespace Go.Proofs.YtcohodkpppmaoaaGreatDoor.Q
open Go.RowKit Go.Proofs.YtcohodkpppmaoaaGreatDoorW.PrintWords Go.Proofs.YtcohodkpppmaoaaGreatDoorW.PrintLast Go.Proofs.YtcohodkpppmaoaaGreatDoorW.PrintMore
set_option linter.unusedVariables false
theorem infoElResult : (Tryz.prog.info? 145).map (fun i => (i.zero, i.size, i.bytes)) = some (some (.agg #[.slice none 0 0]), 1, 24) := by kernel_rfl
set_option maxHeartbeats 6400000 in
set_option maxRecDepth 100000 in
theorem growResult_calls (w : World) (g : Nat) (bc : Array Value) (hb : w.heap[g]? = some (.cells bc 44 (0, 0))) (V : Value) (hV : bc[9]? = some V) (E : List Ent) (F : List Nat) (HR : Fd.Row (fdB fdResult 145 mkResult) 199 w F V E) (hnd : F.Nodup) (hg : g ∉ F)
    (hn : ∀ x ∈ E, (0 ≤ x.num ∧ x.num ≤ 1000000000000000) ∧ x.len ≤ 1000000000) (w0 : World) (hT : TabOk w0) (hw0 : Below w0.heap.size w0 w) (hF : ∀ b ∈ F, w0.heap.size ≤ b) :
    Calls Tryz.prog 94 #[.pointer (some ⟨g, 0, none⟩)] w fun e w' => e = .returned (.tuple #[]) ∧ ∃ F', Fd.Row (fdC fdResult.k mkResult) 199 w' F' V E ∧ F'.Nodup ∧ Keeps F w w' ∧ ∀ b ∈ F', b ∈ F ∨ w.heap.size ≤ b := by
  obtain ⟨A1, c1, ev, hc1, hC1⟩ := Fd.row_reads HR
  subst ev
  have hu := Tryz.underlying44
  have huh := Tryz.underlying199
  have hlE : E.length ≤ maxLen := Kd.C_max hC1
  unfold maxLen at hlE
  have HM0 := Aside0.mk (mix_start (dB := fdC fdResult.k mkResult) (E' := E) HR rfl hnd rfl)
  have HB := Aside0.mk hb
  have HG := Aside0.mk hg
  have HN := Aside0.mk hn
  have HT := Aside0.mk hT
  have HW0 := Aside0.mk hw0
  have HF := Aside0.mk hF
  have q1 : w.cell? ⟨g, 9, none⟩ = some (.slice A1 E.length c1) := by simp [World.cell?, hb, hV]
  clear HR hnd hb hg hn hT hC1 hw0 hF
  go_enter Tryz.func94, Tryz.ntmps94
  go_wp2
  clear q1
  go_loopw [2] (fun i wr => ∃ k : Nat, k ≤ E.length ∧ i = .int .i64 k ∧ Aside0 (Mix (fdC fdResult.k mkResult) (fdB fdResult 145 mkResult) 199 w wr F (.slice A1 E.length c1) E E k)) (fun i _ => E.length - (intOf i).toNat)
  case atStart => exact ⟨0, Nat.zero_le _, rfl, HM0⟩
  case round =>
    clear HM0
    obtain ⟨wq, hwq⟩ : ∃ wq, wq = wr := ⟨_, rfl⟩
    subst hwq
    obtain ⟨k, hk, rfl, HM⟩ := hrel
    have hbr := HM.out.keep.blk HB.out HG.out
    have q1 : wq.cell? ⟨g, 9, none⟩ = some (.slice A1 E.length c1) := by simp [World.cell?, hbr, hV]
    have HBR := Aside0.mk hbr
    clear hbr
    by_cases hlt : k < E.length
    · have hlt' : (k : Int) < (E.length : Int) := by omega
      have hk0 : (0 : Int) ≤ (k : Int) := by omega
      obtain ⟨c0, cs, c2, G0, Gx, G1, gh, cap, ev, ho, hl0, he0, hx, he1, hnd', hsb'⟩ := HM.out.next rfl hlt
      injection ev with ea _ ec
      subst ea ec
      obtain ⟨x, hxe⟩ : ∃ x, E[k] = x := ⟨_, rfl⟩
      rw [hxe] at hx
      have hxM := hx
      obtain ⟨rfl, hlong, hrx⟩ := hx
      have hcell : ∀ j u, (entCells x)[j]? = some u → wq.cell? ⟨gh, k * 3 + j, none⟩ = some u := by
        intro j u hu
        have h := ho.cells (g := gh) rfl (k * 3 + j) u (by rw [List.getElem?_append_right (by omega), hl0, Nat.add_sub_cancel_left, List.getElem?_append_left (by exact (List.getElem?_eq_some_iff.1 hu).1)]; exact hu)
        rwa [add_plain] at h
      obtain ⟨Ax, cx, hxv, _, _⟩ := Fd.row_reads hrx
      rw [List.length_replicate] at hxv
      have d0 := hcell 0 (.slice Ax x.len cx) (by rw [← hxv]; rfl)
      have d1 := hcell 1 (.slice none 0 0) (by rw [← hlong]; rfl)
      have d2 := hcell 2 (.int .i64 x.num) rfl
      rw [Nat.add_zero] at d0
      have hnx := HN.out x (hxe ▸ List.getElem_mem hlt)
      obtain ⟨num, hnum⟩ : ∃ num, x.num = num := ⟨_, rfl⟩
      rw [hnum] at d2 hnx
      obtain ⟨⟨hn0, hn1⟩, hxn⟩ := hnx
      have HXV := Aside0.mk hxv
      have HXE := Aside0.mk hxe
      have HNU := Aside0.mk hnum
      have hghl : gh < wq.heap.size := own_lt ho gh rfl
      clear hcell hxe hnum hrx hlong
      go_wp2_with fail
      obtain ⟨wo, hwo⟩ : ∃ wo, wo = wq.alloc (.cells #[.slice Ax x.len cx, .slice none 0 0, .int .i64 num] 199) := ⟨_, rfl⟩
      have hbo : Below wq.heap.size wq wo := by rw [hwo]; exact below_alloc (Below.refl _ _) _
      have HBX := Aside0.mk (show wo.heap[wq.heap.size]? = some (.cells #[.slice Ax x.len cx, .slice none 0 0, .int .i64 num] 199 (0, 0)) from by rw [hwo]; exact blk_new wq _)
      have MW := Aside0.mk (HM.out.below hbo)
      have ho' := own_move ho (fun b hb => hbo.block b (own_lt ho b hb))
      have e0' := Fd.els_move (fun b hx => hbo.block b (Fd.els_lt he0 b hx)) he0
      have e1' := Fd.els_move (fun b hx => hbo.block b (Fd.els_lt he1 b hx)) he1
      have hGx := (fdB fdResult 145 mkResult).lt hxM
      have hx' := (fdB fdResult 145 mkResult).move (fun b hx => hbo.block b (hGx b hx)) hxM
      have hndx : Gx.Nodup := (List.nodup_append.1 (List.nodup_append.1 (List.nodup_append.1 hnd').2.1).2.1).1
      have HO' := Aside0.mk ho'
      have HL' := Aside0.mk hl0
      have HE0 := Aside0.mk e0'
      have HX' := Aside0.mk hx'
      have HE1 := Aside0.mk e1'
      have HND := Aside0.mk hnd'
      have HSB := Aside0.mk hsb'
      have HBW := Aside0.mk (HW0.out.trans (MW.out.keep.below HF.out HW0.out.size))
      have HXL := Aside0.mk (show ∀ b ∈ Gx, w0.heap.size ≤ b from fun b hx => by
        rcases hsb' b (by simp [hx]) with h | h
        · exact HF.out b h
        · exact Nat.le_trans HW0.out.size h)
      have HNB := Aside0.mk (show wq.heap.size ∉ Gx from fun hx => Nat.lt_irrefl _ (hGx _ hx))
      have HI0 := Aside0.mk (Gr.start hx'.2.2 hndx)
      rw [← hwo]
      clear hbo HM d0 d1 d2 q1 HBR hghl ho hl0 ho' e0' he0 he1 hx' e1' hnd' hsb' hGx hndx hxM
      have hd0 : (0 : Nat) ≤ 40 := Nat.zero_le _
      go_loopw [4, 5] (fun l i wr => ∃ m : Nat, m ≤ 40 ∧ i = .int .i64 m ∧ Aside0 (Gr fdResult 145 (mkResult x.num) wo wr Gx x l m)) (fun l i _ => 40 - (intOf i).toNat)
      case atStart => exact ⟨0, Nat.zero_le _, rfl, by rw [← HXV.out]; exact HI0⟩
      case round =>
        clear HI0
        obtain ⟨m, hm, rfl, HI⟩ := hrel
        have hbx := HI.out.keep.blk HBX.out HNB.out
        have hBX := Aside0.mk hbx
        have b2 := blk_cell hbx 2
        clear hbx
        have HBI := Aside0.mk (HBW.out.trans (HI.out.keep.below HXL.out HBW.out.size))
        by_cases hml : m < 40
        · have hml' : (m : Int) < 40 := by omega
          have hm0 : (0 : Int) ≤ (m : Int) := by omega
          go_wp2_with fail
          refine (result_calls num hn0 hn1 _ (TabOk.below HT.out HBI.out)).mono ?_
          rintro e w1 ⟨bb, rfl, hbb, hge, hb1⟩
          have HM1 := Aside0.mk (show fdResult.M w1 [bb] (mkResult x.num) [.slice (some ⟨bb, 0, none⟩) 1 1] from by rw [HNU.out]; exact M_result hbb)
          have HB1 := Aside0.mk hb1
          clear hb1
          go_wp2_with (first | (at_builtin; refine Gr.step HI.out HB1.out rfl (.tmp 28) (.tmp 32) 48 (.agg #[.slice none 0 0]) 24 [.slice (some ⟨bb, 0, none⟩) 1 1] [bb] rfl Tryz.underlying48 infoElResult rfl (by decide) (by decide) (by simp [Act.eval, Act.put]) (by simp [Act.eval, Act.put]) HM1.out (by simp) (fun b h => by simp at h; subst h; exact hge) (by omega) ?_; intro v1 w2 hg; have HG2 := Aside0.mk hg; clear hg))
          refine ⟨⟨m + 1, by omega, by first | rfl | simp, HG2⟩, ?_⟩
          try simp only [intOf]
          omega
        · obtain rfl : m = 40 := by omega
          obtain ⟨A2, c2', rfl⟩ := HI.out.len
          have hgGx : g ∉ Gx := fun hx => by
            rcases HSB.out g (by simp [hx]) with h | h
            · exact HG.out h
            · have := blk_lt HB.out
              omega
          have hbg := HI.out.keep.blk (MW.out.keep.blk HB.out HG.out) hgGx
          have q1 : wr.cell? ⟨g, 9, none⟩ = some (.slice (some ⟨gh, 0, none⟩) E.length c1) := by simp [World.cell?, hbg, hV]
          have hghx : gh ∉ Gx := fun hx => (List.nodup_append.1 HND.out).2.2 gh (by simp [Value.ownBlock]) gh (by simp [hx]) rfl
          have hor := own_move HO'.out (fun b hb => HI.out.keep.block b (own_lt HO'.out b hb) (fun hx => by rw [show b = gh from by simpa [Value.ownBlock] using hb.symm] at hx; exact hghx hx))
          have y1 : wr.cell? ⟨gh, k * 3 + 1, none⟩ = some x.long := by
            have h := hor.cells (g := gh) rfl (k * 3 + 1) x.long (by rw [HX'.out.1, List.getElem?_append_right (by rw [HL'.out]; omega), HL'.out, Nat.add_sub_cancel_left]; rfl)
            rwa [add_plain] at h
          obtain ⟨cur, hcur⟩ := own_typed hor gh rfl
          have y2 := blk_frozen hcur (k * 3 + 1)
          clear hor hcur hbg
          go_wp2
          refine ⟨⟨k + 1, by omega, by first | rfl | simp, Aside0.mk (mix_gr hlt HXE.out HO'.out HL'.out HE0.out HX'.out HE1.out HND.out HSB.out MW.out.keep HI.out)⟩, ?_⟩
          try simp only [intOf]
          omega
    · go_wp2
      go_end0
      obtain rfl : k = E.length := by omega
      exact ⟨rfl, mix_done HM.out rfl⟩
end Go.Proofs.YtcohodkpppmaoaaGreatDoor.Q
namespace Go.Proofs.YtcohodkpppmaoaaGreatDoor.Q
open Go.RowKit Go.Proofs.YtcohodkpppmaoaaGreatDoorW.PrintWords Go.Proofs.YtcohodkpppmaoaaGreatDoorW.PrintLast Go.Proofs.YtcohodkpppmaoaaGreatDoorW.PrintMore
set_option linter.unusedVariables false
theorem isResult_below (A : Option Addr) (c : Nat) (n : Int) (w : World) (hC : k148.C w A 1 [⟨wordOf n, 0⟩]) (hc : 1 ≤ c) (h0 : 0 ≤ n) (h1 : n ≤ 1000000000000000) (hT : TabOk w) : Calls Tryz.prog 184 #[.agg #[.slice A 1 c], .int .i64 n] w fun e w' => e = .returned (.bool true) ∧ Below w.heap.size w w' :=
  concordatlaw01_isResult.calls A c [⟨wordOf n, 0⟩] n true w hC hc (by unfold concordatlaw01_isResult.f; rw [word_f h0 h1]; simp [rd_T148]) hT
set_option maxHeartbeats 6400000 in
set_option maxRecDepth 100000 in
theorem lookResult_calls (w : World) (g : Nat) (bc : Array Value) (hb : w.heap[g]? = some (.cells bc 44 (0, 0))) (V : Value) (hV : bc[9]? = some V) (E : List Ent) (F : List Nat) (HR : Fd.Row (fdC fdResult.k mkResult) 199 w F V E)
    (hn : ∀ x ∈ E, (0 ≤ x.num ∧ x.num ≤ 1000000000000000) ∧ x.len ≤ 1000000000) (hT : TabOk w) :
    Calls Tryz.prog 106 #[.pointer (some ⟨g, 0, none⟩)] w fun e w' => e = .returned (.bool true) ∧ Below w.heap.size w w' := by
  obtain ⟨A1, c1, ev, hc1, hC1⟩ := Fd.row_reads HR
  subst ev
  have hu := Tryz.underlying44
  have huh := Tryz.underlying199
  have hlE : E.length ≤ maxLen := Kd.C_max hC1
  unfold maxLen at hlE
  have HB := Aside0.mk hb
  have HN := Aside0.mk hn
  have HT := Aside0.mk hT
  have HR0 := Aside0.mk HR
  have HB0 := Aside0.mk (Below.refl w.heap.size w)
  have q1 : w.cell? ⟨g, 9, none⟩ = some (.slice A1 E.length c1) := by simp [World.cell?, hb, hV]
  clear HR hb hn hT hC1
  go_enter Tryz.func106, Tryz.ntmps106
  go_wp2
  clear q1
  go_loopw [3] (fun i wr => ∃ k : Nat, k ≤ E.length ∧ i = .int .i64 k ∧ Aside0 (Below w.heap.size w wr)) (fun i _ => E.length - (intOf i).toNat)
  case atStart => exact ⟨0, Nat.zero_le _, rfl, HB0⟩
  case round =>
    clear HB0
    obtain ⟨wq, hwq⟩ : ∃ wq, wq = wr := ⟨_, rfl⟩
    subst hwq
    obtain ⟨k, hk, rfl, HBQ⟩ := hrel
    have hbr := blk_below HB.out HBQ.out
    have q1 : wq.cell? ⟨g, 9, none⟩ = some (.slice A1 E.length c1) := by simp [World.cell?, hbr, hV]
    clear hbr
    by_cases hlt : k < E.length
    · have hlt' : (k : Int) < (E.length : Int) := by omega
      have hk0 : (0 : Int) ≤ (k : Int) := by omega
      obtain ⟨inner, G, ho, he, rfl⟩ := Fd.row_below HR0.out HBQ.out
      obtain ⟨c0, c, c2, F0, F', F1, rfl, hl0, rfl, _, hM, _⟩ := Fd.els_at hlt he
      obtain ⟨x, hxe⟩ : ∃ x, E[k] = x := ⟨_, rfl⟩
      rw [hxe] at hM
      obtain ⟨gh, cap, ev, _, _⟩ := ho.form (by omega)
      injection ev with ea _ ec
      subst ea ec
      obtain ⟨L, rfl, hS⟩ := hM
      obtain ⟨Av, cv, Al, cl, hAv, ⟨gl, rfl⟩, hxv, rfl, _, _, _, _⟩ := hS.2 wq (fun _ _ => rfl)
      have hl0' : c0.length = k * 3 := hl0
      have hcell : ∀ j u, [x.v, .slice (some ⟨gl, 0, none⟩) (x.len + 40) cl, .int .i64 x.num][j]? = some u → wq.cell? ⟨gh, k * 3 + j, none⟩ = some u := by
        intro j u hu
        have h := ho.cells (g := gh) rfl (k * 3 + j) u (by rw [List.getElem?_append_right (by omega), hl0', Nat.add_sub_cancel_left, List.getElem?_append_left (by exact (List.getElem?_eq_some_iff.1 hu).1)]; exact hu)
        rwa [add_plain] at h
      have d0 := hcell 0 (.slice Av x.len cv) (by rw [← hxv]; rfl)
      have d1 := hcell 1 (.slice (some ⟨gl, 0, none⟩) (x.len + 40) cl) rfl
      have d2 := hcell 2 (.int .i64 x.num) rfl
      rw [Nat.add_zero] at d0
      obtain ⟨⟨hn0, hn1⟩, hxn⟩ := HN.out x (hxe ▸ List.getElem_mem hlt)
      obtain ⟨num, hnum⟩ : ∃ num, x.num = num := ⟨_, rfl⟩
      rw [hnum] at d2 hn0 hn1
      have HS := Aside0.mk hS
      have HNU := Aside0.mk hnum
      have HXV := Aside0.mk hxv
      have hw40 : IntKind.i64.wrap ((x.len : Int) + 40) = (x.len : Int) + 40 := IntWalk.i64_in _ (by omega)
      have hc40 : (((x.len + 40 : Nat) : Int)) = (x.len : Int) + 40 := by omega
      clear hcell hnum hxe ho he hl0 hl0' hS
      go_wp2_with fail
      obtain ⟨wo, hwo⟩ : ∃ wo, wo = wq.alloc (.cells #[.slice Av x.len cv, .slice (some ⟨gl, 0, none⟩) (x.len + 40) cl, .int .i64 num] 199) := ⟨_, rfl⟩
      have hbo : Below wq.heap.size wq wo := by rw [hwo]; exact below_alloc (Below.refl _ _) _
      have HBX := Aside0.mk (show wo.heap[wq.heap.size]? = some (.cells #[.slice Av x.len cv, .slice (some ⟨gl, 0, none⟩) (x.len + 40) cl, .int .i64 num] 199 (0, 0)) from by rw [hwo]; exact blk_new wq _)
      have HWO := Aside0.mk hbo
      have HBO := Aside0.mk (below_step HBQ.out hbo)
      rw [← hwo]
      clear hbo d0 d1 d2 q1
      go_loopw [5] (fun i wr => ∃ m : Nat, m ≤ x.len + 40 ∧ i = .int .i64 m ∧ Aside0 (Below wo.heap.size wo wr)) (fun i _ => x.len + 40 - (intOf i).toNat)
      case atStart => exact ⟨0, Nat.zero_le _, rfl, Aside0.mk (Below.refl _ _)⟩
      case round =>
        obtain ⟨m, hm, rfl, HI⟩ := hrel
        have hbx := blk_below HBX.out HI.out
        have hBX := Aside0.mk hbx
        have b0 := blk_cell hbx 0
        have b1 := blk_cell hbx 1
        have b2 := blk_cell hbx 2
        have HBR := Aside0.mk (below_step HBO.out HI.out)
        have hqr := below_step HWO.out HI.out
        have hbl := blk_lt hbx
        by_cases hml : m < x.len + 40
        · have hml' : (m : Int) < (x.len : Int) + 40 := by omega
          have hm0 : (0 : Int) ≤ (m : Int) := by omega
          obtain ⟨Av', cv', Al', cl', hAv', _, hxv', hL', _, _, hCv, hCl⟩ := HS.out.2 wr (fun b hb => hqr.block b (HS.out.1 b hb))
          have ex := HXV.out.symm.trans hxv'
          injection ex with ex1 _ ex2
          subst ex1 ex2
          injection hL' with ex1 _ ex2
          subst ex1 ex2
          rw [HNU.out] at hCv hCl
          obtain ⟨cc, hK, hcc⟩ := marks_at hCl m hml
          obtain ⟨Arl, crl, rfl, lrl, grl⟩ : ∃ A0 c0, cc = [.slice A0 1 c0] ∧ 1 ≤ c0 ∧ k148.C wr A0 1 [⟨wordOf num, 0⟩] := k145_open hK
          have hd1 := below_drew (Below.refl wr.heap.size wr)
          have HD1 := Aside0.mk hd1
          have hcc0 : wr.cell? ⟨gl, m, none⟩ = some (.slice Arl 1 crl) := by have h := hcc 0 _ rfl; rwa [show m * (fdResult).k.sz + 0 = m from Nat.mul_one m] at h
          by_cases hml2 : m < x.len
          · have hml2' : (m : Int) < (x.len : Int) := by omega
            obtain ⟨gv, rfl⟩ : ∃ gv, Av = some ⟨gv, 0, none⟩ := by
              rcases hAv with h | h
              · omega
              · exact h
            obtain ⟨cc', hK', hcc'⟩ := marks_at hCv m hml2
            obtain ⟨Arv, crv, rfl, lrv, grv⟩ : ∃ A0 c0, cc' = [.slice A0 1 c0] ∧ 1 ≤ c0 ∧ k148.C wr A0 1 [⟨wordOf num, 0⟩] := k145_open hK'
            have hcc'0 : wr.cell? ⟨gv, m, none⟩ = some (.slice Arv 1 crv) := by have h := hcc' 0 _ rfl; rwa [show m * (fdResult).k.sz + 0 = m from Nat.mul_one m] at h
            go_wp2_with fail
            have HS0 := Aside0.mk (show wr.drew.cell? ⟨wq.heap.size, 0, none⟩ = some (.slice (some ⟨gv, 0, none⟩) x.len cv) ∧ wr.drew.cell? ⟨wq.heap.size, 1, none⟩ = some (.slice (some ⟨gl, 0, none⟩) (x.len + 40) cl) ∧ wr.drew.cell? ⟨wq.heap.size, 2, none⟩ = some (.int .i64 num) ∧ wr.drew.cell? ⟨gl, m, none⟩ = some (.slice Arl 1 crl) ∧ wr.drew.cell? ⟨gv, m, none⟩ = some (.slice Arv 1 crv) from ⟨cell_on hd1 b0, cell_on hd1 b1, cell_on hd1 b2, cell_on hd1 hcc0, cell_on hd1 hcc'0⟩)
            have HF := Aside0.mk (show wr.cell? ⟨wq.heap.size, 0, none⟩ = some (.slice (some ⟨gv, 0, none⟩) x.len cv) ∧ wr.cell? ⟨wq.heap.size, 1, none⟩ = some (.slice (some ⟨gl, 0, none⟩) (x.len + 40) cl) ∧ wr.cell? ⟨wq.heap.size, 2, none⟩ = some (.int .i64 num) ∧ wr.cell? ⟨gl, m, none⟩ = some (.slice Arl 1 crl) ∧ wr.cell? ⟨gv, m, none⟩ = some (.slice Arv 1 crv) from ⟨b0, b1, b2, hcc0, hcc'0⟩)
            have C1 := Aside0.mk (isResult_below Arl crl num wr.drew (Kd.C_below grl HD1.out) lrl hn0 hn1 (TabOk.below HT.out (below_step HBR.out HD1.out)))
            first | (go_region_held3 (fun w' : World => w'.cell? ⟨wq.heap.size, 0, none⟩ = some (.slice (some ⟨gv, 0, none⟩) x.len cv) ∧ w'.cell? ⟨wq.heap.size, 1, none⟩ = some (.slice (some ⟨gl, 0, none⟩) (x.len + 40) cl) ∧ w'.cell? ⟨wq.heap.size, 2, none⟩ = some (.int .i64 num) ∧ w'.cell? ⟨gl, m, none⟩ = some (.slice Arl 1 crl) ∧ w'.cell? ⟨gv, m, none⟩ = some (.slice Arv 1 crv)) (first | with_reducible exact HS0.out | with_reducible exact HS1.out | with_reducible exact HS2.out) (first
              | (go_at_call 184
                 with_reducible refine C1.out.mono ?_
                 rintro e w1 ⟨rfl, hb1⟩
                 have HB1 := Aside0.mk (below_step HD1.out hb1)
                 have C2 := Aside0.mk (isResult_below Arv crv num w1 (Kd.C_below grv HB1.out) lrv hn0 hn1 (TabOk.below HT.out (below_step HBR.out HB1.out)))
                 have HS1 := Aside0.mk (show w1.cell? ⟨wq.heap.size, 0, none⟩ = some (.slice (some ⟨gv, 0, none⟩) x.len cv) ∧ w1.cell? ⟨wq.heap.size, 1, none⟩ = some (.slice (some ⟨gl, 0, none⟩) (x.len + 40) cl) ∧ w1.cell? ⟨wq.heap.size, 2, none⟩ = some (.int .i64 num) ∧ w1.cell? ⟨gl, m, none⟩ = some (.slice Arl 1 crl) ∧ w1.cell? ⟨gv, m, none⟩ = some (.slice Arv 1 crv) from ⟨cell_on hb1 (HS0.out.1), cell_on hb1 (HS0.out.2.1), cell_on hb1 (HS0.out.2.2.1), cell_on hb1 (HS0.out.2.2.2.1), cell_on hb1 (HS0.out.2.2.2.2)⟩)
                 clear hb1)
              | (go_at_call 184
                 with_reducible refine C2.out.mono ?_
                 rintro e w2 ⟨rfl, hb2⟩
                 have HB2 := Aside0.mk (below_step HB1.out hb2)
                 have HS2 := Aside0.mk (show w2.cell? ⟨wq.heap.size, 0, none⟩ = some (.slice (some ⟨gv, 0, none⟩) x.len cv) ∧ w2.cell? ⟨wq.heap.size, 1, none⟩ = some (.slice (some ⟨gl, 0, none⟩) (x.len + 40) cl) ∧ w2.cell? ⟨wq.heap.size, 2, none⟩ = some (.int .i64 num) ∧ w2.cell? ⟨gl, m, none⟩ = some (.slice Arl 1 crl) ∧ w2.cell? ⟨gv, m, none⟩ = some (.slice Arv 1 crv) from ⟨cell_on hb2 (HS1.out.1), cell_on hb2 (HS1.out.2.1), cell_on hb2 (HS1.out.2.2.1), cell_on hb2 (HS1.out.2.2.2.1), cell_on hb2 (HS1.out.2.2.2.2)⟩)
                 clear hb2))) | fail "held3"
            all_goals
              go_wp2
              refine ⟨⟨m + 1, by omega, by first | rfl | simp, Aside0.mk (below_step HI.out HB2.out)⟩, ?_⟩
              try simp only [intOf]
              omega
          · have hml2' : ¬ ((m : Int) < (x.len : Int)) := by omega
            go_wp2_with fail
            have HS0 := Aside0.mk (show wr.drew.cell? ⟨wq.heap.size, 0, none⟩ = some (.slice Av x.len cv) ∧ wr.drew.cell? ⟨wq.heap.size, 1, none⟩ = some (.slice (some ⟨gl, 0, none⟩) (x.len + 40) cl) ∧ wr.drew.cell? ⟨wq.heap.size, 2, none⟩ = some (.int .i64 num) ∧ wr.drew.cell? ⟨gl, m, none⟩ = some (.slice Arl 1 crl) from ⟨cell_on hd1 b0, cell_on hd1 b1, cell_on hd1 b2, cell_on hd1 hcc0⟩)
            refine wp_region_held_drew (S := fun w' : World => w'.cell? ⟨wq.heap.size, 0, none⟩ = some (.slice Av x.len cv) ∧ w'.cell? ⟨wq.heap.size, 1, none⟩ = some (.slice (some ⟨gl, 0, none⟩) (x.len + 40) cl) ∧ w'.cell? ⟨wq.heap.size, 2, none⟩ = some (.int .i64 num) ∧ w'.cell? ⟨gl, m, none⟩ = some (.slice Arl 1 crl)) (by kernel_rfl) HS0.out (fun _ => ?_)
            refine jrun (i := 0) (v := ?_) rfl rfl (by kernel_rfl) (by kernel_rfl) (by kernel_rfl) (by kernel_rfl) (fun _ _ _ h => h) HS0.out ?_ ?_
            rotate_left
            · rintro W' ⟨s0, s1, s2, s3⟩; simp only [List.getElem_toArray, List.getElem_cons_succ, List.getElem_cons_zero]; go_simp; try with_reducible rfl
            (try simp only [Act.put, List.setIfInBounds_toArray, List.set_cons_zero, List.set_cons_succ])
            refine jrun (i := 1) (v := ?_) rfl rfl (by kernel_rfl) (by kernel_rfl) (by kernel_rfl) (by kernel_rfl) (fun _ _ _ h => h) HS0.out ?_ ?_
            rotate_left
            · rintro W' ⟨s0, s1, s2, s3⟩; simp only [List.getElem_toArray, List.getElem_cons_succ, List.getElem_cons_zero]; go_simp; try with_reducible rfl
            (try simp only [Act.put, List.setIfInBounds_toArray, List.set_cons_zero, List.set_cons_succ])
            refine jrun (i := 2) (v := ?_) rfl rfl (by kernel_rfl) (by kernel_rfl) (by kernel_rfl) (by kernel_rfl) (fun _ _ _ h => h) HS0.out ?_ ?_
            rotate_left
            · rintro W' ⟨s0, s1, s2, s3⟩; simp only [List.getElem_toArray, List.getElem_cons_succ, List.getElem_cons_zero]; go_simp; try with_reducible rfl
            (try simp only [Act.put, List.setIfInBounds_toArray, List.set_cons_zero, List.set_cons_succ])
            refine jrun (i := 3) (v := ?_) rfl rfl (by kernel_rfl) (by kernel_rfl) (by kernel_rfl) (by kernel_rfl) (fun _ _ _ h => h) HS0.out ?_ ?_
            rotate_left
            · rintro W' ⟨s0, s1, s2, s3⟩; simp only [List.getElem_toArray, List.getElem_cons_succ, List.getElem_cons_zero]; go_simp; try with_reducible rfl
            (try simp only [Act.put, List.setIfInBounds_toArray, List.set_cons_zero, List.set_cons_succ])
            refine jrun (i := 4) (v := ?_) rfl rfl (by kernel_rfl) (by kernel_rfl) (by kernel_rfl) (by kernel_rfl) (fun _ _ _ h => h) HS0.out ?_ ?_
            rotate_left
            · rintro W' ⟨s0, s1, s2, s3⟩; simp only [List.getElem_toArray, List.getElem_cons_succ, List.getElem_cons_zero]; go_simp; try with_reducible rfl
            (try simp only [Act.put, List.setIfInBounds_toArray, List.set_cons_zero, List.set_cons_succ])
            refine jrun (i := 5) (v := ?_) rfl rfl (by kernel_rfl) (by kernel_rfl) (by kernel_rfl) (by kernel_rfl) (fun _ _ _ h => h) HS0.out ?_ ?_
            rotate_left
            · rintro W' ⟨s0, s1, s2, s3⟩; simp only [List.getElem_toArray, List.getElem_cons_succ, List.getElem_cons_zero]; go_simp; try with_reducible rfl
            (try simp only [Act.put, List.setIfInBounds_toArray, List.set_cons_zero, List.set_cons_succ])
            refine jrun (i := 6) (v := ?_) rfl rfl (by kernel_rfl) (by kernel_rfl) (by kernel_rfl) (by kernel_rfl) (fun _ _ _ h => h) HS0.out ?_ ?_
            rotate_left
            · rintro W' ⟨s0, s1, s2, s3⟩; simp only [List.getElem_toArray, List.getElem_cons_succ, List.getElem_cons_zero]; go_simp; try with_reducible rfl
            (try simp only [Act.put, List.setIfInBounds_toArray, List.set_cons_zero, List.set_cons_succ])
            refine wpAnyH_ready (rs := [7]) (by kernel_rfl) (by simp) ?_
            refine AllReadyH.cons rfl (fun K hK => ?_) AllReadyH.nil
            rw [if_pos (by kernel_rfl)]
            simp only [List.getElem_toArray, List.getElem_cons_succ, List.getElem_cons_zero]
            go_simp
            (go_at_call 184; refine (isResult_below Arl crl num wr.drew (Kd.C_below grl HD1.out) lrl hn0 hn1 (TabOk.below HT.out (below_step HBR.out HD1.out))).mono ?_; rintro e w1 ⟨rfl, hb1⟩; have HB1 := Aside0.mk (below_step HD1.out hb1); have HS1 := Aside0.mk (show w1.cell? ⟨wq.heap.size, 0, none⟩ = some (.slice Av x.len cv) ∧ w1.cell? ⟨wq.heap.size, 1, none⟩ = some (.slice (some ⟨gl, 0, none⟩) (x.len + 40) cl) ∧ w1.cell? ⟨wq.heap.size, 2, none⟩ = some (.int .i64 num) ∧ w1.cell? ⟨gl, m, none⟩ = some (.slice Arl 1 crl) from ⟨cell_on hb1 (HS0.out.1), cell_on hb1 (HS0.out.2.1), cell_on hb1 (HS0.out.2.2.1), cell_on hb1 (HS0.out.2.2.2)⟩); clear hb1)
            refine hK.out _ _ HS1.out (fun _ => ?_)
            clear hK K
            (try simp only [Act.put, List.setIfInBounds_toArray, List.set_cons_zero, List.set_cons_succ])
            refine jrun (i := 8) (v := ?_) rfl rfl (by kernel_rfl) (by kernel_rfl) (by kernel_rfl) (by kernel_rfl) (fun _ _ _ h => h) HS1.out ?_ ?_
            rotate_left
            · rintro W' ⟨s0, s1, s2, s3⟩; simp only [List.getElem_toArray, List.getElem_cons_succ, List.getElem_cons_zero]; go_simp; try with_reducible rfl
            (try simp only [Act.put, List.setIfInBounds_toArray, List.set_cons_zero, List.set_cons_succ])
            refine jrun (i := 9) (v := ?_) rfl rfl (by kernel_rfl) (by kernel_rfl) (by kernel_rfl) (by kernel_rfl) (fun _ _ _ h => h) HS1.out ?_ ?_
            rotate_left
            · rintro W' ⟨s0, s1, s2, s3⟩; simp only [List.getElem_toArray, List.getElem_cons_succ, List.getElem_cons_zero]; go_simp; try with_reducible rfl
            (try simp only [Act.put, List.setIfInBounds_toArray, List.set_cons_zero, List.set_cons_succ])
            refine jrun (i := 10) (v := ?_) rfl rfl (by kernel_rfl) (by kernel_rfl) (by kernel_rfl) (by kernel_rfl) (fun _ _ _ h => h) HS1.out ?_ ?_
            rotate_left
            · rintro W' ⟨s0, s1, s2, s3⟩; simp only [List.getElem_toArray, List.getElem_cons_succ, List.getElem_cons_zero]; go_simp; try with_reducible rfl
            (try simp only [Act.put, List.setIfInBounds_toArray, List.set_cons_zero, List.set_cons_succ])
            refine jrun (i := 11) (v := ?_) rfl rfl (by kernel_rfl) (by kernel_rfl) (by kernel_rfl) (by kernel_rfl) (fun _ _ _ h => h) HS1.out ?_ ?_
            rotate_left
            · rintro W' ⟨s0, s1, s2, s3⟩; simp only [List.getElem_toArray, List.getElem_cons_succ, List.getElem_cons_zero]; go_simp; try with_reducible rfl
            (try simp only [Act.put, List.setIfInBounds_toArray, List.set_cons_zero, List.set_cons_succ])
            refine jrun (i := 12) (v := ?_) rfl rfl (by kernel_rfl) (by kernel_rfl) (by kernel_rfl) (by kernel_rfl) (fun _ _ _ h => h) HS1.out ?_ ?_
            rotate_left
            · rintro W' ⟨s0, s1, s2, s3⟩; simp only [List.getElem_toArray, List.getElem_cons_succ, List.getElem_cons_zero]; go_simp; try with_reducible rfl
            (try simp only [Act.put, List.setIfInBounds_toArray, List.set_cons_zero, List.set_cons_succ])
            refine jrun (i := 13) (v := ?_) rfl rfl (by kernel_rfl) (by kernel_rfl) (by kernel_rfl) (by kernel_rfl) (fun _ _ _ h => h) HS1.out ?_ ?_
            rotate_left
            · rintro W' ⟨s0, s1, s2, s3⟩; simp only [List.getElem_toArray, List.getElem_cons_succ, List.getElem_cons_zero]; go_simp; try with_reducible rfl
            (try simp only [Act.put, List.setIfInBounds_toArray, List.set_cons_zero, List.set_cons_succ])
            refine jrun (i := 14) (v := ?_) rfl rfl (by kernel_rfl) (by kernel_rfl) (by kernel_rfl) (by kernel_rfl) (fun _ _ _ h => h) HS1.out ?_ ?_
            rotate_left
            · rintro W' ⟨s0, s1, s2, s3⟩; simp only [List.getElem_toArray, List.getElem_cons_succ, List.getElem_cons_zero]; go_simp; try with_reducible rfl
            (try simp only [Act.put, List.setIfInBounds_toArray, List.set_cons_zero, List.set_cons_succ])
            refine jrun (i := 15) (v := ?_) rfl rfl (by kernel_rfl) (by kernel_rfl) (by kernel_rfl) (by kernel_rfl) (fun _ _ _ h => h) HS1.out ?_ ?_
            rotate_left
            · rintro W' ⟨s0, s1, s2, s3⟩; simp only [List.getElem_toArray, List.getElem_cons_succ, List.getElem_cons_zero]; go_simp; try with_reducible rfl
            (try simp only [Act.put, List.setIfInBounds_toArray, List.set_cons_zero, List.set_cons_succ])
            refine jskip (i := 16) rfl rfl (by kernel_rfl) (by kernel_rfl) (by kernel_rfl) (by kernel_rfl) (fun _ _ _ h => h) HS1.out ?_
            (try simp only [Act.put, List.setIfInBounds_toArray, List.set_cons_zero, List.set_cons_succ])
            refine jskip (i := 17) rfl rfl (by kernel_rfl) (by kernel_rfl) (by kernel_rfl) (by kernel_rfl) (fun _ _ _ h => h) HS1.out ?_
            (try simp only [Act.put, List.setIfInBounds_toArray, List.set_cons_zero, List.set_cons_succ])
            refine jskip (i := 18) rfl rfl (by kernel_rfl) (by kernel_rfl) (by kernel_rfl) (by kernel_rfl) (fun _ _ _ h => h) HS1.out ?_
            (try simp only [Act.put, List.setIfInBounds_toArray, List.set_cons_zero, List.set_cons_succ])
            refine jskip (i := 19) rfl rfl (by kernel_rfl) (by kernel_rfl) (by kernel_rfl) (by kernel_rfl) (fun _ _ _ h => h) HS1.out ?_
            (try simp only [Act.put, List.setIfInBounds_toArray, List.set_cons_zero, List.set_cons_succ])
            refine jskip (i := 20) rfl rfl (by kernel_rfl) (by kernel_rfl) (by kernel_rfl) (by kernel_rfl) (fun _ _ _ h => h) HS1.out ?_
            (try simp only [Act.put, List.setIfInBounds_toArray, List.set_cons_zero, List.set_cons_succ])
            refine jskip (i := 21) rfl rfl (by kernel_rfl) (by kernel_rfl) (by kernel_rfl) (by kernel_rfl) (fun _ _ _ h => h) HS1.out ?_
            (try simp only [Act.put, List.setIfInBounds_toArray, List.set_cons_zero, List.set_cons_succ])
            refine jskip (i := 22) rfl rfl (by kernel_rfl) (by kernel_rfl) (by kernel_rfl) (by kernel_rfl) (fun _ _ _ h => h) HS1.out ?_
            (try simp only [Act.put, List.setIfInBounds_toArray, List.set_cons_zero, List.set_cons_succ])
            refine wpAnyH_ready (rs := [23]) (by kernel_rfl) (by simp) ?_
            refine AllReadyH.cons rfl (fun K hK => ?_) AllReadyH.nil
            rw [if_neg (wanted_no (by kernel_rfl))]
            refine hK.out _ _ HS1.out (fun _ => ?_)
            clear hK K
            (try simp only [Act.put, List.setIfInBounds_toArray, List.set_cons_zero, List.set_cons_succ])
            refine jskip (i := 24) rfl rfl (by kernel_rfl) (by kernel_rfl) (by kernel_rfl) (by kernel_rfl) (fun _ _ _ h => h) HS1.out ?_
            (try simp only [Act.put, List.setIfInBounds_toArray, List.set_cons_zero, List.set_cons_succ])
            refine jrun (i := 25) (v := ?_) rfl rfl (by kernel_rfl) (by kernel_rfl) (by kernel_rfl) (by kernel_rfl) (fun _ _ _ h => h) HS1.out ?_ ?_
            rotate_left
            · rintro W' ⟨s0, s1, s2, s3⟩; simp only [List.getElem_toArray, List.getElem_cons_succ, List.getElem_cons_zero]; go_simp; try with_reducible rfl
            (try simp only [Act.put, List.setIfInBounds_toArray, List.set_cons_zero, List.set_cons_succ])
            refine jrun (i := 26) (v := ?_) rfl rfl (by kernel_rfl) (by kernel_rfl) (by kernel_rfl) (by kernel_rfl) (fun _ _ _ h => h) HS1.out ?_ ?_
            rotate_left
            · rintro W' ⟨s0, s1, s2, s3⟩; simp only [List.getElem_toArray, List.getElem_cons_succ, List.getElem_cons_zero]; go_simp; try with_reducible rfl
            (try simp only [Act.put, List.setIfInBounds_toArray, List.set_cons_zero, List.set_cons_succ])
            refine wpAnyH_done (by kernel_rfl) ?_ _
            go_wp2
            refine ⟨⟨m + 1, by omega, by first | rfl | simp, Aside0.mk (below_step HI.out HB1.out)⟩, ?_⟩
            try simp only [intOf]
            omega
        · go_wp2
          refine ⟨⟨k + 1, by omega, by first | rfl | simp, HBR⟩, ?_⟩
          try simp only [intOf]
          omega
    · go_wp2
      go_ret
      exact ⟨rfl, HBQ.out⟩
end Go.Proofs.YtcohodkpppmaoaaGreatDoor.Q
