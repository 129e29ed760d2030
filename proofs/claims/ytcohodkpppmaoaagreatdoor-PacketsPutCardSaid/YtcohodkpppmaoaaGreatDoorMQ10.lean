/-
  The book's lists of kind Result: all are as they were marked.
  The book's lists of the kinds that are never kept here: nothing is done.
  The book's last word: no two of the lists that are kept share memory.
  The book as a law sees it: so many are kept, and these are its blocks; one more is kept.
  The book beside lists that are not kept yet: all of them lie below G, the book's own blocks are those that were kept, and new ones.
  A copy in memory of its own, with a mark in the room behind it.
  Rows: copies with a mark behind them, and whether they are as they were.
  rows.text: a text's length, as one byte, and its bytes are put behind a row of bytes that the caller owns; and a law on append of a text that tells where the new row lies.
-/
import Derived.Test.YtcohodkpppmaoaaGreatDoorMQ7
import Derived.Test.YtcohodkpppmaoaaGreatDoorMQ8
import Derived.WalkSpells
import Derived.BigRegion
import Derived.Test.YtcohodkpppmaoaaGreatDoorMQ9
import Derived.BigQuiet
import Derived.Test.YtcohodkpppmaoaaGreatDoorMQ3
set_option linter.unusedSimpArgs false
set_option linter.unusedVariables false
namespace Go.Proofs.YtcohodkpppmaoaaGreatDoor.Q
open Go.RowKit Go.Proofs.YtcohodkpppmaoaaGreatDoorW.PrintWords Go.Proofs.YtcohodkpppmaoaaGreatDoorW.PrintLast Go.Proofs.YtcohodkpppmaoaaGreatDoorW.PrintMore
set_option linter.unusedVariables false
theorem isResult_below (A : Option Addr) (c : Nat) (n : Int) (w : World) (hC : k148.C w A 1 [⟨wordOf n, 0⟩]) (hc : 1 ≤ c) (h0 : 0 ≤ n) (h1 : n ≤ 1000000000000000) (hT : TabOk w) : Calls Tryz.prog 184 #[.agg #[.slice A 1 c], .int .i64 n] w fun e w' => e = .returned (.bool true) ∧ Below w.heap.size w w' :=
  concordatlaw01_isResult.calls A c [⟨wordOf n, 0⟩] n true w hC hc (by unfold concordatlaw01_isResult.f; rw [word_f h0 h1]; simp [rd_T148]) hT
set_option maxHeartbeats 6400000 in
set_option maxRecDepth 100000 in
theorem lookResult_calls (w : World) (g : Nat) (bc : Array Value) (hb : w.heap[g]? = some (.cells bc 44 (0, 0))) (V : Value) (hV : bc[9]? = some V) (E : List Ent) (F : List Nat) (HR : Fd.Row (fdC fdResult.k mkResult) 199 w F V E)
    (hn : ∀ x ∈ E, (0 ≤ x.num ∧ x.num ≤ 1000000000000000) ∧ x.len ≤ 1000000000) (hT : TabOk w) :
    Calls Tryz.prog 106 #[.pointer (some ⟨g, 0, none⟩)] w fun e w' => e = .returned (.bool true) ∧ Below w.heap.size w w' := by
  obtain ⟨A1, c1, ev, hc1, hC1⟩ := Fd.row_reads HR
  subst ev
  have hu := Tryz.underlying44
  have huh := Tryz.underlying199
  have hlE : E.length ≤ maxLen := Kd.C_max hC1
  unfold maxLen at hlE
  have HB := Aside0.mk hb
  have HN := Aside0.mk hn
  have HT := Aside0.mk hT
  have HR0 := Aside0.mk HR
  have HB0 := Aside0.mk (Below.refl w.heap.size w)
  have q1 : w.cell? ⟨g, 9, none⟩ = some (.slice A1 E.length c1) := by simp [World.cell?, hb, hV]
  clear HR hb hn hT hC1
  go_enter Tryz.func106, Tryz.ntmps106
  go_wp2
  clear q1
  go_loopw [3] (fun i wr => ∃ k : Nat, k ≤ E.length ∧ i = .int .i64 k ∧ Aside0 (Below w.heap.size w wr)) (fun i _ => E.length - (intOf i).toNat)
  case atStart => exact ⟨0, Nat.zero_le _, rfl, HB0⟩
  case round =>
    clear HB0
    obtain ⟨wq, hwq⟩ : ∃ wq, wq = wr := ⟨_, rfl⟩
    subst hwq
    obtain ⟨k, hk, rfl, HBQ⟩ := hrel
    have hbr := blk_below HB.out HBQ.out
    have q1 : wq.cell? ⟨g, 9, none⟩ = some (.slice A1 E.length c1) := by simp [World.cell?, hbr, hV]
    clear hbr
    by_cases hlt : k < E.length
    · have hlt' : (k : Int) < (E.length : Int) := by omega
      have hk0 : (0 : Int) ≤ (k : Int) := by omega
      obtain ⟨inner, G, ho, he, rfl⟩ := Fd.row_below HR0.out HBQ.out
      obtain ⟨c0, c, c2, F0, F', F1, rfl, hl0, rfl, _, hM, _⟩ := Fd.els_at hlt he
      obtain ⟨x, hxe⟩ : ∃ x, E[k] = x := ⟨_, rfl⟩
      rw [hxe] at hM
      obtain ⟨gh, cap, ev, _, _⟩ := ho.form (by omega)
      injection ev with ea _ ec
      subst ea ec
      obtain ⟨L, rfl, hS⟩ := hM
      obtain ⟨Av, cv, Al, cl, hAv, ⟨gl, rfl⟩, hxv, rfl, _, _, _, _⟩ := hS.2 wq (fun _ _ => rfl)
      have hl0' : c0.length = k * 3 := hl0
      have hcell : ∀ j u, [x.v, .slice (some ⟨gl, 0, none⟩) (x.len + 40) cl, .int .i64 x.num][j]? = some u → wq.cell? ⟨gh, k * 3 + j, none⟩ = some u := by
        intro j u hu
        have h := ho.cells (g := gh) rfl (k * 3 + j) u (by rw [List.getElem?_append_right (by omega), hl0', Nat.add_sub_cancel_left, List.getElem?_append_left (by exact (List.getElem?_eq_some_iff.1 hu).1)]; exact hu)
        rwa [add_plain] at h
      have d0 := hcell 0 (.slice Av x.len cv) (by rw [← hxv]; rfl)
      have d1 := hcell 1 (.slice (some ⟨gl, 0, none⟩) (x.len + 40) cl) rfl
      have d2 := hcell 2 (.int .i64 x.num) rfl
      rw [Nat.add_zero] at d0
      obtain ⟨⟨hn0, hn1⟩, hxn⟩ := HN.out x (hxe ▸ List.getElem_mem hlt)
      obtain ⟨num, hnum⟩ : ∃ num, x.num = num := ⟨_, rfl⟩
      rw [hnum] at d2 hn0 hn1
      have HS := Aside0.mk hS
      have HNU := Aside0.mk hnum
      have HXV := Aside0.mk hxv
      have hw40 : IntKind.i64.wrap ((x.len : Int) + 40) = (x.len : Int) + 40 := IntWalk.i64_in _ (by omega)
      have hc40 : (((x.len + 40 : Nat) : Int)) = (x.len : Int) + 40 := by omega
      clear hcell hnum hxe ho he hl0 hl0' hS
      go_wp2_with fail
      obtain ⟨wo, hwo⟩ : ∃ wo, wo = wq.alloc (.cells #[.slice Av x.len cv, .slice (some ⟨gl, 0, none⟩) (x.len + 40) cl, .int .i64 num] 199) := ⟨_, rfl⟩
      have hbo : Below wq.heap.size wq wo := by rw [hwo]; exact below_alloc (Below.refl _ _) _
      have HBX := Aside0.mk (show wo.heap[wq.heap.size]? = some (.cells #[.slice Av x.len cv, .slice (some ⟨gl, 0, none⟩) (x.len + 40) cl, .int .i64 num] 199 (0, 0)) from by rw [hwo]; exact blk_new wq _)
      have HWO := Aside0.mk hbo
      have HBO := Aside0.mk (below_step HBQ.out hbo)
      rw [← hwo]
      clear hbo d0 d1 d2 q1
      go_loopw [5] (fun i wr => ∃ m : Nat, m ≤ x.len + 40 ∧ i = .int .i64 m ∧ Aside0 (Below wo.heap.size wo wr)) (fun i _ => x.len + 40 - (intOf i).toNat)
      case atStart => exact ⟨0, Nat.zero_le _, rfl, Aside0.mk (Below.refl _ _)⟩
      case round =>
        obtain ⟨m, hm, rfl, HI⟩ := hrel
        have hbx := blk_below HBX.out HI.out
        have hBX := Aside0.mk hbx
        have b0 := blk_cell hbx 0
        have b1 := blk_cell hbx 1
        have b2 := blk_cell hbx 2
        have HBR := Aside0.mk (below_step HBO.out HI.out)
        have hqr := below_step HWO.out HI.out
        have hbl := blk_lt hbx
        by_cases hml : m < x.len + 40
        · have hml' : (m : Int) < (x.len : Int) + 40 := by omega
          have hm0 : (0 : Int) ≤ (m : Int) := by omega
          obtain ⟨Av', cv', Al', cl', hAv', _, hxv', hL', _, _, hCv, hCl⟩ := HS.out.2 wr (fun b hb => hqr.block b (HS.out.1 b hb))
          have ex := HXV.out.symm.trans hxv'
          injection ex with ex1 _ ex2
          subst ex1 ex2
          injection hL' with ex1 _ ex2
          subst ex1 ex2
          rw [HNU.out] at hCv hCl
          obtain ⟨cc, hK, hcc⟩ := marks_at hCl m hml
          obtain ⟨Arl, crl, rfl, lrl, grl⟩ : ∃ A0 c0, cc = [.slice A0 1 c0] ∧ 1 ≤ c0 ∧ k148.C wr A0 1 [⟨wordOf num, 0⟩] := k145_open hK
          have hd1 := below_drew (Below.refl wr.heap.size wr)
          have HD1 := Aside0.mk hd1
          have hcc0 : wr.cell? ⟨gl, m, none⟩ = some (.slice Arl 1 crl) := by have h := hcc 0 _ rfl; rwa [show m * (fdResult).k.sz + 0 = m from Nat.mul_one m] at h
          by_cases hml2 : m < x.len
          · have hml2' : (m : Int) < (x.len : Int) := by omega
            obtain ⟨gv, rfl⟩ : ∃ gv, Av = some ⟨gv, 0, none⟩ := by
              rcases hAv with h | h
              · omega
              · exact h
            obtain ⟨cc', hK', hcc'⟩ := marks_at hCv m hml2
            obtain ⟨Arv, crv, rfl, lrv, grv⟩ : ∃ A0 c0, cc' = [.slice A0 1 c0] ∧ 1 ≤ c0 ∧ k148.C wr A0 1 [⟨wordOf num, 0⟩] := k145_open hK'
            have hcc'0 : wr.cell? ⟨gv, m, none⟩ = some (.slice Arv 1 crv) := by have h := hcc' 0 _ rfl; rwa [show m * (fdResult).k.sz + 0 = m from Nat.mul_one m] at h
            go_wp2_with fail
            have HS0 := Aside0.mk (show wr.drew.cell? ⟨wq.heap.size, 0, none⟩ = some (.slice (some ⟨gv, 0, none⟩) x.len cv) ∧ wr.drew.cell? ⟨wq.heap.size, 1, none⟩ = some (.slice (some ⟨gl, 0, none⟩) (x.len + 40) cl) ∧ wr.drew.cell? ⟨wq.heap.size, 2, none⟩ = some (.int .i64 num) ∧ wr.drew.cell? ⟨gl, m, none⟩ = some (.slice Arl 1 crl) ∧ wr.drew.cell? ⟨gv, m, none⟩ = some (.slice Arv 1 crv) from ⟨cell_on hd1 b0, cell_on hd1 b1, cell_on hd1 b2, cell_on hd1 hcc0, cell_on hd1 hcc'0⟩)
            have HF := Aside0.mk (show wr.cell? ⟨wq.heap.size, 0, none⟩ = some (.slice (some ⟨gv, 0, none⟩) x.len cv) ∧ wr.cell? ⟨wq.heap.size, 1, none⟩ = some (.slice (some ⟨gl, 0, none⟩) (x.len + 40) cl) ∧ wr.cell? ⟨wq.heap.size, 2, none⟩ = some (.int .i64 num) ∧ wr.cell? ⟨gl, m, none⟩ = some (.slice Arl 1 crl) ∧ wr.cell? ⟨gv, m, none⟩ = some (.slice Arv 1 crv) from ⟨b0, b1, b2, hcc0, hcc'0⟩)
            have C1 := Aside0.mk (isResult_below Arl crl num wr.drew (Kd.C_below grl HD1.out) lrl hn0 hn1 (TabOk.below HT.out (below_step HBR.out HD1.out)))
            first | (go_region_held3 (fun w' : World => w'.cell? ⟨wq.heap.size, 0, none⟩ = some (.slice (some ⟨gv, 0, none⟩) x.len cv) ∧ w'.cell? ⟨wq.heap.size, 1, none⟩ = some (.slice (some ⟨gl, 0, none⟩) (x.len + 40) cl) ∧ w'.cell? ⟨wq.heap.size, 2, none⟩ = some (.int .i64 num) ∧ w'.cell? ⟨gl, m, none⟩ = some (.slice Arl 1 crl) ∧ w'.cell? ⟨gv, m, none⟩ = some (.slice Arv 1 crv)) (first | with_reducible exact HS0.out | with_reducible exact HS1.out | with_reducible exact HS2.out) (first
              | (go_at_call 184
                 with_reducible refine C1.out.mono ?_
                 rintro e w1 ⟨rfl, hb1⟩
                 have HB1 := Aside0.mk (below_step HD1.out hb1)
                 have C2 := Aside0.mk (isResult_below Arv crv num w1 (Kd.C_below grv HB1.out) lrv hn0 hn1 (TabOk.below HT.out (below_step HBR.out HB1.out)))
                 have HS1 := Aside0.mk (show w1.cell? ⟨wq.heap.size, 0, none⟩ = some (.slice (some ⟨gv, 0, none⟩) x.len cv) ∧ w1.cell? ⟨wq.heap.size, 1, none⟩ = some (.slice (some ⟨gl, 0, none⟩) (x.len + 40) cl) ∧ w1.cell? ⟨wq.heap.size, 2, none⟩ = some (.int .i64 num) ∧ w1.cell? ⟨gl, m, none⟩ = some (.slice Arl 1 crl) ∧ w1.cell? ⟨gv, m, none⟩ = some (.slice Arv 1 crv) from ⟨cell_on hb1 (HS0.out.1), cell_on hb1 (HS0.out.2.1), cell_on hb1 (HS0.out.2.2.1), cell_on hb1 (HS0.out.2.2.2.1), cell_on hb1 (HS0.out.2.2.2.2)⟩)
                 clear hb1)
              | (go_at_call 184
                 with_reducible refine C2.out.mono ?_
                 rintro e w2 ⟨rfl, hb2⟩
                 have HB2 := Aside0.mk (below_step HB1.out hb2)
                 have HS2 := Aside0.mk (show w2.cell? ⟨wq.heap.size, 0, none⟩ = some (.slice (some ⟨gv, 0, none⟩) x.len cv) ∧ w2.cell? ⟨wq.heap.size, 1, none⟩ = some (.slice (some ⟨gl, 0, none⟩) (x.len + 40) cl) ∧ w2.cell? ⟨wq.heap.size, 2, none⟩ = some (.int .i64 num) ∧ w2.cell? ⟨gl, m, none⟩ = some (.slice Arl 1 crl) ∧ w2.cell? ⟨gv, m, none⟩ = some (.slice Arv 1 crv) from ⟨cell_on hb2 (HS1.out.1), cell_on hb2 (HS1.out.2.1), cell_on hb2 (HS1.out.2.2.1), cell_on hb2 (HS1.out.2.2.2.1), cell_on hb2 (HS1.out.2.2.2.2)⟩)
                 clear hb2))) | fail "held3"
            all_goals
              go_wp2
              refine ⟨⟨m + 1, by omega, by first | rfl | simp, Aside0.mk (below_step HI.out HB2.out)⟩, ?_⟩
              try simp only [intOf]
              omega
          · have hml2' : ¬ ((m : Int) < (x.len : Int)) := by omega
            go_wp2_with fail
            have HS0 := Aside0.mk (show wr.drew.cell? ⟨wq.heap.size, 0, none⟩ = some (.slice Av x.len cv) ∧ wr.drew.cell? ⟨wq.heap.size, 1, none⟩ = some (.slice (some ⟨gl, 0, none⟩) (x.len + 40) cl) ∧ wr.drew.cell? ⟨wq.heap.size, 2, none⟩ = some (.int .i64 num) ∧ wr.drew.cell? ⟨gl, m, none⟩ = some (.slice Arl 1 crl) from ⟨cell_on hd1 b0, cell_on hd1 b1, cell_on hd1 b2, cell_on hd1 hcc0⟩)
            refine wp_region_held_drew (S := fun w' : World => w'.cell? ⟨wq.heap.size, 0, none⟩ = some (.slice Av x.len cv) ∧ w'.cell? ⟨wq.heap.size, 1, none⟩ = some (.slice (some ⟨gl, 0, none⟩) (x.len + 40) cl) ∧ w'.cell? ⟨wq.heap.size, 2, none⟩ = some (.int .i64 num) ∧ w'.cell? ⟨gl, m, none⟩ = some (.slice Arl 1 crl)) (by kernel_rfl) HS0.out (fun _ => ?_)
            refine jrun (i := 0) (v := ?_) rfl rfl (by kernel_rfl) (by kernel_rfl) (by kernel_rfl) (by kernel_rfl) (fun _ _ _ h => h) HS0.out ?_ ?_
            rotate_left
            · rintro W' ⟨s0, s1, s2, s3⟩; simp only [List.getElem_toArray, List.getElem_cons_succ, List.getElem_cons_zero]; go_simp; try with_reducible rfl
            (try simp only [Act.put, List.setIfInBounds_toArray, List.set_cons_zero, List.set_cons_succ])
            refine jrun (i := 1) (v := ?_) rfl rfl (by kernel_rfl) (by kernel_rfl) (by kernel_rfl) (by kernel_rfl) (fun _ _ _ h => h) HS0.out ?_ ?_
            rotate_left
            · rintro W' ⟨s0, s1, s2, s3⟩; simp only [List.getElem_toArray, List.getElem_cons_succ, List.getElem_cons_zero]; go_simp; try with_reducible rfl
            (try simp only [Act.put, List.setIfInBounds_toArray, List.set_cons_zero, List.set_cons_succ])
            refine jrun (i := 2) (v := ?_) rfl rfl (by kernel_rfl) (by kernel_rfl) (by kernel_rfl) (by kernel_rfl) (fun _ _ _ h => h) HS0.out ?_ ?_
            rotate_left
            · rintro W' ⟨s0, s1, s2, s3⟩; simp only [List.getElem_toArray, List.getElem_cons_succ, List.getElem_cons_zero]; go_simp; try with_reducible rfl
            (try simp only [Act.put, List.setIfInBounds_toArray, List.set_cons_zero, List.set_cons_succ])
            refine jrun (i := 3) (v := ?_) rfl rfl (by kernel_rfl) (by kernel_rfl) (by kernel_rfl) (by kernel_rfl) (fun _ _ _ h => h) HS0.out ?_ ?_
            rotate_left
            · rintro W' ⟨s0, s1, s2, s3⟩; simp only [List.getElem_toArray, List.getElem_cons_succ, List.getElem_cons_zero]; go_simp; try with_reducible rfl
            (try simp only [Act.put, List.setIfInBounds_toArray, List.set_cons_zero, List.set_cons_succ])
            refine jrun (i := 4) (v := ?_) rfl rfl (by kernel_rfl) (by kernel_rfl) (by kernel_rfl) (by kernel_rfl) (fun _ _ _ h => h) HS0.out ?_ ?_
            rotate_left
            · rintro W' ⟨s0, s1, s2, s3⟩; simp only [List.getElem_toArray, List.getElem_cons_succ, List.getElem_cons_zero]; go_simp; try with_reducible rfl
            (try simp only [Act.put, List.setIfInBounds_toArray, List.set_cons_zero, List.set_cons_succ])
            refine jrun (i := 5) (v := ?_) rfl rfl (by kernel_rfl) (by kernel_rfl) (by kernel_rfl) (by kernel_rfl) (fun _ _ _ h => h) HS0.out ?_ ?_
            rotate_left
            · rintro W' ⟨s0, s1, s2, s3⟩; simp only [List.getElem_toArray, List.getElem_cons_succ, List.getElem_cons_zero]; go_simp; try with_reducible rfl
            (try simp only [Act.put, List.setIfInBounds_toArray, List.set_cons_zero, List.set_cons_succ])
            refine jrun (i := 6) (v := ?_) rfl rfl (by kernel_rfl) (by kernel_rfl) (by kernel_rfl) (by kernel_rfl) (fun _ _ _ h => h) HS0.out ?_ ?_
            rotate_left
            · rintro W' ⟨s0, s1, s2, s3⟩; simp only [List.getElem_toArray, List.getElem_cons_succ, List.getElem_cons_zero]; go_simp; try with_reducible rfl
            (try simp only [Act.put, List.setIfInBounds_toArray, List.set_cons_zero, List.set_cons_succ])
            refine wpAnyH_ready (rs := [7]) (by kernel_rfl) (by simp) ?_
            refine AllReadyH.cons rfl (fun K hK => ?_) AllReadyH.nil
            rw [if_pos (by kernel_rfl)]
            simp only [List.getElem_toArray, List.getElem_cons_succ, List.getElem_cons_zero]
            go_simp
            (go_at_call 184; refine (isResult_below Arl crl num wr.drew (Kd.C_below grl HD1.out) lrl hn0 hn1 (TabOk.below HT.out (below_step HBR.out HD1.out))).mono ?_; rintro e w1 ⟨rfl, hb1⟩; have HB1 := Aside0.mk (below_step HD1.out hb1); have HS1 := Aside0.mk (show w1.cell? ⟨wq.heap.size, 0, none⟩ = some (.slice Av x.len cv) ∧ w1.cell? ⟨wq.heap.size, 1, none⟩ = some (.slice (some ⟨gl, 0, none⟩) (x.len + 40) cl) ∧ w1.cell? ⟨wq.heap.size, 2, none⟩ = some (.int .i64 num) ∧ w1.cell? ⟨gl, m, none⟩ = some (.slice Arl 1 crl) from ⟨cell_on hb1 (HS0.out.1), cell_on hb1 (HS0.out.2.1), cell_on hb1 (HS0.out.2.2.1), cell_on hb1 (HS0.out.2.2.2)⟩); clear hb1)
            refine hK.out _ _ HS1.out (fun _ => ?_)
            clear hK K
            (try simp only [Act.put, List.setIfInBounds_toArray, List.set_cons_zero, List.set_cons_succ])
            refine jrun (i := 8) (v := ?_) rfl rfl (by kernel_rfl) (by kernel_rfl) (by kernel_rfl) (by kernel_rfl) (fun _ _ _ h => h) HS1.out ?_ ?_
            rotate_left
            · rintro W' ⟨s0, s1, s2, s3⟩; simp only [List.getElem_toArray, List.getElem_cons_succ, List.getElem_cons_zero]; go_simp; try with_reducible rfl
            (try simp only [Act.put, List.setIfInBounds_toArray, List.set_cons_zero, List.set_cons_succ])
            refine jrun (i := 9) (v := ?_) rfl rfl (by kernel_rfl) (by kernel_rfl) (by kernel_rfl) (by kernel_rfl) (fun _ _ _ h => h) HS1.out ?_ ?_
            rotate_left
            · rintro W' ⟨s0, s1, s2, s3⟩; simp only [List.getElem_toArray, List.getElem_cons_succ, List.getElem_cons_zero]; go_simp; try with_reducible rfl
            (try simp only [Act.put, List.setIfInBounds_toArray, List.set_cons_zero, List.set_cons_succ])
            refine jrun (i := 10) (v := ?_) rfl rfl (by kernel_rfl) (by kernel_rfl) (by kernel_rfl) (by kernel_rfl) (fun _ _ _ h => h) HS1.out ?_ ?_
            rotate_left
            · rintro W' ⟨s0, s1, s2, s3⟩; simp only [List.getElem_toArray, List.getElem_cons_succ, List.getElem_cons_zero]; go_simp; try with_reducible rfl
            (try simp only [Act.put, List.setIfInBounds_toArray, List.set_cons_zero, List.set_cons_succ])
            refine jrun (i := 11) (v := ?_) rfl rfl (by kernel_rfl) (by kernel_rfl) (by kernel_rfl) (by kernel_rfl) (fun _ _ _ h => h) HS1.out ?_ ?_
            rotate_left
            · rintro W' ⟨s0, s1, s2, s3⟩; simp only [List.getElem_toArray, List.getElem_cons_succ, List.getElem_cons_zero]; go_simp; try with_reducible rfl
            (try simp only [Act.put, List.setIfInBounds_toArray, List.set_cons_zero, List.set_cons_succ])
            refine jrun (i := 12) (v := ?_) rfl rfl (by kernel_rfl) (by kernel_rfl) (by kernel_rfl) (by kernel_rfl) (fun _ _ _ h => h) HS1.out ?_ ?_
            rotate_left
            · rintro W' ⟨s0, s1, s2, s3⟩; simp only [List.getElem_toArray, List.getElem_cons_succ, List.getElem_cons_zero]; go_simp; try with_reducible rfl
            (try simp only [Act.put, List.setIfInBounds_toArray, List.set_cons_zero, List.set_cons_succ])
            refine jrun (i := 13) (v := ?_) rfl rfl (by kernel_rfl) (by kernel_rfl) (by kernel_rfl) (by kernel_rfl) (fun _ _ _ h => h) HS1.out ?_ ?_
            rotate_left
            · rintro W' ⟨s0, s1, s2, s3⟩; simp only [List.getElem_toArray, List.getElem_cons_succ, List.getElem_cons_zero]; go_simp; try with_reducible rfl
            (try simp only [Act.put, List.setIfInBounds_toArray, List.set_cons_zero, List.set_cons_succ])
            refine jrun (i := 14) (v := ?_) rfl rfl (by kernel_rfl) (by kernel_rfl) (by kernel_rfl) (by kernel_rfl) (fun _ _ _ h => h) HS1.out ?_ ?_
            rotate_left
            · rintro W' ⟨s0, s1, s2, s3⟩; simp only [List.getElem_toArray, List.getElem_cons_succ, List.getElem_cons_zero]; go_simp; try with_reducible rfl
            (try simp only [Act.put, List.setIfInBounds_toArray, List.set_cons_zero, List.set_cons_succ])
            refine jrun (i := 15) (v := ?_) rfl rfl (by kernel_rfl) (by kernel_rfl) (by kernel_rfl) (by kernel_rfl) (fun _ _ _ h => h) HS1.out ?_ ?_
            rotate_left
            · rintro W' ⟨s0, s1, s2, s3⟩; simp only [List.getElem_toArray, List.getElem_cons_succ, List.getElem_cons_zero]; go_simp; try with_reducible rfl
            (try simp only [Act.put, List.setIfInBounds_toArray, List.set_cons_zero, List.set_cons_succ])
            refine jskip (i := 16) rfl rfl (by kernel_rfl) (by kernel_rfl) (by kernel_rfl) (by kernel_rfl) (fun _ _ _ h => h) HS1.out ?_
            (try simp only [Act.put, List.setIfInBounds_toArray, List.set_cons_zero, List.set_cons_succ])
            refine jskip (i := 17) rfl rfl (by kernel_rfl) (by kernel_rfl) (by kernel_rfl) (by kernel_rfl) (fun _ _ _ h => h) HS1.out ?_
            (try simp only [Act.put, List.setIfInBounds_toArray, List.set_cons_zero, List.set_cons_succ])
            refine jskip (i := 18) rfl rfl (by kernel_rfl) (by kernel_rfl) (by kernel_rfl) (by kernel_rfl) (fun _ _ _ h => h) HS1.out ?_
            (try simp only [Act.put, List.setIfInBounds_toArray, List.set_cons_zero, List.set_cons_succ])
            refine jskip (i := 19) rfl rfl (by kernel_rfl) (by kernel_rfl) (by kernel_rfl) (by kernel_rfl) (fun _ _ _ h => h) HS1.out ?_
            (try simp only [Act.put, List.setIfInBounds_toArray, List.set_cons_zero, List.set_cons_succ])
            refine jskip (i := 20) rfl rfl (by kernel_rfl) (by kernel_rfl) (by kernel_rfl) (by kernel_rfl) (fun _ _ _ h => h) HS1.out ?_
            (try simp only [Act.put, List.setIfInBounds_toArray, List.set_cons_zero, List.set_cons_succ])
            refine jskip (i := 21) rfl rfl (by kernel_rfl) (by kernel_rfl) (by kernel_rfl) (by kernel_rfl) (fun _ _ _ h => h) HS1.out ?_
            (try simp only [Act.put, List.setIfInBounds_toArray, List.set_cons_zero, List.set_cons_succ])
            refine jskip (i := 22) rfl rfl (by kernel_rfl) (by kernel_rfl) (by kernel_rfl) (by kernel_rfl) (fun _ _ _ h => h) HS1.out ?_
            (try simp only [Act.put, List.setIfInBounds_toArray, List.set_cons_zero, List.set_cons_succ])
            refine wpAnyH_ready (rs := [23]) (by kernel_rfl) (by simp) ?_
            refine AllReadyH.cons rfl (fun K hK => ?_) AllReadyH.nil
            rw [if_neg (wanted_no (by kernel_rfl))]
            refine hK.out _ _ HS1.out (fun _ => ?_)
            clear hK K
            (try simp only [Act.put, List.setIfInBounds_toArray, List.set_cons_zero, List.set_cons_succ])
            refine jskip (i := 24) rfl rfl (by kernel_rfl) (by kernel_rfl) (by kernel_rfl) (by kernel_rfl) (fun _ _ _ h => h) HS1.out ?_
            (try simp only [Act.put, List.setIfInBounds_toArray, List.set_cons_zero, List.set_cons_succ])
            refine jrun (i := 25) (v := ?_) rfl rfl (by kernel_rfl) (by kernel_rfl) (by kernel_rfl) (by kernel_rfl) (fun _ _ _ h => h) HS1.out ?_ ?_
            rotate_left
            · rintro W' ⟨s0, s1, s2, s3⟩; simp only [List.getElem_toArray, List.getElem_cons_succ, List.getElem_cons_zero]; go_simp; try with_reducible rfl
            (try simp only [Act.put, List.setIfInBounds_toArray, List.set_cons_zero, List.set_cons_succ])
            refine jrun (i := 26) (v := ?_) rfl rfl (by kernel_rfl) (by kernel_rfl) (by kernel_rfl) (by kernel_rfl) (fun _ _ _ h => h) HS1.out ?_ ?_
            rotate_left
            · rintro W' ⟨s0, s1, s2, s3⟩; simp only [List.getElem_toArray, List.getElem_cons_succ, List.getElem_cons_zero]; go_simp; try with_reducible rfl
            (try simp only [Act.put, List.setIfInBounds_toArray, List.set_cons_zero, List.set_cons_succ])
            refine wpAnyH_done (by kernel_rfl) ?_ _
            go_wp2
            refine ⟨⟨m + 1, by omega, by first | rfl | simp, Aside0.mk (below_step HI.out HB1.out)⟩, ?_⟩
            try simp only [intOf]
            omega
        · go_wp2
          refine ⟨⟨k + 1, by omega, by first | rfl | simp, HBR⟩, ?_⟩
          try simp only [intOf]
          omega
    · go_wp2
      go_ret
      exact ⟨rfl, HBQ.out⟩
end Go.Proofs.YtcohodkpppmaoaaGreatDoor.Q
namespace Go.Proofs.YtcohodkpppmaoaaGreatDoor.Q
open Go.RowKit Go.Proofs.YtcohodkpppmaoaaGreatDoorW.PrintWords Go.Proofs.YtcohodkpppmaoaaGreatDoorW.PrintLast Go.Proofs.YtcohodkpppmaoaaGreatDoorW.PrintMore
set_option linter.unusedVariables false
set_option maxHeartbeats 1600000 in
set_option maxRecDepth 100000 in
theorem fillId_no (w : World) (g : Nat) (bc : Array Value) (hb : w.heap[g]? = some (.cells bc 44 (0, 0))) (hV : bc[2]? = some (.slice none 0 0)) :
    Calls Tryz.prog 75 #[.pointer (some ⟨g, 0, none⟩)] w fun e w' => e = .returned (.tuple #[]) ∧ w' = w := by
  have hu := Tryz.underlying44
  have q1 : w.cell? ⟨g, 2, none⟩ = some (.slice none 0 0) := by simp [World.cell?, hb, hV]
  clear hb hV
  go_enter Tryz.func75, Tryz.ntmps75
  go_wp2
  go_loopw [2] (fun i wr => i = .int .i64 0 ∧ wr = w) (fun _ _ => 0)
  case atStart => exact ⟨rfl, rfl⟩
  case round =>
    obtain ⟨rfl, rfl⟩ := hrel
    go_wp2
    go_end0
    exact ⟨rfl, rfl⟩
set_option maxHeartbeats 1600000 in
set_option maxRecDepth 100000 in
theorem growId_no (w : World) (g : Nat) (bc : Array Value) (hb : w.heap[g]? = some (.cells bc 44 (0, 0))) (hV : bc[2]? = some (.slice none 0 0)) :
    Calls Tryz.prog 87 #[.pointer (some ⟨g, 0, none⟩)] w fun e w' => e = .returned (.tuple #[]) ∧ w' = w := by
  have hu := Tryz.underlying44
  have q1 : w.cell? ⟨g, 2, none⟩ = some (.slice none 0 0) := by simp [World.cell?, hb, hV]
  clear hb hV
  go_enter Tryz.func87, Tryz.ntmps87
  go_wp2
  go_loopw [2] (fun i wr => i = .int .i64 0 ∧ wr = w) (fun _ _ => 0)
  case atStart => exact ⟨rfl, rfl⟩
  case round =>
    obtain ⟨rfl, rfl⟩ := hrel
    go_wp2
    go_end0
    exact ⟨rfl, rfl⟩
set_option maxHeartbeats 1600000 in
set_option maxRecDepth 100000 in
theorem lookId_no (w : World) (g : Nat) (bc : Array Value) (hb : w.heap[g]? = some (.cells bc 44 (0, 0))) (hV : bc[2]? = some (.slice none 0 0)) :
    Calls Tryz.prog 99 #[.pointer (some ⟨g, 0, none⟩)] w fun e w' => e = .returned (.bool true) ∧ w' = w := by
  have hu := Tryz.underlying44
  have q1 : w.cell? ⟨g, 2, none⟩ = some (.slice none 0 0) := by simp [World.cell?, hb, hV]
  clear hb hV
  go_enter Tryz.func99, Tryz.ntmps99
  go_wp2
  go_loopw [3] (fun i wr => i = .int .i64 0 ∧ wr = w) (fun _ _ => 0)
  case atStart => exact ⟨rfl, rfl⟩
  case round =>
    obtain ⟨rfl, rfl⟩ := hrel
    go_wp2
    go_ret
    exact ⟨rfl, rfl⟩
set_option maxHeartbeats 1600000 in
set_option maxRecDepth 100000 in
theorem fillInt_no (w : World) (g : Nat) (bc : Array Value) (hb : w.heap[g]? = some (.cells bc 44 (0, 0))) (hV : bc[3]? = some (.slice none 0 0)) :
    Calls Tryz.prog 76 #[.pointer (some ⟨g, 0, none⟩)] w fun e w' => e = .returned (.tuple #[]) ∧ w' = w := by
  have hu := Tryz.underlying44
  have q1 : w.cell? ⟨g, 3, none⟩ = some (.slice none 0 0) := by simp [World.cell?, hb, hV]
  clear hb hV
  go_enter Tryz.func76, Tryz.ntmps76
  go_wp2
  go_loopw [2] (fun i wr => i = .int .i64 0 ∧ wr = w) (fun _ _ => 0)
  case atStart => exact ⟨rfl, rfl⟩
  case round =>
    obtain ⟨rfl, rfl⟩ := hrel
    go_wp2
    go_end0
    exact ⟨rfl, rfl⟩
set_option maxHeartbeats 1600000 in
set_option maxRecDepth 100000 in
theorem growInt_no (w : World) (g : Nat) (bc : Array Value) (hb : w.heap[g]? = some (.cells bc 44 (0, 0))) (hV : bc[3]? = some (.slice none 0 0)) :
    Calls Tryz.prog 88 #[.pointer (some ⟨g, 0, none⟩)] w fun e w' => e = .returned (.tuple #[]) ∧ w' = w := by
  have hu := Tryz.underlying44
  have q1 : w.cell? ⟨g, 3, none⟩ = some (.slice none 0 0) := by simp [World.cell?, hb, hV]
  clear hb hV
  go_enter Tryz.func88, Tryz.ntmps88
  go_wp2
  go_loopw [2] (fun i wr => i = .int .i64 0 ∧ wr = w) (fun _ _ => 0)
  case atStart => exact ⟨rfl, rfl⟩
  case round =>
    obtain ⟨rfl, rfl⟩ := hrel
    go_wp2
    go_end0
    exact ⟨rfl, rfl⟩
set_option maxHeartbeats 1600000 in
set_option maxRecDepth 100000 in
theorem lookInt_no (w : World) (g : Nat) (bc : Array Value) (hb : w.heap[g]? = some (.cells bc 44 (0, 0))) (hV : bc[3]? = some (.slice none 0 0)) :
    Calls Tryz.prog 100 #[.pointer (some ⟨g, 0, none⟩)] w fun e w' => e = .returned (.bool true) ∧ w' = w := by
  have hu := Tryz.underlying44
  have q1 : w.cell? ⟨g, 3, none⟩ = some (.slice none 0 0) := by simp [World.cell?, hb, hV]
  clear hb hV
  go_enter Tryz.func100, Tryz.ntmps100
  go_wp2
  go_loopw [3] (fun i wr => i = .int .i64 0 ∧ wr = w) (fun _ _ => 0)
  case atStart => exact ⟨rfl, rfl⟩
  case round =>
    obtain ⟨rfl, rfl⟩ := hrel
    go_wp2
    go_ret
    exact ⟨rfl, rfl⟩
set_option maxHeartbeats 1600000 in
set_option maxRecDepth 100000 in
theorem fillText_no (w : World) (g : Nat) (bc : Array Value) (hb : w.heap[g]? = some (.cells bc 44 (0, 0))) (hV : bc[4]? = some (.slice none 0 0)) :
    Calls Tryz.prog 77 #[.pointer (some ⟨g, 0, none⟩)] w fun e w' => e = .returned (.tuple #[]) ∧ w' = w := by
  have hu := Tryz.underlying44
  have q1 : w.cell? ⟨g, 4, none⟩ = some (.slice none 0 0) := by simp [World.cell?, hb, hV]
  clear hb hV
  go_enter Tryz.func77, Tryz.ntmps77
  go_wp2
  go_loopw [2] (fun i wr => i = .int .i64 0 ∧ wr = w) (fun _ _ => 0)
  case atStart => exact ⟨rfl, rfl⟩
  case round =>
    obtain ⟨rfl, rfl⟩ := hrel
    go_wp2
    go_end0
    exact ⟨rfl, rfl⟩
set_option maxHeartbeats 1600000 in
set_option maxRecDepth 100000 in
theorem growText_no (w : World) (g : Nat) (bc : Array Value) (hb : w.heap[g]? = some (.cells bc 44 (0, 0))) (hV : bc[4]? = some (.slice none 0 0)) :
    Calls Tryz.prog 89 #[.pointer (some ⟨g, 0, none⟩)] w fun e w' => e = .returned (.tuple #[]) ∧ w' = w := by
  have hu := Tryz.underlying44
  have q1 : w.cell? ⟨g, 4, none⟩ = some (.slice none 0 0) := by simp [World.cell?, hb, hV]
  clear hb hV
  go_enter Tryz.func89, Tryz.ntmps89
  go_wp2
  go_loopw [2] (fun i wr => i = .int .i64 0 ∧ wr = w) (fun _ _ => 0)
  case atStart => exact ⟨rfl, rfl⟩
  case round =>
    obtain ⟨rfl, rfl⟩ := hrel
    go_wp2
    go_end0
    exact ⟨rfl, rfl⟩
set_option maxHeartbeats 1600000 in
set_option maxRecDepth 100000 in
theorem lookText_no (w : World) (g : Nat) (bc : Array Value) (hb : w.heap[g]? = some (.cells bc 44 (0, 0))) (hV : bc[4]? = some (.slice none 0 0)) :
    Calls Tryz.prog 101 #[.pointer (some ⟨g, 0, none⟩)] w fun e w' => e = .returned (.bool true) ∧ w' = w := by
  have hu := Tryz.underlying44
  have q1 : w.cell? ⟨g, 4, none⟩ = some (.slice none 0 0) := by simp [World.cell?, hb, hV]
  clear hb hV
  go_enter Tryz.func101, Tryz.ntmps101
  go_wp2
  go_loopw [3] (fun i wr => i = .int .i64 0 ∧ wr = w) (fun _ _ => 0)
  case atStart => exact ⟨rfl, rfl⟩
  case round =>
    obtain ⟨rfl, rfl⟩ := hrel
    go_wp2
    go_ret
    exact ⟨rfl, rfl⟩
set_option maxHeartbeats 1600000 in
set_option maxRecDepth 100000 in
theorem fillSpan_no (w : World) (g : Nat) (bc : Array Value) (hb : w.heap[g]? = some (.cells bc 44 (0, 0))) (hV : bc[7]? = some (.slice none 0 0)) :
    Calls Tryz.prog 80 #[.pointer (some ⟨g, 0, none⟩)] w fun e w' => e = .returned (.tuple #[]) ∧ w' = w := by
  have hu := Tryz.underlying44
  have q1 : w.cell? ⟨g, 7, none⟩ = some (.slice none 0 0) := by simp [World.cell?, hb, hV]
  clear hb hV
  go_enter Tryz.func80, Tryz.ntmps80
  go_wp2
  go_loopw [2] (fun i wr => i = .int .i64 0 ∧ wr = w) (fun _ _ => 0)
  case atStart => exact ⟨rfl, rfl⟩
  case round =>
    obtain ⟨rfl, rfl⟩ := hrel
    go_wp2
    go_end0
    exact ⟨rfl, rfl⟩
set_option maxHeartbeats 1600000 in
set_option maxRecDepth 100000 in
theorem growSpan_no (w : World) (g : Nat) (bc : Array Value) (hb : w.heap[g]? = some (.cells bc 44 (0, 0))) (hV : bc[7]? = some (.slice none 0 0)) :
    Calls Tryz.prog 92 #[.pointer (some ⟨g, 0, none⟩)] w fun e w' => e = .returned (.tuple #[]) ∧ w' = w := by
  have hu := Tryz.underlying44
  have q1 : w.cell? ⟨g, 7, none⟩ = some (.slice none 0 0) := by simp [World.cell?, hb, hV]
  clear hb hV
  go_enter Tryz.func92, Tryz.ntmps92
  go_wp2
  go_loopw [2] (fun i wr => i = .int .i64 0 ∧ wr = w) (fun _ _ => 0)
  case atStart => exact ⟨rfl, rfl⟩
  case round =>
    obtain ⟨rfl, rfl⟩ := hrel
    go_wp2
    go_end0
    exact ⟨rfl, rfl⟩
set_option maxHeartbeats 1600000 in
set_option maxRecDepth 100000 in
theorem lookSpan_no (w : World) (g : Nat) (bc : Array Value) (hb : w.heap[g]? = some (.cells bc 44 (0, 0))) (hV : bc[7]? = some (.slice none 0 0)) :
    Calls Tryz.prog 104 #[.pointer (some ⟨g, 0, none⟩)] w fun e w' => e = .returned (.bool true) ∧ w' = w := by
  have hu := Tryz.underlying44
  have q1 : w.cell? ⟨g, 7, none⟩ = some (.slice none 0 0) := by simp [World.cell?, hb, hV]
  clear hb hV
  go_enter Tryz.func104, Tryz.ntmps104
  go_wp2
  go_loopw [3] (fun i wr => i = .int .i64 0 ∧ wr = w) (fun _ _ => 0)
  case atStart => exact ⟨rfl, rfl⟩
  case round =>
    obtain ⟨rfl, rfl⟩ := hrel
    go_wp2
    go_ret
    exact ⟨rfl, rfl⟩
set_option maxHeartbeats 1600000 in
set_option maxRecDepth 100000 in
theorem fillChange_no (w : World) (g : Nat) (bc : Array Value) (hb : w.heap[g]? = some (.cells bc 44 (0, 0))) (hV : bc[8]? = some (.slice none 0 0)) :
    Calls Tryz.prog 81 #[.pointer (some ⟨g, 0, none⟩)] w fun e w' => e = .returned (.tuple #[]) ∧ w' = w := by
  have hu := Tryz.underlying44
  have q1 : w.cell? ⟨g, 8, none⟩ = some (.slice none 0 0) := by simp [World.cell?, hb, hV]
  clear hb hV
  go_enter Tryz.func81, Tryz.ntmps81
  go_wp2
  go_loopw [2] (fun i wr => i = .int .i64 0 ∧ wr = w) (fun _ _ => 0)
  case atStart => exact ⟨rfl, rfl⟩
  case round =>
    obtain ⟨rfl, rfl⟩ := hrel
    go_wp2
    go_end0
    exact ⟨rfl, rfl⟩
set_option maxHeartbeats 1600000 in
set_option maxRecDepth 100000 in
theorem growChange_no (w : World) (g : Nat) (bc : Array Value) (hb : w.heap[g]? = some (.cells bc 44 (0, 0))) (hV : bc[8]? = some (.slice none 0 0)) :
    Calls Tryz.prog 93 #[.pointer (some ⟨g, 0, none⟩)] w fun e w' => e = .returned (.tuple #[]) ∧ w' = w := by
  have hu := Tryz.underlying44
  have q1 : w.cell? ⟨g, 8, none⟩ = some (.slice none 0 0) := by simp [World.cell?, hb, hV]
  clear hb hV
  go_enter Tryz.func93, Tryz.ntmps93
  go_wp2
  go_loopw [2] (fun i wr => i = .int .i64 0 ∧ wr = w) (fun _ _ => 0)
  case atStart => exact ⟨rfl, rfl⟩
  case round =>
    obtain ⟨rfl, rfl⟩ := hrel
    go_wp2
    go_end0
    exact ⟨rfl, rfl⟩
set_option maxHeartbeats 1600000 in
set_option maxRecDepth 100000 in
theorem lookChange_no (w : World) (g : Nat) (bc : Array Value) (hb : w.heap[g]? = some (.cells bc 44 (0, 0))) (hV : bc[8]? = some (.slice none 0 0)) :
    Calls Tryz.prog 105 #[.pointer (some ⟨g, 0, none⟩)] w fun e w' => e = .returned (.bool true) ∧ w' = w := by
  have hu := Tryz.underlying44
  have q1 : w.cell? ⟨g, 8, none⟩ = some (.slice none 0 0) := by simp [World.cell?, hb, hV]
  clear hb hV
  go_enter Tryz.func105, Tryz.ntmps105
  go_wp2
  go_loopw [3] (fun i wr => i = .int .i64 0 ∧ wr = w) (fun _ _ => 0)
  case atStart => exact ⟨rfl, rfl⟩
  case round =>
    obtain ⟨rfl, rfl⟩ := hrel
    go_wp2
    go_ret
    exact ⟨rfl, rfl⟩
set_option maxHeartbeats 1600000 in
set_option maxRecDepth 100000 in
theorem fillMsg_no (w : World) (g : Nat) (bc : Array Value) (hb : w.heap[g]? = some (.cells bc 44 (0, 0))) (hV : bc[10]? = some (.slice none 0 0)) :
    Calls Tryz.prog 83 #[.pointer (some ⟨g, 0, none⟩)] w fun e w' => e = .returned (.tuple #[]) ∧ w' = w := by
  have hu := Tryz.underlying44
  have q1 : w.cell? ⟨g, 10, none⟩ = some (.slice none 0 0) := by simp [World.cell?, hb, hV]
  clear hb hV
  go_enter Tryz.func83, Tryz.ntmps83
  go_wp2
  go_loopw [2] (fun i wr => i = .int .i64 0 ∧ wr = w) (fun _ _ => 0)
  case atStart => exact ⟨rfl, rfl⟩
  case round =>
    obtain ⟨rfl, rfl⟩ := hrel
    go_wp2
    go_end0
    exact ⟨rfl, rfl⟩
set_option maxHeartbeats 1600000 in
set_option maxRecDepth 100000 in
theorem growMsg_no (w : World) (g : Nat) (bc : Array Value) (hb : w.heap[g]? = some (.cells bc 44 (0, 0))) (hV : bc[10]? = some (.slice none 0 0)) :
    Calls Tryz.prog 95 #[.pointer (some ⟨g, 0, none⟩)] w fun e w' => e = .returned (.tuple #[]) ∧ w' = w := by
  have hu := Tryz.underlying44
  have q1 : w.cell? ⟨g, 10, none⟩ = some (.slice none 0 0) := by simp [World.cell?, hb, hV]
  clear hb hV
  go_enter Tryz.func95, Tryz.ntmps95
  go_wp2
  go_loopw [2] (fun i wr => i = .int .i64 0 ∧ wr = w) (fun _ _ => 0)
  case atStart => exact ⟨rfl, rfl⟩
  case round =>
    obtain ⟨rfl, rfl⟩ := hrel
    go_wp2
    go_end0
    exact ⟨rfl, rfl⟩
set_option maxHeartbeats 1600000 in
set_option maxRecDepth 100000 in
theorem lookMsg_no (w : World) (g : Nat) (bc : Array Value) (hb : w.heap[g]? = some (.cells bc 44 (0, 0))) (hV : bc[10]? = some (.slice none 0 0)) :
    Calls Tryz.prog 107 #[.pointer (some ⟨g, 0, none⟩)] w fun e w' => e = .returned (.bool true) ∧ w' = w := by
  have hu := Tryz.underlying44
  have q1 : w.cell? ⟨g, 10, none⟩ = some (.slice none 0 0) := by simp [World.cell?, hb, hV]
  clear hb hV
  go_enter Tryz.func107, Tryz.ntmps107
  go_wp2
  go_loopw [3] (fun i wr => i = .int .i64 0 ∧ wr = w) (fun _ _ => 0)
  case atStart => exact ⟨rfl, rfl⟩
  case round =>
    obtain ⟨rfl, rfl⟩ := hrel
    go_wp2
    go_ret
    exact ⟨rfl, rfl⟩
set_option maxHeartbeats 1600000 in
set_option maxRecDepth 100000 in
theorem fillPart_no (w : World) (g : Nat) (bc : Array Value) (hb : w.heap[g]? = some (.cells bc 44 (0, 0))) (hV : bc[11]? = some (.slice none 0 0)) :
    Calls Tryz.prog 84 #[.pointer (some ⟨g, 0, none⟩)] w fun e w' => e = .returned (.tuple #[]) ∧ w' = w := by
  have hu := Tryz.underlying44
  have q1 : w.cell? ⟨g, 11, none⟩ = some (.slice none 0 0) := by simp [World.cell?, hb, hV]
  clear hb hV
  go_enter Tryz.func84, Tryz.ntmps84
  go_wp2
  go_loopw [2] (fun i wr => i = .int .i64 0 ∧ wr = w) (fun _ _ => 0)
  case atStart => exact ⟨rfl, rfl⟩
  case round =>
    obtain ⟨rfl, rfl⟩ := hrel
    go_wp2
    go_end0
    exact ⟨rfl, rfl⟩
set_option maxHeartbeats 1600000 in
set_option maxRecDepth 100000 in
theorem growPart_no (w : World) (g : Nat) (bc : Array Value) (hb : w.heap[g]? = some (.cells bc 44 (0, 0))) (hV : bc[11]? = some (.slice none 0 0)) :
    Calls Tryz.prog 96 #[.pointer (some ⟨g, 0, none⟩)] w fun e w' => e = .returned (.tuple #[]) ∧ w' = w := by
  have hu := Tryz.underlying44
  have q1 : w.cell? ⟨g, 11, none⟩ = some (.slice none 0 0) := by simp [World.cell?, hb, hV]
  clear hb hV
  go_enter Tryz.func96, Tryz.ntmps96
  go_wp2
  go_loopw [2] (fun i wr => i = .int .i64 0 ∧ wr = w) (fun _ _ => 0)
  case atStart => exact ⟨rfl, rfl⟩
  case round =>
    obtain ⟨rfl, rfl⟩ := hrel
    go_wp2
    go_end0
    exact ⟨rfl, rfl⟩
set_option maxHeartbeats 1600000 in
set_option maxRecDepth 100000 in
theorem lookPart_no (w : World) (g : Nat) (bc : Array Value) (hb : w.heap[g]? = some (.cells bc 44 (0, 0))) (hV : bc[11]? = some (.slice none 0 0)) :
    Calls Tryz.prog 108 #[.pointer (some ⟨g, 0, none⟩)] w fun e w' => e = .returned (.bool true) ∧ w' = w := by
  have hu := Tryz.underlying44
  have q1 : w.cell? ⟨g, 11, none⟩ = some (.slice none 0 0) := by simp [World.cell?, hb, hV]
  clear hb hV
  go_enter Tryz.func108, Tryz.ntmps108
  go_wp2
  go_loopw [3] (fun i wr => i = .int .i64 0 ∧ wr = w) (fun _ _ => 0)
  case atStart => exact ⟨rfl, rfl⟩
  case round =>
    obtain ⟨rfl, rfl⟩ := hrel
    go_wp2
    go_ret
    exact ⟨rfl, rfl⟩
set_option maxHeartbeats 1600000 in
set_option maxRecDepth 100000 in
theorem fillDeed_no (w : World) (g : Nat) (bc : Array Value) (hb : w.heap[g]? = some (.cells bc 44 (0, 0))) (hV : bc[12]? = some (.slice none 0 0)) :
    Calls Tryz.prog 85 #[.pointer (some ⟨g, 0, none⟩)] w fun e w' => e = .returned (.tuple #[]) ∧ w' = w := by
  have hu := Tryz.underlying44
  have q1 : w.cell? ⟨g, 12, none⟩ = some (.slice none 0 0) := by simp [World.cell?, hb, hV]
  clear hb hV
  go_enter Tryz.func85, Tryz.ntmps85
  go_wp2
  go_loopw [2] (fun i wr => i = .int .i64 0 ∧ wr = w) (fun _ _ => 0)
  case atStart => exact ⟨rfl, rfl⟩
  case round =>
    obtain ⟨rfl, rfl⟩ := hrel
    go_wp2
    go_end0
    exact ⟨rfl, rfl⟩
set_option maxHeartbeats 1600000 in
set_option maxRecDepth 100000 in
theorem growDeed_no (w : World) (g : Nat) (bc : Array Value) (hb : w.heap[g]? = some (.cells bc 44 (0, 0))) (hV : bc[12]? = some (.slice none 0 0)) :
    Calls Tryz.prog 97 #[.pointer (some ⟨g, 0, none⟩)] w fun e w' => e = .returned (.tuple #[]) ∧ w' = w := by
  have hu := Tryz.underlying44
  have q1 : w.cell? ⟨g, 12, none⟩ = some (.slice none 0 0) := by simp [World.cell?, hb, hV]
  clear hb hV
  go_enter Tryz.func97, Tryz.ntmps97
  go_wp2
  go_loopw [2] (fun i wr => i = .int .i64 0 ∧ wr = w) (fun _ _ => 0)
  case atStart => exact ⟨rfl, rfl⟩
  case round =>
    obtain ⟨rfl, rfl⟩ := hrel
    go_wp2
    go_end0
    exact ⟨rfl, rfl⟩
set_option maxHeartbeats 1600000 in
set_option maxRecDepth 100000 in
theorem lookDeed_no (w : World) (g : Nat) (bc : Array Value) (hb : w.heap[g]? = some (.cells bc 44 (0, 0))) (hV : bc[12]? = some (.slice none 0 0)) :
    Calls Tryz.prog 109 #[.pointer (some ⟨g, 0, none⟩)] w fun e w' => e = .returned (.bool true) ∧ w' = w := by
  have hu := Tryz.underlying44
  have q1 : w.cell? ⟨g, 12, none⟩ = some (.slice none 0 0) := by simp [World.cell?, hb, hV]
  clear hb hV
  go_enter Tryz.func109, Tryz.ntmps109
  go_wp2
  go_loopw [3] (fun i wr => i = .int .i64 0 ∧ wr = w) (fun _ _ => 0)
  case atStart => exact ⟨rfl, rfl⟩
  case round =>
    obtain ⟨rfl, rfl⟩ := hrel
    go_wp2
    go_ret
    exact ⟨rfl, rfl⟩
end Go.Proofs.YtcohodkpppmaoaaGreatDoor.Q
namespace Go.Proofs.YtcohodkpppmaoaaGreatDoor.Q
open Go.RowKit Go.Proofs.YtcohodkpppmaoaaGreatDoorW.PrintWords Go.Proofs.YtcohodkpppmaoaaGreatDoorW.PrintLast Go.Proofs.YtcohodkpppmaoaaGreatDoorW.PrintMore
set_option linter.unusedVariables false
/-- A list that is kept: its number, and how many it has. -/
def Fine (E : List Ent) : Prop := ∀ x ∈ E, (0 ≤ x.num ∧ x.num ≤ 1000000000000000) ∧ x.len ≤ 1000000000
theorem Fine.num {E : List Ent} (h : Fine E) : ∀ x ∈ E, 0 ≤ x.num ∧ x.num ≤ 1000000000000000 := fun x hx => (h x hx).1
set_option maxHeartbeats 6400000 in
set_option maxRecDepth 100000 in
theorem apart_calls (w0 w : World) (g : Nat) (n : Int) (vv1 vv2 vv3 vv4 : Value) (E1 E2 E3 E4 : List Ent) (F1 F2 F3 F4 : List Nat) (H : Held w0 w g #[.int .i64 n, vv1, .slice none 0 0, .slice none 0 0, .slice none 0 0, vv2, vv3, .slice none 0 0, .slice none 0 0, vv4, .slice none 0 0, .slice none 0 0, .slice none 0 0] [⟨fdA 5 1, 172, F1, vv1, E1⟩, ⟨fdA 148 2, 184, F2, vv2, E2⟩, ⟨fdA 82 4, 187, F3, vv3, E3⟩, ⟨fdA 145 1, 199, F4, vv4, E4⟩]) (hT : TabOk w0)
    (h1 : Fine E1) (h2 : Fine E2) (h3 : Fine E3) (h4 : Fine E4) : Calls Tryz.prog 26 #[.pointer (some ⟨g, 0, none⟩)] w fun e w' => e = .returned (.bool true) ∧ Below w0.heap.size w0 w' := by
  have HT := Aside0.mk hT
  have N1 := Aside0.mk h1
  clear h1
  have N2 := Aside0.mk h2
  clear h2
  have N3 := Aside0.mk h3
  clear h3
  have N4 := Aside0.mk h4
  clear h4
  have H0 := Aside0.mk H
  clear H hT
  go_enter Tryz.func26, Tryz.ntmps26
  go_wp2_with fail
  refine (fillByte_calls _ g _ H0.out.cell _ rfl E1 _ H0.out.on1.1 H0.out.on1.2.1 H0.out.on1.2.2.1 N1.out.num w0 HT.out H0.out.base H0.out.on1.2.2.2).mono ?_
  rintro e w1 ⟨rfl, X1, hr, hn, hk, hs⟩
  have H1 := Aside0.mk (H0.out.step1 hr hn hk hs)
  clear hr hn hk hs H0
  go_wp2_with fail
  refine (fillId_no _ g _ H1.out.cell rfl).mono ?_
  rintro e _ ⟨rfl, rfl⟩
  go_wp2_with fail
  refine (fillInt_no _ g _ H1.out.cell rfl).mono ?_
  rintro e _ ⟨rfl, rfl⟩
  go_wp2_with fail
  refine (fillText_no _ g _ H1.out.cell rfl).mono ?_
  rintro e _ ⟨rfl, rfl⟩
  go_wp2_with fail
  refine (fillRow_calls _ g _ H1.out.cell _ rfl E2 _ H1.out.on2.1 H1.out.on2.2.1 H1.out.on2.2.2.1 N2.out.num w0 HT.out H1.out.base H1.out.on2.2.2.2).mono ?_
  rintro e w5 ⟨rfl, X5, hr, hn, hk, hs⟩
  have H2 := Aside0.mk (H1.out.step2 hr hn hk hs)
  clear hr hn hk hs H1
  go_wp2_with fail
  refine (fillOp_calls _ g _ H2.out.cell _ rfl E3 _ H2.out.on3.1 H2.out.on3.2.1 H2.out.on3.2.2.1 N3.out.num w0 HT.out H2.out.base H2.out.on3.2.2.2).mono ?_
  rintro e w6 ⟨rfl, X6, hr, hn, hk, hs⟩
  have H3 := Aside0.mk (H2.out.step3 hr hn hk hs)
  clear hr hn hk hs H2
  go_wp2_with fail
  refine (fillSpan_no _ g _ H3.out.cell rfl).mono ?_
  rintro e _ ⟨rfl, rfl⟩
  go_wp2_with fail
  refine (fillChange_no _ g _ H3.out.cell rfl).mono ?_
  rintro e _ ⟨rfl, rfl⟩
  go_wp2_with fail
  refine (fillResult_calls _ g _ H3.out.cell _ rfl E4 _ H3.out.on4.1 H3.out.on4.2.1 H3.out.on4.2.2.1 N4.out.num w0 HT.out H3.out.base H3.out.on4.2.2.2).mono ?_
  rintro e w9 ⟨rfl, X9, hr, hn, hk, hs⟩
  have H4 := Aside0.mk (H3.out.step4 hr hn hk hs)
  clear hr hn hk hs H3
  go_wp2_with fail
  refine (fillMsg_no _ g _ H4.out.cell rfl).mono ?_
  rintro e _ ⟨rfl, rfl⟩
  go_wp2_with fail
  refine (fillPart_no _ g _ H4.out.cell rfl).mono ?_
  rintro e _ ⟨rfl, rfl⟩
  go_wp2_with fail
  refine (fillDeed_no _ g _ H4.out.cell rfl).mono ?_
  rintro e _ ⟨rfl, rfl⟩
  go_wp2_with fail
  refine (growByte_calls _ g _ H4.out.cell _ rfl E1 _ H4.out.on1.1 H4.out.on1.2.1 H4.out.on1.2.2.1 N1.out w0 HT.out H4.out.base H4.out.on1.2.2.2).mono ?_
  rintro e w13 ⟨rfl, X13, hr, hn, hk, hs⟩
  have H5 := Aside0.mk (H4.out.step1 hr hn hk hs)
  clear hr hn hk hs H4
  go_wp2_with fail
  refine (growId_no _ g _ H5.out.cell rfl).mono ?_
  rintro e _ ⟨rfl, rfl⟩
  go_wp2_with fail
  refine (growInt_no _ g _ H5.out.cell rfl).mono ?_
  rintro e _ ⟨rfl, rfl⟩
  go_wp2_with fail
  refine (growText_no _ g _ H5.out.cell rfl).mono ?_
  rintro e _ ⟨rfl, rfl⟩
  go_wp2_with fail
  refine (growRow_calls _ g _ H5.out.cell _ rfl E2 _ H5.out.on2.1 H5.out.on2.2.1 H5.out.on2.2.2.1 N2.out w0 HT.out H5.out.base H5.out.on2.2.2.2).mono ?_
  rintro e w17 ⟨rfl, X17, hr, hn, hk, hs⟩
  have H6 := Aside0.mk (H5.out.step2 hr hn hk hs)
  clear hr hn hk hs H5
  go_wp2_with fail
  refine (growOp_calls _ g _ H6.out.cell _ rfl E3 _ H6.out.on3.1 H6.out.on3.2.1 H6.out.on3.2.2.1 N3.out w0 HT.out H6.out.base H6.out.on3.2.2.2).mono ?_
  rintro e w18 ⟨rfl, X18, hr, hn, hk, hs⟩
  have H7 := Aside0.mk (H6.out.step3 hr hn hk hs)
  clear hr hn hk hs H6
  go_wp2_with fail
  refine (growSpan_no _ g _ H7.out.cell rfl).mono ?_
  rintro e _ ⟨rfl, rfl⟩
  go_wp2_with fail
  refine (growChange_no _ g _ H7.out.cell rfl).mono ?_
  rintro e _ ⟨rfl, rfl⟩
  go_wp2_with fail
  refine (growResult_calls _ g _ H7.out.cell _ rfl E4 _ H7.out.on4.1 H7.out.on4.2.1 H7.out.on4.2.2.1 N4.out w0 HT.out H7.out.base H7.out.on4.2.2.2).mono ?_
  rintro e w21 ⟨rfl, X21, hr, hn, hk, hs⟩
  have H8 := Aside0.mk (H7.out.step4 hr hn hk hs)
  clear hr hn hk hs H7
  go_wp2_with fail
  refine (growMsg_no _ g _ H8.out.cell rfl).mono ?_
  rintro e _ ⟨rfl, rfl⟩
  go_wp2_with fail
  refine (growPart_no _ g _ H8.out.cell rfl).mono ?_
  rintro e _ ⟨rfl, rfl⟩
  go_wp2_with fail
  refine (growDeed_no _ g _ H8.out.cell rfl).mono ?_
  rintro e _ ⟨rfl, rfl⟩
  go_wp2_with fail
  refine (lookByte_calls _ g _ H8.out.cell _ rfl E1 _ H8.out.on1.1 N1.out (TabOk.below HT.out H8.out.base)).mono ?_
  rintro e w25 ⟨rfl, hb⟩
  have H9 := Aside0.mk (H8.out.below hb)
  clear hb H8
  go_wp2_with fail
  refine (lookId_no _ g _ H9.out.cell rfl).mono ?_
  rintro e _ ⟨rfl, rfl⟩
  go_wp2_with fail
  refine (lookInt_no _ g _ H9.out.cell rfl).mono ?_
  rintro e _ ⟨rfl, rfl⟩
  go_wp2_with fail
  refine (lookText_no _ g _ H9.out.cell rfl).mono ?_
  rintro e _ ⟨rfl, rfl⟩
  go_wp2_with fail
  refine (lookRow_calls _ g _ H9.out.cell _ rfl E2 _ H9.out.on2.1 N2.out (TabOk.below HT.out H9.out.base)).mono ?_
  rintro e w29 ⟨rfl, hb⟩
  have H10 := Aside0.mk (H9.out.below hb)
  clear hb H9
  go_wp2_with fail
  refine (lookOp_calls _ g _ H10.out.cell _ rfl E3 _ H10.out.on3.1 N3.out (TabOk.below HT.out H10.out.base)).mono ?_
  rintro e w30 ⟨rfl, hb⟩
  have H11 := Aside0.mk (H10.out.below hb)
  clear hb H10
  go_wp2_with fail
  refine (lookSpan_no _ g _ H11.out.cell rfl).mono ?_
  rintro e _ ⟨rfl, rfl⟩
  go_wp2_with fail
  refine (lookChange_no _ g _ H11.out.cell rfl).mono ?_
  rintro e _ ⟨rfl, rfl⟩
  go_wp2_with fail
  refine (lookResult_calls _ g _ H11.out.cell _ rfl E4 _ H11.out.on4.1 N4.out (TabOk.below HT.out H11.out.base)).mono ?_
  rintro e w33 ⟨rfl, hb⟩
  have H12 := Aside0.mk (H11.out.below hb)
  clear hb H11
  go_wp2_with fail
  refine (lookMsg_no _ g _ H12.out.cell rfl).mono ?_
  rintro e _ ⟨rfl, rfl⟩
  go_wp2_with fail
  refine (lookPart_no _ g _ H12.out.cell rfl).mono ?_
  rintro e _ ⟨rfl, rfl⟩
  go_wp2_with fail
  refine (lookDeed_no _ g _ H12.out.cell rfl).mono ?_
  rintro e _ ⟨rfl, rfl⟩
  go_wp2
  go_ret
  exact ⟨rfl, H12.out.base⟩
end Go.Proofs.YtcohodkpppmaoaaGreatDoor.Q
namespace Go.Proofs.YtcohodkpppmaoaaGreatDoor.Q
open Go.RowKit Go.Proofs.YtcohodkpppmaoaaGreatDoorW.PrintWords Go.Proofs.YtcohodkpppmaoaaGreatDoorW.PrintLast Go.Proofs.YtcohodkpppmaoaaGreatDoorW.PrintMore
set_option linter.unusedVariables false
/-- The book at block g has n lists; its blocks are F; all were made behind w0. -/
def BookAt (w0 w : World) (g : Nat) (n : Int) (F : List Nat) : Prop :=
  ∃ vv1 vv2 vv3 vv4 E1 E2 E3 E4 F1 F2 F3 F4, Held w0 w g #[.int .i64 n, vv1, .slice none 0 0, .slice none 0 0, .slice none 0 0, vv2, vv3, .slice none 0 0, .slice none 0 0, vv4, .slice none 0 0, .slice none 0 0, .slice none 0 0] [⟨fdA 5 1, 172, F1, vv1, E1⟩, ⟨fdA 148 2, 184, F2, vv2, E2⟩, ⟨fdA 82 4, 187, F3, vv3, E3⟩, ⟨fdA 145 1, 199, F4, vv4, E4⟩] ∧ F = g :: allF [⟨fdA 5 1, 172, F1, vv1, E1⟩, ⟨fdA 148 2, 184, F2, vv2, E2⟩, ⟨fdA 82 4, 187, F3, vv3, E3⟩, ⟨fdA 145 1, 199, F4, vv4, E4⟩] ∧ 0 ≤ n ∧ (Fine E1 ∧ (E1.length : Int) ≤ n) ∧ (Fine E2 ∧ (E2.length : Int) ≤ n) ∧ (Fine E3 ∧ (E3.length : Int) ≤ n) ∧ (Fine E4 ∧ (E4.length : Int) ≤ n)
section
variable {w0 w w' : World} {g : Nat} {n : Int} {F G : List Nat}
theorem BookAt.keeps (h : BookAt w0 w g n F) (hk : Keeps G w w') (hG : ∀ b ∈ G, b ∉ F) (hGf : ∀ b ∈ G, w0.heap.size ≤ b) : BookAt w0 w' g n F := by
  obtain ⟨vv1, vv2, vv3, vv4, E1, E2, E3, E4, F1, F2, F3, F4, H, rfl, h⟩ := h
  exact ⟨_, _, _, _, _, _, _, _, _, _, _, _, H.keeps hk hG hGf, rfl, h⟩
theorem BookAt.below (h : BookAt w0 w g n F) (hb : Below w.heap.size w w') : BookAt w0 w' g n F := h.keeps (G := []) (Keeps.of_below hb []) (fun _ hx => by cases hx) (fun _ hx => by cases hx)
theorem BookAt.lt (h : BookAt w0 w g n F) : ∀ b ∈ F, b < w.heap.size := by
  obtain ⟨vv1, vv2, vv3, vv4, E1, E2, E3, E4, F1, F2, F3, F4, H, rfl, h⟩ := h
  intro b hb
  rcases List.mem_cons.1 hb with rfl | hb
  · exact blk_lt H.cell
  · obtain ⟨x, hx, hb⟩ := List.mem_flatMap.1 hb
    exact Fd.row_lt (H.rows x hx) b hb
theorem BookAt.far (h : BookAt w0 w g n F) : ∀ b ∈ F, w0.heap.size ≤ b := by
  obtain ⟨vv1, vv2, vv3, vv4, E1, E2, E3, E4, F1, F2, F3, F4, H, rfl, h⟩ := h
  exact H.far
theorem BookAt.base (h : BookAt w0 w g n F) : Below w0.heap.size w0 w := by
  obtain ⟨vv1, vv2, vv3, vv4, E1, E2, E3, E4, F1, F2, F3, F4, H, rfl, h⟩ := h
  exact H.base
theorem BookAt.new (hb : Below w0.heap.size w0 w) (hc : w.heap[g]? = some (.cells #[.int .i64 0, .slice none 0 0, .slice none 0 0, .slice none 0 0, .slice none 0 0, .slice none 0 0, .slice none 0 0, .slice none 0 0, .slice none 0 0, .slice none 0 0, .slice none 0 0, .slice none 0 0, .slice none 0 0] 44 (0, 0))) (hg : w0.heap.size ≤ g) : BookAt w0 w g 0 [g] := by
  refine ⟨.slice none 0 0, .slice none 0 0, .slice none 0 0, .slice none 0 0, [], [], [], [], [], [], [], [], ⟨hb, hc, ?_, by simp [allF], by simpa [allF] using hg⟩, by simp [allF], by decide, ⟨(fun _ hx => by cases hx), by simp⟩, ⟨(fun _ hx => by cases hx), by simp⟩, ⟨(fun _ hx => by cases hx), by simp⟩, ⟨(fun _ hx => by cases hx), by simp⟩⟩
  intro x hx
  simp only [List.mem_cons, List.not_mem_nil, or_false] at hx
  rcases hx with rfl | rfl | rfl | rfl <;> exact Fd.row_nil _ _ _
theorem BookAt.apart (h : BookAt w0 w g n F) (hT : TabOk w0) : Calls Tryz.prog 26 #[.pointer (some ⟨g, 0, none⟩)] w fun e w' => e = .returned (.bool true) ∧ Below w0.heap.size w0 w' := by
  obtain ⟨vv1, vv2, vv3, vv4, E1, E2, E3, E4, F1, F2, F3, F4, H, rfl, h0, f1, f2, f3, f4⟩ := h
  exact apart_calls w0 w g n vv1 vv2 vv3 vv4 E1 E2 E3 E4 F1 F2 F3 F4 H hT f1.1 f2.1 f3.1 f4.1
theorem Fine.snoc {E : List Ent} (h : Fine E) {x : Ent} (h0 : 0 ≤ x.num) (h1 : x.num ≤ 1000000000000000) (h2 : x.len ≤ 1000000000) : Fine (E ++ [x]) := by
  intro y hy
  rcases List.mem_append.1 hy with hy | hy
  · exact h y hy
  · obtain rfl : y = x := by simpa using hy
    exact ⟨⟨h0, h1⟩, h2⟩
end
theorem BookAt.keepByte {w0 w : World} {g : Nat} {n : Int} {F : List Nat} (h : BookAt w0 w g n F) (hn : n ≤ 1000000000) (A : Option Addr) (len c : Nat) (inner : List Value) (ho : w.ownsRow 0 5 1 (.slice A len c) len inner) (hl : ∀ b ∈ (Value.slice A len c).ownBlock.toList, b ∉ F ∧ w0.heap.size ≤ b) (hlen : len ≤ 1000000000) :
    Calls Tryz.prog 131 #[.pointer (some ⟨g, 0, none⟩), .slice A len c] w fun e w' => e = .returned (.tuple #[]) ∧ ∃ F', BookAt w0 w' g (n + 1) F' ∧ Keeps F w w' ∧ ∀ b ∈ F', b ∈ F ∨ b ∈ (Value.slice A len c).ownBlock.toList ∨ w.heap.size ≤ b := by
  obtain ⟨vv1, vv2, vv3, vv4, E1, E2, E3, E4, F1, F2, F3, F4, H, rfl, h0, f1, f2, f3, f4⟩ := h
  have hlt := fun b hb => (BookAt.lt ⟨_, _, _, _, _, _, _, _, _, _, _, _, H, rfl, h0, f1, f2, f3, f4⟩ : ∀ b ∈ g :: allF [⟨fdA 5 1, 172, F1, vv1, E1⟩, ⟨fdA 148 2, 184, F2, vv2, E2⟩, ⟨fdA 82 4, 187, F3, vv3, E3⟩, ⟨fdA 145 1, 199, F4, vv4, E4⟩], b < w.heap.size) b hb
  have hmem : ∀ b ∈ F1, b ∈ g :: allF [⟨fdA 5 1, 172, F1, vv1, E1⟩, ⟨fdA 148 2, 184, F2, vv2, E2⟩, ⟨fdA 82 4, 187, F3, vv3, E3⟩, ⟨fdA 145 1, 199, F4, vv4, E4⟩] := fun b hb => by simp [allF, hb]
  refine (keepByte_calls w g n vv1 (.slice none 0 0) (.slice none 0 0) (.slice none 0 0) vv2 vv3 (.slice none 0 0) (.slice none 0 0) vv4 (.slice none 0 0) (.slice none 0 0) (.slice none 0 0) H.cell E1 F1 H.on1.1 (List.nodup_cons.2 ⟨H.on1.2.2.1, H.on1.2.1⟩) A len c inner ho (fun b hb hx => (hl b hb).1 (by
    rcases List.mem_cons.1 hx with rfl | hx
    · simp
    · exact hmem b hx)) (by have := f1.2; omega) h0 (by omega)).mono ?_
  rintro e w' ⟨F', v', rfl, hc, hr, hnd, hk, hs⟩
  have H2 := Held.step0 (pre := []) (x := ⟨fdA 5 1, 172, F1, vv1, E1⟩) (post := [⟨fdA 148 2, 184, F2, vv2, E2⟩, ⟨fdA 82 4, 187, F3, vv3, E3⟩, ⟨fdA 145 1, 199, F4, vv4, E4⟩]) H hc hr (List.nodup_cons.1 hnd).2 (Value.slice A len c).ownBlock.toList hk (fun b hb => (hl b hb).1) (fun b hb => (hl b hb).2) hs (List.nodup_cons.1 hnd).1
  refine ⟨rfl, _, ⟨_, _, _, _, _, _, _, _, _, _, _, _, H2, rfl, by omega, ⟨f1.1.snoc (show 0 ≤ n + 1 by omega) (show n + 1 ≤ 1000000000000000 by omega) hlen, by have := f1.2; rw [List.length_append, List.length_singleton]; omega⟩, ⟨f2.1, by have := f2.2; omega⟩, ⟨f3.1, by have := f3.2; omega⟩, ⟨f4.1, by have := f4.2; omega⟩⟩, hk.mono (fun b hb => .inl ?_), fun b hb => ?_⟩
  · rcases List.mem_cons.1 hb with rfl | hb
    · simp
    · exact hmem b hb
  · have hb2 : b = g ∨ (b ∈ F' ∨ b ∈ F2 ∨ b ∈ F3 ∨ b ∈ F4) := by simpa [allF, or_assoc, or_comm, or_left_comm] using hb
    rcases hb2 with rfl | hb2 | hb2
    · exact .inl (by simp)
    · rcases hs b hb2 with h1 | h1 | h1
      · exact .inl (hmem b h1)
      · exact .inr (.inl h1)
      · exact .inr (.inr h1)
    · refine .inl ?_
      simp only [allF, List.flatMap_cons, List.flatMap_nil, List.append_nil, List.mem_cons, List.mem_append]
      rcases hb2 with hb2 | hb2 | hb2 <;> simp [hb2]
set_option maxHeartbeats 1600000 in
set_option maxRecDepth 100000 in
theorem BookAt.Bytes {w0 w : World} {g : Nat} {n : Int} {F : List Nat} (h : BookAt w0 w g n F) (hn : n ≤ 1000000000) (A : Option Addr) (len c : Nat) (inner : List Value) (ho : w.ownsRow 0 5 1 (.slice A len c) len inner) (hl : ∀ b ∈ (Value.slice A len c).ownBlock.toList, b ∉ F ∧ w0.heap.size ≤ b) (hlen : len ≤ 1000000000) :
    Calls Tryz.prog 39 #[.pointer (some ⟨g, 0, none⟩), .slice A len c] w fun e w' => e = .returned (.tuple #[]) ∧ ∃ F', BookAt w0 w' g (n + 1) F' ∧ Keeps F w w' ∧ ∀ b ∈ F', b ∈ F ∨ b ∈ (Value.slice A len c).ownBlock.toList ∨ w.heap.size ≤ b := by
  have H := Aside0.mk h
  have HO := Aside0.mk ho
  have HL := Aside0.mk hl
  clear h ho hl
  go_enter Tryz.func39, Tryz.ntmps39
  go_wp2_with fail
  refine (H.out.keepByte hn A len c inner HO.out HL.out hlen).mono ?_
  rintro e w' ⟨rfl, h⟩
  have HR := Aside0.mk h
  clear h
  go_wp2
  go_end0
  exact ⟨rfl, HR.out⟩
theorem BookAt.keepRow {w0 w : World} {g : Nat} {n : Int} {F : List Nat} (h : BookAt w0 w g n F) (hn : n ≤ 1000000000) (A : Option Addr) (len c : Nat) (inner : List Value) (ho : w.ownsRow 0 148 2 (.slice A len c) len inner) (hl : ∀ b ∈ (Value.slice A len c).ownBlock.toList, b ∉ F ∧ w0.heap.size ≤ b) (hlen : len ≤ 1000000000) :
    Calls Tryz.prog 208 #[.pointer (some ⟨g, 0, none⟩), .slice A len c] w fun e w' => e = .returned (.tuple #[]) ∧ ∃ F', BookAt w0 w' g (n + 1) F' ∧ Keeps F w w' ∧ ∀ b ∈ F', b ∈ F ∨ b ∈ (Value.slice A len c).ownBlock.toList ∨ w.heap.size ≤ b := by
  obtain ⟨vv1, vv2, vv3, vv4, E1, E2, E3, E4, F1, F2, F3, F4, H, rfl, h0, f1, f2, f3, f4⟩ := h
  have hlt := fun b hb => (BookAt.lt ⟨_, _, _, _, _, _, _, _, _, _, _, _, H, rfl, h0, f1, f2, f3, f4⟩ : ∀ b ∈ g :: allF [⟨fdA 5 1, 172, F1, vv1, E1⟩, ⟨fdA 148 2, 184, F2, vv2, E2⟩, ⟨fdA 82 4, 187, F3, vv3, E3⟩, ⟨fdA 145 1, 199, F4, vv4, E4⟩], b < w.heap.size) b hb
  have hmem : ∀ b ∈ F2, b ∈ g :: allF [⟨fdA 5 1, 172, F1, vv1, E1⟩, ⟨fdA 148 2, 184, F2, vv2, E2⟩, ⟨fdA 82 4, 187, F3, vv3, E3⟩, ⟨fdA 145 1, 199, F4, vv4, E4⟩] := fun b hb => by simp [allF, hb]
  refine (keepRow_calls w g n vv1 (.slice none 0 0) (.slice none 0 0) (.slice none 0 0) vv2 vv3 (.slice none 0 0) (.slice none 0 0) vv4 (.slice none 0 0) (.slice none 0 0) (.slice none 0 0) H.cell E2 F2 H.on2.1 (List.nodup_cons.2 ⟨H.on2.2.2.1, H.on2.2.1⟩) A len c inner ho (fun b hb hx => (hl b hb).1 (by
    rcases List.mem_cons.1 hx with rfl | hx
    · simp
    · exact hmem b hx)) (by have := f2.2; omega) h0 (by omega)).mono ?_
  rintro e w' ⟨F', v', rfl, hc, hr, hnd, hk, hs⟩
  have H2 := Held.step0 (pre := [⟨fdA 5 1, 172, F1, vv1, E1⟩]) (x := ⟨fdA 148 2, 184, F2, vv2, E2⟩) (post := [⟨fdA 82 4, 187, F3, vv3, E3⟩, ⟨fdA 145 1, 199, F4, vv4, E4⟩]) H hc hr (List.nodup_cons.1 hnd).2 (Value.slice A len c).ownBlock.toList hk (fun b hb => (hl b hb).1) (fun b hb => (hl b hb).2) hs (List.nodup_cons.1 hnd).1
  refine ⟨rfl, _, ⟨_, _, _, _, _, _, _, _, _, _, _, _, H2, rfl, by omega, ⟨f1.1, by have := f1.2; omega⟩, ⟨f2.1.snoc (show 0 ≤ n + 1 by omega) (show n + 1 ≤ 1000000000000000 by omega) hlen, by have := f2.2; rw [List.length_append, List.length_singleton]; omega⟩, ⟨f3.1, by have := f3.2; omega⟩, ⟨f4.1, by have := f4.2; omega⟩⟩, hk.mono (fun b hb => .inl ?_), fun b hb => ?_⟩
  · rcases List.mem_cons.1 hb with rfl | hb
    · simp
    · exact hmem b hb
  · have hb2 : b = g ∨ (b ∈ F' ∨ b ∈ F1 ∨ b ∈ F3 ∨ b ∈ F4) := by simpa [allF, or_assoc, or_comm, or_left_comm] using hb
    rcases hb2 with rfl | hb2 | hb2
    · exact .inl (by simp)
    · rcases hs b hb2 with h1 | h1 | h1
      · exact .inl (hmem b h1)
      · exact .inr (.inl h1)
      · exact .inr (.inr h1)
    · refine .inl ?_
      simp only [allF, List.flatMap_cons, List.flatMap_nil, List.append_nil, List.mem_cons, List.mem_append]
      rcases hb2 with hb2 | hb2 | hb2 <;> simp [hb2]
set_option maxHeartbeats 1600000 in
set_option maxRecDepth 100000 in
theorem BookAt.Rows {w0 w : World} {g : Nat} {n : Int} {F : List Nat} (h : BookAt w0 w g n F) (hn : n ≤ 1000000000) (A : Option Addr) (len c : Nat) (inner : List Value) (ho : w.ownsRow 0 148 2 (.slice A len c) len inner) (hl : ∀ b ∈ (Value.slice A len c).ownBlock.toList, b ∉ F ∧ w0.heap.size ≤ b) (hlen : len ≤ 1000000000) :
    Calls Tryz.prog 202 #[.pointer (some ⟨g, 0, none⟩), .slice A len c] w fun e w' => e = .returned (.tuple #[]) ∧ ∃ F', BookAt w0 w' g (n + 1) F' ∧ Keeps F w w' ∧ ∀ b ∈ F', b ∈ F ∨ b ∈ (Value.slice A len c).ownBlock.toList ∨ w.heap.size ≤ b := by
  have H := Aside0.mk h
  have HO := Aside0.mk ho
  have HL := Aside0.mk hl
  clear h ho hl
  go_enter Tryz.func202, Tryz.ntmps202
  go_wp2_with fail
  refine (H.out.keepRow hn A len c inner HO.out HL.out hlen).mono ?_
  rintro e w' ⟨rfl, h⟩
  have HR := Aside0.mk h
  clear h
  go_wp2
  go_end0
  exact ⟨rfl, HR.out⟩
theorem BookAt.keepOp {w0 w : World} {g : Nat} {n : Int} {F : List Nat} (h : BookAt w0 w g n F) (hn : n ≤ 1000000000) (A : Option Addr) (len c : Nat) (inner : List Value) (ho : w.ownsRow 0 82 4 (.slice A len c) len inner) (hl : ∀ b ∈ (Value.slice A len c).ownBlock.toList, b ∉ F ∧ w0.heap.size ≤ b) (hlen : len ≤ 1000000000) :
    Calls Tryz.prog 137 #[.pointer (some ⟨g, 0, none⟩), .slice A len c] w fun e w' => e = .returned (.tuple #[]) ∧ ∃ F', BookAt w0 w' g (n + 1) F' ∧ Keeps F w w' ∧ ∀ b ∈ F', b ∈ F ∨ b ∈ (Value.slice A len c).ownBlock.toList ∨ w.heap.size ≤ b := by
  obtain ⟨vv1, vv2, vv3, vv4, E1, E2, E3, E4, F1, F2, F3, F4, H, rfl, h0, f1, f2, f3, f4⟩ := h
  have hlt := fun b hb => (BookAt.lt ⟨_, _, _, _, _, _, _, _, _, _, _, _, H, rfl, h0, f1, f2, f3, f4⟩ : ∀ b ∈ g :: allF [⟨fdA 5 1, 172, F1, vv1, E1⟩, ⟨fdA 148 2, 184, F2, vv2, E2⟩, ⟨fdA 82 4, 187, F3, vv3, E3⟩, ⟨fdA 145 1, 199, F4, vv4, E4⟩], b < w.heap.size) b hb
  have hmem : ∀ b ∈ F3, b ∈ g :: allF [⟨fdA 5 1, 172, F1, vv1, E1⟩, ⟨fdA 148 2, 184, F2, vv2, E2⟩, ⟨fdA 82 4, 187, F3, vv3, E3⟩, ⟨fdA 145 1, 199, F4, vv4, E4⟩] := fun b hb => by simp [allF, hb]
  refine (keepOp_calls w g n vv1 (.slice none 0 0) (.slice none 0 0) (.slice none 0 0) vv2 vv3 (.slice none 0 0) (.slice none 0 0) vv4 (.slice none 0 0) (.slice none 0 0) (.slice none 0 0) H.cell E3 F3 H.on3.1 (List.nodup_cons.2 ⟨H.on3.2.2.1, H.on3.2.1⟩) A len c inner ho (fun b hb hx => (hl b hb).1 (by
    rcases List.mem_cons.1 hx with rfl | hx
    · simp
    · exact hmem b hx)) (by have := f3.2; omega) h0 (by omega)).mono ?_
  rintro e w' ⟨F', v', rfl, hc, hr, hnd, hk, hs⟩
  have H2 := Held.step0 (pre := [⟨fdA 5 1, 172, F1, vv1, E1⟩, ⟨fdA 148 2, 184, F2, vv2, E2⟩]) (x := ⟨fdA 82 4, 187, F3, vv3, E3⟩) (post := [⟨fdA 145 1, 199, F4, vv4, E4⟩]) H hc hr (List.nodup_cons.1 hnd).2 (Value.slice A len c).ownBlock.toList hk (fun b hb => (hl b hb).1) (fun b hb => (hl b hb).2) hs (List.nodup_cons.1 hnd).1
  refine ⟨rfl, _, ⟨_, _, _, _, _, _, _, _, _, _, _, _, H2, rfl, by omega, ⟨f1.1, by have := f1.2; omega⟩, ⟨f2.1, by have := f2.2; omega⟩, ⟨f3.1.snoc (show 0 ≤ n + 1 by omega) (show n + 1 ≤ 1000000000000000 by omega) hlen, by have := f3.2; rw [List.length_append, List.length_singleton]; omega⟩, ⟨f4.1, by have := f4.2; omega⟩⟩, hk.mono (fun b hb => .inl ?_), fun b hb => ?_⟩
  · rcases List.mem_cons.1 hb with rfl | hb
    · simp
    · exact hmem b hb
  · have hb2 : b = g ∨ (b ∈ F' ∨ b ∈ F1 ∨ b ∈ F2 ∨ b ∈ F4) := by simpa [allF, or_assoc, or_comm, or_left_comm] using hb
    rcases hb2 with rfl | hb2 | hb2
    · exact .inl (by simp)
    · rcases hs b hb2 with h1 | h1 | h1
      · exact .inl (hmem b h1)
      · exact .inr (.inl h1)
      · exact .inr (.inr h1)
    · refine .inl ?_
      simp only [allF, List.flatMap_cons, List.flatMap_nil, List.append_nil, List.mem_cons, List.mem_append]
      rcases hb2 with hb2 | hb2 | hb2 <;> simp [hb2]
set_option maxHeartbeats 1600000 in
set_option maxRecDepth 100000 in
theorem BookAt.Ops {w0 w : World} {g : Nat} {n : Int} {F : List Nat} (h : BookAt w0 w g n F) (hn : n ≤ 1000000000) (A : Option Addr) (len c : Nat) (inner : List Value) (ho : w.ownsRow 0 82 4 (.slice A len c) len inner) (hl : ∀ b ∈ (Value.slice A len c).ownBlock.toList, b ∉ F ∧ w0.heap.size ≤ b) (hlen : len ≤ 1000000000) :
    Calls Tryz.prog 50 #[.pointer (some ⟨g, 0, none⟩), .slice A len c] w fun e w' => e = .returned (.tuple #[]) ∧ ∃ F', BookAt w0 w' g (n + 1) F' ∧ Keeps F w w' ∧ ∀ b ∈ F', b ∈ F ∨ b ∈ (Value.slice A len c).ownBlock.toList ∨ w.heap.size ≤ b := by
  have H := Aside0.mk h
  have HO := Aside0.mk ho
  have HL := Aside0.mk hl
  clear h ho hl
  go_enter Tryz.func50, Tryz.ntmps50
  go_wp2_with fail
  refine (H.out.keepOp hn A len c inner HO.out HL.out hlen).mono ?_
  rintro e w' ⟨rfl, h⟩
  have HR := Aside0.mk h
  clear h
  go_wp2
  go_end0
  exact ⟨rfl, HR.out⟩
theorem BookAt.keepResult {w0 w : World} {g : Nat} {n : Int} {F : List Nat} (h : BookAt w0 w g n F) (hn : n ≤ 1000000000) (A : Option Addr) (len c : Nat) (inner : List Value) (ho : w.ownsRow 0 145 1 (.slice A len c) len inner) (hl : ∀ b ∈ (Value.slice A len c).ownBlock.toList, b ∉ F ∧ w0.heap.size ≤ b) (hlen : len ≤ 1000000000) :
    Calls Tryz.prog 150 #[.pointer (some ⟨g, 0, none⟩), .slice A len c] w fun e w' => e = .returned (.tuple #[]) ∧ ∃ F', BookAt w0 w' g (n + 1) F' ∧ Keeps F w w' ∧ ∀ b ∈ F', b ∈ F ∨ b ∈ (Value.slice A len c).ownBlock.toList ∨ w.heap.size ≤ b := by
  obtain ⟨vv1, vv2, vv3, vv4, E1, E2, E3, E4, F1, F2, F3, F4, H, rfl, h0, f1, f2, f3, f4⟩ := h
  have hlt := fun b hb => (BookAt.lt ⟨_, _, _, _, _, _, _, _, _, _, _, _, H, rfl, h0, f1, f2, f3, f4⟩ : ∀ b ∈ g :: allF [⟨fdA 5 1, 172, F1, vv1, E1⟩, ⟨fdA 148 2, 184, F2, vv2, E2⟩, ⟨fdA 82 4, 187, F3, vv3, E3⟩, ⟨fdA 145 1, 199, F4, vv4, E4⟩], b < w.heap.size) b hb
  have hmem : ∀ b ∈ F4, b ∈ g :: allF [⟨fdA 5 1, 172, F1, vv1, E1⟩, ⟨fdA 148 2, 184, F2, vv2, E2⟩, ⟨fdA 82 4, 187, F3, vv3, E3⟩, ⟨fdA 145 1, 199, F4, vv4, E4⟩] := fun b hb => by simp [allF, hb]
  refine (keepResult_calls w g n vv1 (.slice none 0 0) (.slice none 0 0) (.slice none 0 0) vv2 vv3 (.slice none 0 0) (.slice none 0 0) vv4 (.slice none 0 0) (.slice none 0 0) (.slice none 0 0) H.cell E4 F4 H.on4.1 (List.nodup_cons.2 ⟨H.on4.2.2.1, H.on4.2.1⟩) A len c inner ho (fun b hb hx => (hl b hb).1 (by
    rcases List.mem_cons.1 hx with rfl | hx
    · simp
    · exact hmem b hx)) (by have := f4.2; omega) h0 (by omega)).mono ?_
  rintro e w' ⟨F', v', rfl, hc, hr, hnd, hk, hs⟩
  have H2 := Held.step0 (pre := [⟨fdA 5 1, 172, F1, vv1, E1⟩, ⟨fdA 148 2, 184, F2, vv2, E2⟩, ⟨fdA 82 4, 187, F3, vv3, E3⟩]) (x := ⟨fdA 145 1, 199, F4, vv4, E4⟩) (post := []) H hc hr (List.nodup_cons.1 hnd).2 (Value.slice A len c).ownBlock.toList hk (fun b hb => (hl b hb).1) (fun b hb => (hl b hb).2) hs (List.nodup_cons.1 hnd).1
  refine ⟨rfl, _, ⟨_, _, _, _, _, _, _, _, _, _, _, _, H2, rfl, by omega, ⟨f1.1, by have := f1.2; omega⟩, ⟨f2.1, by have := f2.2; omega⟩, ⟨f3.1, by have := f3.2; omega⟩, ⟨f4.1.snoc (show 0 ≤ n + 1 by omega) (show n + 1 ≤ 1000000000000000 by omega) hlen, by have := f4.2; rw [List.length_append, List.length_singleton]; omega⟩⟩, hk.mono (fun b hb => .inl ?_), fun b hb => ?_⟩
  · rcases List.mem_cons.1 hb with rfl | hb
    · simp
    · exact hmem b hb
  · have hb2 : b = g ∨ (b ∈ F' ∨ b ∈ F1 ∨ b ∈ F2 ∨ b ∈ F3) := by simpa [allF, or_assoc, or_comm, or_left_comm] using hb
    rcases hb2 with rfl | hb2 | hb2
    · exact .inl (by simp)
    · rcases hs b hb2 with h1 | h1 | h1
      · exact .inl (hmem b h1)
      · exact .inr (.inl h1)
      · exact .inr (.inr h1)
    · refine .inl ?_
      simp only [allF, List.flatMap_cons, List.flatMap_nil, List.append_nil, List.mem_cons, List.mem_append]
      rcases hb2 with hb2 | hb2 | hb2 <;> simp [hb2]
end Go.Proofs.YtcohodkpppmaoaaGreatDoor.Q
namespace Go.Proofs.YtcohodkpppmaoaaGreatDoor.Q
open Go.RowKit Go.Proofs.YtcohodkpppmaoaaGreatDoorW.PrintWords Go.Proofs.YtcohodkpppmaoaaGreatDoorW.PrintLast Go.Proofs.YtcohodkpppmaoaaGreatDoorW.PrintMore
set_option linter.unusedVariables false
/-- n lists are kept; their blocks are L (and what the book has made behind G). -/
def Pile (w0 w : World) (g : Nat) (n : Int) (G : Nat) (L : List Nat) : Prop := ∃ F, BookAt w0 w g n F ∧ (∀ b ∈ F, b ∈ L ∨ G ≤ b) ∧ G ≤ w.heap.size
/-- What lies below G and is not kept stays. -/
def Spared (G : Nat) (L : List Nat) (w w' : World) : Prop := ∀ b, b < G → b ∉ L → w'.heap[b]? = w.heap[b]?
section
variable {w0 w w' : World} {g G : Nat} {n : Int} {F L : List Nat}
theorem Pile.new (hb : Below w0.heap.size w0 w) (hc : w.heap[g]? = some (.cells #[.int .i64 0, .slice none 0 0, .slice none 0 0, .slice none 0 0, .slice none 0 0, .slice none 0 0, .slice none 0 0, .slice none 0 0, .slice none 0 0, .slice none 0 0, .slice none 0 0, .slice none 0 0, .slice none 0 0] 44 (0, 0))) (hg : w0.heap.size ≤ g) : Pile w0 w g 0 g [] :=
  ⟨[g], BookAt.new hb hc hg, fun b hb => .inr (by simp at hb; omega), Nat.le_of_lt (blk_lt hc)⟩
theorem Pile.apart (h : Pile w0 w g n G L) (hT : TabOk w0) : Calls Tryz.prog 26 #[.pointer (some ⟨g, 0, none⟩)] w fun e w' => e = .returned (.bool true) ∧ Below w0.heap.size w0 w' := by
  obtain ⟨F, h, _⟩ := h
  exact h.apart hT
theorem Pile.below (h : Pile w0 w g n G L) (hb : Below w.heap.size w w') : Pile w0 w' g n G L := by
  obtain ⟨F, h1, h2, h3⟩ := h
  exact ⟨F, h1.below hb, h2, Nat.le_trans h3 hb.size⟩
theorem Pile.base (h : Pile w0 w g n G L) : Below w0.heap.size w0 w := by
  obtain ⟨F, h1, _⟩ := h
  exact h1.base
theorem Spared.row {α : Type} {d : Fd α} {e : Nat} {F : List Nat} {v : Value} {xs : List α} (h : Spared G L w w') (hr : Fd.Row d e w F v xs) (hF : ∀ b ∈ F, b < G ∧ b ∉ L) : Fd.Row d e w' F v xs := Fd.row_move (fun b hb => h b (hF b hb).1 (hF b hb).2) hr
theorem Spared.own {base e size len : Nat} {v : Value} {xs : List Value} (h : Spared G L w w') (ho : w.ownsRow base e size v len xs) (hF : ∀ b ∈ v.ownBlock.toList, b < G ∧ b ∉ L) : w'.ownsRow base e size v len xs := own_move ho (fun k hk => h k (hF k (by rw [hk]; simp)).1 (hF k (by rw [hk]; simp)).2)
end
theorem Pile.keepByte {w0 w : World} {g G : Nat} {n : Int} {L : List Nat} (h : Pile w0 w g n G L) (hn : n ≤ 1000000000) (A : Option Addr) (len c : Nat) (inner : List Value) (ho : w.ownsRow 0 5 1 (.slice A len c) len inner) (hl : ∀ b ∈ (Value.slice A len c).ownBlock.toList, (b < G ∧ b ∉ L) ∧ w0.heap.size ≤ b) (hlen : len ≤ 1000000000) :
    Calls Tryz.prog 131 #[.pointer (some ⟨g, 0, none⟩), .slice A len c] w fun e w' => e = .returned (.tuple #[]) ∧ Pile w0 w' g (n + 1) G (L ++ (Value.slice A len c).ownBlock.toList) ∧ Spared G L w w' := by
  obtain ⟨F, h1, h2, h3⟩ := h
  refine (h1.keepByte hn A len c inner ho (fun b hb => ⟨fun hx => ?_, (hl b hb).2⟩) hlen).mono ?_
  · rcases h2 b hx with h | h
    · exact (hl b hb).1.2 h
    · have := (hl b hb).1.1
      omega
  · rintro e w' ⟨rfl, F', h4, hk, hs⟩
    refine ⟨rfl, ⟨F', h4, fun b hb => ?_, Nat.le_trans h3 hk.size⟩, fun b hb hx => hk.block b (Nat.lt_of_lt_of_le hb h3) (fun hf => ?_)⟩
    · rcases hs b hb with h | h | h
      · exact (h2 b h).imp_left (fun h => List.mem_append_left _ h)
      · exact .inl (List.mem_append_right _ h)
      · exact .inr (Nat.le_trans h3 h)
    · rcases h2 b hf with h | h
      · exact hx h
      · omega
theorem Pile.Bytes {w0 w : World} {g G : Nat} {n : Int} {L : List Nat} (h : Pile w0 w g n G L) (hn : n ≤ 1000000000) (A : Option Addr) (len c : Nat) (inner : List Value) (ho : w.ownsRow 0 5 1 (.slice A len c) len inner) (hl : ∀ b ∈ (Value.slice A len c).ownBlock.toList, (b < G ∧ b ∉ L) ∧ w0.heap.size ≤ b) (hlen : len ≤ 1000000000) :
    Calls Tryz.prog 39 #[.pointer (some ⟨g, 0, none⟩), .slice A len c] w fun e w' => e = .returned (.tuple #[]) ∧ Pile w0 w' g (n + 1) G (L ++ (Value.slice A len c).ownBlock.toList) ∧ Spared G L w w' := by
  obtain ⟨F, h1, h2, h3⟩ := h
  refine (h1.Bytes hn A len c inner ho (fun b hb => ⟨fun hx => ?_, (hl b hb).2⟩) hlen).mono ?_
  · rcases h2 b hx with h | h
    · exact (hl b hb).1.2 h
    · have := (hl b hb).1.1
      omega
  · rintro e w' ⟨rfl, F', h4, hk, hs⟩
    refine ⟨rfl, ⟨F', h4, fun b hb => ?_, Nat.le_trans h3 hk.size⟩, fun b hb hx => hk.block b (Nat.lt_of_lt_of_le hb h3) (fun hf => ?_)⟩
    · rcases hs b hb with h | h | h
      · exact (h2 b h).imp_left (fun h => List.mem_append_left _ h)
      · exact .inl (List.mem_append_right _ h)
      · exact .inr (Nat.le_trans h3 h)
    · rcases h2 b hf with h | h
      · exact hx h
      · omega
theorem Pile.keepRow {w0 w : World} {g G : Nat} {n : Int} {L : List Nat} (h : Pile w0 w g n G L) (hn : n ≤ 1000000000) (A : Option Addr) (len c : Nat) (inner : List Value) (ho : w.ownsRow 0 148 2 (.slice A len c) len inner) (hl : ∀ b ∈ (Value.slice A len c).ownBlock.toList, (b < G ∧ b ∉ L) ∧ w0.heap.size ≤ b) (hlen : len ≤ 1000000000) :
    Calls Tryz.prog 208 #[.pointer (some ⟨g, 0, none⟩), .slice A len c] w fun e w' => e = .returned (.tuple #[]) ∧ Pile w0 w' g (n + 1) G (L ++ (Value.slice A len c).ownBlock.toList) ∧ Spared G L w w' := by
  obtain ⟨F, h1, h2, h3⟩ := h
  refine (h1.keepRow hn A len c inner ho (fun b hb => ⟨fun hx => ?_, (hl b hb).2⟩) hlen).mono ?_
  · rcases h2 b hx with h | h
    · exact (hl b hb).1.2 h
    · have := (hl b hb).1.1
      omega
  · rintro e w' ⟨rfl, F', h4, hk, hs⟩
    refine ⟨rfl, ⟨F', h4, fun b hb => ?_, Nat.le_trans h3 hk.size⟩, fun b hb hx => hk.block b (Nat.lt_of_lt_of_le hb h3) (fun hf => ?_)⟩
    · rcases hs b hb with h | h | h
      · exact (h2 b h).imp_left (fun h => List.mem_append_left _ h)
      · exact .inl (List.mem_append_right _ h)
      · exact .inr (Nat.le_trans h3 h)
    · rcases h2 b hf with h | h
      · exact hx h
      · omega
theorem Pile.Rows {w0 w : World} {g G : Nat} {n : Int} {L : List Nat} (h : Pile w0 w g n G L) (hn : n ≤ 1000000000) (A : Option Addr) (len c : Nat) (inner : List Value) (ho : w.ownsRow 0 148 2 (.slice A len c) len inner) (hl : ∀ b ∈ (Value.slice A len c).ownBlock.toList, (b < G ∧ b ∉ L) ∧ w0.heap.size ≤ b) (hlen : len ≤ 1000000000) :
    Calls Tryz.prog 202 #[.pointer (some ⟨g, 0, none⟩), .slice A len c] w fun e w' => e = .returned (.tuple #[]) ∧ Pile w0 w' g (n + 1) G (L ++ (Value.slice A len c).ownBlock.toList) ∧ Spared G L w w' := by
  obtain ⟨F, h1, h2, h3⟩ := h
  refine (h1.Rows hn A len c inner ho (fun b hb => ⟨fun hx => ?_, (hl b hb).2⟩) hlen).mono ?_
  · rcases h2 b hx with h | h
    · exact (hl b hb).1.2 h
    · have := (hl b hb).1.1
      omega
  · rintro e w' ⟨rfl, F', h4, hk, hs⟩
    refine ⟨rfl, ⟨F', h4, fun b hb => ?_, Nat.le_trans h3 hk.size⟩, fun b hb hx => hk.block b (Nat.lt_of_lt_of_le hb h3) (fun hf => ?_)⟩
    · rcases hs b hb with h | h | h
      · exact (h2 b h).imp_left (fun h => List.mem_append_left _ h)
      · exact .inl (List.mem_append_right _ h)
      · exact .inr (Nat.le_trans h3 h)
    · rcases h2 b hf with h | h
      · exact hx h
      · omega
theorem Pile.keepOp {w0 w : World} {g G : Nat} {n : Int} {L : List Nat} (h : Pile w0 w g n G L) (hn : n ≤ 1000000000) (A : Option Addr) (len c : Nat) (inner : List Value) (ho : w.ownsRow 0 82 4 (.slice A len c) len inner) (hl : ∀ b ∈ (Value.slice A len c).ownBlock.toList, (b < G ∧ b ∉ L) ∧ w0.heap.size ≤ b) (hlen : len ≤ 1000000000) :
    Calls Tryz.prog 137 #[.pointer (some ⟨g, 0, none⟩), .slice A len c] w fun e w' => e = .returned (.tuple #[]) ∧ Pile w0 w' g (n + 1) G (L ++ (Value.slice A len c).ownBlock.toList) ∧ Spared G L w w' := by
  obtain ⟨F, h1, h2, h3⟩ := h
  refine (h1.keepOp hn A len c inner ho (fun b hb => ⟨fun hx => ?_, (hl b hb).2⟩) hlen).mono ?_
  · rcases h2 b hx with h | h
    · exact (hl b hb).1.2 h
    · have := (hl b hb).1.1
      omega
  · rintro e w' ⟨rfl, F', h4, hk, hs⟩
    refine ⟨rfl, ⟨F', h4, fun b hb => ?_, Nat.le_trans h3 hk.size⟩, fun b hb hx => hk.block b (Nat.lt_of_lt_of_le hb h3) (fun hf => ?_)⟩
    · rcases hs b hb with h | h | h
      · exact (h2 b h).imp_left (fun h => List.mem_append_left _ h)
      · exact .inl (List.mem_append_right _ h)
      · exact .inr (Nat.le_trans h3 h)
    · rcases h2 b hf with h | h
      · exact hx h
      · omega
theorem Pile.Ops {w0 w : World} {g G : Nat} {n : Int} {L : List Nat} (h : Pile w0 w g n G L) (hn : n ≤ 1000000000) (A : Option Addr) (len c : Nat) (inner : List Value) (ho : w.ownsRow 0 82 4 (.slice A len c) len inner) (hl : ∀ b ∈ (Value.slice A len c).ownBlock.toList, (b < G ∧ b ∉ L) ∧ w0.heap.size ≤ b) (hlen : len ≤ 1000000000) :
    Calls Tryz.prog 50 #[.pointer (some ⟨g, 0, none⟩), .slice A len c] w fun e w' => e = .returned (.tuple #[]) ∧ Pile w0 w' g (n + 1) G (L ++ (Value.slice A len c).ownBlock.toList) ∧ Spared G L w w' := by
  obtain ⟨F, h1, h2, h3⟩ := h
  refine (h1.Ops hn A len c inner ho (fun b hb => ⟨fun hx => ?_, (hl b hb).2⟩) hlen).mono ?_
  · rcases h2 b hx with h | h
    · exact (hl b hb).1.2 h
    · have := (hl b hb).1.1
      omega
  · rintro e w' ⟨rfl, F', h4, hk, hs⟩
    refine ⟨rfl, ⟨F', h4, fun b hb => ?_, Nat.le_trans h3 hk.size⟩, fun b hb hx => hk.block b (Nat.lt_of_lt_of_le hb h3) (fun hf => ?_)⟩
    · rcases hs b hb with h | h | h
      · exact (h2 b h).imp_left (fun h => List.mem_append_left _ h)
      · exact .inl (List.mem_append_right _ h)
      · exact .inr (Nat.le_trans h3 h)
    · rcases h2 b hf with h | h
      · exact hx h
      · omega
theorem Pile.keepResult {w0 w : World} {g G : Nat} {n : Int} {L : List Nat} (h : Pile w0 w g n G L) (hn : n ≤ 1000000000) (A : Option Addr) (len c : Nat) (inner : List Value) (ho : w.ownsRow 0 145 1 (.slice A len c) len inner) (hl : ∀ b ∈ (Value.slice A len c).ownBlock.toList, (b < G ∧ b ∉ L) ∧ w0.heap.size ≤ b) (hlen : len ≤ 1000000000) :
    Calls Tryz.prog 150 #[.pointer (some ⟨g, 0, none⟩), .slice A len c] w fun e w' => e = .returned (.tuple #[]) ∧ Pile w0 w' g (n + 1) G (L ++ (Value.slice A len c).ownBlock.toList) ∧ Spared G L w w' := by
  obtain ⟨F, h1, h2, h3⟩ := h
  refine (h1.keepResult hn A len c inner ho (fun b hb => ⟨fun hx => ?_, (hl b hb).2⟩) hlen).mono ?_
  · rcases h2 b hx with h | h
    · exact (hl b hb).1.2 h
    · have := (hl b hb).1.1
      omega
  · rintro e w' ⟨rfl, F', h4, hk, hs⟩
    refine ⟨rfl, ⟨F', h4, fun b hb => ?_, Nat.le_trans h3 hk.size⟩, fun b hb hx => hk.block b (Nat.lt_of_lt_of_le hb h3) (fun hf => ?_)⟩
    · rcases hs b hb with h | h | h
      · exact (h2 b h).imp_left (fun h => List.mem_append_left _ h)
      · exact .inl (List.mem_append_right _ h)
      · exact .inr (Nat.le_trans h3 h)
    · rcases h2 b hf with h | h
      · exact hx h
      · omega
end Go.Proofs.YtcohodkpppmaoaaGreatDoor.Q
namespace Go.Proofs.YtcohodkpppmaoaaGreatDoor.Q
open Go.RowKit Go.Proofs.YtcohodkpppmaoaaGreatDoorW.PrintWords Go.Proofs.YtcohodkpppmaoaaGreatDoorW.PrintLast Go.Proofs.YtcohodkpppmaoaaGreatDoorW.PrintMore
set_option linter.unusedVariables false
def spareKey : ByteArray := ⟨#[115, 112, 97, 114, 101]⟩
/-- The list's value, and behind it, in the same row, a mark. -/
def Twin {α : Type} (d : Fd α) (e : Nat) (w : World) (F : List Nat) (v : Value) (xs : List α) (sp : α) : Prop :=
  ∃ A c, v = .slice A xs.length c ∧ xs.length + 1 ≤ c ∧ Fd.Row d e w F (.slice A (xs.length + 1) c) (xs ++ [sp])
section
variable {α : Type} {d : Fd α} {e : Nat} {w w1 : World} {F G : List Nat} {v : Value} {xs : List α} {sp : α}
theorem Twin.keeps (h : Twin d e w F v xs sp) (hk : Keeps G w w1) (hd : ∀ b ∈ F, b ∉ G) : Twin d e w1 F v xs sp := by
  obtain ⟨A, c, h1, h2, h3⟩ := h
  exact ⟨A, c, h1, h2, Fd.row_keeps h3 hk hd⟩
theorem Twin.below (h : Twin d e w F v xs sp) (hb : Below w.heap.size w w1) : Twin d e w1 F v xs sp := h.keeps (Keeps.of_below hb []) (fun _ _ hx => by cases hx)
theorem Twin.lt (h : Twin d e w F v xs sp) : ∀ b ∈ F, b < w.heap.size := by
  obtain ⟨A, c, h1, h2, h3⟩ := h
  exact Fd.row_lt h3
theorem C_front {k : Kd α} {A : Option Addr} {n : Nat} {ys : List α} (h : k.C w A n (xs ++ ys)) : k.C w A xs.length xs := by
  obtain rfl : (xs ++ ys).length = n := h.1
  have h1 := Kd.C_take (xs := xs ++ ys) h (m := xs.length) (by rw [List.length_append]; omega)
  rwa [List.take_left' rfl] at h1
/-- As it is read. -/
theorem Twin.reads (h : Twin d e w F v xs sp) : ∃ A c, v = .slice A xs.length c ∧ xs.length + 1 ≤ c ∧ d.k.C w A xs.length xs ∧ d.k.C w A (xs.length + 1) (xs ++ [sp]) := by
  obtain ⟨A, c, rfl, h2, h3⟩ := h
  obtain ⟨A', c', ev, hc, hC⟩ := Fd.row_reads h3
  injection ev with e1 _ e3
  subst e1
  rw [List.length_append, List.length_singleton] at hC
  exact ⟨A, c, rfl, h2, C_front hC, hC⟩
theorem Twin.c {A : Option Addr} {n c : Nat} (h : Twin d e w F (.slice A n c) xs sp) : d.k.C w A xs.length xs ∧ d.k.C w A (xs.length + 1) (xs ++ [sp]) ∧ xs.length + 1 ≤ c := by
  obtain ⟨A', c', ev, h1, h2, h3⟩ := h.reads
  injection ev with e1 _ e3
  subst e1 e3
  exact ⟨h2, h3, h1⟩
theorem Twin.owns {A : Option Addr} {n c : Nat} (h : Twin d e w F (.slice A n c) xs sp) : ∃ inner, w.ownsRow 0 e d.k.sz (.slice A xs.length c) xs.length inner := by
  obtain ⟨A', c', ev, h2, inner, G, ho, he, rfl⟩ := h
  injection ev with e1 _ e3
  subst e1 e3
  rw [List.length_append, List.length_singleton] at ho
  exact ⟨_, own_take ho (Nat.le_succ _)⟩
theorem Twin.blk {A : Option Addr} {n c : Nat} (h : Twin d e w F (.slice A n c) xs sp) : ∀ b ∈ (Value.slice A n c).ownBlock.toList, b ∈ F := by
  obtain ⟨A', c', ev, h2, inner, G, ho, he, rfl⟩ := h
  injection ev with e1 _ e3
  subst e1 e3
  exact fun b hb => List.mem_append_left _ (by cases A <;> simp [Value.ownBlock] at hb ⊢ <;> exact hb)
/-- Its row, as the book keeps it. -/
theorem Twin.own (h : Twin d e w F v xs sp) : ∃ A c inner, v = .slice A xs.length c ∧ w.ownsRow 0 e d.k.sz (.slice A xs.length c) xs.length inner ∧ ∀ b ∈ (Value.slice A xs.length c).ownBlock.toList, b ∈ F := by
  obtain ⟨A, c, rfl, h2, inner, G, ho, he, rfl⟩ := h
  rw [List.length_append, List.length_singleton] at ho
  exact ⟨A, c, _, rfl, own_take ho (Nat.le_succ _), fun b hb => List.mem_append_left _ (by cases A <;> simp [Value.ownBlock] at hb ⊢ <;> exact hb)⟩
end
section
variable {P : Program}
theorem cut_up (t e : TypeId) (kh : IntKind) (ht : P.underlying t = some (.slice e)) {z : Option Value} {size bytes : Nat} (hinfo : (P.info? e).map (fun i => (i.zero, i.size, i.bytes)) = some (z, size, bytes)) (A : Option Addr) (n c : Nat) (j : Int) (h0 : 0 ≤ j) (hm : j ≤ c) :
    ∀ W : World, (Instr.slice t (.slice A n c) none (some (.int kh j)) none).run P W = .ok (.slice A j.toNat c) W := by
  intro W
  obtain ⟨i, hi, _⟩ := Option.map_eq_some_iff.1 hinfo
  have hel : P.elem t = e := by simp [Program.elem, ht]
  have hu : P.underlying t = some (.slice (P.elem t)) := by rw [hel]; exact ht
  have ha : (A.map fun x => x.add 0) = A := by cases A <;> simp [Addr.add]
  rw [run_slice_h W t A n c hu kh j h0 (by omega), hel]
  simp [sizeOf, typeInfo, hi, sliced, Result.andThen, ha]
theorem run_make0 (t e : TypeId) (z : Value) (size bytes : Nat) (ht : P.underlying t = some (.slice e)) (hinfo : (P.info? e).map (fun i => (i.zero, i.size, i.bytes)) = some (some z, size, bytes)) (hb0 : 0 < bytes) (m : Nat) (hl : m * bytes ≤ 281474976710656) :
    ∀ W : World, (Instr.makeSlice t (.int .i64 0) (.int .i64 (m : Int))).run P W = .ok (.slice (some ⟨W.heap.size, 0, none⟩) 0 m) (W.alloc (.cells (madeCells z.cells (m * size)) e)) := by
  intro W
  obtain ⟨i0, hi, hzz⟩ := Option.map_eq_some_iff.1 hinfo
  simp only [Prod.mk.injEq] at hzz
  obtain ⟨hz0, hz1, hz2⟩ := hzz
  have hm : m ≤ 281474976710656 := Nat.le_trans (Nat.le_mul_of_pos_right _ hb0) hl
  have hr := run_make (P := P) W t e i0 z ht hi hz0 .i64 .i64 0 (m : Int) (by omega) (by omega)
    (by
      have h3 : ((i0.bytes * m : Nat) : Int) ≤ 281474976710656 := by rw [hz2, Nat.mul_comm]; omega
      rwa [Int.natCast_mul] at h3) (by omega)
  simp only [Int.toNat_natCast] at hr
  rw [hz1] at hr
  exact hr
theorem made0_row {α : Type} (d : Fd α) (e : Nat) (W : World) (cs : Array Value) (m : Nat) (hm : m ≤ 281474976710656) (hs : cs.size = m * d.k.sz) : Fd.Row d e (W.alloc (.cells cs e)) [W.heap.size] (.slice (some ⟨W.heap.size, 0, none⟩) 0 m) [] := by
  have h := World.ownsRow_lit (base := 0) (e := e) (size := d.k.sz) W cs m (Nat.zero_le _) (by unfold maxLen; omega) hs
  have h2 := own_take h (Nat.zero_le m)
  rw [Nat.zero_mul, List.take_zero] at h2
  exact ⟨[], [], h2, ⟨rfl, rfl⟩, rfl⟩
theorem madeCells_size (z : Array Value) (n : Nat) : (madeCells z n).size = n := by simp [madeCells]
end
end Go.Proofs.YtcohodkpppmaoaaGreatDoor.Q
namespace Go.Proofs.YtcohodkpppmaoaaGreatDoor.Q
open Go.RowKit Go.Proofs.YtcohodkpppmaoaaGreatDoorW.PrintWords Go.Proofs.YtcohodkpppmaoaaGreatDoorW.PrintLast Go.Proofs.YtcohodkpppmaoaaGreatDoorW.PrintMore
set_option linter.unusedVariables false
theorem infoTwRows : (Tryz.prog.info? 148).map (fun i => (i.zero, i.size, i.bytes)) = some (some (.agg #[.string ⟨#[]⟩, .int .u32 0]), 2, 24) := by kernel_rfl
theorem readRows (l : List S148) (k : Nat) (hk : k < l.length) : l.take (k + 1) = l.take k ++ [rd_T148 l (k : Int)] := by
  rw [List.take_succ_eq_append_getElem hk]
  simp [rd_T148, hk]
set_option maxHeartbeats 3200000 in
set_option maxRecDepth 100000 in
theorem twinRows_calls (w : World) (A0 : Option Addr) (c0 : Nat) (l : List S148) (hr : Kd.C k148 w A0 l.length l) (hc0 : l.length ≤ c0) (hl : l.length ≤ 1000000000) :
    Calls Tryz.prog 197 #[.slice A0 l.length c0] w fun e w' => ∃ v, e = .returned v ∧ ∃ F, Twin fdRow 148 w' F v l ⟨spareKey, 0⟩ ∧ F.Nodup ∧ (∀ b ∈ F, w.heap.size ≤ b) ∧ Below w.heap.size w w' := by
  obtain ⟨MC, hMS, HMK⟩ : ∃ MC : Array Value, MC.size = (l.length + 1) * 2 ∧ ∀ W : World, (Instr.makeSlice 143 (.int .i64 0) (.int .i64 ((l.length : Int) + 1))).run Tryz.prog W = .ok (.slice (some ⟨W.heap.size, 0, none⟩) 0 (l.length + 1)) (W.alloc (.cells MC 148)) := ⟨madeCells ((.agg #[.string ⟨#[]⟩, .int .u32 0]) : Value).cells ((l.length + 1) * 2), madeCells_size _ _, fun W => by
    have h := run_make0 (P := Tryz.prog) 143 148 (.agg #[.string ⟨#[]⟩, .int .u32 0]) 2 24 Tryz.underlying143 infoTwRows (by decide) (l.length + 1) (by omega) W
    rwa [show ((l.length + 1 : Nat) : Int) = (l.length : Int) + 1 by omega] at h⟩
  have hw1 : IntKind.i64.wrap ((l.length : Int) + 1) = (l.length : Int) + 1 := IntWalk.i64_in _ (by omega)
  have HC := Aside0.mk hr
  have hul := Tryz.underlying148
  clear hr
  go_enter Tryz.func197, Tryz.ntmps197
  go_wp2
  obtain ⟨wo, hwo⟩ : ∃ wo, wo = w.alloc (.cells MC 148) := ⟨_, rfl⟩
  have HB0 := Aside0.mk (show Below w.heap.size w wo by rw [hwo]; exact below_alloc (Below.refl _ _) _)
  have HR0 := Aside0.mk (show Fd.Row fdRow 148 wo [w.heap.size] (.slice (some ⟨w.heap.size, 0, none⟩) 0 (l.length + 1)) [] by
    rw [hwo]; exact made0_row fdRow 148 w _ (l.length + 1) (by omega) hMS)
  rw [← hwo]
  clear hwo HMK
  go_loopw [3, 4] (fun v i wr => ∃ (k : Nat) (F : List Nat), k ≤ l.length ∧ i = .int .i64 k ∧ Aside0 (Fd.Row fdRow 148 wr F v (l.take k)) ∧ Aside0 F.Nodup ∧ Aside0 (∀ b ∈ F, w.heap.size ≤ b) ∧ Aside0 (Below w.heap.size w wr)) (fun _ i _ => l.length - (intOf i).toNat)
  case atStart => exact ⟨0, [w.heap.size], Nat.zero_le _, rfl, HR0, ⟨by simp⟩, ⟨by simp⟩, HB0⟩
  case round =>
    clear HR0 HB0
    obtain ⟨wq, hwq⟩ : ∃ wq, wq = wr := ⟨_, rfl⟩
    subst hwq
    obtain ⟨k, F, hk, rfl, HR, HN, HF, HB⟩ := hrel
    obtain ⟨Av, cv, ev, hcv, _⟩ := Fd.row_reads HR.out
    rw [List.length_take, Nat.min_eq_left hk] at ev hcv
    subst ev
    have hsz : w.heap.size ≤ wq.heap.size := HB.out.size
    by_cases hlt : k < l.length
    · have hlt' : (k : Int) < (l.length : Int) := by omega
      have hk0 : (0 : Int) ≤ (k : Int) := by omega
      obtain ⟨ad, e1, hx0, hx1⟩ := at_T148 (Kd.C_below HC.out HB.out) (k : Int) hk0 hlt'
      subst e1
      simp only [Int.toNat_natCast] at hx0 hx1
      have HTK := Aside0.mk (readRows l k hlt)
      generalize rd_T148 l (k : Int) = x at *
      have HM := Aside0.mk (show fdRow.M wq [] x [.string x.f0, .int .u32 x.f1] from ⟨rfl, k148_mk _ _⟩)
      go_wp2_with (first | (at_builtin; (refine Fd.R_append (W := wq) fdRow rfl (.tmp 15) (.tmp 20) 143 148 (.agg #[.string ⟨#[]⟩, .int .u32 0]) 24 rfl Tryz.underlying143 infoTwRows rfl (show 0 < 2 from by decide) (by decide) (.slice Av k cv) (l.take k) x [.string x.f0, .int .u32 x.f1] F [] rfl rfl HM.out HR.out (by rw [List.append_nil]; exact HN.out) (by rw [List.length_take]; omega) ?_); intro v1 w6 F6 h1 h2 h3 h4; have R6 := Aside0.mk h1; have N6 := Aside0.mk h2; have K6 := Aside0.mk h3; have L6 := Aside0.mk h4; clear h1 h2 h3 h4))
      go_roundw
      case rel =>
        refine ⟨k + 1, F6, by omega, by go_num, ⟨by rw [HTK.out]; exact R6.out⟩, N6, ⟨fun b hb => ?_⟩, ⟨HB.out.trans (K6.out.below HF.out hsz)⟩⟩
        rcases L6.out b hb with h | h | h
        · exact HF.out b h
        · cases h
        · omega
      case measure => simp [intOf]; omega
    · obtain rfl : k = l.length := by omega
      have hlt' : ¬ ((l.length : Int) < (l.length : Int)) := by omega
      have etk : l.take l.length = l := List.take_of_length_le (Nat.le_refl _)
      rw [etk] at HR
      have HM := Aside0.mk (show fdRow.M wq [] ⟨spareKey, 0⟩ [.string spareKey, .int .u32 0] from ⟨rfl, k148_mk _ _⟩)
      unfold spareKey at HM
      have HU := Aside0.mk infoTwRows
      go_wp2_with (first | (at_builtin; (refine Fd.R_append (W := wq) fdRow rfl (.tmp 22) (.tmp 24) 143 148 (.agg #[.string ⟨#[]⟩, .int .u32 0]) 24 rfl Tryz.underlying143 infoTwRows rfl (show 0 < 2 from by decide) (by decide) (.slice Av l.length cv) l ⟨⟨#[115, 112, 97, 114, 101]⟩, 0⟩ [.string ⟨#[115, 112, 97, 114, 101]⟩, .int .u32 0] F [] rfl rfl HM.out HR.out (by rw [List.append_nil]; exact HN.out) (by omega) ?_); intro v1 w6 F6 h1 h2 h3 h4; obtain ⟨A2, c2, ev2, hc2, _⟩ := Fd.row_reads h1; rw [List.length_append, List.length_singleton] at ev2 hc2; subst ev2; have hcut := cut_up (P := Tryz.prog) 143 148 .i64 Tryz.underlying143 HU.out A2 (l.length + 1) c2 (l.length : Int) (by omega) (by omega); rw [Int.toNat_natCast] at hcut; have R6 := Aside0.mk h1; have N6 := Aside0.mk h2; have K6 := Aside0.mk h3; have L6 := Aside0.mk h4; clear h1 h2 h3 h4))
      go_ret
      refine ⟨_, rfl, F6, ⟨A2, c2, rfl, hc2, R6.out⟩, N6.out, fun b hb => ?_, HB.out.trans (K6.out.below HF.out hsz)⟩
      rcases L6.out b hb with h | h | h
      · exact HF.out b h
      · cases h
      · omega
theorem readLRows (l : List S148) (k : Nat) (hk : k < l.length) : rd_T148 (l ++ [⟨spareKey, 0⟩]) (k : Int) = rd_T148 l (k : Int) := by
  simp [rd_T148, List.getElem?_append_left hk]
theorem readSRows (l : List S148) : rd_T148 (l ++ [⟨spareKey, 0⟩]) (l.length : Int) = ⟨spareKey, 0⟩ := by
  simp [rd_T148]
set_option maxHeartbeats 3200000 in
set_option maxRecDepth 100000 in
theorem leftRows_calls (w : World) (At : Option Addr) (ct : Nat) (A0 : Option Addr) (c0 : Nat) (l : List S148) (ht : Kd.C k148 w At (l.length + 1) (l ++ [⟨spareKey, 0⟩])) (hct : l.length + 1 ≤ ct) (hr : Kd.C k148 w A0 l.length l) (hc0 : l.length ≤ c0) (hl : l.length ≤ 1000000000) :
    Calls Tryz.prog 201 #[.slice At l.length ct, .slice A0 l.length c0] w fun e w' => e = .returned (.bool true) ∧ Below w.heap.size w w' := by
  have hw1 : IntKind.i64.wrap ((l.length : Int) + 1) = (l.length : Int) + 1 := IntWalk.i64_in _ (by omega)
  have hcap : ¬ ((ct : Int) ≤ (l.length : Int)) := by omega
  have hcut := cut_up (P := Tryz.prog) 143 148 .i64 Tryz.underlying143 infoTwRows At l.length ct ((l.length : Int) + 1) (by omega) (by omega)
  rw [show ((l.length : Int) + 1).toNat = l.length + 1 by omega] at hcut
  have hul := Tryz.underlying148
  have HT := Aside0.mk ht
  have HC := Aside0.mk hr
  clear ht hr
  go_enter Tryz.func201, Tryz.ntmps201
  go_wp2
  go_loopw [5] (fun i wr => ∃ (k : Nat), k ≤ l.length ∧ i = .int .i64 k ∧ ∃ m, wr = w.drewN m) (fun i _ => l.length - (intOf i).toNat)
  case atStart => exact ⟨0, Nat.zero_le _, rfl, 0, rfl⟩
  case round =>
    obtain ⟨k, hk, rfl, m, rfl⟩ := hrel
    have hb := pw_below_drewN (Below.refl w.heap.size w) m
    by_cases hlt : k < l.length
    · have hlt' : (k : Int) < (l.length : Int) := by omega
      have hk0 : (0 : Int) ≤ (k : Int) := by omega
      obtain ⟨ad, e1, hx0, hx1⟩ := at_T148 HC.out (k : Int) hk0 hlt'
      subst e1
      obtain ⟨at_, e1, hy0, hy1⟩ := at_T148 HT.out (k : Int) hk0 (by omega)
      subst e1
      simp only [Int.toNat_natCast] at hx0 hx1 hy0 hy1
      simp only [readLRows l k hlt] at hy0 hy1
      generalize rd_T148 l (k : Int) = x at *
      go_wp2
      repeat (go_quiet (fail); try go_wp2)
      go_roundw
      case rel => exact ⟨k + 1, by omega, by go_num, _, rfl⟩
      case measure => simp [intOf]; omega
    · obtain rfl : k = l.length := by omega
      have hlt' : ¬ ((l.length : Int) < (l.length : Int)) := by omega
      obtain ⟨at_, e1, hy0, hy1⟩ := at_T148 HT.out (l.length : Int) (by omega) (by omega)
      subst e1
      simp only [Int.toNat_natCast] at hy0 hy1
      simp only [readSRows l] at hy0 hy1
      try simp only [spareKey] at hy0 hy1
      replace hy0 := cell_on hb hy0
      replace hy1 := cell_on hb hy1
      generalize w.drewN m = W at *
      have HB := Aside0.mk hb
      clear hb
      go_wp2
      repeat (go_quiet (fail); try go_wp2)
      go_ret
      exact ⟨rfl, HB.out.alloc HB.out.size _⟩
end Go.Proofs.YtcohodkpppmaoaaGreatDoor.Q
namespace Go.Proofs.YtcohodkpppmaoaaGreatDoor.Q
open Go.RowKit Go.Proofs.YtcohodkpppmaoaaGreatDoorW.PrintWords Go.Proofs.YtcohodkpppmaoaaGreatDoorW.PrintLast Go.Proofs.YtcohodkpppmaoaaGreatDoorW.PrintMore
set_option linter.unusedVariables false

/-- Where the row lies behind an append of a text: where it lay, or in a new block. -/
theorem str_block {P : Program} (w : World) (base : Nat) (t u ty e : TypeId) (i : TypeInfo) (ht : P.underlying t = some (.slice e)) (hu : P.underlying u = some .string) (hi : P.info? e = some i) (hz : i.zero = some (.int .u8 0))
    (hsize : i.size = 1) (hby : i.bytes = 1) (v : Value) (n : Nat) (xs : List Value) (hown : w.ownsRow base e 1 v n xs) (s : ByteArray) (hbytes : n + s.size ≤ 140737488355328)
    {v' : Value} {w' : World} (hr : (Builtin.append_ #[t, u] ty #[v, .string s]).run P w = .ok v' w') : v'.ownBlock = v.ownBlock ∨ v'.ownBlock = some w.heap.size := by
  have hxl : xs.length = n := by simpa using hown.1
  rcases hown.2 with ⟨rfl, rfl⟩ | ⟨g, cap, cur, rfl, hbg, hg, hnc, hcm, hcs, htake⟩
  · by_cases hm : s.size = 0
    · have hf := Lib.run_firstCells_string (P := P) w 1 s
      rw [hm] at hf
      simp [Builtin.append_, run_underlying ht, run_underlying hu, sizeOf, typeInfo, hi, hsize, Builtin.lenOf, hm, hf] at hr
      obtain ⟨rfl, _⟩ := hr
      exact .inl rfl
    · have h2 := run_append_nil_string (P := P) w t u ty e i (.int .u8 0) ht hu hi hz s (by omega) (by omega) (by rw [hby]; omega)
      rw [h2] at hr
      injection hr with h3 h4
      subst h3
      exact .inr rfl
  · by_cases hroom : n + s.size ≤ cap
    · have h2 := Lib.run_append_room_string (P := P) w t u ty e i ht hu hi hsize g n cap cur hg s hroom (by omega)
      rw [h2] at hr
      injection hr with h3 h4
      subst h3
      exact .inl rfl
    · have holds : ∀ j u, xs[j]? = some u → w.cell? ((⟨g, 0, none⟩ : Addr).add j) = some u := hown.cells (g := g) rfl
      have h2 := Lib.run_append_grow_string (P := P) w t u ty e i (.int .u8 0) ht hu hi hz ⟨g, 0, none⟩ n cap xs (by rw [hsize]; simpa using hxl) holds s (by omega) (by omega) (by rw [hby]; exact growslice_fits (by omega) (by omega))
      rw [h2] at hr
      injection hr with h3 h4
      subst h3
      exact .inr rfl

section
variable {P : Program} {ops : Array Oper} {rest : List Oper} {o : Oper} {a : Act} {Q : Exit → Act → World → Prop}
theorem R_append_str {w0 W : World} (base : Nat) (hgd : o.guard = none) (s x : Operand) (t u e : TypeId)
    (ho : o.op = .call { callee := .builtin .append, args := #[s, x], argTypes := #[t, u] })
    (ht : P.underlying t = some (.slice e)) (hu : P.underlying u = some .string) (hinfo : (P.info? e).map (fun i => (i.zero, i.size, i.bytes)) = some (some (.int .u8 0), 1, 1))
    (v : Value) (xs : List Int) (y : ByteArray) (hs : a.eval s = v) (hx : a.eval x = .string y) (ok : Nat → Prop) (hnew : ∀ k, W.heap.size ≤ k → ok k)
    (HO : Kd.R (Kd.int .u8) e W base ok v xs) (HB : Below base w0 W) (hbase : base ≤ W.heap.size) (hl : xs.length + y.size ≤ 140737488355328)
    (h : ∀ v1 w1, Kd.R (Kd.int .u8) e w1 base ok v1 (xs ++ bytesOf y) → Below base w0 w1 → W.grownBy w1 v.ownBlock → wpList P ops Q rest (a.put o.dst v1) w1) :
    wpList P ops Q (o :: rest) a W := by
  obtain ⟨i0, hi, hzz⟩ := Option.map_eq_some_iff.1 hinfo
  simp only [Prod.mk.injEq] at hzz
  obtain ⟨hz0, hz1, hz2⟩ := hzz
  have hown : W.ownsRow base e 1 v xs.length (nums .u8 xs) := Kd.own_of_R HO
  refine wpList_plain hgd fun K hK => ?_
  obtain ⟨v1, w1, hr, h2, h3, h4⟩ := Lib.run_append_own_string (P := P) W base t u o.type e i0 ht hu hi hz0 hz1 hz2 v xs.length (nums .u8 xs) hown y (by simp only [maxLen]; omega) hl hbase
  have hat := str_block W base t u o.type e i0 ht hu hi hz0 hz1 hz2 v xs.length (nums .u8 xs) hown y hl hr
  unfold Oper.wp execOp
  simp only [ho, resolve, invoke, builtin, Sem.run_bind, Sem.run_pure, Result.andThen_ok, List.map_toArray, List.map_cons, List.map_nil, hs, hx, hr]
  refine hK _ _ (h v1 w1 ?_ (HB.grown h3 hbase (own_base hown)) h3)
  have hc : encs (Value.int .u8) (xs ++ bytesOf y) = nums .u8 xs ++ Lib.strCells y := by
    simp [encs, nums, bytesOf, Lib.strCells]
  refine Kd.R_of_own (enc := Value.int .u8) (h1 := fun _ => rfl) ?_ ?_
  · rw [hc]
    have hl2 : (xs ++ bytesOf y).length = xs.length + y.size := by rw [List.length_append, bytesOf_length]
    rw [hl2]
    exact h2
  · intro k hk
    rcases hat with hat | hat
    · exact HO.1 k (by rw [← hat]; exact hk)
    · rw [hat] at hk
      injection hk with hk
      exact hnew k (by omega)
end

def rows_text.f (l0 : List Int) (a1 : ByteArray) : Option (List Int) := if l0.length + 1 + a1.size < 140737488355328 then some (l0 ++ [(a1.size : Int) % 256] ++ bytesOf a1) else none

set_option maxHeartbeats 800000 in
set_option maxRecDepth 100000 in
theorem rows_text.calls (P0_ : Nat → Prop) (u9000_ : Value) (l0 : List Int) (a1 : ByteArray) (r : List Int) (w0 w : World) (hB : Below w0.heap.size w0 w) (ho0 : Kd.R (Kd.int .u8) 5 w w0.heap.size P0_ u9000_ l0) (h : rows_text.f l0 a1 = some r) :
    Calls Tryz.prog 116 #[u9000_, .string a1] w fun e w' => ∃ v0_ : Value, e = .returned (v0_) ∧ Kd.R (Kd.int .u8) 5 w' w0.heap.size (fun k_ => (P0_ k_ ∨ w.heap.size ≤ k_)) v0_ r ∧ Below w0.heap.size w0 w' ∧ Kept w w' (fun k_ => P0_ k_) := by
  have HO0 := Aside0.mk (show Kd.R (Kd.int .u8) 5 w w0.heap.size (fun k_ => (P0_ k_ ∨ w.heap.size ≤ k_)) u9000_ l0 from Kd.R_mono ho0 (fun k_ hk => (.inl hk)))
  have HP := Aside0.mk ho0
  have HK := Aside0.mk (Kept.refl w (fun k_ => P0_ k_))
  have HW0 := Aside0.mk hB.size
  have HB := Aside0.mk hB
  clear hB ho0
  unfold rows_text.f at h
  by_cases hb : l0.length + 1 + a1.size < 140737488355328
  · rw [if_pos hb] at h
    have e := Option.some.inj h
    have HE := Aside0.mk e
    have HL := Aside0.mk hb
    clear h e hb
    go_enter Tryz.func116, Tryz.ntmps116
    go_wp2_with (first | (at_builtin; refine Kd.R_append (Kd.int .u8) (w0 := w0) w0.heap.size rfl (.tmp 5) (.tmp 9) 67 5 (.int .u8 0) 1 rfl Tryz.underlying67 info5 rfl (by decide) (by omega) u9000_ l0 ((a1.size : Int) % 256) [.int .u8 ((a1.size : Int) % 256)] (fun k_ => (P0_ k_ ∨ w.heap.size ≤ k_)) (fun _ => False) rfl rfl rfl (fun _ hk => hk.elim) (fun k_ hk => .inr hk) HO0.out HB.out HW0.out (by have := HL.out; omega) ?_; intro v1 w1 ho hb hg hat; have HO1 := Aside0.mk ho; have HB1 := Aside0.mk hb; have HG1 := Aside0.mk hg; have HS1 := Aside0.mk hg.size; clear ho hb hg hat) | (at_builtin; refine R_append_str (w0 := w0) w0.heap.size rfl (.tmp 10) (.tmp 11) 67 9 5 rfl Tryz.underlying67 Tryz.underlying9 info5 v1 (l0 ++ [(a1.size : Int) % 256]) a1 rfl rfl (fun k_ => (P0_ k_ ∨ w.heap.size ≤ k_)) (fun k_ hk => .inr (Nat.le_trans HS1.out hk)) HO1.out HB1.out (Nat.le_trans HW0.out HS1.out) (by rw [List.length_append]; have := HL.out; simp; omega) ?_; intro v2 w2 ho2 hb2 hg2; have HO2 := Aside0.mk ho2; have HB2 := Aside0.mk hb2; have HG2 := Aside0.mk hg2; clear ho2 hb2 hg2))
    go_ret
    refine ⟨_, rfl, by rw [← HE.out]; exact HO2.out, HB2.out, ?_⟩
    have K1 : Kept w w1 (fun k_ => P0_ k_) := Kept.of_grown HG1.out HK.out (fun k_ e_ => HO0.out.1 k_ e_)
    exact Kept.of_grown HG2.out K1 (fun k_ e_ => HO1.out.1 k_ e_)
  · rw [if_neg hb] at h
    cases h

end Go.Proofs.YtcohodkpppmaoaaGreatDoor.Q
