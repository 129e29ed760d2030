/-
  The law RowsOps, walked: it answers true.
  From a row's reading of an argument (DataW.trod) to the printed words' facts (Kd.K): numbers, texts, structs, slices, of whatever depth.
  How arguments of the types of this program are read: rows, ops, changes, results.
  The tables that the rows list: a start that has them; from a row's condition to the table that the walk reads.
-/
import Derived.Test.YtcohodkpppmaoaaGreatDoorMO2
import Derived.Test.YtcohodkpppmaoaaGreatDoorMO3
import Derived.Test.YtcohodkpppmaoaaGreatDoorMO4
import Derived.Test.YtcohodkpppmaoaaGreatDoorMO13
import Derived.Test.YtcohodkpppmaoaaGreatDoorMO15
import Derived.Test.YtcohodkpppmaoaaGreatDoorWWords
import Derived.ProofKit
import Derived.OpenShut
import Derived.SizedLaws
import Derived.Deep.Slices
import Derived.Test.YtcohodkpppmaoaaGreatDoorMO8
import Derived.Test.YtcohodkpppmaoaaGreatDoorRows
import Derived.Test.YtcohodkpppmaoaaGreatDoorMO6
import Derived.Lib.LaidTab
import Derived.Lib.LaidIn
import Derived.LaidLaws
import Derived.KernelRfl
set_option linter.unusedSimpArgs false
set_option linter.unusedVariables false
namespace Go.Proofs.YtcohodkpppmaoaaGreatDoor.Q
open Go.RowKit Go.Proofs.YtcohodkpppmaoaaGreatDoorW.PrintWords Go.Proofs.YtcohodkpppmaoaaGreatDoorW.PrintLast Go.Proofs.YtcohodkpppmaoaaGreatDoorW.PrintMore
set_option linter.unusedVariables false
theorem putOps_len (l : List OpT) : (putOps l).1.length ≤ 64 * l.length + 2 := by
  by_cases h : (putOps l).2 = 0
  · obtain ⟨h1, h2, h3⟩ := putList_ok opE_cases h
    have hf := flatMap_len_le opB 64 l (fun x hx => op_len x (h1 x hx))
    show (putList opE 16 opB l).1.length ≤ _
    rw [h3, List.length_append, num2_length]
    omega
  · show (putList opE 16 opB l).1.length ≤ _
    rw [putList_err h]
    simp
set_option maxHeartbeats 6400000 in
set_option maxRecDepth 100000 in
theorem RowsOps_calls (wz : World) (x : OpT) (hx1 : x.f1.size ≤ many) (hx2 : x.f2.size ≤ many) (A0 : Option Addr) (c0 : Nat) (l : List OpT) (A1 : Option Addr) (c1 : Nat) (b : List Int) (h0 : Kd.C k82 wz A0 l.length l) (hc0 : l.length ≤ c0) (h1 : Kd.C (Kd.int .u8) wz A1 b.length b) (hc1 : b.length ≤ c1)
    (hl : l.length ≤ many) (hs : ∀ x ∈ l, x.f1.size ≤ many ∧ x.f2.size ≤ many) (hok : ∀ x ∈ l, opOk x) (hb : ∀ x ∈ b, 0 ≤ x ∧ x < 256) (hT : TabOk wz) :
    Calls Tryz.prog 5 #[.agg #[.int .u8 x.f0, .string x.f1, .string x.f2, .int .u32 x.f3], .slice A0 l.length c0, .slice A1 b.length c1] wz fun e w' => e = .returned (.bool true) ∧ Below wz.heap.size wz w' := by
  obtain ⟨w, hw⟩ : ∃ w, w = wz.alloc (.cells #[.int .u8 x.f0, .string x.f1, .string x.f2, .int .u32 x.f3] 82) := ⟨_, rfl⟩
  have hbx : Below wz.heap.size wz w := by rw [hw]; exact below_alloc (Below.refl _ _) _
  have hbn : w.heap[wz.heap.size]? = some (.cells #[.int .u8 x.f0, .string x.f1, .string x.f2, .int .u32 x.f3] 82 (0, 0)) := by rw [hw]; exact blk_new wz _
  replace h0 := Kd.C_below h0 hbx
  replace h1 := Kd.C_below h1 hbx
  replace hT := TabOk.below hT hbx
  obtain ⟨s, hsE, hsl⟩ := ev_OpsSize l hl hs
  obtain ⟨ks, hks⟩ := hsE.rounds
  have H0 := Aside0.mk h0
  have H1 := Aside0.mk h1
  have HS := Aside0.mk hs
  have HOK := Aside0.mk hok
  have HBY := Aside0.mk hb
  have HT := Aside0.mk hT
  have HKS := Aside0.mk hks
  clear h0 h1 hs hok hb hT hks hsE
  by_cases g2 : (3000 : Int) < s
  · go_enter Tryz.func5, Tryz.ntmps5
    go_wp2_with fail
    rw [← hw]
    refine (concordatlaw01_OpsSize.calls ks A0 c0 l s w H0.out hc0 HKS.out).mono ?_
    rintro e w1 ⟨rfl, hd⟩
    have B1 := Aside0.mk hd.below
    clear hd
    go_wp2
    go_ret
    exact ⟨rfl, below_step hbx B1.out⟩
  by_cases g3 : (70000 : Int) < (b.length : Int)
  · go_enter Tryz.func5, Tryz.ntmps5
    go_wp2_with fail
    rw [← hw]
    refine (concordatlaw01_OpsSize.calls ks A0 c0 l s w H0.out hc0 HKS.out).mono ?_
    rintro e w1 ⟨rfl, hd⟩
    have B1 := Aside0.mk hd.below
    clear hd
    go_wp2
    go_ret
    exact ⟨rfl, below_step hbx B1.out⟩
  obtain ⟨kr, hkr⟩ := (ev_refPutOps l (by omega) (fun x hx => by have := HS.out x hx; unfold many at this; exact this) HOK.out).rounds
  obtain ⟨kp, hkp⟩ := (ev_putOps l (by omega)).rounds
  obtain ⟨kx, hkx⟩ := (ev_ref2Check x hx1 hx2).rounds
  have HKX := Aside0.mk hkx
  clear hkx
  obtain ⟨kb, hkb⟩ := (ev_same (rfl : (putOps l).1 = (putOps l).1) (by have := putOps_len l; omega)).rounds
  obtain ⟨kc, hkc⟩ := (ev_sameOps (getR opR opS putOps b).1 (by have := getR_length opR opS putOps b HBY.out; omega)).rounds
  obtain ⟨q, hq⟩ : ∃ q, putOps l = q := ⟨_, rfl⟩
  obtain ⟨r, hr⟩ : ∃ r, getR opR opS putOps b = r := ⟨_, rfl⟩
  rw [hq] at hkr hkp hkb
  rw [hr] at hkc
  have HKR := Aside0.mk hkr
  have HKP := Aside0.mk hkp
  have HKB := Aside0.mk hkb
  have HKC := Aside0.mk hkc
  have HQ := Aside0.mk hq
  have HR := Aside0.mk hr
  clear hkr hkp hkb hkc hq hr
  obtain ⟨pb, pe⟩ := q
  obtain ⟨gl, ge⟩ := r
  have hpl : pb.length ≤ 1000000000 := by have h := putOps_len l; rw [HQ.out] at h; dsimp only at h; omega
  have hgl : gl.length ≤ 1000000000 := by have h := getR_length opR opS putOps b HBY.out; rw [HR.out] at h; dsimp only at h; omega
  have hw0 := Below.refl w.heap.size w
  go_enter Tryz.func5, Tryz.ntmps5
  go_wp2_with fail
  rw [← hw]
  refine (concordatlaw01_OpsSize.calls ks A0 c0 l s w H0.out hc0 HKS.out).mono ?_
  rintro e w1 ⟨rfl, hd⟩
  have B1 := Aside0.mk hd.below
  clear hd
  go_wp2_with fail
  -- the copies
  refine (twinOps_calls w1 A0 c0 l (Kd.C_below H0.out B1.out) hc0 (by omega)).mono ?_
  rintro e w2 ⟨vm, rfl, Fm, hm, hmn, hmf, hb2⟩
  obtain ⟨Am, cm, em, hcm, hm1, hm2⟩ := hm.reads
  subst em
  have M2 := Aside0.mk hm
  have FM := Aside0.mk hmf
  have B2 := Aside0.mk (below_step B1.out hb2)
  have s1 := B1.out.size
  have s2 := hb2.size
  clear hm hmn hmf hb2 hm1 hm2
  go_wp2_with fail
  refine (twinBytes_calls w2 A1 c1 b (Kd.C_below H1.out B2.out) hc1 (by omega)).mono ?_
  rintro e w3 ⟨vc, rfl, Fc, hm, hmn, hmf, hb3⟩
  obtain ⟨Ac, cc, ec, hcc, hm1, hm2⟩ := hm.reads
  subst ec
  have C3 := Aside0.mk hm
  have FC := Aside0.mk hmf
  have M3 := Aside0.mk (M2.out.below hb3)
  have B3 := Aside0.mk (below_step B2.out hb3)
  have LM := Aside0.mk M2.out.lt
  have s3 := hb3.size
  clear hm hmn hmf hb3 hm1 hm2 M2
  go_wp2_with fail
  have s4_ := M3.out.c
  refine (rows_PutOps.calls kp Am cm l pb pe w3 M3.out.c.1 (by omega) HKP.out).mono ?_
  rintro e w4 ⟨vp, rfl, hO, hb4⟩
  obtain ⟨Ap, cp, rfl, hcp, hCp⟩ := Kd.R_reads hO
  have P4 := Aside0.mk hO
  have LP := Aside0.mk (Kd.R_lt hO)
  have LC := Aside0.mk C3.out.lt
  have M4 := Aside0.mk (M3.out.below hb4)
  have C4 := Aside0.mk (C3.out.below hb4)
  have B4 := Aside0.mk (below_step B3.out hb4)
  have s4 := hb4.size
  clear hO hCp hb4 M3 C3 s4_
  go_wp2_with fail
  refine (rows_GetOps.calls Ac cc b gl ge w4 C4.out.c.1 (by omega) (by unfold rows_GetOps.f; rw [if_pos HBY.out, HR.out])).mono ?_
  rintro e w5 ⟨vq, rfl, hO, hb5⟩
  obtain ⟨Aq, cq, rfl, hcq, hCq⟩ := Kd.R_reads hO
  have Q5 := Aside0.mk hO
  have LQ := Aside0.mk (Kd.R_lt hO)
  have P5 := Aside0.mk (Kd.R_below P4.out hb5)
  have M5 := Aside0.mk (M4.out.below hb5)
  have C5 := Aside0.mk (C4.out.below hb5)
  have B5 := Aside0.mk (below_step B4.out hb5)
  have s5 := hb5.size
  clear hO hCq hb5 M4 C4 P4
  go_wp2_with fail
  refine (concordatref02_PutOps.calls kr A0 c0 l pb pe w5 (Kd.C_below H0.out B5.out) hc0 HKR.out).mono ?_
  rintro e w6 ⟨vw, rfl, hO, hb6⟩
  obtain ⟨Aw, cw, rfl, hcw, hCw⟩ := Kd.R_reads hO
  have W6 := Aside0.mk hCw
  have Q6 := Aside0.mk (Kd.R_below Q5.out hb6)
  have P6 := Aside0.mk (Kd.R_below P5.out hb6)
  have M6 := Aside0.mk (M5.out.below hb6)
  have C6 := Aside0.mk (C5.out.below hb6)
  have B6 := Aside0.mk (below_step B5.out hb6)
  have s6 := hb6.size
  clear hO hCw hb6 M5 C5 P5 Q5
  go_wp2_with fail
  refine (concordatref02_GetOps.calls A1 c1 b w6 (Kd.C_below H1.out B6.out) hc1 HBY.out).mono ?_
  rw [HR.out]
  rintro e w7 ⟨vx, rfl, hO, hb7⟩
  obtain ⟨Ax, cx, rfl, hcx, hCx⟩ := Kd.R_reads hO
  have X7 := Aside0.mk hCx
  have W7 := Aside0.mk (Kd.C_below W6.out hb7)
  have Q7 := Aside0.mk (Kd.R_below Q6.out hb7)
  have P7 := Aside0.mk (Kd.R_below P6.out hb7)
  have M7 := Aside0.mk (M6.out.below hb7)
  have C7 := Aside0.mk (C6.out.below hb7)
  have B7 := Aside0.mk (below_step B6.out hb7)
  have s7 := hb7.size
  clear hO hCx hb7 M6 C6 P6 Q6 W6
  go_wp2_with fail
  have hmm : (mayOp x != mayOp x) = false := by simp
  have hd7 := below_drew (Below.refl w7.heap.size w7)
  have hz : w7.heap.size ≤ w7.drew.heap.size := hd7.size
  have BB := Aside0.mk (below_step B7.out hd7)
  have X := Aside0.mk (Kd.C_below X7.out hd7)
  have WW := Aside0.mk (Kd.C_below W7.out hd7)
  have Q := Aside0.mk (Kd.R_below Q7.out hd7)
  have P := Aside0.mk (Kd.R_below P7.out hd7)
  have M := Aside0.mk (M7.out.below hd7)
  have C := Aside0.mk (C7.out.below hd7)
  have hx7 := blk_below hbn BB.out
  have HC := Aside0.mk (show w7.drew.cell? ⟨wz.heap.size, 0, none⟩ = some (.int .u8 x.f0) ∧ w7.drew.cell? ⟨wz.heap.size, 1, none⟩ = some (.string x.f1) ∧ w7.drew.cell? ⟨wz.heap.size, 2, none⟩ = some (.string x.f2) ∧ w7.drew.cell? ⟨wz.heap.size, 3, none⟩ = some (.int .u32 x.f3) from ⟨blk_cell hx7 0, blk_cell hx7 1, blk_cell hx7 2, blk_cell hx7 3⟩)
  have hx7' := blk_below hbn B7.out
  have HF := Aside0.mk (show w7.cell? ⟨wz.heap.size, 0, none⟩ = some (.int .u8 x.f0) ∧ w7.cell? ⟨wz.heap.size, 1, none⟩ = some (.string x.f1) ∧ w7.cell? ⟨wz.heap.size, 2, none⟩ = some (.string x.f2) ∧ w7.cell? ⟨wz.heap.size, 3, none⟩ = some (.int .u32 x.f3) from ⟨blk_cell hx7' 0, blk_cell hx7' 1, blk_cell hx7' 2, blk_cell hx7' 3⟩)
  have HBX := Aside0.mk hbx
  clear hd7 hx7 hx7' X7 W7 Q7 P7 M7 C7 B7 hbn hbx
  first | (go_region_held3 (fun w' : World => w'.cell? ⟨wz.heap.size, 0, none⟩ = some (.int .u8 x.f0) ∧ w'.cell? ⟨wz.heap.size, 1, none⟩ = some (.string x.f1) ∧ w'.cell? ⟨wz.heap.size, 2, none⟩ = some (.string x.f2) ∧ w'.cell? ⟨wz.heap.size, 3, none⟩ = some (.int .u32 x.f3)) (with_reducible exact HC.out) (first
     | (go_at_call 46
        refine (rows_Check.calls x.f0 x.f1 x.f2 x.f3 (mayOp x) _ (opCheck_eq x)).mono ?_
        rintro e wn ⟨rfl, hb1⟩
        have BB := Aside0.mk (below_step BB.out hb1)
        have X := Aside0.mk (Kd.C_below X.out hb1)
        have WW := Aside0.mk (Kd.C_below WW.out hb1)
        have Q := Aside0.mk (Kd.R_below Q.out hb1)
        have P := Aside0.mk (Kd.R_below P.out hb1)
        have M := Aside0.mk (M.out.below hb1)
        have C := Aside0.mk (C.out.below hb1)
        have HC := Aside0.mk (show wn.cell? ⟨wz.heap.size, 0, none⟩ = some (.int .u8 x.f0) ∧ wn.cell? ⟨wz.heap.size, 1, none⟩ = some (.string x.f1) ∧ wn.cell? ⟨wz.heap.size, 2, none⟩ = some (.string x.f2) ∧ wn.cell? ⟨wz.heap.size, 3, none⟩ = some (.int .u32 x.f3) from ⟨cell_on hb1 HC.out.1, cell_on hb1 HC.out.2.1, cell_on hb1 HC.out.2.2.1, cell_on hb1 HC.out.2.2.2⟩)
        have hz : w7.heap.size ≤ wn.heap.size := Nat.le_trans hz hb1.size
        clear hb1)
     | (go_at_call 47
        refine (concordatref02_Check.calls kx x.f0 x.f1 x.f2 x.f3 (mayOp x) _ HKX.out).mono ?_
        rintro e wn ⟨rfl, hb1⟩
        have BB := Aside0.mk (below_step BB.out hb1)
        have X := Aside0.mk (Kd.C_below X.out hb1)
        have WW := Aside0.mk (Kd.C_below WW.out hb1)
        have Q := Aside0.mk (Kd.R_below Q.out hb1)
        have P := Aside0.mk (Kd.R_below P.out hb1)
        have M := Aside0.mk (M.out.below hb1)
        have C := Aside0.mk (C.out.below hb1)
        have HC := Aside0.mk (show wn.cell? ⟨wz.heap.size, 0, none⟩ = some (.int .u8 x.f0) ∧ wn.cell? ⟨wz.heap.size, 1, none⟩ = some (.string x.f1) ∧ wn.cell? ⟨wz.heap.size, 2, none⟩ = some (.string x.f2) ∧ wn.cell? ⟨wz.heap.size, 3, none⟩ = some (.int .u32 x.f3) from ⟨cell_on hb1 HC.out.1, cell_on hb1 HC.out.2.1, cell_on hb1 HC.out.2.2.1, cell_on hb1 HC.out.2.2.2⟩)
        have hz : w7.heap.size ≤ wn.heap.size := Nat.le_trans hz hb1.size
        clear hb1)
     | (go_at_call 34
        refine (concordatlaw01_SameBytes.calls kb Ap cp pb Aw cw pb true _ (R_C P.out) hcp WW.out hcw HKB.out).mono ?_
        rintro e wn ⟨rfl, hb1⟩
        replace hb1 := hb1.below
        have BB := Aside0.mk (below_step BB.out hb1)
        have X := Aside0.mk (Kd.C_below X.out hb1)
        have WW := Aside0.mk (Kd.C_below WW.out hb1)
        have Q := Aside0.mk (Kd.R_below Q.out hb1)
        have P := Aside0.mk (Kd.R_below P.out hb1)
        have M := Aside0.mk (M.out.below hb1)
        have C := Aside0.mk (C.out.below hb1)
        have HC := Aside0.mk (show wn.cell? ⟨wz.heap.size, 0, none⟩ = some (.int .u8 x.f0) ∧ wn.cell? ⟨wz.heap.size, 1, none⟩ = some (.string x.f1) ∧ wn.cell? ⟨wz.heap.size, 2, none⟩ = some (.string x.f2) ∧ wn.cell? ⟨wz.heap.size, 3, none⟩ = some (.int .u32 x.f3) from ⟨cell_on hb1 HC.out.1, cell_on hb1 HC.out.2.1, cell_on hb1 HC.out.2.2.1, cell_on hb1 HC.out.2.2.2⟩)
        have hz : w7.heap.size ≤ wn.heap.size := Nat.le_trans hz hb1.size
        clear hb1)
     | (go_at_call 48
        refine (concordatlaw01_SameOps.calls kc Aq cq gl Ax cx gl true _ (R_C Q.out) hcq X.out hcx HKC.out).mono ?_
        rintro e wn ⟨rfl, hb1⟩
        replace hb1 := hb1.below
        have BB := Aside0.mk (below_step BB.out hb1)
        have X := Aside0.mk (Kd.C_below X.out hb1)
        have WW := Aside0.mk (Kd.C_below WW.out hb1)
        have Q := Aside0.mk (Kd.R_below Q.out hb1)
        have P := Aside0.mk (Kd.R_below P.out hb1)
        have M := Aside0.mk (M.out.below hb1)
        have C := Aside0.mk (C.out.below hb1)
        have HC := Aside0.mk (show wn.cell? ⟨wz.heap.size, 0, none⟩ = some (.int .u8 x.f0) ∧ wn.cell? ⟨wz.heap.size, 1, none⟩ = some (.string x.f1) ∧ wn.cell? ⟨wz.heap.size, 2, none⟩ = some (.string x.f2) ∧ wn.cell? ⟨wz.heap.size, 3, none⟩ = some (.int .u32 x.f3) from ⟨cell_on hb1 HC.out.1, cell_on hb1 HC.out.2.1, cell_on hb1 HC.out.2.2.1, cell_on hb1 HC.out.2.2.2⟩)
        have hz : w7.heap.size ≤ wn.heap.size := Nat.le_trans hz hb1.size
        clear hb1)
     | (go_at_call 49
        refine (leftOps_calls _ Am cm A0 c0 l M.out.c.2.1 hcm (Kd.C_below H0.out BB.out) hc0 (by omega)).mono ?_
        rintro e wn ⟨rfl, hb1⟩
        have BB := Aside0.mk (below_step BB.out hb1)
        have X := Aside0.mk (Kd.C_below X.out hb1)
        have WW := Aside0.mk (Kd.C_below WW.out hb1)
        have Q := Aside0.mk (Kd.R_below Q.out hb1)
        have P := Aside0.mk (Kd.R_below P.out hb1)
        have M := Aside0.mk (M.out.below hb1)
        have C := Aside0.mk (C.out.below hb1)
        have HC := Aside0.mk (show wn.cell? ⟨wz.heap.size, 0, none⟩ = some (.int .u8 x.f0) ∧ wn.cell? ⟨wz.heap.size, 1, none⟩ = some (.string x.f1) ∧ wn.cell? ⟨wz.heap.size, 2, none⟩ = some (.string x.f2) ∧ wn.cell? ⟨wz.heap.size, 3, none⟩ = some (.int .u32 x.f3) from ⟨cell_on hb1 HC.out.1, cell_on hb1 HC.out.2.1, cell_on hb1 HC.out.2.2.1, cell_on hb1 HC.out.2.2.2⟩)
        have hz : w7.heap.size ≤ wn.heap.size := Nat.le_trans hz hb1.size
        clear hb1)
     | (go_at_call 37
        refine (leftBytes_calls _ Ac cc A1 c1 b C.out.c.2.1 hcc (Kd.C_below H1.out BB.out) hc1 (by omega)).mono ?_
        rintro e wn ⟨rfl, hb1⟩
        have BB := Aside0.mk (below_step BB.out hb1)
        have X := Aside0.mk (Kd.C_below X.out hb1)
        have WW := Aside0.mk (Kd.C_below WW.out hb1)
        have Q := Aside0.mk (Kd.R_below Q.out hb1)
        have P := Aside0.mk (Kd.R_below P.out hb1)
        have M := Aside0.mk (M.out.below hb1)
        have C := Aside0.mk (C.out.below hb1)
        have HC := Aside0.mk (show wn.cell? ⟨wz.heap.size, 0, none⟩ = some (.int .u8 x.f0) ∧ wn.cell? ⟨wz.heap.size, 1, none⟩ = some (.string x.f1) ∧ wn.cell? ⟨wz.heap.size, 2, none⟩ = some (.string x.f2) ∧ wn.cell? ⟨wz.heap.size, 3, none⟩ = some (.int .u32 x.f3) from ⟨cell_on hb1 HC.out.1, cell_on hb1 HC.out.2.1, cell_on hb1 HC.out.2.2.1, cell_on hb1 HC.out.2.2.2⟩)
        have hz : w7.heap.size ≤ wn.heap.size := Nat.le_trans hz hb1.size
        clear hb1))) | fail "held3"
  all_goals
    go_wp2_with fail
    have hba := below_alloc (Below.refl wn.heap.size wn) (.cells #[.int .i64 0, .slice none 0 0, .slice none 0 0, .slice none 0 0, .slice none 0 0, .slice none 0 0, .slice none 0 0, .slice none 0 0, .slice none 0 0, .slice none 0 0, .slice none 0 0, .slice none 0 0, .slice none 0 0] 44)
    have hp0 := Pile.new (below_step BB.out hba) (blk_new wn _) BB.out.size
    obtain ⟨im, om⟩ := (M.out.below hba).owns
    obtain ⟨ic, oc⟩ := (C.out.below hba).owns
    obtain ⟨ip, op⟩ := R_owns (Kd.R_below P.out hba)
    obtain ⟨iq, oq⟩ := R_owns (Kd.R_below Q.out hba)
    have RM := Aside0.mk (show ∀ b ∈ (Value.slice Am l.length cm).ownBlock.toList, w1.heap.size ≤ b ∧ b < w2.heap.size from fun b hb => ⟨FM.out b (M.out.blk b hb), LM.out b (M.out.blk b hb)⟩)
    have RC := Aside0.mk (show ∀ x ∈ (Value.slice Ac b.length cc).ownBlock.toList, w2.heap.size ≤ x ∧ x < w3.heap.size from fun x hx => ⟨FC.out x (C.out.blk x hx), LC.out x (C.out.blk x hx)⟩)
    have RP := Aside0.mk (show ∀ x ∈ (Value.slice Ap pb.length cp).ownBlock.toList, w3.heap.size ≤ x ∧ x < w4.heap.size from fun x hx => ⟨Kd.R_base P.out x (by simpa using hx), LP.out x (by simpa using hx)⟩)
    have RQ := Aside0.mk (show ∀ x ∈ (Value.slice Aq gl.length cq).ownBlock.toList, w4.heap.size ≤ x ∧ x < w5.heap.size from fun x hx => ⟨Kd.R_base Q.out x (by simpa using hx), LQ.out x (by simpa using hx)⟩)
    have HP0 := Aside0.mk hp0
    have OM := Aside0.mk om
    have OC := Aside0.mk oc
    have OP := Aside0.mk op
    have OQ := Aside0.mk oq
    clear hba hp0 om oc op oq M C P Q FM LM FC LC LP LQ
    refine (HP0.out.Ops (by decide) Am l.length cm im OM.out (fun x hx => ⟨⟨?_, by simp⟩, ?_⟩) (by omega)).mono ?_
    · have := RM.out x hx; omega
    · have := RM.out x hx; omega
    rintro e w13 ⟨rfl, hp, hsp⟩
    have HP1 := Aside0.mk hp
    have OC1 := Aside0.mk (hsp.own OC.out (fun x hx => ⟨by have := RC.out x hx; omega, by simp⟩))
    have OP1 := Aside0.mk (hsp.own OP.out (fun x hx => ⟨by have := RP.out x hx; omega, by simp⟩))
    have OQ1 := Aside0.mk (hsp.own OQ.out (fun x hx => ⟨by have := RQ.out x hx; omega, by simp⟩))
    clear hp hsp HP0 OM OC OP OQ
    go_wp2_with fail
    have hL1 : ∀ x, w2.heap.size ≤ x → x ∉ [] ++ (Value.slice Am l.length cm).ownBlock.toList := fun x h hx => by
      have := RM.out x (by simpa using hx); omega
    refine (HP1.out.Bytes (by decide) Ac b.length cc ic OC1.out (fun x hx => ⟨⟨?_, hL1 x ?_⟩, ?_⟩) (by omega)).mono ?_
    · have := RC.out x hx; omega
    · have := RC.out x hx; omega
    · have := RC.out x hx; omega
    rintro e w14 ⟨rfl, hp, hsp⟩
    have HP2 := Aside0.mk hp
    have OP2 := Aside0.mk (hsp.own OP1.out (fun x hx => ⟨by have := RP.out x hx; omega, hL1 x (by have := RP.out x hx; omega)⟩))
    have OQ2 := Aside0.mk (hsp.own OQ1.out (fun x hx => ⟨by have := RQ.out x hx; omega, hL1 x (by have := RQ.out x hx; omega)⟩))
    clear hp hsp HP1 OC1 OP1 OQ1
    go_wp2_with fail
    have hL2 : ∀ x, w3.heap.size ≤ x → x ∉ ([] ++ (Value.slice Am l.length cm).ownBlock.toList) ++ (Value.slice Ac b.length cc).ownBlock.toList := fun x h hx => by
      rcases List.mem_append.1 hx with hx | hx
      · exact hL1 x (by omega) hx
      · have := RC.out x hx; omega
    refine (HP2.out.Bytes (by decide) Ap pb.length cp ip OP2.out (fun x hx => ⟨⟨?_, hL2 x ?_⟩, ?_⟩) hpl).mono ?_
    · have := RP.out x hx; omega
    · have := RP.out x hx; omega
    · have := RP.out x hx; omega
    rintro e w15 ⟨rfl, hp, hsp⟩
    have HP3 := Aside0.mk hp
    have OQ3 := Aside0.mk (hsp.own OQ2.out (fun x hx => ⟨by have := RQ.out x hx; omega, hL2 x (by have := RQ.out x hx; omega)⟩))
    clear hp hsp HP2 OP2 OQ2
    go_wp2_with fail
    have hL3 : ∀ x, w4.heap.size ≤ x → x ∉ (([] ++ (Value.slice Am l.length cm).ownBlock.toList) ++ (Value.slice Ac b.length cc).ownBlock.toList) ++ (Value.slice Ap pb.length cp).ownBlock.toList := fun x h hx => by
      rcases List.mem_append.1 hx with hx | hx
      · exact hL2 x (by omega) hx
      · have := RP.out x hx; omega
    refine (HP3.out.Ops (by decide) Aq gl.length cq iq OQ3.out (fun x hx => ⟨⟨?_, hL3 x ?_⟩, ?_⟩) hgl).mono ?_
    · have := RQ.out x hx; omega
    · have := RQ.out x hx; omega
    · have := RQ.out x hx; omega
    rintro e w16 ⟨rfl, hp, hsp⟩
    have HP4 := Aside0.mk hp
    clear hp hsp HP3 OQ3
    go_wp2_with fail
    refine (HP4.out.apart HT.out).mono ?_
    rintro e w17 ⟨rfl, hbw⟩
    have HBW := Aside0.mk hbw
    clear hbw
    go_wp2
    go_ret
    exact ⟨rfl, below_step HBX.out HBW.out⟩
end Go.Proofs.YtcohodkpppmaoaaGreatDoor.Q
namespace Go.Proofs.YtcohodkpppmaoaaGreatDoor
open Go.RowKit Go.ChangeShapes Go.WideShapes Go.Proofs.YtcohodkpppmaoaaGreatDoorW.PrintWords

structure Opens (P : Program) (t : TypeId) {α : Type} (d : Kd α) (Good : α → Prop) : Prop where
  cells : P.cellsOf t = d.sz
  opened : ∀ {H : Type} {enc : TypeId × Value → H} {w : World} {base : Nat} {spare : Nat → Bool} {held : Bool} {fuel : Nat} {cs : List Value} {x : DataW H × List MemPlace},
    DataW.trod enc P w base spare held fuel t cs = some x → (∀ n ∈ x.1.weights P t, n ≤ reachBytes) → ∃ a, d.K w a cs ∧ Good a

section
variable {P : Program} {t : TypeId}
theorem opens_int {k : IntKind} (ht : P.underlying t = some (.int k)) (hc : P.cellsOf t = 1) : Opens P t (Kd.int k) (fun n => (Lit.int k n).wf = true) :=
  ⟨hc, fun h _ => by
    obtain ⟨n, rfl, rfl, hn⟩ := DataW.trod_int ht h
    exact ⟨n, rfl, hn⟩⟩
theorem opens_string (ht : P.underlying t = some .string) (hc : P.cellsOf t = 1) : Opens P t Kd.string (fun s => s.size ≤ 140737488351232) :=
  ⟨hc, fun h hw => by
    obtain ⟨s, rfl, rfl, hs⟩ := DataW.trod_string ht h
    refine ⟨s, rfl, ?_⟩
    have := hw s.data.toList.length (by simp [DataW.weights])
    rw [Array.length_toList] at this
    exact this⟩

theorem weightsAll_mem {H : Type} {e : TypeId} : ∀ {l : List (DataW H)} {d : DataW H} {n : Nat}, d ∈ l → n ∈ d.weights P e → n ∈ DataW.weightsAll P e l
  | _ :: _, _, _, .head _, hn => by
    simp only [DataW.weightsAll, List.mem_append]
    exact .inl hn
  | _ :: _, _, _, .tail _ h, hn => by
    simp only [DataW.weightsAll, List.mem_append]
    exact .inr (weightsAll_mem h hn)

theorem opens_slice {α : Type} {e : TypeId} {d : Kd α} {Good : α → Prop} {b : Nat} (ht : P.underlying t = some (.slice e)) (hc : P.cellsOf t = 1) (hb : P.bytesOf e = b) (hb0 : 0 < b) (ho : Opens P e d Good) :
    Opens P t (Kd.slice e d) (fun l => (∀ x ∈ l, Good x) ∧ l.length * b ≤ 140737488351232) := by
  refine ⟨hc, fun {H enc w base spare held fuel cs x} h hw => ?_⟩
  rcases Deep.open_slice ht h with ⟨rfl, rfl⟩ | ⟨a, len, cap, m, n, D, Pl, rfl, _, hl, hm, hmm, rfl, hx⟩
  · exact ⟨[], ⟨none, 0, rfl, by simp, rfl, by simp, fun h => absurd h (by simp)⟩, fun x hx => by simp at hx, by simp⟩
  · have hlm : len ≤ m := by rw [hmm]; split <;> omega
    have hw' : ∀ n ∈ (DataW.slice ((List.range len).map D) ((List.range (m - len)).map fun j => D (len + j)) : DataW H).weights P t, n ≤ reachBytes := hw
    simp only [DataW.weights, ht] at hw'
    have hlen : len * b ≤ 140737488351232 := by
      have := hw' _ (List.mem_cons_self)
      rw [hb] at this
      simp only [List.length_map, List.length_range] at this
      have h2 : len * b ≤ (len + (m - len)) * b := Nat.mul_le_mul_right _ (by omega)
      unfold reachBytes at this
      omega
    have hel : ∀ i : Nat, i < len → ∃ (y : α) (c : List Value), (c.length = d.sz ∧ ∀ j u, c[j]? = some u → w.cell? (a.add (i * d.sz + j)) = some u) ∧ d.K w y c ∧ Good y := by
      intro i hi
      obtain ⟨cs', h1, h2⟩ := hx i (by omega)
      obtain ⟨y, hK, hG⟩ := ho.opened h2 (fun k hk => hw' k (List.mem_cons_of_mem _ (List.mem_append_left _ (weightsAll_mem (d := D i) (List.mem_map.2 ⟨i, List.mem_range.2 hi, rfl⟩) hk))))
      refine ⟨y, cs', ⟨d.K_len hK, ?_⟩, hK, hG⟩
      intro j u hj
      rw [ho.cells] at h1
      unfold World.cells? at h1
      split at h1
      · have hjl : j < d.sz := by
          have := (List.getElem?_eq_some_iff.1 hj).1
          rw [d.K_len hK] at this
          exact this
        have := mapM_some_get h1 j j (by simp [hjl])
        rw [Deep.add_add] at this
        rw [this, hj]
      · cases h1
    obtain ⟨f, hf⟩ := Classical.axiomOfChoice (r := fun (i : Fin len) (y : α) => ∃ c : List Value, (c.length = d.sz ∧ ∀ j u, c[j]? = some u → w.cell? (a.add (i.1 * d.sz + j)) = some u) ∧ d.K w y c ∧ Good y)
      (fun i => by obtain ⟨y, c, h⟩ := hel i.1 i.2; exact ⟨y, c, h⟩)
    refine ⟨List.ofFn f, ⟨some a, cap, by simp, by simpa using hl, ?_⟩, ?_, by simpa using hlen⟩
    · refine ⟨rfl, by rw [List.length_ofFn]; unfold maxLen at hm; omega, fun _ => ⟨a, rfl, fun j p hp => ?_⟩⟩
      have hj : j < len := by
        have := (List.getElem?_eq_some_iff.1 hp).1
        simpa using this
      have hp' : f ⟨j, hj⟩ = p := by
        rw [List.getElem?_ofFn, dif_pos hj] at hp
        exact Option.some.inj hp
      obtain ⟨c, ⟨hc1, hc2⟩, hK, _⟩ := hf ⟨j, hj⟩
      exact ⟨c, hc1, hp' ▸ hK, hc2⟩
    · intro y hy
      obtain ⟨i, rfl⟩ := List.mem_ofFn.1 hy
      obtain ⟨c, _, _, hG⟩ := hf i
      exact hG

/-- The fields of a struct, from a place on. -/
structure OpensF (P : Program) (fs : List Field) (off : Nat) {α : Type} (d : Kd α) (Good : α → Prop) : Prop where
  go : ∀ {H : Type} {enc : TypeId × Value → H} {w : World} {base : Nat} {spare : Nat → Bool} {held : Bool} {n : Nat} (cs : List Value) (xs : List (DataW H × List MemPlace)),
    cs.length = off + d.sz → xs.length = fs.length → (∀ (i : Nat) (f : Field), fs[i]? = some f → DataW.trod enc P w base spare held n f.type ((cs.drop f.offset).take (P.cellsOf f.type)) = xs[i]?) →
    (∀ (i : Nat) (f : Field) (x : DataW H × List MemPlace), fs[i]? = some f → xs[i]? = some x → ∀ k ∈ x.1.weights P f.type, k ≤ reachBytes) → ∃ a, d.K w a (cs.drop off) ∧ Good a
theorem opensF_one {f : Field} {off : Nat} {α : Type} {d : Kd α} {Good : α → Prop} (h : Opens P f.type d Good) (hf : f.offset = off) : OpensF P [f] off d Good := by
  constructor
  intro H enc w base spare held n cs xs hl hx ht hw
  obtain ⟨x, rfl⟩ : ∃ x, xs = [x] := List.length_eq_one_iff.1 hx
  have h0 := ht 0 f rfl
  rw [h.cells, hf, List.take_of_length_le (by rw [List.length_drop]; omega)] at h0
  exact h.opened h0 (hw 0 f x rfl rfl)
theorem opensF_cons {f : Field} {fs : List Field} {off : Nat} {α β : Type} {d : Kd α} {e : Kd β} {G : α → Prop} {G' : β → Prop} (h : Opens P f.type d G) (hf : f.offset = off) (hs : OpensF P fs (off + d.sz) e G') :
    OpensF P (f :: fs) off (Kd.pair d e) (fun x => G x.1 ∧ G' x.2) := by
  constructor
  intro H enc w base spare held n cs xs hl hx ht hw
  have hl' : cs.length = off + (d.sz + e.sz) := hl
  obtain ⟨x, xs, rfl⟩ : ∃ y ys, xs = y :: ys := by
    cases xs with
    | nil => simp at hx
    | cons y ys => exact ⟨y, ys, rfl⟩
  have h0 := ht 0 f rfl
  rw [h.cells, hf] at h0
  obtain ⟨a, hK, hG⟩ := h.opened h0 (hw 0 f x rfl rfl)
  obtain ⟨b, hK', hG'⟩ := hs.go (enc := enc) (w := w) (base := base) (spare := spare) (held := held) (n := n) cs xs (by omega) (by simpa using hx) (fun i g hg => ht (i + 1) g hg) (fun i g y hg hy => hw (i + 1) g y hg hy)
  refine ⟨(a, b), ⟨(cs.drop off).take d.sz, cs.drop (off + d.sz), ?_, hK, hK'⟩, hG, hG'⟩
  rw [← List.drop_drop, List.take_append_drop]
theorem weightsEach_mem {H : Type} {ts : List TypeId} {ds : List (DataW H)} {j : Nat} {t : TypeId} {d : DataW H} (ht : ts[j]? = some t) (hd : ds[j]? = some d) (n : Nat) (hn : n ∈ d.weights P t) : n ∈ DataW.weightsEach P ts ds := DataW.weights_mem_each ht hd n hn
theorem opens_struct {fs : Array Field} {α : Type} {d : Kd α} {Good : α → Prop} (ht : P.underlying t = some (.struct fs)) (hc : P.cellsOf t = d.sz) (h : OpensF P fs.toList 0 d Good) : Opens P t d Good := by
  refine ⟨hc, fun {H enc w base spare held fuel cs x} hr hw => ?_⟩
  obtain ⟨xs, n, _, rfl, hl, hx, hf⟩ := DataW.trod_struct ht hr
  have hw' : ∀ k ∈ (DataW.agg (xs.map (·.1)) : DataW H).weights P t, k ≤ reachBytes := hw
  simp only [DataW.weights, ht] at hw'
  have := h.go (enc := enc) (w := w) (base := base) (spare := spare) (held := held) (n := n) cs xs (by omega) (by rw [hx]; simp) (fun i f hi => hf i f (by simpa using hi)) (fun i f y hi hy k hk => hw' k (weightsEach_mem (j := i) (t := f.type) (d := y.1) (by simp at hi; simp [hi]) (by simp [hy]) k hk))
  simpa using this
theorem opens_iso {α β : Type} {d : Kd α} {Good : α → Prop} {G : β → Prop} (f : β → α) (g : α → β) (hfg : ∀ a, f (g a) = a) (hG : ∀ a, Good a → G (g a)) (h : Opens P t d Good) : Opens P t (Kd.iso d f) G := by
  refine ⟨h.cells, fun hr hw => ?_⟩
  obtain ⟨a, hK, hg⟩ := h.opened hr hw
  exact ⟨g a, by show d.K _ (f (g a)) _; rw [hfg]; exact hK, hG a hg⟩
end
end Go.Proofs.YtcohodkpppmaoaaGreatDoor
namespace Go.Proofs.YtcohodkpppmaoaaGreatDoor
open Go.RowKit Go.ChangeShapes Go.WideShapes Go.Proofs.YtcohodkpppmaoaaGreatDoorW.PrintWords Q

theorem u32_of_wf {n : Int} (h : (Lit.int .u32 n).wf = true) : u32Ok n := by
  simp only [Lit.wf, Bool.and_eq_true, decide_eq_true_eq] at h
  exact ⟨h.1, h.2⟩
theorem u8_of_wf {n : Int} (h : (Lit.int .u8 n).wf = true) : u8Ok n := by
  simp only [Lit.wf, Bool.and_eq_true, decide_eq_true_eq] at h
  exact ⟨h.1, h.2⟩
/-- Texts that are within the reach. -/
def sOk (s : ByteArray) : Prop := s.size ≤ 140737488351232
def opGood (x : OpT) : Prop := sOk x.f1 ∧ sOk x.f2 ∧ opOk x
theorem opens_u8 : Opens Tryz.prog 5 (Kd.int .u8) (fun n => (Lit.int .u8 n).wf = true) := opens_int Tryz.underlying5 (by kernel_rfl)
theorem opens_u32 : Opens Tryz.prog 46 (Kd.int .u32) (fun n => (Lit.int .u32 n).wf = true) := opens_int Tryz.underlying46 (by kernel_rfl)
theorem opens_str : Opens Tryz.prog 9 Kd.string sOk := opens_string Tryz.underlying9 (by kernel_rfl)
theorem opens_kind : Opens Tryz.prog 80 (Kd.int .u8) (fun n => (Lit.int .u8 n).wf = true) := opens_int Tryz.underlying80 (by kernel_rfl)

theorem opens_op : Opens Tryz.prog 82 k82 opGood := by
  have h := opens_struct (P := Tryz.prog) (t := 82) Tryz.underlying82 (by kernel_rfl) (opensF_cons opens_kind rfl (opensF_cons opens_str rfl (opensF_cons opens_str rfl (opensF_one opens_u32 rfl))))
  exact opens_iso (fun x : OpT => (x.f0, x.f1, x.f2, x.f3)) (fun a => ⟨a.1, a.2.1, a.2.2.1, a.2.2.2⟩) (fun _ => rfl) (fun _ h => ⟨h.2.1, h.2.2.1, u8_of_wf h.1, u32_of_wf h.2.2.2⟩) h
theorem opens_ops : Opens Tryz.prog 47 (Kd.slice 82 k82) (fun l => (∀ x ∈ l, opGood x) ∧ l.length * 48 ≤ 140737488351232) :=
  opens_slice Tryz.underlying47 (by kernel_rfl) (by kernel_rfl) (by decide) opens_op
theorem opens_bytes : Opens Tryz.prog 67 (Kd.slice 5 (Kd.int .u8)) (fun l => (∀ x ∈ l, (Lit.int .u8 x).wf = true) ∧ l.length * 1 ≤ 140737488351232) :=
  opens_slice Tryz.underlying67 (by kernel_rfl) (by kernel_rfl) (by decide) opens_u8

/-- A slice argument, opened. -/
theorem opens_arg {H : Type} {enc : TypeId × Value → H} {w : World} {base : Nat} {spare : Nat → Bool} {held : Bool} {P : Program} {t e : TypeId} {α : Type} {d : Kd α} {Good : List α → Prop} (ho : Opens P t (Kd.slice e d) Good)
    {a : Option Addr} {len cap : Nat} {dt : DataW H} {p : List MemPlace} (h : DataW.Trod enc P w base spare held t (.slice a len cap) dt p) (hw : ∀ n ∈ dt.weights P t, n ≤ reachBytes) :
    ∃ l : List α, len = l.length ∧ d.C w a l.length l ∧ l.length ≤ cap ∧ Good l := by
  obtain ⟨fuel, hf⟩ := h
  obtain ⟨l, ⟨A, c, hc, hl, hC⟩, hG⟩ := ho.opened hf hw
  simp [Value.cells] at hc
  obtain ⟨rfl, rfl, rfl⟩ := hc
  exact ⟨l, rfl, hC, hl, hG⟩
/-- A struct argument, opened. -/
theorem opens_agg {H : Type} {enc : TypeId × Value → H} {w : World} {base : Nat} {spare : Nat → Bool} {held : Bool} {P : Program} {t : TypeId} {α : Type} {d : Kd α} {Good : α → Prop} (ho : Opens P t d Good)
    {cs : Array Value} {dt : DataW H} {p : List MemPlace} (h : DataW.Trod enc P w base spare held t (.agg cs) dt p) (hw : ∀ n ∈ dt.weights P t, n ≤ reachBytes) :
    ∃ x : α, d.K w x cs.toList ∧ Good x := by
  obtain ⟨fuel, hf⟩ := h
  exact ho.opened hf hw
end Go.Proofs.YtcohodkpppmaoaaGreatDoor
namespace Go.Proofs.YtcohodkpppmaoaaGreatDoor
open Go.ChangeShapes Go.WideShapes Go.ChangeAt Go.RowKit
set_option linter.unusedVariables false
/-- The list. -/
def tabList : List (String × DataW Unit) := [("math/bits.deBruijn32tab", Rows.laid_math_bits_deBruijn32tab), ("math/bits.deBruijn64tab", Rows.laid_math_bits_deBruijn64tab), ("internal/strconv.uint64pow10", Rows.laid_internal_strconv_uint64pow10)]
def cellsOfD : DataW Unit → Array Value
  | .agg l => (l.map fun
      | .lit x => x.value
      | _ => .bool false).toArray
  | _ => #[]
/-- The settled world, the tables laid. -/
noncomputable def laidWorld (os : Os) : World :=
  let w0 := World.holding Tryz.prog os ⟨#[], #[], []⟩
  { w0 with heap := ((w0.heap.modify 0 fun
      | .cells _ t frozen => .cells (cellsOfD Rows.laid_internal_strconv_uint64pow10) t frozen
      | o => o).modify 2 fun
      | .cells _ t frozen => .cells (cellsOfD Rows.laid_math_bits_deBruijn32tab) t frozen
      | o => o).modify 3 fun
      | .cells _ t frozen => .cells (cellsOfD Rows.laid_math_bits_deBruijn64tab) t frozen
      | o => o }
set_option maxRecDepth 100000 in
theorem laid_met (os : Os) (args : Array Value) : laidMet Tryz.prog tabList ((laidWorld os).forCall (fun _ _ => 0) ⟨#[], args, []⟩).memory :=
  (LaidIn.of_run [0, 2, 3] 8 (by kernel_rfl) (by kernel_rfl) (by kernel_rfl) (by kernel_rfl)).met
theorem laid_tail {P : Program} {W : World} {x : String × DataW Unit} {l : List (String × DataW Unit)} (h : laidMet P (x :: l) W) : laidMet P l W := by
  obtain ⟨ps, ⟨g, t, cs, fuel, p, q, _, _, _, _, hq, rfl⟩, hn, hr⟩ := h
  exact ⟨q, hq, (List.nodup_append.1 hn).2.1, fun b off hm => hr b off (List.mem_append_right _ hm)⟩
theorem tabOk_of_laid {W : World} (h : laidMet Tryz.prog tabList W) : TabOk W := by
  have h3 := laid_tail (laid_tail h)
  exact Lib.tabIs_of_head (g := 0) (by kernel_rfl) (by kernel_rfl) Tryz.underlying255 Tryz.underlying159 (by kernel_rfl) (by kernel_rfl) h3
end Go.Proofs.YtcohodkpppmaoaaGreatDoor
