/-
  The law RowsResults, walked: it answers true.
  From a row's reading of an argument (DataW.trod) to the printed words' facts (Kd.K): numbers, texts, structs, slices, of whatever depth.
  How arguments of the types of this program are read: rows, ops, changes, results.
  The tables that the rows list: a start that has them; from a row's condition to the table that the walk reads.
-/
import Derived.Test.YtcohodkpppmaoaaGreatDoorMR2
import Derived.Test.YtcohodkpppmaoaaGreatDoorMR3
import Derived.Test.YtcohodkpppmaoaaGreatDoorMR9
import Derived.Test.YtcohodkpppmaoaaGreatDoorMR11
import Derived.Test.YtcohodkpppmaoaaGreatDoorMR8
import Derived.Test.YtcohodkpppmaoaaGreatDoorWWords
import Derived.ProofKit
import Derived.OpenShut
import Derived.SizedLaws
import Derived.Deep.Slices
import Derived.Test.YtcohodkpppmaoaaGreatDoorMR5
import Derived.Test.YtcohodkpppmaoaaGreatDoorRows
import Derived.Test.YtcohodkpppmaoaaGreatDoorMR4
import Derived.Lib.LaidTab
import Derived.Lib.LaidIn
import Derived.LaidLaws
import Derived.KernelRfl
set_option linter.unusedSimpArgs false
set_option linter.unusedVariables false
namespace Go.Proofs.YtcohodkpppmaoaaGreatDoor.Q
open Go.RowKit Go.Proofs.YtcohodkpppmaoaaGreatDoorW.PrintWords Go.Proofs.YtcohodkpppmaoaaGreatDoorW.PrintLast Go.Proofs.YtcohodkpppmaoaaGreatDoorW.PrintMore
set_option linter.unusedVariables false
theorem putResults_len (l : List ResultT) : (putResults l).1.length ≤ 20000 * l.length + 2 := by
  by_cases h : (putResults l).2 = 0
  · obtain ⟨h1, h2, h3⟩ := putList_ok resultE_cases h
    have hf := flatMap_len_le resultB 20000 l (fun x hx => result_len x (h1 x hx))
    show (putList resultE 16 resultB l).1.length ≤ _
    rw [h3, List.length_append, num2_length]
    omega
  · show (putList resultE 16 resultB l).1.length ≤ _
    rw [putList_err h]
    simp
theorem resR_small {s : RdS} (hs : Bts s) : (resR s).f0.length < 65536 := sevR_length rowR rowS s hs
theorem getRes_small (l0 : List Int) (hb : ∀ x ∈ l0, 0 ≤ x ∧ x < 256) : ∀ x ∈ (getR resR resS putResults l0).1, x.f0.length < 65536 := by
  have h : ∀ x ∈ sevR resR resS (l0, false), x.f0.length < 65536 := sevN_all (p := fun x : S145 => x.f0.length < 65536) (fun _ h => h.res) (fun _ h => resR_small h) _ _ (Bts.take (show Bts (l0, false) from hb) 2)
  unfold getR
  repeat' split
  all_goals first | exact h | simp
theorem row_C {w : World} {F : List Nat} {A : Option Addr} {n c : Nat} {xs : List ResT'} (h : Fd.Row fdResult 145 w F (.slice A n c) xs) : k145.C w A xs.length xs := by
  obtain ⟨A', c', ev, _, hC⟩ := Fd.row_reads h
  injection ev with e1 _ _
  subst e1
  exact hC
set_option maxHeartbeats 6400000 in
set_option maxRecDepth 100000 in
theorem RowsResults_calls (w : World) (A0 : Option Addr) (c0 : Nat) (l : List ResultT) (A1 : Option Addr) (c1 : Nat) (b : List Int) (h0 : Kd.C k145 w A0 l.length l) (hc0 : l.length ≤ c0) (h1 : Kd.C (Kd.int .u8) w A1 b.length b) (hc1 : b.length ≤ c1)
    (hl : l.length ≤ many) (hs : ∀ x ∈ l, x.f0.length ≤ many ∧ ∀ r ∈ x.f0, r.f0.size ≤ many) (hok : ∀ x ∈ l, resultOk x) (hb : ∀ x ∈ b, 0 ≤ x ∧ x < 256) (hT : TabOk w) :
    Calls Tryz.prog 6 #[.slice A0 l.length c0, .slice A1 b.length c1] w fun e w' => e = .returned (.bool true) ∧ Below w.heap.size w w' := by
  obtain ⟨s, hsE, hsl, hsm, _⟩ := ev_ResultsSize2 l hl hs
  obtain ⟨ks, hks⟩ := hsE.rounds
  have H0 := Aside0.mk h0
  have H1 := Aside0.mk h1
  have HS := Aside0.mk hs
  have HOK := Aside0.mk hok
  have HBY := Aside0.mk hb
  have HT := Aside0.mk hT
  have HKS := Aside0.mk hks
  clear h0 h1 hs hok hb hT hks hsE
  by_cases g2 : (3000 : Int) < s
  · go_enter Tryz.func6, Tryz.ntmps6
    go_wp2_with fail
    refine (concordatlaw01_ResultsSize.calls ks A0 c0 l s w H0.out hc0 HKS.out).mono ?_
    rintro e w1 ⟨rfl, hd⟩
    have B1 := Aside0.mk hd
    clear hd
    go_wp2
    go_ret
    exact ⟨rfl, B1.out⟩
  by_cases g3 : (70000 : Int) < (b.length : Int)
  · go_enter Tryz.func6, Tryz.ntmps6
    go_wp2_with fail
    refine (concordatlaw01_ResultsSize.calls ks A0 c0 l s w H0.out hc0 HKS.out).mono ?_
    rintro e w1 ⟨rfl, hd⟩
    have B1 := Aside0.mk hd
    clear hd
    go_wp2
    go_ret
    exact ⟨rfl, B1.out⟩
  have hsm2 : ∀ x ∈ l, x.f0.length ≤ 3000 := fun x hx => by have := hsm (by omega) x hx; omega
  have HSM := Aside0.mk hsm2
  clear hsm hsm2
  obtain ⟨kr, hkr⟩ := (ev_refPutResults l (by omega) (fun x hx => ⟨by have := HSM.out x hx; omega, fun r hr => by have := (HS.out x hx).2 r hr; unfold many at this; exact this⟩) HOK.out).rounds
  obtain ⟨kp, hkp⟩ := (ev_putResults l (by omega) (fun x hx => by have := HSM.out x hx; omega)).rounds
  obtain ⟨kb, hkb⟩ := (ev_same (rfl : (putResults l).1 = (putResults l).1) (by have := putResults_len l; omega)).rounds
  obtain ⟨kc, hkc⟩ := (ev_sameResults (getR resR resS putResults b).1 (by have := getR_length resR resS putResults b HBY.out; omega) (fun x hx => by have := getRes_small b HBY.out x hx; omega)).rounds
  obtain ⟨q, hq⟩ : ∃ q, putResults l = q := ⟨_, rfl⟩
  obtain ⟨r, hr⟩ : ∃ r, getR resR resS putResults b = r := ⟨_, rfl⟩
  rw [hq] at hkr hkp hkb
  rw [hr] at hkc
  have HKR := Aside0.mk hkr
  have HKP := Aside0.mk hkp
  have HKB := Aside0.mk hkb
  have HKC := Aside0.mk hkc
  have HQ := Aside0.mk hq
  have HR := Aside0.mk hr
  clear hkr hkp hkb hkc hq hr
  obtain ⟨pb, pe⟩ := q
  obtain ⟨gl, ge⟩ := r
  have hpl : pb.length ≤ 1000000000 := by have h := putResults_len l; rw [HQ.out] at h; dsimp only at h; omega
  have hgl : gl.length < 65536 := by have h := getR_length resR resS putResults b HBY.out; rw [HR.out] at h; dsimp only at h; omega
  have hw0 := Below.refl w.heap.size w
  go_enter Tryz.func6, Tryz.ntmps6
  go_wp2_with fail
  refine (concordatlaw01_ResultsSize.calls ks A0 c0 l s w H0.out hc0 HKS.out).mono ?_
  rintro e w1 ⟨rfl, hd⟩
  have B1 := Aside0.mk hd
  clear hd
  go_wp2_with fail
  -- the copies
  refine (twinResults_calls w1 A0 c0 l (Kd.C_below H0.out B1.out) hc0 (by omega) (fun x hx => by have := HSM.out x hx; omega)).mono ?_
  rintro e w2 ⟨vm, rfl, Fm, hm, hmn, hmf, hb2⟩
  obtain ⟨Am, cm, em, hcm, hm1, hm2⟩ := hm.reads
  rw [List.length_map] at em hcm
  subst em
  have HMN := Aside0.mk hmn
  have M2 := Aside0.mk hm
  have FM := Aside0.mk hmf
  have B2 := Aside0.mk (below_step B1.out hb2)
  have s1 := B1.out.size
  have s2 := hb2.size
  clear hm hmn hmf hb2 hm1 hm2
  go_wp2_with fail
  refine (twinBytes_calls w2 A1 c1 b (Kd.C_below H1.out B2.out) hc1 (by omega)).mono ?_
  rintro e w3 ⟨vc, rfl, Fc, hm, hmn, hmf, hb3⟩
  obtain ⟨Ac, cc, ec, hcc, hm1, hm2⟩ := hm.reads
  subst ec
  have C3 := Aside0.mk hm
  have FC := Aside0.mk hmf
  have M3 := Aside0.mk (M2.out.below hb3)
  have B3 := Aside0.mk (below_step B2.out hb3)
  have LM := Aside0.mk M2.out.lt
  have s3 := hb3.size
  clear hm hmn hmf hb3 hm1 hm2 M2
  go_wp2_with fail
  refine (rows_PutResults.calls kp Am cm l pb pe w3 (twinR_c M3.out).1 (by omega) HKP.out).mono ?_
  rintro e w4 ⟨vp, rfl, hO, hb4⟩
  obtain ⟨Ap, cp, rfl, hcp, hCp⟩ := Kd.R_reads hO
  have P4 := Aside0.mk hO
  have LP := Aside0.mk (Kd.R_lt hO)
  have LC := Aside0.mk C3.out.lt
  have M4 := Aside0.mk (M3.out.below hb4)
  have C4 := Aside0.mk (C3.out.below hb4)
  have B4 := Aside0.mk (below_step B3.out hb4)
  have s4 := hb4.size
  clear hO hCp hb4 M3 C3
  go_wp2_with fail
  refine (rows_GetResults.calls Ac cc b gl ge w4 C4.out.c.1 (by omega) (by unfold rows_GetResults.f; rw [if_pos HBY.out, HR.out])).mono ?_
  rintro e w5 ⟨vq, rfl, hO, hb5⟩
  obtain ⟨Aq, cq, rfl, hcq, hCq⟩ := Kd.S_reads hO
  obtain ⟨Fq, hq1, hq2, hq3⟩ := S_result hO
  have Q5 := Aside0.mk hq1
  have QN := Aside0.mk hq2
  have FQ := Aside0.mk hq3
  have LQ := Aside0.mk (Fd.row_lt hq1)
  clear hq1 hq2 hq3
  have P5 := Aside0.mk (Kd.R_below P4.out hb5)
  have M5 := Aside0.mk (M4.out.below hb5)
  have C5 := Aside0.mk (C4.out.below hb5)
  have B5 := Aside0.mk (below_step B4.out hb5)
  have s5 := hb5.size
  clear hO hCq hb5 M4 C4 P4
  go_wp2_with fail
  refine (concordatref02_PutResults.calls kr A0 c0 l pb pe w5 (Kd.C_below H0.out B5.out) hc0 HKR.out).mono ?_
  rintro e w6 ⟨vw, rfl, hO, hb6⟩
  obtain ⟨Aw, cw, rfl, hcw, hCw⟩ := Kd.R_reads hO
  have W6 := Aside0.mk hCw
  have Q6 := Aside0.mk (Fd.row_below Q5.out hb6)
  have P6 := Aside0.mk (Kd.R_below P5.out hb6)
  have M6 := Aside0.mk (M5.out.below hb6)
  have C6 := Aside0.mk (C5.out.below hb6)
  have B6 := Aside0.mk (below_step B5.out hb6)
  have s6 := hb6.size
  clear hO hCw hb6 M5 C5 P5 Q5
  go_wp2_with fail
  refine (concordatref02_GetResults.calls A1 c1 b w6 (Kd.C_below H1.out B6.out) hc1 HBY.out).mono ?_
  rw [HR.out]
  rintro e w7 ⟨vx, rfl, hO, hb7⟩
  obtain ⟨Ax, cx, rfl, hcx, hCx⟩ := Kd.R_reads hO
  have X7 := Aside0.mk hCx
  have W7 := Aside0.mk (Kd.C_below W6.out hb7)
  have Q7 := Aside0.mk (Fd.row_below Q6.out hb7)
  have P7 := Aside0.mk (Kd.R_below P6.out hb7)
  have M7 := Aside0.mk (M6.out.below hb7)
  have C7 := Aside0.mk (C6.out.below hb7)
  have B7 := Aside0.mk (below_step B6.out hb7)
  have s7 := hb7.size
  clear hO hCx hb7 M6 C6 P6 Q6 W6
  go_wp2_with fail
  refine (concordatlaw01_SameBytes.calls kb Ap cp pb Aw cw pb true w7 (R_C P7.out) hcp W7.out hcw HKB.out).mono ?_
  rintro e w8 ⟨rfl, hd⟩
  have hb8 := hd.below
  have X8 := Aside0.mk (Kd.C_below X7.out hb8)
  have Q8 := Aside0.mk (Fd.row_below Q7.out hb8)
  have P8 := Aside0.mk (Kd.R_below P7.out hb8)
  have M8 := Aside0.mk (M7.out.below hb8)
  have C8 := Aside0.mk (C7.out.below hb8)
  have B8 := Aside0.mk (below_step B7.out hb8)
  have s8 := hb8.size
  clear hd hb8 M7 C7 P7 Q7 W7 X7
  go_wp2_with fail
  refine (concordatlaw01_SameResults.calls kc Aq cq gl Ax cx gl true w8 (row_C Q8.out) hcq X8.out hcx HKC.out).mono ?_
  rintro e w9 ⟨rfl, hd⟩
  have hb9 := hd
  have Q9 := Aside0.mk (Fd.row_below Q8.out hb9)
  have P9 := Aside0.mk (Kd.R_below P8.out hb9)
  have M9 := Aside0.mk (M8.out.below hb9)
  have C9 := Aside0.mk (C8.out.below hb9)
  have B9 := Aside0.mk (below_step B8.out hb9)
  have s9 := hb9.size
  clear hd hb9 M8 C8 P8 Q8 X8
  go_wp2_with fail
  refine (leftResults_calls w9 Am cm Fm A0 c0 l M9.out (Kd.C_below H0.out B9.out) hc0 (by omega) (fun x hx => by have := HSM.out x hx; omega)).mono ?_
  rintro e w10 ⟨rfl, hb10⟩
  have Q10 := Aside0.mk (Fd.row_below Q9.out hb10)
  have P10 := Aside0.mk (Kd.R_below P9.out hb10)
  have M10 := Aside0.mk (M9.out.below hb10)
  have C10 := Aside0.mk (C9.out.below hb10)
  have B10 := Aside0.mk (below_step B9.out hb10)
  have s10 := hb10.size
  clear hb10 M9 C9 P9 Q9
  go_wp2_with fail
  refine (leftBytes_calls w10 Ac cc A1 c1 b C10.out.c.2.1 hcc (Kd.C_below H1.out B10.out) hc1 (by omega)).mono ?_
  rintro e w11 ⟨rfl, hb11⟩
  have Q11 := Aside0.mk (Fd.row_below Q10.out hb11)
  have P11 := Aside0.mk (Kd.R_below P10.out hb11)
  have M11 := Aside0.mk (M10.out.below hb11)
  have C11 := Aside0.mk (C10.out.below hb11)
  have B11 := Aside0.mk (below_step B10.out hb11)
  have s11 := hb11.size
  clear hb11 M10 C10 P10 Q10
  go_wp2_with fail
  have hba := below_alloc (Below.refl w11.heap.size w11) (.cells #[.int .i64 0, .slice none 0 0, .slice none 0 0, .slice none 0 0, .slice none 0 0, .slice none 0 0, .slice none 0 0, .slice none 0 0, .slice none 0 0, .slice none 0 0, .slice none 0 0, .slice none 0 0, .slice none 0 0] 44)
  have hp0 := Pile.new (below_step B11.out hba) (blk_new w11 _) B11.out.size
  obtain ⟨Fm', om, omn, oms⟩ := loose_tw (M11.out.below hba) HMN.out
  obtain ⟨ic, oc⟩ := (C11.out.below hba).owns
  obtain ⟨ip, op⟩ := R_owns (Kd.R_below P11.out hba)
  have oq := loose_row (Fd.row_below Q11.out hba)
  have RM := Aside0.mk (show ∀ b ∈ Fm', w1.heap.size ≤ b ∧ b < w2.heap.size from fun b hb => ⟨FM.out b (oms b hb), LM.out b (oms b hb)⟩)
  have RC := Aside0.mk (show ∀ x ∈ (Value.slice Ac b.length cc).ownBlock.toList, w2.heap.size ≤ x ∧ x < w3.heap.size from fun x hx => ⟨FC.out x (C11.out.blk x hx), LC.out x (C11.out.blk x hx)⟩)
  have RP := Aside0.mk (show ∀ x ∈ (Value.slice Ap pb.length cp).ownBlock.toList, w3.heap.size ≤ x ∧ x < w4.heap.size from fun x hx => ⟨Kd.R_base P11.out x (by simpa using hx), LP.out x (by simpa using hx)⟩)
  have RQ := Aside0.mk (show ∀ x ∈ Fq, w4.heap.size ≤ x ∧ x < w5.heap.size from fun x hx => ⟨FQ.out x hx, LQ.out x hx⟩)
  have HP0 := Aside0.mk hp0
  have OM := Aside0.mk om
  have OMN := Aside0.mk omn
  have OC := Aside0.mk oc
  have OP := Aside0.mk op
  have OQ := Aside0.mk oq
  clear hba hp0 om oc op oq M11 C11 P11 Q11 FM LM FC LC LP LQ FQ oms omn HMN
  obtain ⟨lm, hlm⟩ : ∃ lm, lm = l.map (fun x => x.f0.length) := ⟨_, rfl⟩
  have hlml : lm.length = l.length := by rw [hlm, List.length_map]
  have hlms : ∀ n ∈ lm, n ≤ 1000000000 := fun n hn => by
    rw [hlm] at hn
    obtain ⟨x, hx, rfl⟩ := List.mem_map.1 hn
    have := HSM.out x hx
    omega
  obtain ⟨lq, hlq⟩ : ∃ lq, lq = gl.map (fun x => x.f0.length) := ⟨_, rfl⟩
  have hlql : lq.length = gl.length := by rw [hlq, List.length_map]
  have hlqs : ∀ n ∈ lq, n ≤ 1000000000 := fun n hn => by
    rw [hlq] at hn
    obtain ⟨x, hx, rfl⟩ := List.mem_map.1 hn
    have h := getRes_small b HBY.out x
    rw [HR.out] at h
    have := h hx
    omega
  rw [← hlm] at OM
  rw [← hlq] at OQ
  have C1 := Aside0.mk (HP0.out.Results Am cm lm Fm' (by omega) (by rw [hlml]; exact OM.out) OMN.out (fun x hx => ⟨⟨by have := RM.out x hx; omega, by simp⟩, by have := RM.out x hx; omega⟩) (by omega) hlms)
  rw [hlml] at C1
  refine C1.out.mono ?_
  rintro e w13 ⟨rfl, L1, hp, hL1, hsp⟩
  have HP1 := Aside0.mk hp
  have OC1 := Aside0.mk (hsp.own OC.out (fun x hx => ⟨by have := RC.out x hx; omega, fun h => by have := RC.out x hx; have := RM.out x (by simpa using h); omega⟩))
  have OP1 := Aside0.mk (hsp.own OP.out (fun x hx => ⟨by have := RP.out x hx; omega, fun h => by have := RP.out x hx; have := RM.out x (by simpa using h); omega⟩))
  have OQ1 := Aside0.mk (hsp.row OQ.out (fun x hx => ⟨by have := RQ.out x hx; omega, fun h => by have := RQ.out x hx; have := RM.out x (by simpa using h); omega⟩))
  have hL1' : ∀ x, w2.heap.size ≤ x → x ∉ L1 := fun x h hx => by
    rcases hL1 x hx with h2 | h2
    · cases h2
    · have := RM.out x h2; omega
  clear hp hsp HP0 OM OC OP OQ C1 hL1
  go_wp2_with fail
  refine (HP1.out.Bytes (by omega) Ac b.length cc ic OC1.out (fun x hx => ⟨⟨?_, hL1' x ?_⟩, ?_⟩) (by omega)).mono ?_
  · have := RC.out x hx; omega
  · have := RC.out x hx; omega
  · have := RC.out x hx; omega
  rintro e w14 ⟨rfl, hp, hsp⟩
  have HP2 := Aside0.mk hp
  have OP2 := Aside0.mk (hsp.own OP1.out (fun x hx => ⟨by have := RP.out x hx; omega, hL1' x (by have := RP.out x hx; omega)⟩))
  have OQ2 := Aside0.mk (hsp.row OQ1.out (fun x hx => ⟨by have := RQ.out x hx; omega, hL1' x (by have := RQ.out x hx; omega)⟩))
  clear hp hsp HP1 OC1 OP1 OQ1
  go_wp2_with fail
  have hL2 : ∀ x, w3.heap.size ≤ x → x ∉ L1 ++ (Value.slice Ac b.length cc).ownBlock.toList := fun x h hx => by
    rcases List.mem_append.1 hx with hx | hx
    · exact hL1' x (by omega) hx
    · have := RC.out x hx; omega
  refine (HP2.out.Bytes (by omega) Ap pb.length cp ip OP2.out (fun x hx => ⟨⟨?_, hL2 x ?_⟩, ?_⟩) hpl).mono ?_
  · have := RP.out x hx; omega
  · have := RP.out x hx; omega
  · have := RP.out x hx; omega
  rintro e w15 ⟨rfl, hp, hsp⟩
  have HP3 := Aside0.mk hp
  have OQ3 := Aside0.mk (hsp.row OQ2.out (fun x hx => ⟨by have := RQ.out x hx; omega, hL2 x (by have := RQ.out x hx; omega)⟩))
  clear hp hsp HP2 OP2 OQ2
  go_wp2_with fail
  have hL3 : ∀ x, w4.heap.size ≤ x → x ∉ (L1 ++ (Value.slice Ac b.length cc).ownBlock.toList) ++ (Value.slice Ap pb.length cp).ownBlock.toList := fun x h hx => by
    rcases List.mem_append.1 hx with hx | hx
    · exact hL2 x (by omega) hx
    · have := RP.out x hx; omega
  have C4 := Aside0.mk (HP3.out.Results Aq cq lq Fq (by omega) (by rw [hlql]; exact OQ3.out) QN.out (fun x hx => ⟨⟨by have := RQ.out x hx; omega, hL3 x (by have := RQ.out x hx; omega)⟩, by have := RQ.out x hx; omega⟩) (by omega) hlqs)
  rw [hlql] at C4
  refine C4.out.mono ?_
  rintro e w16 ⟨rfl, L4, hp, _, _⟩
  have HP4 := Aside0.mk hp
  clear hp HP3 OQ3 C4
  go_wp2_with fail
  refine (HP4.out.apart HT.out).mono ?_
  rintro e w17 ⟨rfl, hbw⟩
  have HBW := Aside0.mk hbw
  clear hbw
  go_wp2
  go_ret
  exact ⟨rfl, HBW.out⟩
end Go.Proofs.YtcohodkpppmaoaaGreatDoor.Q
namespace Go.Proofs.YtcohodkpppmaoaaGreatDoor
open Go.RowKit Go.ChangeShapes Go.WideShapes Go.Proofs.YtcohodkpppmaoaaGreatDoorW.PrintWords

structure Opens (P : Program) (t : TypeId) {α : Type} (d : Kd α) (Good : α → Prop) : Prop where
  cells : P.cellsOf t = d.sz
  opened : ∀ {H : Type} {enc : TypeId × Value → H} {w : World} {base : Nat} {spare : Nat → Bool} {held : Bool} {fuel : Nat} {cs : List Value} {x : DataW H × List MemPlace},
    DataW.trod enc P w base spare held fuel t cs = some x → (∀ n ∈ x.1.weights P t, n ≤ reachBytes) → ∃ a, d.K w a cs ∧ Good a

section
variable {P : Program} {t : TypeId}
theorem opens_int {k : IntKind} (ht : P.underlying t = some (.int k)) (hc : P.cellsOf t = 1) : Opens P t (Kd.int k) (fun n => (Lit.int k n).wf = true) :=
  ⟨hc, fun h _ => by
    obtain ⟨n, rfl, rfl, hn⟩ := DataW.trod_int ht h
    exact ⟨n, rfl, hn⟩⟩
theorem opens_string (ht : P.underlying t = some .string) (hc : P.cellsOf t = 1) : Opens P t Kd.string (fun s => s.size ≤ 140737488351232) :=
  ⟨hc, fun h hw => by
    obtain ⟨s, rfl, rfl, hs⟩ := DataW.trod_string ht h
    refine ⟨s, rfl, ?_⟩
    have := hw s.data.toList.length (by simp [DataW.weights])
    rw [Array.length_toList] at this
    exact this⟩

theorem weightsAll_mem {H : Type} {e : TypeId} : ∀ {l : List (DataW H)} {d : DataW H} {n : Nat}, d ∈ l → n ∈ d.weights P e → n ∈ DataW.weightsAll P e l
  | _ :: _, _, _, .head _, hn => by
    simp only [DataW.weightsAll, List.mem_append]
    exact .inl hn
  | _ :: _, _, _, .tail _ h, hn => by
    simp only [DataW.weightsAll, List.mem_append]
    exact .inr (weightsAll_mem h hn)

theorem opens_slice {α : Type} {e : TypeId} {d : Kd α} {Good : α → Prop} {b : Nat} (ht : P.underlying t = some (.slice e)) (hc : P.cellsOf t = 1) (hb : P.bytesOf e = b) (hb0 : 0 < b) (ho : Opens P e d Good) :
    Opens P t (Kd.slice e d) (fun l => (∀ x ∈ l, Good x) ∧ l.length * b ≤ 140737488351232) := by
  refine ⟨hc, fun {H enc w base spare held fuel cs x} h hw => ?_⟩
  rcases Deep.open_slice ht h with ⟨rfl, rfl⟩ | ⟨a, len, cap, m, n, D, Pl, rfl, _, hl, hm, hmm, rfl, hx⟩
  · exact ⟨[], ⟨none, 0, rfl, by simp, rfl, by simp, fun h => absurd h (by simp)⟩, fun x hx => by simp at hx, by simp⟩
  · have hlm : len ≤ m := by rw [hmm]; split <;> omega
    have hw' : ∀ n ∈ (DataW.slice ((List.range len).map D) ((List.range (m - len)).map fun j => D (len + j)) : DataW H).weights P t, n ≤ reachBytes := hw
    simp only [DataW.weights, ht] at hw'
    have hlen : len * b ≤ 140737488351232 := by
      have := hw' _ (List.mem_cons_self)
      rw [hb] at this
      simp only [List.length_map, List.length_range] at this
      have h2 : len * b ≤ (len + (m - len)) * b := Nat.mul_le_mul_right _ (by omega)
      unfold reachBytes at this
      omega
    have hel : ∀ i : Nat, i < len → ∃ (y : α) (c : List Value), (c.length = d.sz ∧ ∀ j u, c[j]? = some u → w.cell? (a.add (i * d.sz + j)) = some u) ∧ d.K w y c ∧ Good y := by
      intro i hi
      obtain ⟨cs', h1, h2⟩ := hx i (by omega)
      obtain ⟨y, hK, hG⟩ := ho.opened h2 (fun k hk => hw' k (List.mem_cons_of_mem _ (List.mem_append_left _ (weightsAll_mem (d := D i) (List.mem_map.2 ⟨i, List.mem_range.2 hi, rfl⟩) hk))))
      refine ⟨y, cs', ⟨d.K_len hK, ?_⟩, hK, hG⟩
      intro j u hj
      rw [ho.cells] at h1
      unfold World.cells? at h1
      split at h1
      · have hjl : j < d.sz := by
          have := (List.getElem?_eq_some_iff.1 hj).1
          rw [d.K_len hK] at this
          exact this
        have := mapM_some_get h1 j j (by simp [hjl])
        rw [Deep.add_add] at this
        rw [this, hj]
      · cases h1
    obtain ⟨f, hf⟩ := Classical.axiomOfChoice (r := fun (i : Fin len) (y : α) => ∃ c : List Value, (c.length = d.sz ∧ ∀ j u, c[j]? = some u → w.cell? (a.add (i.1 * d.sz + j)) = some u) ∧ d.K w y c ∧ Good y)
      (fun i => by obtain ⟨y, c, h⟩ := hel i.1 i.2; exact ⟨y, c, h⟩)
    refine ⟨List.ofFn f, ⟨some a, cap, by simp, by simpa using hl, ?_⟩, ?_, by simpa using hlen⟩
    · refine ⟨rfl, by rw [List.length_ofFn]; unfold maxLen at hm; omega, fun _ => ⟨a, rfl, fun j p hp => ?_⟩⟩
      have hj : j < len := by
        have := (List.getElem?_eq_some_iff.1 hp).1
        simpa using this
      have hp' : f ⟨j, hj⟩ = p := by
        rw [List.getElem?_ofFn, dif_pos hj] at hp
        exact Option.some.inj hp
      obtain ⟨c, ⟨hc1, hc2⟩, hK, _⟩ := hf ⟨j, hj⟩
      exact ⟨c, hc1, hp' ▸ hK, hc2⟩
    · intro y hy
      obtain ⟨i, rfl⟩ := List.mem_ofFn.1 hy
      obtain ⟨c, _, _, hG⟩ := hf i
      exact hG

/-- The fields of a struct, from a place on. -/
structure OpensF (P : Program) (fs : List Field) (off : Nat) {α : Type} (d : Kd α) (Good : α → Prop) : Prop where
  go : ∀ {H : Type} {enc : TypeId × Value → H} {w : World} {base : Nat} {spare : Nat → Bool} {held : Bool} {n : Nat} (cs : List Value) (xs : List (DataW H × List MemPlace)),
    cs.length = off + d.sz → xs.length = fs.length → (∀ (i : Nat) (f : Field), fs[i]? = some f → DataW.trod enc P w base spare held n f.type ((cs.drop f.offset).take (P.cellsOf f.type)) = xs[i]?) →
    (∀ (i : Nat) (f : Field) (x : DataW H × List MemPlace), fs[i]? = some f → xs[i]? = some x → ∀ k ∈ x.1.weights P f.type, k ≤ reachBytes) → ∃ a, d.K w a (cs.drop off) ∧ Good a
theorem opensF_one {f : Field} {off : Nat} {α : Type} {d : Kd α} {Good : α → Prop} (h : Opens P f.type d Good) (hf : f.offset = off) : OpensF P [f] off d Good := by
  constructor
  intro H enc w base spare held n cs xs hl hx ht hw
  obtain ⟨x, rfl⟩ : ∃ x, xs = [x] := List.length_eq_one_iff.1 hx
  have h0 := ht 0 f rfl
  rw [h.cells, hf, List.take_of_length_le (by rw [List.length_drop]; omega)] at h0
  exact h.opened h0 (hw 0 f x rfl rfl)
theorem opensF_cons {f : Field} {fs : List Field} {off : Nat} {α β : Type} {d : Kd α} {e : Kd β} {G : α → Prop} {G' : β → Prop} (h : Opens P f.type d G) (hf : f.offset = off) (hs : OpensF P fs (off + d.sz) e G') :
    OpensF P (f :: fs) off (Kd.pair d e) (fun x => G x.1 ∧ G' x.2) := by
  constructor
  intro H enc w base spare held n cs xs hl hx ht hw
  have hl' : cs.length = off + (d.sz + e.sz) := hl
  obtain ⟨x, xs, rfl⟩ : ∃ y ys, xs = y :: ys := by
    cases xs with
    | nil => simp at hx
    | cons y ys => exact ⟨y, ys, rfl⟩
  have h0 := ht 0 f rfl
  rw [h.cells, hf] at h0
  obtain ⟨a, hK, hG⟩ := h.opened h0 (hw 0 f x rfl rfl)
  obtain ⟨b, hK', hG'⟩ := hs.go (enc := enc) (w := w) (base := base) (spare := spare) (held := held) (n := n) cs xs (by omega) (by simpa using hx) (fun i g hg => ht (i + 1) g hg) (fun i g y hg hy => hw (i + 1) g y hg hy)
  refine ⟨(a, b), ⟨(cs.drop off).take d.sz, cs.drop (off + d.sz), ?_, hK, hK'⟩, hG, hG'⟩
  rw [← List.drop_drop, List.take_append_drop]
theorem weightsEach_mem {H : Type} {ts : List TypeId} {ds : List (DataW H)} {j : Nat} {t : TypeId} {d : DataW H} (ht : ts[j]? = some t) (hd : ds[j]? = some d) (n : Nat) (hn : n ∈ d.weights P t) : n ∈ DataW.weightsEach P ts ds := DataW.weights_mem_each ht hd n hn
theorem opens_struct {fs : Array Field} {α : Type} {d : Kd α} {Good : α → Prop} (ht : P.underlying t = some (.struct fs)) (hc : P.cellsOf t = d.sz) (h : OpensF P fs.toList 0 d Good) : Opens P t d Good := by
  refine ⟨hc, fun {H enc w base spare held fuel cs x} hr hw => ?_⟩
  obtain ⟨xs, n, _, rfl, hl, hx, hf⟩ := DataW.trod_struct ht hr
  have hw' : ∀ k ∈ (DataW.agg (xs.map (·.1)) : DataW H).weights P t, k ≤ reachBytes := hw
  simp only [DataW.weights, ht] at hw'
  have := h.go (enc := enc) (w := w) (base := base) (spare := spare) (held := held) (n := n) cs xs (by omega) (by rw [hx]; simp) (fun i f hi => hf i f (by simpa using hi)) (fun i f y hi hy k hk => hw' k (weightsEach_mem (j := i) (t := f.type) (d := y.1) (by simp at hi; simp [hi]) (by simp [hy]) k hk))
  simpa using this
theorem opens_iso {α β : Type} {d : Kd α} {Good : α → Prop} {G : β → Prop} (f : β → α) (g : α → β) (hfg : ∀ a, f (g a) = a) (hG : ∀ a, Good a → G (g a)) (h : Opens P t d Good) : Opens P t (Kd.iso d f) G := by
  refine ⟨h.cells, fun hr hw => ?_⟩
  obtain ⟨a, hK, hg⟩ := h.opened hr hw
  exact ⟨g a, by show d.K _ (f (g a)) _; rw [hfg]; exact hK, hG a hg⟩
end
end Go.Proofs.YtcohodkpppmaoaaGreatDoor
namespace Go.Proofs.YtcohodkpppmaoaaGreatDoor
open Go.RowKit Go.ChangeShapes Go.WideShapes Go.Proofs.YtcohodkpppmaoaaGreatDoorW.PrintWords Q

theorem u32_of_wf {n : Int} (h : (Lit.int .u32 n).wf = true) : u32Ok n := by
  simp only [Lit.wf, Bool.and_eq_true, decide_eq_true_eq] at h
  exact ⟨h.1, h.2⟩
theorem u8_of_wf {n : Int} (h : (Lit.int .u8 n).wf = true) : u8Ok n := by
  simp only [Lit.wf, Bool.and_eq_true, decide_eq_true_eq] at h
  exact ⟨h.1, h.2⟩
/-- Texts that are within the reach. -/
def sOk (s : ByteArray) : Prop := s.size ≤ 140737488351232
def rowGood (x : RowT) : Prop := sOk x.f0 ∧ rowOk x
def rowsGood (l : List RowT) : Prop := (∀ x ∈ l, rowGood x) ∧ l.length * 24 ≤ 140737488351232
def resultGood (x : ResultT) : Prop := rowsGood x.f0

theorem opens_u8 : Opens Tryz.prog 5 (Kd.int .u8) (fun n => (Lit.int .u8 n).wf = true) := opens_int Tryz.underlying5 (by kernel_rfl)
theorem opens_u32 : Opens Tryz.prog 46 (Kd.int .u32) (fun n => (Lit.int .u32 n).wf = true) := opens_int Tryz.underlying46 (by kernel_rfl)
theorem opens_str : Opens Tryz.prog 9 Kd.string sOk := opens_string Tryz.underlying9 (by kernel_rfl)
theorem opens_row : Opens Tryz.prog 148 k148 rowGood := by
  have h := opens_struct (P := Tryz.prog) (t := 148) Tryz.underlying148 (by kernel_rfl) (opensF_cons opens_str rfl (opensF_one opens_u32 rfl))
  exact opens_iso (fun x : RowT => (x.f0, x.f1)) (fun a => ⟨a.1, a.2⟩) (fun _ => rfl) (fun _ h => ⟨h.1, u32_of_wf h.2⟩) h
theorem opens_rows : Opens Tryz.prog 143 (Kd.slice 148 k148) rowsGood :=
  opens_slice Tryz.underlying143 (by kernel_rfl) (by kernel_rfl) (by decide) opens_row
theorem opens_result : Opens Tryz.prog 145 k145 resultGood := by
  have h := opens_struct (P := Tryz.prog) (t := 145) Tryz.underlying145 (by kernel_rfl) (opensF_one opens_rows rfl)
  exact opens_iso (fun x : ResultT => x.f0) (fun a => ⟨a⟩) (fun _ => rfl) (fun _ h => h) h
theorem opens_results : Opens Tryz.prog 48 (Kd.slice 145 k145) (fun l => (∀ x ∈ l, resultGood x) ∧ l.length * 24 ≤ 140737488351232) :=
  opens_slice Tryz.underlying48 (by kernel_rfl) (by kernel_rfl) (by decide) opens_result
theorem opens_bytes : Opens Tryz.prog 67 (Kd.slice 5 (Kd.int .u8)) (fun l => (∀ x ∈ l, (Lit.int .u8 x).wf = true) ∧ l.length * 1 ≤ 140737488351232) :=
  opens_slice Tryz.underlying67 (by kernel_rfl) (by kernel_rfl) (by decide) opens_u8

/-- A slice argument, opened. -/
theorem opens_arg {H : Type} {enc : TypeId × Value → H} {w : World} {base : Nat} {spare : Nat → Bool} {held : Bool} {P : Program} {t e : TypeId} {α : Type} {d : Kd α} {Good : List α → Prop} (ho : Opens P t (Kd.slice e d) Good)
    {a : Option Addr} {len cap : Nat} {dt : DataW H} {p : List MemPlace} (h : DataW.Trod enc P w base spare held t (.slice a len cap) dt p) (hw : ∀ n ∈ dt.weights P t, n ≤ reachBytes) :
    ∃ l : List α, len = l.length ∧ d.C w a l.length l ∧ l.length ≤ cap ∧ Good l := by
  obtain ⟨fuel, hf⟩ := h
  obtain ⟨l, ⟨A, c, hc, hl, hC⟩, hG⟩ := ho.opened hf hw
  simp [Value.cells] at hc
  obtain ⟨rfl, rfl, rfl⟩ := hc
  exact ⟨l, rfl, hC, hl, hG⟩
end Go.Proofs.YtcohodkpppmaoaaGreatDoor
namespace Go.Proofs.YtcohodkpppmaoaaGreatDoor
open Go.ChangeShapes Go.WideShapes Go.ChangeAt Go.RowKit
set_option linter.unusedVariables false
/-- The list. -/
def tabList : List (String × DataW Unit) := [("math/bits.deBruijn32tab", Rows.laid_math_bits_deBruijn32tab), ("math/bits.deBruijn64tab", Rows.laid_math_bits_deBruijn64tab), ("internal/strconv.uint64pow10", Rows.laid_internal_strconv_uint64pow10)]
def cellsOfD : DataW Unit → Array Value
  | .agg l => (l.map fun
      | .lit x => x.value
      | _ => .bool false).toArray
  | _ => #[]
/-- The settled world, the tables laid. -/
noncomputable def laidWorld (os : Os) : World :=
  let w0 := World.holding Tryz.prog os ⟨#[], #[], []⟩
  { w0 with heap := ((w0.heap.modify 0 fun
      | .cells _ t frozen => .cells (cellsOfD Rows.laid_internal_strconv_uint64pow10) t frozen
      | o => o).modify 2 fun
      | .cells _ t frozen => .cells (cellsOfD Rows.laid_math_bits_deBruijn32tab) t frozen
      | o => o).modify 3 fun
      | .cells _ t frozen => .cells (cellsOfD Rows.laid_math_bits_deBruijn64tab) t frozen
      | o => o }
set_option maxRecDepth 100000 in
theorem laid_met (os : Os) (args : Array Value) : laidMet Tryz.prog tabList ((laidWorld os).forCall (fun _ _ => 0) ⟨#[], args, []⟩).memory :=
  (LaidIn.of_run [0, 2, 3] 8 (by kernel_rfl) (by kernel_rfl) (by kernel_rfl) (by kernel_rfl)).met
theorem laid_tail {P : Program} {W : World} {x : String × DataW Unit} {l : List (String × DataW Unit)} (h : laidMet P (x :: l) W) : laidMet P l W := by
  obtain ⟨ps, ⟨g, t, cs, fuel, p, q, _, _, _, _, hq, rfl⟩, hn, hr⟩ := h
  exact ⟨q, hq, (List.nodup_append.1 hn).2.1, fun b off hm => hr b off (List.mem_append_right _ hm)⟩
theorem tabOk_of_laid {W : World} (h : laidMet Tryz.prog tabList W) : TabOk W := by
  have h3 := laid_tail (laid_tail h)
  exact Lib.tabIs_of_head (g := 0) (by kernel_rfl) (by kernel_rfl) Tryz.underlying255 Tryz.underlying159 (by kernel_rfl) (by kernel_rfl) h3
end Go.Proofs.YtcohodkpppmaoaaGreatDoor
