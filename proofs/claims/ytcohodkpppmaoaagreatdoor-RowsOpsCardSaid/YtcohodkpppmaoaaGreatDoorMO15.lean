/-
  The reference's GetChanges and GetOps: what they answer is what the program's own ones answer.
  The reference's Check of ops and PutOps, as printed: the plain words of XSpec.
  The reference's GetOps: what it answers is what the program's own one answers.
  What the program's calls answer, as values that own their blocks: rows of plain things, and results with their rows.
  A list is the same as itself, and sizes come to an answer: ops, results, messages; ids.
  Changes: a list is the same as itself, and its size comes to an answer; two rows of bytes that are one.
  A copy in memory of its own, with a mark in the room behind it.
  Bytes: copies with a mark behind them, and whether they are as they were.
  The law RowsChanges, walked: it answers true.
  Ops: copies with a mark behind them, and whether they are as they were.
-/
import Derived.Test.YtcohodkpppmaoaaGreatDoorMO4
import Derived.Test.YtcohodkpppmaoaaGreatDoorMO14
import Derived.WalkSpells
import Derived.Test.YtcohodkpppmaoaaGreatDoorMO8
import Derived.Test.YtcohodkpppmaoaaGreatDoorMO5
import Derived.Test.YtcohodkpppmaoaaGreatDoorMO3
import Derived.Test.YtcohodkpppmaoaaGreatDoorMO13
import Derived.BigRegion
import Derived.BigQuiet
import Derived.Test.YtcohodkpppmaoaaGreatDoorMO2
set_option linter.unusedSimpArgs false
set_option linter.unusedVariables false
namespace Go.Proofs.YtcohodkpppmaoaaGreatDoor.Q
open Go.RowKit Go.Proofs.YtcohodkpppmaoaaGreatDoorW.PrintWords Go.Proofs.YtcohodkpppmaoaaGreatDoorW.PrintLast Go.Proofs.YtcohodkpppmaoaaGreatDoorW.PrintMore
set_option linter.unusedVariables false
theorem Bts.takeQ {s : RdS} (hs : Bts s) (n : Nat) : Bts (takeQS s n) := by
  unfold takeQS
  split
  · exact hs
  · exact hs.take n
theorem Bts.textQ {s : RdS} (hs : Bts s) : Bts (textQS s) := (hs.takeQ 1).takeQ _
theorem Bts.opQ {s : RdS} (hs : Bts s) : Bts (opQS s) := (hs.takeQ 1).textQ.textQ.takeQ 4
theorem strOfNums_size (l : List Int) : (strOfNums l).size = l.length := by simp [strOfNums, ByteArray.size]
theorem textQ_small {s : RdS} (hs : Bts s) : (textQ s).size ≤ 255 := by
  obtain ⟨a, _, hn, a0, a1⟩ := numQ_one hs
  unfold Q.textQ
  rw [strOfNums_size, takeQ_length, hn]
  omega
theorem opQ_ok {s : RdS} (hs : Bts s) : opOk (opQ s) := by
  have h := numQ_range (textQS (textQS (takeQS s 1))) 4
  obtain ⟨a, _, hn, a0, a1⟩ := numQ_one hs
  unfold Q.opQ opOk u8Ok u32Ok
  dsimp only
  rw [hn]
  omega
theorem Rf.set {w0 w : World} {g b : Nat} {s : RdS} (h : Rf w0 w g s) (hb : g ≠ b) (h0 : w0.heap.size ≤ b) (j : Nat) (u : Value) : Rf w0 (w.setCell ⟨b, j, none⟩ u) g s := by
  obtain ⟨A, c, hr, h1, h2, h3⟩ := h.row
  exact ⟨h.below.setCell h0 _, h.far, ⟨A, c, blk_far hr hb u, h1, h2, h3⟩, h.bytes⟩
theorem Rf.grownBy {w0 w w1 : World} {g : Nat} {s : RdS} (h : Rf w0 w g s) (hb : Below w0.heap.size w0 w1) {row : Option Nat} (hg : w.grownBy w1 row) (hr : ∀ k, row = some k → k ≠ g) : Rf w0 w1 g s := by
  obtain ⟨A, c, hr0, h1, h2, h3⟩ := h.row
  exact ⟨hb, h.far, ⟨A, c, blk_grown hr0 hg (by intro e; exact hr g e.symm rfl), h1, h2, h3⟩, h.bytes⟩
set_option maxRecDepth 100000 in
theorem sameQ_calls (A0 : Option Addr) (c0 : Nat) (l0 : List Int) (A1 : Option Addr) (c1 : Nat) (l1 : List Int) (w : World) (h0 : Kd.C (Kd.int .u8) w A0 l0.length l0) (h1 : Kd.C (Kd.int .u8) w A1 l1.length l1) :
    Calls Tryz.prog 129 #[.slice A0 l0.length c0, .slice A1 l1.length c1] w fun e w' => e = .returned (.bool ((strOfNums l0).toList == (strOfNums l1).toList)) ∧ w' = w := by
  have hc0 := Kd.C_string (P := Tryz.prog) (src := 67) (dst := 9) (c := c0) Tryz.underlying67 Tryz.underlying5 Tryz.underlying9 h0
  have hc1 := Kd.C_string (P := Tryz.prog) (src := 67) (dst := 9) (c := c1) Tryz.underlying67 Tryz.underlying5 Tryz.underlying9 h1
  clear h0 h1
  go_enter Tryz.func129, Tryz.ntmps129
  go_wp2
  go_ret
  exact ⟨rfl, rfl⟩

end Go.Proofs.YtcohodkpppmaoaaGreatDoor.Q
namespace Go.Proofs.YtcohodkpppmaoaaGreatDoor.Q
open Go.RowKit Go.Proofs.YtcohodkpppmaoaaGreatDoorW.PrintWords Go.Proofs.YtcohodkpppmaoaaGreatDoorW.PrintLast Go.Proofs.YtcohodkpppmaoaaGreatDoorW.PrintMore
theorem size_zero (s : ByteArray) : (s.toList == ([] : List UInt8)) = (s.size == 0) := by
  have h2 : s.toList = ([] : List UInt8) ↔ s.size = 0 := ⟨toList_size _, size_toList _⟩
  by_cases c : s.size = 0
  · have := h2.2 c
    rw [this, c]
    rfl
  · have c2 : ¬ s.toList = [] := fun h => c (h2.1 h)
    rw [beq_eq_false_iff_ne.2 c2, beq_eq_false_iff_ne.2 c]
theorem ev_ref2Check (x : OpT) (h1 : x.f1.size ≤ 140737488351232) (h2 : x.f2.size ≤ 140737488351232) : Ev (fun k => concordatref02_Check.f k x.f0 x.f1 x.f2 x.f3) (mayOp x) := by
  unfold concordatref02_Check.f
  have hn : x.f2.toList = ([] : List UInt8) ↔ x.f2.size = 0 := ⟨toList_size _, size_toList _⟩
  have hj : ∀ c : Bool, isKey x.f1 = true → (c = true ↔ x.f0 = 1 ∨ x.f0 = 3) → Ev (fun k => concordatref02_Check.j0 k x.f0 c x.f0 x.f1 x.f2 x.f3) (mayOp x) := by
    intro c hk hc
    refine Ev.step (f := fun k => if c = true then (if x.f2.toList = ([] : List UInt8) then (some (x.f3 == 0)) else (some false)) else (if x.f0 = 2 then (some (x.f2.toList == ([] : List UInt8))) else (if x.f0 = 4 then ((concordatref01_Check.f k x.f2).bind fun t256 => (if t256 = true then (some (x.f3 == 0)) else (some false))) else (some false)))) (fun k => ?_) ?_
    · simp only [concordatref02_Check.j0]
    · unfold mayOp
      rw [hk]
      cases c with
      | true =>
        have h13 := hc.1 rfl
        have n4 : ¬ x.f0 = 4 := by omega
        have n2 : ¬ x.f0 = 2 := by omega
        have g1 : 1 ≤ x.f0 := by omega
        have g2 : x.f0 ≤ 4 := by omega
        simp only [if_true, if_neg n4]
        by_cases c2 : x.f2.size = 0
        · simp only [if_pos (hn.2 c2)]
          refine ev_const ?_
          simp [c2, g1, g2, n2]
        · simp only [if_neg (fun h => c2 (hn.1 h))]
          refine ev_const ?_
          simp [c2]
      | false =>
        have h13 : ¬ (x.f0 = 1 ∨ x.f0 = 3) := fun h => by have := hc.2 h; cases this
        simp only [Bool.false_eq_true, if_false]
        by_cases c2 : x.f0 = 2
        · simp only [if_pos c2]
          refine ev_const ?_
          rw [size_zero]
          simp [c2]
        · simp only [if_neg c2]
          by_cases c4 : x.f0 = 4
          · simp only [if_pos c4]
            refine Ev.bind (ev_refCheck _ h2) ?_
            cases isKey x.f2 with
            | true =>
              simp only [if_true]
              refine ev_const ?_
              simp [c4]
            | false =>
              simp only [Bool.false_eq_true, if_false]
              refine ev_const ?_
              simp
          · simp only [if_neg c4]
            refine ev_const ?_
            have : ¬ (1 ≤ x.f0 ∧ x.f0 ≤ 4) := by omega
            by_cases g1 : 1 ≤ x.f0
            · have g2 : ¬ x.f0 ≤ 4 := fun h => this ⟨g1, h⟩
              simp [g2]
            · simp [g1]
  refine Ev.bind (ev_refCheck _ h1) ?_
  cases hk : isKey x.f1 with
  | false =>
    simp only [Bool.false_eq_true, if_false]
    refine ev_const ?_
    simp [mayOp, hk]
  | true =>
    simp only [if_true]
    by_cases c1 : x.f0 = 1
    · simp only [if_pos c1]
      exact hj _ hk (by simp [c1])
    · simp only [if_neg c1]
      exact hj _ hk (by simp [c1])
theorem refOps_scan (l : List OpT) (hl : l.length ≤ 1000000000) (hs : ∀ x ∈ l, x.f1.size ≤ 140737488351232 ∧ x.f2.size ≤ 140737488351232) (d : Nat) : ∀ (i : Nat), i ≤ l.length → l.length - i = d → (∀ x ∈ l.take i, opE x ≠ 1) → ∀ (r : List Int × Int),
    (l.any (fun x => opE x == 1) = true → r = ([], 1)) →
    (l.any (fun x => opE x == 1) = false → Ev (fun k => if (l.length : Int) > 16 then (some (([] : List Int), 3)) else ((concordatref02_Count.f (l.length : Int)).bind fun t => (concordatref02_PutOps.l1 k l t 0))) r) →
    Ev (fun k => concordatref02_PutOps.l0 k l (i : Int)) r := by
  induction d with
  | zero =>
    intro i h0 h1 hp r hr1 hr2
    have e : l.take i = l := List.take_of_length_le (by omega)
    rw [e] at hp
    have hno : l.any (fun x => opE x == 1) = false := by
      rw [List.any_eq_false]
      intro x hx
      simpa using hp x hx
    refine Ev.step (fun k => ?_) (hr2 hno)
    simp only [concordatref02_PutOps.l0]
    rw [if_neg (by omega)]
  | succ d ih =>
    intro i h0 h1 hp r hr1 hr2
    have hi : i < l.length := by omega
    have hrd : rd_T82 l (i : Int) = l[i] := by simp [rd_T82, hi]
    have htk : l.take (i + 1) = l.take i ++ [l[i]] := List.take_succ_eq_append_getElem hi
    refine Ev.step (f := fun k => (concordatref02_Check.f k l[i].f0 l[i].f1 l[i].f2 l[i].f3).bind fun t => (if t = true then (concordatref02_PutOps.l0 k l (wrap64 ((i : Int) + 1))) else (some (([] : List Int), 1)))) (fun k => ?_) ?_
    · simp only [concordatref02_PutOps.l0]
      rw [if_pos (by omega), if_pos (by omega), hrd]
    · refine Ev.bind (ev_ref2Check l[i] (hs _ (List.getElem_mem _)).1 (hs _ (List.getElem_mem _)).2) ?_
      cases hk : mayOp l[i] with
      | false =>
        simp only [Bool.false_eq_true, if_false]
        have h : opE l[i] = 1 := by simp [opE, hk]
        exact ev_const (by rw [hr1 (by rw [List.any_eq_true]; exact ⟨l[i], List.getElem_mem _, by simp [h]⟩)])
      | true =>
        simp only [if_true]
        have h : opE l[i] ≠ 1 := by simp [opE, hk]
        rw [wrap_id _ (by omega) (by omega)]
        refine ih (i + 1) (by omega) (by omega) ?_ r hr1 hr2
        rw [htk]
        intro x hx
        rcases List.mem_append.1 hx with hx | hx
        · exact hp x hx
        · rw [List.mem_singleton.1 hx]; exact h
theorem refOps_put (l : List OpT) (hl : l.length ≤ 1000000) (hw : ∀ x ∈ l, opOk x) (hok : ∀ x ∈ l, opE x = 0) (d : Nat) : ∀ (b : List Int) (i : Nat), i ≤ l.length → l.length - i = d → b.length + 64 * (l.length - i) + 64 < 140737488355328 →
    Ev (fun k => concordatref02_PutOps.l1 k l b (i : Int)) (b ++ (l.drop i).flatMap opB, 0) := by
  induction d with
  | zero =>
    intro b i h0 h1 hb
    refine Ev.step (f := fun _ => some (b, 0)) (fun k => ?_) ?_
    · simp only [concordatref02_PutOps.l1]
      rw [if_neg (by omega)]
    · refine ev_const ?_
      rw [List.drop_eq_nil_of_le (by omega)]
      simp
  | succ d ih =>
    intro b i h0 h1 hb
    have hi : i < l.length := by omega
    have hrd : rd_T82 l (i : Int) = l[i] := by simp [rd_T82, hi]
    have hoi := hok l[i] (List.getElem_mem _)
    have hz := op_sizes l[i] hoi
    refine Ev.step (f := fun k => concordatref02_PutOps.l1 k l (b ++ opB l[i]) (wrap64 ((i : Int) + 1))) (fun k => ?_) ?_
    · simp only [concordatref02_PutOps.l1]
      rw [if_pos (by omega), if_pos (by omega), if_pos (by omega), hrd, refText_eq _ (by omega), refText_eq _ (by omega), refNumber_eq _ (hw _ (List.getElem_mem _)).2]
      simp only [Option.bind_some]
      rw [if_pos (by simp [textB_length]; omega), if_pos (by simp [textB_length]; omega), if_pos (by simp [textB_length, num4_length]; omega)]
      simp [opB]
    · rw [wrap_id _ (by omega) (by omega)]
      have hlen := op_len l[i] hoi
      refine ev_eq ?_ (ih (b ++ opB l[i]) (i + 1) (by omega) (by omega) (by rw [List.length_append]; omega))
      rw [List.drop_eq_getElem_cons hi, List.flatMap_cons]
      simp only [List.append_assoc]
theorem ev_refPutOps (l : List OpT) (hl : l.length ≤ 1000000) (hs : ∀ x ∈ l, x.f1.size ≤ 140737488351232 ∧ x.f2.size ≤ 140737488351232) (hw : ∀ x ∈ l, opOk x) : Ev (fun k => concordatref02_PutOps.f k l) (putOps l) := by
  unfold concordatref02_PutOps.f
  refine refOps_scan l (by omega) hs l.length 0 (by omega) (by omega) (by simp) _ ?_ ?_
  · intro h
    unfold putOps putList
    rw [if_pos h]
  · intro h
    have h3 : l.any (fun x => opE x == 3) = false := by
      rw [List.any_eq_false]
      intro x _
      unfold opE
      split <;> simp
    unfold putOps putList
    rw [h, h3]
    by_cases hm : (l.length : Int) > 16
    · have hm' : 16 < l.length := by omega
      simp only [if_pos hm]
      refine ev_const ?_
      simp [hm']
    · have hm' : ¬ 16 < l.length := by omega
      simp only [if_neg hm]
      rw [refCount_eq _ (by omega) (by omega)]
      simp only [Option.bind_some]
      have hok : ∀ x ∈ l, opE x = 0 := by
        intro x hx
        rw [List.any_eq_false] at h
        have a1 := h x hx
        simp at a1
        unfold opE at *; split at a1 <;> simp_all
      refine ev_eq ?_ (refOps_put l hl hw hok l.length (num2 l.length) 0 (by omega) (by omega) (by simp [num2_length]; omega))
      simp [hm']
end Go.Proofs.YtcohodkpppmaoaaGreatDoor.Q
namespace Go.Proofs.YtcohodkpppmaoaaGreatDoor.Q
open Go.RowKit Go.Proofs.YtcohodkpppmaoaaGreatDoorW.PrintWords Go.Proofs.YtcohodkpppmaoaaGreatDoorW.PrintLast Go.Proofs.YtcohodkpppmaoaaGreatDoorW.PrintMore
set_option linter.unusedVariables false
set_option maxHeartbeats 3200000 in
set_option maxRecDepth 100000 in
theorem concordatref02_GetOps.calls (A0 : Option Addr) (c0 : Nat) (l0 : List Int) (w : World) (hr0 : Kd.C (Kd.int .u8) w A0 l0.length l0) (hc0 : l0.length ≤ c0) (hby : ∀ x ∈ l0, 0 ≤ x ∧ x < 256) :
    Calls Tryz.prog 45 #[.slice A0 l0.length c0] w fun e w' => ∃ v0_ : Value, e = .returned (.tuple #[v0_, .int .i64 (getR opR opS putOps l0).2]) ∧ Kd.R k82 82 w' w.heap.size (fun _ => True) v0_ (getR opR opS putOps l0).1 ∧ Below w.heap.size w w' := by
  rw [← getQ_ops l0 hby]
  obtain ⟨m, hm⟩ : ∃ m : Nat, numQ (l0, false) 2 = m := ⟨(numQ (l0, false) 2).toNat, by have := numQ_range (l0, false) 2; omega⟩
  have hm' : m < 65536 := by
    obtain ⟨a, b, _, hn, h0, h2⟩ := numQ_two (s := (l0, false)) hby
    omega
  have e1 : sevQ opQ opQS (l0, false) = sevN opQ opQS m (takeQS (l0, false) 2) := by unfold sevQ; rw [hm]; rfl
  have e2 : sevQS opQ opQS (l0, false) = sevNS opQ opQS m (takeQS (l0, false) 2) := by unfold sevQS; rw [hm]; rfl
  have hB2 : Bts (takeQS (l0, false) 2) := Bts.takeQ (show Bts (l0, false) from hby) 2
  have hall : ∀ x ∈ sevN opQ opQS m (takeQS (l0, false) 2), x.f1.size ≤ 255 ∧ x.f2.size ≤ 255 ∧ opOk x := sevN_all (p := fun x => x.f1.size ≤ 255 ∧ x.f2.size ≤ 255 ∧ opOk x) (fun _ h => h.opQ) (fun s hs => ⟨textQ_small (hs.takeQ 1), textQ_small (hs.takeQ 1).textQ, opQ_ok hs⟩) m _ hB2
  have hlen := sevN_short opQ opQS m (takeQS (l0, false) 2)
  unfold getQ
  rw [e1, e2]
  obtain ⟨L, hL⟩ : ∃ L, L = sevN opQ opQS m (takeQS (l0, false) 2) := ⟨_, rfl⟩
  obtain ⟨SF, hSF⟩ : ∃ SF, SF = sevNS opQ opQS m (takeQS (l0, false) 2) := ⟨_, rfl⟩
  rw [← hL] at hall hlen ⊢
  rw [← hSF]
  obtain ⟨kp, hkp⟩ := (ev_refPutOps L (by omega) (fun x hx => by have := (hall x hx).1; have := (hall x hx).2.1; exact ⟨by omega, by omega⟩) (fun x hx => (hall x hx).2.2)).rounds
  generalize putOps L = q at *
  obtain ⟨pb, pe⟩ := q
  dsimp only
  have HKP := Aside0.mk hkp
  have HBY := Aside0.mk hby
  have HC := Aside0.mk hr0
  have HL := Aside0.mk hL
  have HSF := Aside0.mk hSF
  have HM := Aside0.mk hm
  have HMX := Aside0.mk (show l0.length ≤ maxLen from Kd.C_max hr0)
  have HLN := Aside0.mk hlen
  clear hkp hby hr0 hL hSF hm hall hlen e1 e2 hB2
  have hu := Tryz.underlying134
  have huc := Tryz.underlying82
  go_enter Tryz.func45, Tryz.ntmps45
  go_wp2_with fail
  have HA := Aside0.mk (show Rf w (w.alloc (.cells #[.slice A0 l0.length c0, .bool false] 134)) w.heap.size (l0, false) from ⟨below_alloc (Below.refl _ _) _, Nat.le_refl _, ⟨A0, c0, blk_new w _, hc0, HMX.out, HC.out⟩, HBY.out⟩)
  refine (countQ_calls w _ w.heap.size (l0, false) HA.out).mono ?_
  rintro e w1 ⟨rfl, hR, hK⟩
  rw [HM.out]
  have R1 := Aside0.mk hR
  clear hR hK HA
  go_wp2
  go_loopw [5, 6] (fun v n wr => ∃ (j : Nat) (sj : RdS) (xs : List S82), n = .int .i64 j ∧ j ≤ m ∧ Aside0 (xs.length + j ≤ m) ∧ Aside0 (L = xs ++ sevN opQ opQS j sj) ∧ Aside0 (SF = sevNS opQ opQS j sj) ∧ Aside0 (Kd.R k82 82 wr w.heap.size (fun k => k ≠ w.heap.size) v xs) ∧ Aside0 (Rf w wr w.heap.size sj)) (fun _ n _ => (intOf n).toNat)
  case atStart => exact ⟨m, _, [], rfl, Nat.le_refl _, ⟨by simp⟩, HL, HSF, ⟨Kd.R_nil _ _ _ _ _⟩, R1⟩
  case round =>
    clear R1
    obtain ⟨wq, hwq⟩ : ∃ wq, wq = wr := ⟨_, rfl⟩
    subst hwq
    obtain ⟨j, sj, xs, rfl, hj, HLJ, E1, E2, HO, HR⟩ := hrel
    have hszw : w.heap.size ≤ wq.heap.size := HR.out.below.size
    have hgl : w.heap.size < wq.heap.size := by
      obtain ⟨A, c, hrow, _⟩ := HR.out.row
      exact blk_lt hrow
    obtain ⟨Arw, crw, hrow, _⟩ := HR.out.row
    have hcs : wq.cell? ⟨w.heap.size, 1, none⟩ = some (.bool sj.2) := blk_cell hrow 1
    have HRW := Aside0.mk hrow
    clear hrow
    obtain ⟨Av, cv, rfl, hcv, hCv⟩ := Kd.R_reads HO.out
    have HCV := Aside0.mk hCv
    clear hCv
    by_cases hex : j = 0 ∨ sj.2 = true
    · have eL : L = xs := by
        rw [E1.out]
        rcases hex with rfl | hb
        · simp [sevN]
        · cases j with
          | zero => simp [sevN]
          | succ j => simp [sevN, hb]
      have eS : SF = sj := by
        rw [E2.out]
        rcases hex with rfl | hb
        · rfl
        · cases j with
          | zero => rfl
          | succ j => simp [sevNS, hb]
      subst eL eS
      clear E1 E2 HL HSF
      rcases hex with rfl | hbad
      · go_wp2_with fail
        refine (concordatref02_PutOps.calls kp Av cv L pb pe wq HCV.out hcv HKP.out).mono ?_
        rintro e w4 ⟨v4, rfl, hO4, hB4⟩
        obtain ⟨A4, c4, rfl, hc4, hC4⟩ := Kd.R_reads hO4
        have HO4 := Aside0.mk (Kd.R_below HO.out hB4)
        have HR4 := Aside0.mk (HR.out.grown hB4)
        obtain ⟨Ar, cr, hrow4, _⟩ := HR4.out.row
        have hcs4 : w4.cell? ⟨w.heap.size, 1, none⟩ = some (.bool SF.2) := blk_cell hrow4 1
        have HC4 := Aside0.mk hC4
        have HA4 := Aside0.mk (Kd.C_below HC.out HR4.out.below)
        clear hO4 hrow4 hC4 hB4
        cases hsh : SF.2 with
        | true =>
          rw [hsh] at hcs4
          go_wp2
          go_ret2
          exact ⟨_, rfl, Kd.R_nil _ _ _ _ _, HR4.out.below⟩
        | false =>
          rw [hsh] at hcs4
          by_cases hpe : pe = 0
          · subst hpe
            go_wp2_with fail
            refine (sameQ_calls A0 c0 l0 A4 c4 pb w4 HA4.out HC4.out).mono ?_
            rintro e _ ⟨rfl, rfl⟩
            cases heq : ((strOfNums l0).toList == (strOfNums pb).toList) with
            | true =>
              go_wp2
              go_ret2
              exact ⟨_, rfl, Kd.R_mono HO4.out (fun _ _ => trivial), HR4.out.below⟩
            | false =>
              go_wp2
              go_ret2
              exact ⟨_, rfl, Kd.R_nil _ _ _ _ _, HR4.out.below⟩
          · have hpeb : (pe != 0) = true := by simpa using hpe
            go_wp2
            all_goals
              go_ret2
              exact ⟨_, rfl, Kd.R_nil _ _ _ _ _, HR4.out.below⟩
      · rw [hbad] at hcs
        by_cases hj0 : j = 0
        · subst hj0
          go_wp2_with fail
          refine (concordatref02_PutOps.calls kp Av cv L pb pe wq HCV.out hcv HKP.out).mono ?_
          rintro e w4 ⟨v4, rfl, hO4, hB4⟩
          obtain ⟨A4, c4, rfl, hc4, hC4⟩ := Kd.R_reads hO4
          have HO4 := Aside0.mk (Kd.R_below HO.out hB4)
          have HR4 := Aside0.mk (HR.out.grown hB4)
          obtain ⟨Ar, cr, hrow4, _⟩ := HR4.out.row
          have hcs4 : w4.cell? ⟨w.heap.size, 1, none⟩ = some (.bool SF.2) := blk_cell hrow4 1
          have HC4 := Aside0.mk hC4
          have HA4 := Aside0.mk (Kd.C_below HC.out HR4.out.below)
          clear hO4 hrow4 hC4 hB4
          rw [hbad] at hcs4
          go_wp2
          go_ret2
          exact ⟨_, rfl, Kd.R_nil _ _ _ _ _, HR4.out.below⟩
        · have hjp : (0 : Int) < (j : Int) := by omega
          go_wp2_with fail
          refine (concordatref02_PutOps.calls kp Av cv L pb pe wq HCV.out hcv HKP.out).mono ?_
          rintro e w4 ⟨v4, rfl, hO4, hB4⟩
          obtain ⟨A4, c4, rfl, hc4, hC4⟩ := Kd.R_reads hO4
          have HO4 := Aside0.mk (Kd.R_below HO.out hB4)
          have HR4 := Aside0.mk (HR.out.grown hB4)
          obtain ⟨Ar, cr, hrow4, _⟩ := HR4.out.row
          have hcs4 : w4.cell? ⟨w.heap.size, 1, none⟩ = some (.bool SF.2) := blk_cell hrow4 1
          have HC4 := Aside0.mk hC4
          have HA4 := Aside0.mk (Kd.C_below HC.out HR4.out.below)
          clear hO4 hrow4 hC4 hB4
          rw [hbad] at hcs4
          go_wp2
          go_ret2
          exact ⟨_, rfl, Kd.R_nil _ _ _ _ _, HR4.out.below⟩
    · obtain ⟨i, rfl⟩ : ∃ i, j = i + 1 := ⟨j - 1, by omega⟩
      have hbad : sj.2 = false := by simpa using fun h => hex (.inr h)
      rw [hbad] at hcs
      have q1 : sevN opQ opQS (i + 1) sj = opQ sj :: sevN opQ opQS i (opQS sj) := by rw [sevN, if_neg (by rw [hbad]; decide)]
      have q2 : sevNS opQ opQS (i + 1) sj = sevNS opQ opQS i (opQS sj) := by rw [sevNS, if_neg (by rw [hbad]; decide)]
      rw [q1] at E1
      rw [q2] at E2
      clear q1 q2 hex
      have hjp : (0 : Int) < ((i + 1 : Nat) : Int) := by omega
      go_wp2_with fail
      refine (takeQ_calls w _ w.heap.size sj 1 (by omega) HR.out).mono ?_
      rintro e w2 ⟨A3, c3, rfl, hc3, hC3, hR, hK⟩
      obtain ⟨a, hta, hna, a0, a1⟩ := numQ_one HR.out.bytes
      rw [hta] at hC3
      obtain ⟨ad, rfl, hx0⟩ := nth_int hC3 0 (by decide)
      simp only [List.getD_cons_zero, adr0] at hx0
      have HNA := Aside0.mk hna
      have hO2 := Kd.R_mono (Kd.R_bound (R_rd HO.out hK)) (fun k (hk : (k ≠ w.heap.size) ∧ w.heap.size ≤ k ∧ k < w2.heap.size ∧ _) => (show k ≠ w.heap.size ∧ k < w2.heap.size from ⟨hk.1, hk.2.2.1⟩))
      have hl2 : w.heap.size < w2.heap.size := Nat.lt_of_lt_of_le hgl hK.1
      have hba := below_alloc (Below.refl w2.heap.size w2) (.cells #[.int .u8 a, .string ⟨#[]⟩, .string ⟨#[]⟩, .int .u32 0] 82)
      have hbn := Aside0.mk (blk_new w2 (.cells #[.int .u8 a, .string ⟨#[]⟩, .string ⟨#[]⟩, .int .u32 0] 82))
      have RA := Aside0.mk (hR.grown hba)
      have HOA := Aside0.mk (Kd.R_below hO2 hba)
      clear hba hO2 HO HCV hta hna hC3 hR hK hcs
      go_wp2_with fail
      clear hx0
      refine (textQ_calls w _ w.heap.size _ RA.out).mono ?_
      rintro e w3 ⟨rfl, hR, hK⟩
      obtain ⟨t1, ht1⟩ : ∃ t1, t1 = textQ (takeQS sj 1) := ⟨_, rfl⟩
      rw [← ht1]
      have HT1 := Aside0.mk ht1
      have B3 := keep_cells hbn.out (by omega) hK
      have R3 := Aside0.mk (hR.set (b := w2.heap.size) (by omega) (by omega) 1 (.string t1))
      have HO3 := Aside0.mk (Kd.R_far (p := ⟨w2.heap.size, 1, none⟩) (Kd.R_keep HOA.out hK (fun _ hk => hk.1)) (fun k hk => by show k ≠ w2.heap.size; omega) (.string t1))
      obtain ⟨⟨c0', c1', c2', c3'⟩, f0, f1, f2, f3⟩ := blk4 B3
      have B3' := Aside0.mk (blk_put B3 1 (.string t1) (cs' := #[.int .u8 a, .string t1, .string ⟨#[]⟩, .int .u32 0]) rfl)
      clear hR hK B3 HOA RA hbn ht1
      go_wp2_with fail
      clear c0' c1' c2' c3' f0 f1 f2 f3
      refine (textQ_calls w _ w.heap.size _ R3.out).mono ?_
      rintro e w4 ⟨rfl, hR, hK⟩
      obtain ⟨t2, ht2⟩ : ∃ t2, t2 = textQ (textQS (takeQS sj 1)) := ⟨_, rfl⟩
      rw [← ht2]
      have HT2 := Aside0.mk ht2
      have B4 := keep_cells B3'.out (by omega) hK
      have R4 := Aside0.mk (hR.set (b := w2.heap.size) (by omega) (by omega) 2 (.string t2))
      have HO4 := Aside0.mk (Kd.R_far (p := ⟨w2.heap.size, 2, none⟩) (Kd.R_keep HO3.out hK (fun _ hk => hk.1)) (fun k hk => by show k ≠ w2.heap.size; omega) (.string t2))
      obtain ⟨⟨c0', c1', c2', c3'⟩, f0, f1, f2, f3⟩ := blk4 B4
      have B4' := Aside0.mk (blk_put B4 2 (.string t2) (cs' := #[.int .u8 a, .string t1, .string t2, .int .u32 0]) rfl)
      clear hR hK B4 HO3 R3 B3' ht2
      go_wp2_with fail
      clear c0' c1' c2' c3' f0 f1 f2 f3
      refine (numberQ_calls w _ w.heap.size _ R4.out).mono ?_
      rintro e w5 ⟨rfl, hR, hK⟩
      obtain ⟨n, hn⟩ : ∃ n, n = numQ (textQS (textQS (takeQS sj 1))) 4 := ⟨_, rfl⟩
      rw [← hn]
      have HX := Aside0.mk (show opQ sj = ⟨a, t1, t2, n⟩ by unfold opQ; rw [← hn, HNA.out, ← HT1.out, ← HT2.out])
      have B5 := keep_cells B4'.out (by omega) hK
      have R5 := Aside0.mk (show Rf w (w5.setCell ⟨w2.heap.size, 3, none⟩ (.int .u32 n)) w.heap.size (opQS sj) from hR.set (b := w2.heap.size) (by omega) (by omega) 3 (.int .u32 n))
      have HO5 := Aside0.mk (Kd.R_mono (Kd.R_far (p := ⟨w2.heap.size, 3, none⟩) (Kd.R_keep HO4.out hK (fun _ hk => hk.1)) (fun k hk => by show k ≠ w2.heap.size; omega) (.int .u32 n)) (fun k hk => (show k ≠ w.heap.size from hk.1)))
      have hs4 : w.heap.size ≤ (w5.setCell ⟨w2.heap.size, 3, none⟩ (.int .u32 n)).heap.size := R5.out.below.size
      have hs5 : w.heap.size < (w5.setCell ⟨w2.heap.size, 3, none⟩ (.int .u32 n)).heap.size := by
        obtain ⟨_, _, hrow, _⟩ := R5.out.row
        exact blk_lt hrow
      obtain ⟨⟨c0', c1', c2', c3'⟩, f0, f1, f2, f3⟩ := blk4 B5
      clear hR hK B4' HO4 R4 hn B5 HT1 HT2 HNA
      go_wp2_with (first | (at_builtin; refine Kd.R_append k82 (w0 := w5.setCell ⟨w2.heap.size, 3, none⟩ (.int .u32 n)) w.heap.size rfl (.tmp 40) (.tmp 42) 47 82 (.agg #[.int .u8 0, .string ⟨#[]⟩, .string ⟨#[]⟩, .int .u32 0]) 48 rfl Tryz.underlying47 (by kernel_rfl) rfl (by decide) (by decide) (.slice Av xs.length cv) xs ⟨a, t1, t2, n⟩ [.int .u8 a, .string t1, .string t2, .int .u32 n] (fun k => k ≠ w.heap.size) (fun _ => False) (by simp [Act.eval, Act.put]) (by simp [Act.eval, Act.put, World.setCell]) (k82_mkM _ _ _ _) (fun _ hk => hk.elim) (fun k hk => by omega) HO5.out (Below.refl _ _) hs4 (by have := HLJ.out; omega) ?_; intro v1 w6 hO hB hG hat; have HO6 := Aside0.mk hO; have HB6 := Aside0.mk hB; have HG6 := Aside0.mk hG; clear hO hB hG hat))
      go_roundw
      case rel =>
        have hown : ∀ k, (Value.slice Av xs.length cv).ownBlock = some k → k ≠ w.heap.size := fun k hk => (Kd.R_bound HO5.out).1 k hk |>.1
        refine ⟨i, opQS sj, xs ++ [⟨a, t1, t2, n⟩], by go_num, by omega, ⟨by have := HLJ.out; rw [List.length_append]; simp; omega⟩, ⟨by rw [E1.out, HX.out, List.append_assoc]; rfl⟩, E2, HO6, ⟨?_⟩⟩
        exact R5.out.grownBy (R5.out.below.trans (HB6.out.mono (Nat.le_refl _))) HG6.out hown
      case measure => simp [intOf]
end Go.Proofs.YtcohodkpppmaoaaGreatDoor.Q
namespace Go.Proofs.YtcohodkpppmaoaaGreatDoor.Q
open Go.RowKit Go.Proofs.YtcohodkpppmaoaaGreatDoorW.PrintWords Go.Proofs.YtcohodkpppmaoaaGreatDoorW.PrintLast Go.Proofs.YtcohodkpppmaoaaGreatDoorW.PrintMore
set_option linter.unusedVariables false
section
variable {w : World} {base : Nat} {ok : Nat → Prop} {v : Value}
theorem R_C {α : Type} {d : Kd α} {e n c : Nat} {A : Option Addr} {xs : List α} (h : Kd.R d e w base ok (.slice A n c) xs) : d.C w A xs.length xs := by
  obtain ⟨A', c', ev, _, hC⟩ := Kd.R_reads h
  injection ev with e1 _ _
  subst e1
  exact hC
theorem R_owns {α : Type} {d : Kd α} {e n c : Nat} {A : Option Addr} {xs : List α} (h : Kd.R d e w base ok (.slice A n c) xs) : ∃ inner, w.ownsRow 0 e d.sz (.slice A n c) xs.length inner := by
  obtain ⟨_, inner, ho, hr⟩ := h
  exact ⟨inner, own_less ho (Nat.zero_le _)⟩
end
end Go.Proofs.YtcohodkpppmaoaaGreatDoor.Q
namespace Go.Proofs.YtcohodkpppmaoaaGreatDoor.Q
open Go.RowKit Go.Proofs.YtcohodkpppmaoaaGreatDoorW.PrintWords Go.Proofs.YtcohodkpppmaoaaGreatDoorW.PrintLast Go.Proofs.YtcohodkpppmaoaaGreatDoorW.PrintMore
set_option linter.unusedVariables false
theorem sameOps_self (l : List OpT) (hl : l.length ≤ 9223372036854775807) (d : Nat) : ∀ i : Nat, i ≤ l.length → l.length - i = d → Ev (fun k => concordatlaw01_SameOps.l0 k l l (i : Int)) true := by
  induction d with
  | zero =>
    intro i h0 h1
    refine Ev.step (f := fun _ => some true) (fun k => ?_) (Ev.now _)
    simp only [concordatlaw01_SameOps.l0]
    rw [if_neg (by omega)]
  | succ d ih =>
    intro i h0 h1
    refine Ev.step (f := fun k => concordatlaw01_SameOps.l0 k l l (wrap64 ((i : Int) + 1))) (fun k => ?_) ?_
    · simp only [concordatlaw01_SameOps.l0]
      rw [if_pos (by omega), if_pos (by omega), if_pos (by omega), if_neg (by simp)]
    · rw [wrap_id _ (by omega) (by omega)]
      exact ih (i + 1) (by omega) (by omega)
theorem ev_sameOps (l : List OpT) (hl : l.length ≤ 9223372036854775807) : Ev (fun k => concordatlaw01_SameOps.f k l l) true := by
  unfold concordatlaw01_SameOps.f
  simp only [if_true]
  exact sameOps_self l hl l.length 0 (by omega) (by omega)
def many : Nat := 140737488351232
theorem opsSize_from (l : List OpT) (hl : l.length ≤ many) (hs : ∀ x ∈ l, x.f1.size ≤ many ∧ x.f2.size ≤ many) (d : Nat) : ∀ (i : Nat) (n : Int), i ≤ l.length → l.length - i = d → 0 ≤ n → n ≤ 1000000000000000 → ∃ s, Ev (fun k => concordatlaw01_OpsSize.l0 k l n (i : Int)) s ∧ n ≤ s := by
  unfold many at *
  induction d with
  | zero =>
    intro i n h0 h1 h2 h3
    refine ⟨n, Ev.step (f := fun _ => some n) (fun k => ?_) (Ev.now _), Int.le_refl _⟩
    simp only [concordatlaw01_OpsSize.l0]
    rw [if_neg (by omega)]
  | succ d ih =>
    intro i n h0 h1 h2 h3
    have hi : i < l.length := by omega
    have hm : rd_T82 l i ∈ l := by
      unfold rd_T82
      rw [Int.toNat_natCast, List.getD_eq_getElem?_getD, List.getElem?_eq_getElem hi]
      exact List.getElem_mem _
    have hb := hs _ hm
    by_cases c : n ≤ 1048576
    · obtain ⟨s, he, hle⟩ := ih (i + 1) (n + ((rd_T82 l i).f1.size : Int) + ((rd_T82 l i).f2.size : Int)) (by omega) (by omega) (by omega) (by omega)
      refine ⟨s, Ev.step (f := fun k => concordatlaw01_OpsSize.l0 k l (n + ((rd_T82 l i).f1.size : Int) + ((rd_T82 l i).f2.size : Int)) ((i + 1 : Nat) : Int)) (fun k => ?_) he, by omega⟩
      simp only [concordatlaw01_OpsSize.l0]
      rw [if_pos (by omega), if_pos c, if_pos (by omega), wrap_id (n + _) (by omega) (by omega), wrap_id _ (by omega) (by omega), wrap_id _ (by omega) (by omega)]
      rfl
    · refine ⟨n, Ev.step (f := fun _ => some n) (fun k => ?_) (Ev.now _), Int.le_refl _⟩
      simp only [concordatlaw01_OpsSize.l0]
      rw [if_pos (by omega), if_neg c]
theorem ev_OpsSize (l : List OpT) (hl : l.length ≤ many) (hs : ∀ x ∈ l, x.f1.size ≤ many ∧ x.f2.size ≤ many) : ∃ s, Ev (fun k => concordatlaw01_OpsSize.f k l) s ∧ (l.length : Int) ≤ s :=
  opsSize_from l hl hs l.length 0 l.length (by omega) (by omega) (by omega) (by unfold many at hl; omega)
end Go.Proofs.YtcohodkpppmaoaaGreatDoor.Q
namespace Go.Proofs.YtcohodkpppmaoaaGreatDoor.Q
open Go.RowKit Go.Proofs.YtcohodkpppmaoaaGreatDoorW.PrintWords Go.Proofs.YtcohodkpppmaoaaGreatDoorW.PrintLast Go.Proofs.YtcohodkpppmaoaaGreatDoorW.PrintMore
set_option linter.unusedVariables false
theorem ev_same {a b : List Int} (h : a = b) (hl : a.length ≤ 9223372036854775807) : Ev (fun k => concordatlaw01_SameBytes.f k a b) true := ev_eq (decide_eq_true h) (ev_SameBytes a b hl)

end Go.Proofs.YtcohodkpppmaoaaGreatDoor.Q
namespace Go.Proofs.YtcohodkpppmaoaaGreatDoor.Q
open Go.RowKit Go.Proofs.YtcohodkpppmaoaaGreatDoorW.PrintWords Go.Proofs.YtcohodkpppmaoaaGreatDoorW.PrintLast Go.Proofs.YtcohodkpppmaoaaGreatDoorW.PrintMore
set_option linter.unusedVariables false
def spareKey : ByteArray := ⟨#[115, 112, 97, 114, 101]⟩
/-- The list's value, and behind it, in the same row, a mark. -/
def Twin {α : Type} (d : Fd α) (e : Nat) (w : World) (F : List Nat) (v : Value) (xs : List α) (sp : α) : Prop :=
  ∃ A c, v = .slice A xs.length c ∧ xs.length + 1 ≤ c ∧ Fd.Row d e w F (.slice A (xs.length + 1) c) (xs ++ [sp])
section
variable {α : Type} {d : Fd α} {e : Nat} {w w1 : World} {F G : List Nat} {v : Value} {xs : List α} {sp : α}
theorem Twin.keeps (h : Twin d e w F v xs sp) (hk : Keeps G w w1) (hd : ∀ b ∈ F, b ∉ G) : Twin d e w1 F v xs sp := by
  obtain ⟨A, c, h1, h2, h3⟩ := h
  exact ⟨A, c, h1, h2, Fd.row_keeps h3 hk hd⟩
theorem Twin.below (h : Twin d e w F v xs sp) (hb : Below w.heap.size w w1) : Twin d e w1 F v xs sp := h.keeps (Keeps.of_below hb []) (fun _ _ hx => by cases hx)
theorem Twin.lt (h : Twin d e w F v xs sp) : ∀ b ∈ F, b < w.heap.size := by
  obtain ⟨A, c, h1, h2, h3⟩ := h
  exact Fd.row_lt h3
theorem C_front {k : Kd α} {A : Option Addr} {n : Nat} {ys : List α} (h : k.C w A n (xs ++ ys)) : k.C w A xs.length xs := by
  obtain rfl : (xs ++ ys).length = n := h.1
  have h1 := Kd.C_take (xs := xs ++ ys) h (m := xs.length) (by rw [List.length_append]; omega)
  rwa [List.take_left' rfl] at h1
/-- As it is read. -/
theorem Twin.reads (h : Twin d e w F v xs sp) : ∃ A c, v = .slice A xs.length c ∧ xs.length + 1 ≤ c ∧ d.k.C w A xs.length xs ∧ d.k.C w A (xs.length + 1) (xs ++ [sp]) := by
  obtain ⟨A, c, rfl, h2, h3⟩ := h
  obtain ⟨A', c', ev, hc, hC⟩ := Fd.row_reads h3
  injection ev with e1 _ e3
  subst e1
  rw [List.length_append, List.length_singleton] at hC
  exact ⟨A, c, rfl, h2, C_front hC, hC⟩
theorem Twin.c {A : Option Addr} {n c : Nat} (h : Twin d e w F (.slice A n c) xs sp) : d.k.C w A xs.length xs ∧ d.k.C w A (xs.length + 1) (xs ++ [sp]) ∧ xs.length + 1 ≤ c := by
  obtain ⟨A', c', ev, h1, h2, h3⟩ := h.reads
  injection ev with e1 _ e3
  subst e1 e3
  exact ⟨h2, h3, h1⟩
theorem Twin.owns {A : Option Addr} {n c : Nat} (h : Twin d e w F (.slice A n c) xs sp) : ∃ inner, w.ownsRow 0 e d.k.sz (.slice A xs.length c) xs.length inner := by
  obtain ⟨A', c', ev, h2, inner, G, ho, he, rfl⟩ := h
  injection ev with e1 _ e3
  subst e1 e3
  rw [List.length_append, List.length_singleton] at ho
  exact ⟨_, own_take ho (Nat.le_succ _)⟩
theorem Twin.blk {A : Option Addr} {n c : Nat} (h : Twin d e w F (.slice A n c) xs sp) : ∀ b ∈ (Value.slice A n c).ownBlock.toList, b ∈ F := by
  obtain ⟨A', c', ev, h2, inner, G, ho, he, rfl⟩ := h
  injection ev with e1 _ e3
  subst e1 e3
  exact fun b hb => List.mem_append_left _ (by cases A <;> simp [Value.ownBlock] at hb ⊢ <;> exact hb)
/-- Its row, as the book keeps it. -/
theorem Twin.own (h : Twin d e w F v xs sp) : ∃ A c inner, v = .slice A xs.length c ∧ w.ownsRow 0 e d.k.sz (.slice A xs.length c) xs.length inner ∧ ∀ b ∈ (Value.slice A xs.length c).ownBlock.toList, b ∈ F := by
  obtain ⟨A, c, rfl, h2, inner, G, ho, he, rfl⟩ := h
  rw [List.length_append, List.length_singleton] at ho
  exact ⟨A, c, _, rfl, own_take ho (Nat.le_succ _), fun b hb => List.mem_append_left _ (by cases A <;> simp [Value.ownBlock] at hb ⊢ <;> exact hb)⟩
end
section
variable {P : Program}
theorem cut_up (t e : TypeId) (kh : IntKind) (ht : P.underlying t = some (.slice e)) {z : Option Value} {size bytes : Nat} (hinfo : (P.info? e).map (fun i => (i.zero, i.size, i.bytes)) = some (z, size, bytes)) (A : Option Addr) (n c : Nat) (j : Int) (h0 : 0 ≤ j) (hm : j ≤ c) :
    ∀ W : World, (Instr.slice t (.slice A n c) none (some (.int kh j)) none).run P W = .ok (.slice A j.toNat c) W := by
  intro W
  obtain ⟨i, hi, _⟩ := Option.map_eq_some_iff.1 hinfo
  have hel : P.elem t = e := by simp [Program.elem, ht]
  have hu : P.underlying t = some (.slice (P.elem t)) := by rw [hel]; exact ht
  have ha : (A.map fun x => x.add 0) = A := by cases A <;> simp [Addr.add]
  rw [run_slice_h W t A n c hu kh j h0 (by omega), hel]
  simp [sizeOf, typeInfo, hi, sliced, Result.andThen, ha]
theorem run_make0 (t e : TypeId) (z : Value) (size bytes : Nat) (ht : P.underlying t = some (.slice e)) (hinfo : (P.info? e).map (fun i => (i.zero, i.size, i.bytes)) = some (some z, size, bytes)) (hb0 : 0 < bytes) (m : Nat) (hl : m * bytes ≤ 281474976710656) :
    ∀ W : World, (Instr.makeSlice t (.int .i64 0) (.int .i64 (m : Int))).run P W = .ok (.slice (some ⟨W.heap.size, 0, none⟩) 0 m) (W.alloc (.cells (madeCells z.cells (m * size)) e)) := by
  intro W
  obtain ⟨i0, hi, hzz⟩ := Option.map_eq_some_iff.1 hinfo
  simp only [Prod.mk.injEq] at hzz
  obtain ⟨hz0, hz1, hz2⟩ := hzz
  have hm : m ≤ 281474976710656 := Nat.le_trans (Nat.le_mul_of_pos_right _ hb0) hl
  have hr := run_make (P := P) W t e i0 z ht hi hz0 .i64 .i64 0 (m : Int) (by omega) (by omega)
    (by
      have h3 : ((i0.bytes * m : Nat) : Int) ≤ 281474976710656 := by rw [hz2, Nat.mul_comm]; omega
      rwa [Int.natCast_mul] at h3) (by omega)
  simp only [Int.toNat_natCast] at hr
  rw [hz1] at hr
  exact hr
theorem made0_row {α : Type} (d : Fd α) (e : Nat) (W : World) (cs : Array Value) (m : Nat) (hm : m ≤ 281474976710656) (hs : cs.size = m * d.k.sz) : Fd.Row d e (W.alloc (.cells cs e)) [W.heap.size] (.slice (some ⟨W.heap.size, 0, none⟩) 0 m) [] := by
  have h := World.ownsRow_lit (base := 0) (e := e) (size := d.k.sz) W cs m (Nat.zero_le _) (by unfold maxLen; omega) hs
  have h2 := own_take h (Nat.zero_le m)
  rw [Nat.zero_mul, List.take_zero] at h2
  exact ⟨[], [], h2, ⟨rfl, rfl⟩, rfl⟩
theorem madeCells_size (z : Array Value) (n : Nat) : (madeCells z n).size = n := by simp [madeCells]
end
end Go.Proofs.YtcohodkpppmaoaaGreatDoor.Q
namespace Go.Proofs.YtcohodkpppmaoaaGreatDoor.Q
open Go.RowKit Go.Proofs.YtcohodkpppmaoaaGreatDoorW.PrintWords Go.Proofs.YtcohodkpppmaoaaGreatDoorW.PrintLast Go.Proofs.YtcohodkpppmaoaaGreatDoorW.PrintMore
set_option linter.unusedVariables false
theorem infoTwBytes : (Tryz.prog.info? 5).map (fun i => (i.zero, i.size, i.bytes)) = some (some (.int .u8 0), 1, 1) := by kernel_rfl
theorem readBytes (l : List Int) (k : Nat) (hk : k < l.length) : l.take (k + 1) = l.take k ++ [rd l (k : Int)] := by
  rw [List.take_succ_eq_append_getElem hk]
  simp [rd, hk]
set_option maxHeartbeats 3200000 in
set_option maxRecDepth 100000 in
theorem twinBytes_calls (w : World) (A0 : Option Addr) (c0 : Nat) (l : List Int) (hr : Kd.C (Kd.int .u8) w A0 l.length l) (hc0 : l.length ≤ c0) (hl : l.length ≤ 1000000000) :
    Calls Tryz.prog 29 #[.slice A0 l.length c0] w fun e w' => ∃ v, e = .returned v ∧ ∃ F, Twin fdByte 5 w' F v l 77 ∧ F.Nodup ∧ (∀ b ∈ F, w.heap.size ≤ b) ∧ Below w.heap.size w w' := by
  obtain ⟨MC, hMS, HMK⟩ : ∃ MC : Array Value, MC.size = (l.length + 1) * 1 ∧ ∀ W : World, (Instr.makeSlice 67 (.int .i64 0) (.int .i64 ((l.length : Int) + 1))).run Tryz.prog W = .ok (.slice (some ⟨W.heap.size, 0, none⟩) 0 (l.length + 1)) (W.alloc (.cells MC 5)) := ⟨madeCells ((.int .u8 0) : Value).cells ((l.length + 1) * 1), madeCells_size _ _, fun W => by
    have h := run_make0 (P := Tryz.prog) 67 5 (.int .u8 0) 1 1 Tryz.underlying67 infoTwBytes (by decide) (l.length + 1) (by omega) W
    rwa [show ((l.length + 1 : Nat) : Int) = (l.length : Int) + 1 by omega] at h⟩
  have hw1 : IntKind.i64.wrap ((l.length : Int) + 1) = (l.length : Int) + 1 := IntWalk.i64_in _ (by omega)
  have HC := Aside0.mk hr
  have hul := Tryz.underlying5
  clear hr
  go_enter Tryz.func29, Tryz.ntmps29
  go_wp2
  obtain ⟨wo, hwo⟩ : ∃ wo, wo = w.alloc (.cells MC 5) := ⟨_, rfl⟩
  have HB0 := Aside0.mk (show Below w.heap.size w wo by rw [hwo]; exact below_alloc (Below.refl _ _) _)
  have HR0 := Aside0.mk (show Fd.Row fdByte 5 wo [w.heap.size] (.slice (some ⟨w.heap.size, 0, none⟩) 0 (l.length + 1)) [] by
    rw [hwo]; exact made0_row fdByte 5 w _ (l.length + 1) (by omega) hMS)
  rw [← hwo]
  clear hwo HMK
  go_loopw [3, 4] (fun v i wr => ∃ (k : Nat) (F : List Nat), k ≤ l.length ∧ i = .int .i64 k ∧ Aside0 (Fd.Row fdByte 5 wr F v (l.take k)) ∧ Aside0 F.Nodup ∧ Aside0 (∀ b ∈ F, w.heap.size ≤ b) ∧ Aside0 (Below w.heap.size w wr)) (fun _ i _ => l.length - (intOf i).toNat)
  case atStart => exact ⟨0, [w.heap.size], Nat.zero_le _, rfl, HR0, ⟨by simp⟩, ⟨by simp⟩, HB0⟩
  case round =>
    clear HR0 HB0
    obtain ⟨wq, hwq⟩ : ∃ wq, wq = wr := ⟨_, rfl⟩
    subst hwq
    obtain ⟨k, F, hk, rfl, HR, HN, HF, HB⟩ := hrel
    obtain ⟨Av, cv, ev, hcv, _⟩ := Fd.row_reads HR.out
    rw [List.length_take, Nat.min_eq_left hk] at ev hcv
    subst ev
    have hsz : w.heap.size ≤ wq.heap.size := HB.out.size
    by_cases hlt : k < l.length
    · have hlt' : (k : Int) < (l.length : Int) := by omega
      have hk0 : (0 : Int) ≤ (k : Int) := by omega
      obtain ⟨ad, e1, hx0⟩ := Kd.at_int (Kd.C_below HC.out HB.out) (k : Int) hk0 hlt'
      subst e1
      simp only [Int.toNat_natCast] at hx0
      have HTK := Aside0.mk (readBytes l k hlt)
      generalize rd l (k : Int) = x at *
      have HM := Aside0.mk (show fdByte.M wq [] x [.int .u8 x] from ⟨rfl, rfl⟩)
      go_wp2_with (first | (at_builtin; (refine Fd.R_append (W := wq) fdByte rfl (.tmp 15) (.tmp 20) 67 5 (.int .u8 0) 1 rfl Tryz.underlying67 infoTwBytes rfl (show 0 < 1 from by decide) (by decide) (.slice Av k cv) (l.take k) x [.int .u8 x] F [] rfl rfl HM.out HR.out (by rw [List.append_nil]; exact HN.out) (by rw [List.length_take]; omega) ?_); intro v1 w6 F6 h1 h2 h3 h4; have R6 := Aside0.mk h1; have N6 := Aside0.mk h2; have K6 := Aside0.mk h3; have L6 := Aside0.mk h4; clear h1 h2 h3 h4))
      go_roundw
      case rel =>
        refine ⟨k + 1, F6, by omega, by go_num, ⟨by rw [HTK.out]; exact R6.out⟩, N6, ⟨fun b hb => ?_⟩, ⟨HB.out.trans (K6.out.below HF.out hsz)⟩⟩
        rcases L6.out b hb with h | h | h
        · exact HF.out b h
        · cases h
        · omega
      case measure => simp [intOf]; omega
    · obtain rfl : k = l.length := by omega
      have hlt' : ¬ ((l.length : Int) < (l.length : Int)) := by omega
      have etk : l.take l.length = l := List.take_of_length_le (Nat.le_refl _)
      rw [etk] at HR
      have HM := Aside0.mk (show fdByte.M wq [] 77 [.int .u8 77] from ⟨rfl, rfl⟩)
      unfold spareKey at HM
      have HU := Aside0.mk infoTwBytes
      go_wp2_with (first | (at_builtin; (refine Fd.R_append (W := wq) fdByte rfl (.tmp 22) (.tmp 23) 67 5 (.int .u8 0) 1 rfl Tryz.underlying67 infoTwBytes rfl (show 0 < 1 from by decide) (by decide) (.slice Av l.length cv) l 77 [.int .u8 77] F [] rfl rfl HM.out HR.out (by rw [List.append_nil]; exact HN.out) (by omega) ?_); intro v1 w6 F6 h1 h2 h3 h4; obtain ⟨A2, c2, ev2, hc2, _⟩ := Fd.row_reads h1; rw [List.length_append, List.length_singleton] at ev2 hc2; subst ev2; have hcut := cut_up (P := Tryz.prog) 67 5 .i64 Tryz.underlying67 HU.out A2 (l.length + 1) c2 (l.length : Int) (by omega) (by omega); rw [Int.toNat_natCast] at hcut; have R6 := Aside0.mk h1; have N6 := Aside0.mk h2; have K6 := Aside0.mk h3; have L6 := Aside0.mk h4; clear h1 h2 h3 h4))
      go_ret
      refine ⟨_, rfl, F6, ⟨A2, c2, rfl, hc2, R6.out⟩, N6.out, fun b hb => ?_, HB.out.trans (K6.out.below HF.out hsz)⟩
      rcases L6.out b hb with h | h | h
      · exact HF.out b h
      · cases h
      · omega
theorem readLBytes (l : List Int) (k : Nat) (hk : k < l.length) : rd (l ++ [77]) (k : Int) = rd l (k : Int) := by
  simp [rd, List.getElem?_append_left hk]
theorem readSBytes (l : List Int) : rd (l ++ [77]) (l.length : Int) = 77 := by
  simp [rd]
set_option maxHeartbeats 3200000 in
set_option maxRecDepth 100000 in
theorem leftBytes_calls (w : World) (At : Option Addr) (ct : Nat) (A0 : Option Addr) (c0 : Nat) (l : List Int) (ht : Kd.C (Kd.int .u8) w At (l.length + 1) (l ++ [77])) (hct : l.length + 1 ≤ ct) (hr : Kd.C (Kd.int .u8) w A0 l.length l) (hc0 : l.length ≤ c0) (hl : l.length ≤ 1000000000) :
    Calls Tryz.prog 37 #[.slice At l.length ct, .slice A0 l.length c0] w fun e w' => e = .returned (.bool true) ∧ Below w.heap.size w w' := by
  have hw1 : IntKind.i64.wrap ((l.length : Int) + 1) = (l.length : Int) + 1 := IntWalk.i64_in _ (by omega)
  have hcap : ¬ ((ct : Int) ≤ (l.length : Int)) := by omega
  have hcut := cut_up (P := Tryz.prog) 67 5 .i64 Tryz.underlying67 infoTwBytes At l.length ct ((l.length : Int) + 1) (by omega) (by omega)
  rw [show ((l.length : Int) + 1).toNat = l.length + 1 by omega] at hcut
  have hul := Tryz.underlying5
  have HT := Aside0.mk ht
  have HC := Aside0.mk hr
  clear ht hr
  go_enter Tryz.func37, Tryz.ntmps37
  go_wp2
  go_loopw [5] (fun i wr => ∃ (k : Nat), k ≤ l.length ∧ i = .int .i64 k ∧ ∃ m, wr = w.drewN m) (fun i _ => l.length - (intOf i).toNat)
  case atStart => exact ⟨0, Nat.zero_le _, rfl, 0, rfl⟩
  case round =>
    obtain ⟨k, hk, rfl, m, rfl⟩ := hrel
    have hb := pw_below_drewN (Below.refl w.heap.size w) m
    by_cases hlt : k < l.length
    · have hlt' : (k : Int) < (l.length : Int) := by omega
      have hk0 : (0 : Int) ≤ (k : Int) := by omega
      obtain ⟨ad, e1, hx0⟩ := Kd.at_int HC.out (k : Int) hk0 hlt'
      subst e1
      obtain ⟨at_, e1, hy0⟩ := Kd.at_int HT.out (k : Int) hk0 (by omega)
      subst e1
      simp only [Int.toNat_natCast] at hx0 hy0
      simp only [readLBytes l k hlt] at hy0
      generalize rd l (k : Int) = x at *
      go_wp2
      repeat (go_quiet (fail); try go_wp2)
      go_roundw
      case rel => exact ⟨k + 1, by omega, by go_num, _, rfl⟩
      case measure => simp [intOf]; omega
    · obtain rfl : k = l.length := by omega
      have hlt' : ¬ ((l.length : Int) < (l.length : Int)) := by omega
      obtain ⟨at_, e1, hy0⟩ := Kd.at_int HT.out (l.length : Int) (by omega) (by omega)
      subst e1
      simp only [Int.toNat_natCast] at hy0
      simp only [readSBytes l] at hy0
      try simp only [spareKey] at hy0
      replace hy0 := cell_on hb hy0
      generalize w.drewN m = W at *
      have HB := Aside0.mk hb
      clear hb
      go_wp2
      repeat (go_quiet (fail); try go_wp2)
      go_ret
      exact ⟨rfl, HB.out⟩
end Go.Proofs.YtcohodkpppmaoaaGreatDoor.Q
namespace Go.Proofs.YtcohodkpppmaoaaGreatDoor.Q
open Go.RowKit Go.Proofs.YtcohodkpppmaoaaGreatDoorW.PrintWords Go.Proofs.YtcohodkpppmaoaaGreatDoorW.PrintLast Go.Proofs.YtcohodkpppmaoaaGreatDoorW.PrintMore
set_option linter.unusedVariables false
theorem getR_length {α : Type} (r : RdS → α) (st : RdS → RdS) (put : List α → List Int × Int) (l0 : List Int) (hb : ∀ x ∈ l0, 0 ≤ x ∧ x < 256) : (getR r st put l0).1.length < 65536 := by
  have h := sevR_length r st (l0, false) hb
  unfold getR
  repeat' split
  all_goals first | exact h | simp
end Go.Proofs.YtcohodkpppmaoaaGreatDoor.Q
namespace Go.Proofs.YtcohodkpppmaoaaGreatDoor.Q
open Go.RowKit Go.Proofs.YtcohodkpppmaoaaGreatDoorW.PrintWords Go.Proofs.YtcohodkpppmaoaaGreatDoorW.PrintLast Go.Proofs.YtcohodkpppmaoaaGreatDoorW.PrintMore
set_option linter.unusedVariables false
theorem infoTwOps : (Tryz.prog.info? 82).map (fun i => (i.zero, i.size, i.bytes)) = some (some (.agg #[.int .u8 0, .string ⟨#[]⟩, .string ⟨#[]⟩, .int .u32 0]), 4, 48) := by kernel_rfl
theorem readOps (l : List S82) (k : Nat) (hk : k < l.length) : l.take (k + 1) = l.take k ++ [rd_T82 l (k : Int)] := by
  rw [List.take_succ_eq_append_getElem hk]
  simp [rd_T82, hk]
set_option maxHeartbeats 3200000 in
set_option maxRecDepth 100000 in
theorem twinOps_calls (w : World) (A0 : Option Addr) (c0 : Nat) (l : List S82) (hr : Kd.C k82 w A0 l.length l) (hc0 : l.length ≤ c0) (hl : l.length ≤ 1000000000) :
    Calls Tryz.prog 41 #[.slice A0 l.length c0] w fun e w' => ∃ v, e = .returned v ∧ ∃ F, Twin fdOp 82 w' F v l ⟨0, spareKey, ⟨#[]⟩, 0⟩ ∧ F.Nodup ∧ (∀ b ∈ F, w.heap.size ≤ b) ∧ Below w.heap.size w w' := by
  obtain ⟨MC, hMS, HMK⟩ : ∃ MC : Array Value, MC.size = (l.length + 1) * 4 ∧ ∀ W : World, (Instr.makeSlice 47 (.int .i64 0) (.int .i64 ((l.length : Int) + 1))).run Tryz.prog W = .ok (.slice (some ⟨W.heap.size, 0, none⟩) 0 (l.length + 1)) (W.alloc (.cells MC 82)) := ⟨madeCells ((.agg #[.int .u8 0, .string ⟨#[]⟩, .string ⟨#[]⟩, .int .u32 0]) : Value).cells ((l.length + 1) * 4), madeCells_size _ _, fun W => by
    have h := run_make0 (P := Tryz.prog) 47 82 (.agg #[.int .u8 0, .string ⟨#[]⟩, .string ⟨#[]⟩, .int .u32 0]) 4 48 Tryz.underlying47 infoTwOps (by decide) (l.length + 1) (by omega) W
    rwa [show ((l.length + 1 : Nat) : Int) = (l.length : Int) + 1 by omega] at h⟩
  have hw1 : IntKind.i64.wrap ((l.length : Int) + 1) = (l.length : Int) + 1 := IntWalk.i64_in _ (by omega)
  have HC := Aside0.mk hr
  have hul := Tryz.underlying82
  clear hr
  go_enter Tryz.func41, Tryz.ntmps41
  go_wp2
  obtain ⟨wo, hwo⟩ : ∃ wo, wo = w.alloc (.cells MC 82) := ⟨_, rfl⟩
  have HB0 := Aside0.mk (show Below w.heap.size w wo by rw [hwo]; exact below_alloc (Below.refl _ _) _)
  have HR0 := Aside0.mk (show Fd.Row fdOp 82 wo [w.heap.size] (.slice (some ⟨w.heap.size, 0, none⟩) 0 (l.length + 1)) [] by
    rw [hwo]; exact made0_row fdOp 82 w _ (l.length + 1) (by omega) hMS)
  rw [← hwo]
  clear hwo HMK
  go_loopw [3, 4] (fun v i wr => ∃ (k : Nat) (F : List Nat), k ≤ l.length ∧ i = .int .i64 k ∧ Aside0 (Fd.Row fdOp 82 wr F v (l.take k)) ∧ Aside0 F.Nodup ∧ Aside0 (∀ b ∈ F, w.heap.size ≤ b) ∧ Aside0 (Below w.heap.size w wr)) (fun _ i _ => l.length - (intOf i).toNat)
  case atStart => exact ⟨0, [w.heap.size], Nat.zero_le _, rfl, HR0, ⟨by simp⟩, ⟨by simp⟩, HB0⟩
  case round =>
    clear HR0 HB0
    obtain ⟨wq, hwq⟩ : ∃ wq, wq = wr := ⟨_, rfl⟩
    subst hwq
    obtain ⟨k, F, hk, rfl, HR, HN, HF, HB⟩ := hrel
    obtain ⟨Av, cv, ev, hcv, _⟩ := Fd.row_reads HR.out
    rw [List.length_take, Nat.min_eq_left hk] at ev hcv
    subst ev
    have hsz : w.heap.size ≤ wq.heap.size := HB.out.size
    by_cases hlt : k < l.length
    · have hlt' : (k : Int) < (l.length : Int) := by omega
      have hk0 : (0 : Int) ≤ (k : Int) := by omega
      obtain ⟨ad, e1, hx0, hx1, hx2, hx3⟩ := at_T82 (Kd.C_below HC.out HB.out) (k : Int) hk0 hlt'
      subst e1
      simp only [Int.toNat_natCast] at hx0 hx1 hx2 hx3
      have HTK := Aside0.mk (readOps l k hlt)
      generalize rd_T82 l (k : Int) = x at *
      have HM := Aside0.mk (show fdOp.M wq [] x [.int .u8 x.f0, .string x.f1, .string x.f2, .int .u32 x.f3] from ⟨rfl, k82_mk _ _⟩)
      go_wp2_with (first | (at_builtin; (refine Fd.R_append (W := wq) fdOp rfl (.tmp 15) (.tmp 20) 47 82 (.agg #[.int .u8 0, .string ⟨#[]⟩, .string ⟨#[]⟩, .int .u32 0]) 48 rfl Tryz.underlying47 infoTwOps rfl (show 0 < 4 from by decide) (by decide) (.slice Av k cv) (l.take k) x [.int .u8 x.f0, .string x.f1, .string x.f2, .int .u32 x.f3] F [] rfl rfl HM.out HR.out (by rw [List.append_nil]; exact HN.out) (by rw [List.length_take]; omega) ?_); intro v1 w6 F6 h1 h2 h3 h4; have R6 := Aside0.mk h1; have N6 := Aside0.mk h2; have K6 := Aside0.mk h3; have L6 := Aside0.mk h4; clear h1 h2 h3 h4))
      go_roundw
      case rel =>
        refine ⟨k + 1, F6, by omega, by go_num, ⟨by rw [HTK.out]; exact R6.out⟩, N6, ⟨fun b hb => ?_⟩, ⟨HB.out.trans (K6.out.below HF.out hsz)⟩⟩
        rcases L6.out b hb with h | h | h
        · exact HF.out b h
        · cases h
        · omega
      case measure => simp [intOf]; omega
    · obtain rfl : k = l.length := by omega
      have hlt' : ¬ ((l.length : Int) < (l.length : Int)) := by omega
      have etk : l.take l.length = l := List.take_of_length_le (Nat.le_refl _)
      rw [etk] at HR
      have HM := Aside0.mk (show fdOp.M wq [] ⟨0, spareKey, ⟨#[]⟩, 0⟩ [.int .u8 0, .string spareKey, .string ⟨#[]⟩, .int .u32 0] from ⟨rfl, k82_mk _ _⟩)
      unfold spareKey at HM
      have HU := Aside0.mk infoTwOps
      go_wp2_with (first | (at_builtin; (refine Fd.R_append (W := wq) fdOp rfl (.tmp 22) (.tmp 24) 47 82 (.agg #[.int .u8 0, .string ⟨#[]⟩, .string ⟨#[]⟩, .int .u32 0]) 48 rfl Tryz.underlying47 infoTwOps rfl (show 0 < 4 from by decide) (by decide) (.slice Av l.length cv) l ⟨0, ⟨#[115, 112, 97, 114, 101]⟩, ⟨#[]⟩, 0⟩ [.int .u8 0, .string ⟨#[115, 112, 97, 114, 101]⟩, .string ⟨#[]⟩, .int .u32 0] F [] rfl rfl HM.out HR.out (by rw [List.append_nil]; exact HN.out) (by omega) ?_); intro v1 w6 F6 h1 h2 h3 h4; obtain ⟨A2, c2, ev2, hc2, _⟩ := Fd.row_reads h1; rw [List.length_append, List.length_singleton] at ev2 hc2; subst ev2; have hcut := cut_up (P := Tryz.prog) 47 82 .i64 Tryz.underlying47 HU.out A2 (l.length + 1) c2 (l.length : Int) (by omega) (by omega); rw [Int.toNat_natCast] at hcut; have R6 := Aside0.mk h1; have N6 := Aside0.mk h2; have K6 := Aside0.mk h3; have L6 := Aside0.mk h4; clear h1 h2 h3 h4))
      go_ret
      refine ⟨_, rfl, F6, ⟨A2, c2, rfl, hc2, R6.out⟩, N6.out, fun b hb => ?_, HB.out.trans (K6.out.below HF.out hsz)⟩
      rcases L6.out b hb with h | h | h
      · exact HF.out b h
      · cases h
      · omega
theorem readLOps (l : List S82) (k : Nat) (hk : k < l.length) : rd_T82 (l ++ [⟨0, spareKey, ⟨#[]⟩, 0⟩]) (k : Int) = rd_T82 l (k : Int) := by
  simp [rd_T82, List.getElem?_append_left hk]
theorem readSOps (l : List S82) : rd_T82 (l ++ [⟨0, spareKey, ⟨#[]⟩, 0⟩]) (l.length : Int) = ⟨0, spareKey, ⟨#[]⟩, 0⟩ := by
  simp [rd_T82]
set_option maxHeartbeats 3200000 in
set_option maxRecDepth 100000 in
theorem leftOps_calls (w : World) (At : Option Addr) (ct : Nat) (A0 : Option Addr) (c0 : Nat) (l : List S82) (ht : Kd.C k82 w At (l.length + 1) (l ++ [⟨0, spareKey, ⟨#[]⟩, 0⟩])) (hct : l.length + 1 ≤ ct) (hr : Kd.C k82 w A0 l.length l) (hc0 : l.length ≤ c0) (hl : l.length ≤ 1000000000) :
    Calls Tryz.prog 49 #[.slice At l.length ct, .slice A0 l.length c0] w fun e w' => e = .returned (.bool true) ∧ Below w.heap.size w w' := by
  have hw1 : IntKind.i64.wrap ((l.length : Int) + 1) = (l.length : Int) + 1 := IntWalk.i64_in _ (by omega)
  have hcap : ¬ ((ct : Int) ≤ (l.length : Int)) := by omega
  have hcut := cut_up (P := Tryz.prog) 47 82 .i64 Tryz.underlying47 infoTwOps At l.length ct ((l.length : Int) + 1) (by omega) (by omega)
  rw [show ((l.length : Int) + 1).toNat = l.length + 1 by omega] at hcut
  have hul := Tryz.underlying82
  have HT := Aside0.mk ht
  have HC := Aside0.mk hr
  clear ht hr
  go_enter Tryz.func49, Tryz.ntmps49
  go_wp2
  go_loopw [5] (fun i wr => ∃ (k : Nat), k ≤ l.length ∧ i = .int .i64 k ∧ ∃ m, wr = w.drewN m) (fun i _ => l.length - (intOf i).toNat)
  case atStart => exact ⟨0, Nat.zero_le _, rfl, 0, rfl⟩
  case round =>
    obtain ⟨k, hk, rfl, m, rfl⟩ := hrel
    have hb := pw_below_drewN (Below.refl w.heap.size w) m
    by_cases hlt : k < l.length
    · have hlt' : (k : Int) < (l.length : Int) := by omega
      have hk0 : (0 : Int) ≤ (k : Int) := by omega
      obtain ⟨ad, e1, hx0, hx1, hx2, hx3⟩ := at_T82 HC.out (k : Int) hk0 hlt'
      subst e1
      obtain ⟨at_, e1, hy0, hy1, hy2, hy3⟩ := at_T82 HT.out (k : Int) hk0 (by omega)
      subst e1
      simp only [Int.toNat_natCast] at hx0 hx1 hx2 hx3 hy0 hy1 hy2 hy3
      simp only [readLOps l k hlt] at hy0 hy1 hy2 hy3
      generalize rd_T82 l (k : Int) = x at *
      go_wp2
      repeat (go_quiet (fail); try go_wp2)
      go_roundw
      case rel => exact ⟨k + 1, by omega, by go_num, _, rfl⟩
      case measure => simp [intOf]; omega
    · obtain rfl : k = l.length := by omega
      have hlt' : ¬ ((l.length : Int) < (l.length : Int)) := by omega
      obtain ⟨at_, e1, hy0, hy1, hy2, hy3⟩ := at_T82 HT.out (l.length : Int) (by omega) (by omega)
      subst e1
      simp only [Int.toNat_natCast] at hy0 hy1 hy2 hy3
      simp only [readSOps l] at hy0 hy1 hy2 hy3
      try simp only [spareKey] at hy0 hy1 hy2 hy3
      replace hy0 := cell_on hb hy0
      replace hy1 := cell_on hb hy1
      replace hy2 := cell_on hb hy2
      replace hy3 := cell_on hb hy3
      generalize w.drewN m = W at *
      have HB := Aside0.mk hb
      clear hb
      go_wp2
      repeat (go_quiet (fail); try go_wp2)
      go_ret
      exact ⟨rfl, HB.out.alloc HB.out.size _⟩
end Go.Proofs.YtcohodkpppmaoaaGreatDoor.Q
