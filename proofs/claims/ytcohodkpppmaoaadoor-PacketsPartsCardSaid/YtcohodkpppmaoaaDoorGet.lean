
/-
  rows.get: a list that is put as it was.
-/
import Derived.Test.YtcohodkpppmaoaaDoorQB1
import Derived.Test.YtcohodkpppmaoaaDoorQC3
import Derived.Test.YtcohodkpppmaoaaDoorEvPut
import Derived.Test.YtcohodkpppmaoaaDoorSev
namespace Go.Proofs.YtcohodkpppmaoaaDoor.Q
open Go.RowKit Go.Proofs.YtcohodkpppmaoaaDoorW.PrintWords Go.Proofs.YtcohodkpppmaoaaDoorW.PrintLast Go.Proofs.YtcohodkpppmaoaaDoorW.PrintMore
set_option linter.unusedVariables false

/-! ### plain -/
def getR {α : Type} (r : RdS → α) (st : RdS → RdS) (put : List α → List Int × Int) (l0 : List Int) : List α × Int :=
  if (sevS r st (l0, false)).2 = true then ([], 4)
  else if (put (sevR r st (l0, false))).2 = 0 then
    (if ((strOfNums l0).toList == (strOfNums (put (sevR r st (l0, false))).1).toList) = true then (sevR r st (l0, false), 0) else ([], 4))
  else ([], 4)
theorem sevN_length {α : Type} (r : RdS → α) (st : RdS → RdS) : ∀ (n : Nat) (s : RdS), (sevN r st n s).length ≤ n
  | 0, _ => Nat.le_refl _
  | n + 1, s => by
    unfold sevN
    split
    · simp
    · have := sevN_length r st n (st s)
      simp
      omega
theorem sevR_length {α : Type} (r : RdS → α) (st : RdS → RdS) (s : RdS) (hs : ∀ x ∈ s.1, 0 ≤ x ∧ x < 256) : (sevR r st s).length < 65536 := by
  have h1 := sevN_length r st (numR s 2).toNat (takeS s 2)
  have h2 := numR_two hs
  unfold sevR
  omega

/-- The three blocks that 'get' makes. -/
def getWorld (w : World) (f v : Value) (tf : TypeId) : World :=
  (((w.alloc (.cells #[f] tf)).alloc (.cells #[v, .bool false] 124)).alloc (.cells #[.pointer (some ⟨w.heap.size + 1, 0, none⟩)] 107))
theorem alloc_size (w : World) (o : Obj) : (w.alloc o).heap.size = w.heap.size + 1 := by show (w.heap.push o).size = _; simp
theorem getWorld_facts (w : World) (f v : Value) (tf : TypeId) :
    Below w.heap.size w (getWorld w f v tf) ∧ (getWorld w f v tf).heap[w.heap.size]? = some (.cells #[f] tf (0, 0)) ∧ (getWorld w f v tf).heap[w.heap.size + 1]? = some (.cells #[v, .bool false] 124 (0, 0)) ∧
      (getWorld w f v tf).heap[w.heap.size + 1 + 1]? = some (.cells #[.pointer (some ⟨w.heap.size + 1, 0, none⟩)] 107 (0, 0)) := by
  have s1 := alloc_size w (.cells #[f] tf)
  have s2 := alloc_size (w.alloc (.cells #[f] tf)) (.cells #[v, .bool false] 124)
  have b0 : (w.alloc (.cells #[f] tf)).heap[w.heap.size]? = some (.cells #[f] tf (0, 0)) := blk_new w _
  have b1 : ((w.alloc (.cells #[f] tf)).alloc (.cells #[v, .bool false] 124)).heap[w.heap.size + 1]? = some (.cells #[v, .bool false] 124 (0, 0)) := by
    have := blk_new (w.alloc (.cells #[f] tf)) (.cells #[v, .bool false] 124)
    rwa [s1] at this
  have b2 : (((w.alloc (.cells #[f] tf)).alloc (.cells #[v, .bool false] 124)).alloc (.cells #[.pointer (some ⟨w.heap.size + 1, 0, none⟩)] 107)).heap[w.heap.size + 1 + 1]? = some (.cells #[.pointer (some ⟨w.heap.size + 1, 0, none⟩)] 107 (0, 0)) := by
    have := blk_new ((w.alloc (.cells #[f] tf)).alloc (.cells #[v, .bool false] 124)) (.cells #[.pointer (some ⟨w.heap.size + 1, 0, none⟩)] 107)
    rwa [s2, s1] at this
  unfold getWorld
  refine ⟨?_, ?_, ?_, ?_⟩
  · exact (((Below.refl w.heap.size w).alloc (Nat.le_refl _) _).alloc (by omega) _).alloc (by omega) _
  · exact blk_alloc (blk_alloc b0 _) _
  · exact blk_alloc b1 _
  · exact b2

def rows_GetOps.f (l0 : List Int) : Option (List S62 × Int) := if ∀ x ∈ l0, 0 ≤ x ∧ x < 256 then some (getR opR opS putOps l0) else none

set_option maxHeartbeats 3200000 in
set_option maxRecDepth 100000 in
theorem getOp_calls (A0 : Option Addr) (c0 : Nat) (l0 : List Int) (w : World) (hr0 : Kd.C (Kd.int .u8) w A0 l0.length l0) (hc0 : l0.length ≤ c0) (hby : ∀ x ∈ l0, 0 ≤ x ∧ x < 256) :
    Calls Tryd.prog 64 #[.slice A0 l0.length c0, .func (.func 65) #[] #[], .func (.func 29) #[] #[]] w fun e w' => ∃ v0_, e = .returned (.tuple #[v0_, .int .i64 (getR opR opS putOps l0).2]) ∧ Kd.R k62 62 w' w.heap.size (fun _ => True) v0_ (getR opR opS putOps l0).1 ∧ Below w.heap.size w w' := by
  obtain ⟨l, hl⟩ : ∃ l, l = sevR opR opS (l0, false) := ⟨_, rfl⟩
  obtain ⟨s', hs'⟩ : ∃ s', s' = sevS opR opS (l0, false) := ⟨_, rfl⟩
  have hlen : l.length < 65536 := hl ▸ sevR_length opR opS (l0, false) hby
  obtain ⟨k, hk⟩ := (ev_putOps l (by omega)).rounds
  unfold getR
  rw [← hl, ← hs']
  generalize putOps l = q at *
  obtain ⟨p, r2⟩ := q
  dsimp only
  have HK := Aside0.mk hk
  have HBY := Aside0.mk hby
  have HC := Aside0.mk hr0
  have HL := Aside0.mk hl
  have HS := Aside0.mk hs'
  have HMX := Aside0.mk (show l0.length ≤ maxLen from Kd.C_max hr0)
  have hmf : ∀ (fn : Fn) (first cap : Array Value) (w : World), (Instr.makeFunc fn first cap).run Tryd.prog w = .ok (.func fn first cap) w := fun _ _ _ _ => rfl
  have HST := Aside0.mk (getWorld_facts w (.func (.func 65) #[] #[]) (.slice A0 l0.length c0) 109)
  clear hk hby hr0 hl hs'
  have hu := Tryd.underlying124
  go_enter Tryd.func64, Tryd.ntmps64
  go_wp2_with fail
  change Calls Tryd.prog 80 _ (getWorld w (.func (.func 65) #[] #[]) (.slice A0 l0.length c0) 109) _
  obtain ⟨W, hW⟩ : ∃ W, W = getWorld w (.func (.func 65) #[] #[]) (.slice A0 l0.length c0) 109 := ⟨_, rfl⟩
  rw [← hW] at HST ⊢
  clear hW
  have hRd : Rd w W (w.heap.size + 1) (l0, false) := ⟨HST.out.1, Nat.le_succ _, ⟨A0, c0, HST.out.2.2.1, hc0, HMX.out, HC.out⟩, HBY.out⟩
  refine (severalOp_calls w W (w.heap.size + 1) w.heap.size (w.heap.size + 1 + 1) (l0, false) hRd HST.out.2.1 HST.out.2.2.2 (by omega) (by omega)).mono ?_
  rintro e w3 ⟨v, rfl, hO, hR, hKp⟩
  rw [← HL.out] at hO
  rw [← HS.out] at hR
  obtain ⟨A, c, rfl, hcl, hCl⟩ := Kd.R_reads hO
  have hP3 := keep_cells HST.out.2.2.2 (show w.heap.size + 1 + 1 ≠ w.heap.size + 1 by omega) hKp
  have HO3 := Aside0.mk (Kd.R_lower hO HST.out.1.size)
  have HR3 := Aside0.mk hR
  have HP3 := Aside0.mk hP3
  have HCL := Aside0.mk hCl
  have hw3 : w.heap.size ≤ w3.heap.size := hR.below.size
  clear hO hR hKp hRd hP3 hCl
  go_wp2_with fail
  refine (rows_PutOps.calls k A c l p r2 w3 HCL.out hcl HK.out).mono ?_
  rintro e w4 ⟨v4, rfl, hO4, hB4⟩
  obtain ⟨A4, c4, rfl, hc4, hC4⟩ := Kd.R_reads hO4
  have HO4 := Aside0.mk (Kd.R_below HO3.out hB4)
  have HR4 := Aside0.mk (HR3.out.grown hB4)
  have HP4 := blk_below HP3.out hB4
  obtain ⟨Ar, cr, hrow, _⟩ := HR4.out.row
  have hcs : w4.cell? ⟨w.heap.size + 1, 1, none⟩ = some (.bool s'.2) := blk_cell hrow 1
  have hcp : w4.cell? ⟨w.heap.size + 1 + 1, 0, none⟩ = some (.pointer (some ⟨w.heap.size + 1, 0, none⟩)) := blk_cell HP4 0
  have HC4 := Aside0.mk hC4
  have HA := Aside0.mk (Kd.C_below HC.out HR4.out.below)
  clear hO4 hB4 hrow hC4 HP4 HP3 HR3 HO3 HCL
  have hbb : Below w.heap.size w w4 := HR4.out.below
  have HBB := Aside0.mk hbb
  clear hbb
  cases hsh : s'.2 with
  | true =>
    rw [hsh] at hcs
    go_wp2
    go_ret2
    exact ⟨_, rfl, Kd.R_nil _ _ _ _ _, HBB.out⟩
  | false =>
    rw [hsh] at hcs
    by_cases hr2 : r2 = 0
    · subst hr2
      go_wp2_with fail
      refine (bytes_Equal.calls A0 c0 l0 A4 c4 p _ w4 HA.out hc0 HC4.out hc4 rfl).mono ?_
      rintro e w5 ⟨rfl, ⟨n, rfl⟩⟩
      have HO5 := Aside0.mk (Kd.R_drewN HO4.out n)
      have HB5 := Aside0.mk (pw_below_drewN HBB.out n)
      clear HO4 HBB HA HC4
      cases heq : ((strOfNums l0).toList == (strOfNums p).toList) with
      | true =>
        go_wp2
        go_ret2
        exact ⟨_, rfl, HO5.out, HB5.out⟩
      | false =>
        go_wp2
        go_ret2
        exact ⟨_, rfl, Kd.R_nil _ _ _ _ _, HB5.out⟩
    · have hr2b : (r2 != 0) = true := by simpa using hr2
      go_wp2
      all_goals
        go_ret2
        exact ⟨_, rfl, Kd.R_nil _ _ _ _ _, HBB.out⟩

set_option maxHeartbeats 3200000 in
set_option maxRecDepth 100000 in
theorem rows_GetOps.calls (A0 : Option Addr) (c0 : Nat) (l0 : List Int) (r1 : List (S62)) (r2 : Int) (w : World) (hr0 : Kd.C (Kd.int .u8) w A0 l0.length l0) (hc0 : l0.length ≤ c0) (h : rows_GetOps.f l0 = some (r1, r2)) :
    Calls Tryd.prog 46 #[.slice A0 l0.length c0] w fun e w' => ∃ v0_ : Value, e = .returned (.tuple #[v0_, .int .i64 r2]) ∧ Kd.R k62 62 w' w.heap.size (fun _ => True) v0_ r1 ∧ Below w.heap.size w w' := by
  have hby : ∀ x ∈ l0, 0 ≤ x ∧ x < 256 := by
    unfold rows_GetOps.f at h
    split at h
    · assumption
    · cases h
  have hq : getR opR opS putOps l0 = (r1, r2) := by
    unfold rows_GetOps.f at h
    rw [if_pos hby] at h
    exact Option.some.inj h
  have HQ := Aside0.mk hq
  have HBY := Aside0.mk hby
  have HC := Aside0.mk hr0
  clear h hq hby hr0
  go_enter Tryd.func46, Tryd.ntmps46
  go_wp2_with fail
  refine (getOp_calls A0 c0 l0 w HC.out hc0 HBY.out).mono ?_
  rintro e w1 ⟨v, rfl, hO, hB⟩
  rw [HQ.out] at hO ⊢
  have HO := Aside0.mk hO
  have HB := Aside0.mk hB
  clear hO hB
  go_wp2
  go_ret2
  exact ⟨_, rfl, HO.out, HB.out⟩

def rows_GetResults.f (l0 : List Int) : Option (List S59 × Int) := if ∀ x ∈ l0, 0 ≤ x ∧ x < 256 then some (getR resR resS putResults l0) else none

set_option maxHeartbeats 3200000 in
set_option maxRecDepth 100000 in
theorem getResult_calls (A0 : Option Addr) (c0 : Nat) (l0 : List Int) (w : World) (hr0 : Kd.C (Kd.int .u8) w A0 l0.length l0) (hc0 : l0.length ≤ c0) (hby : ∀ x ∈ l0, 0 ≤ x ∧ x < 256) :
    Calls Tryd.prog 68 #[.slice A0 l0.length c0, .func (.func 69) #[] #[], .func (.func 30) #[] #[]] w fun e w' => ∃ v0_, e = .returned (.tuple #[v0_, .int .i64 (getR resR resS putResults l0).2]) ∧ Kd.S k59 59 w' w.heap.size (fun _ => True) v0_ (getR resR resS putResults l0).1 ∧ Below w.heap.size w w' := by
  obtain ⟨l, hl⟩ : ∃ l, l = sevR resR resS (l0, false) := ⟨_, rfl⟩
  obtain ⟨s', hs'⟩ : ∃ s', s' = sevS resR resS (l0, false) := ⟨_, rfl⟩
  have hlen : l.length < 65536 := hl ▸ sevR_length resR resS (l0, false) hby
  obtain ⟨k, hk⟩ := (ev_putResults l (by omega) (fun x hx => sevRes_rows (l0, false) hby x (hl ▸ hx))).rounds
  unfold getR
  rw [← hl, ← hs']
  generalize putResults l = q at *
  obtain ⟨p, r2⟩ := q
  dsimp only
  have HK := Aside0.mk hk
  have HBY := Aside0.mk hby
  have HC := Aside0.mk hr0
  have HL := Aside0.mk hl
  have HS := Aside0.mk hs'
  have HMX := Aside0.mk (show l0.length ≤ maxLen from Kd.C_max hr0)
  have hmf : ∀ (fn : Fn) (first cap : Array Value) (w : World), (Instr.makeFunc fn first cap).run Tryd.prog w = .ok (.func fn first cap) w := fun _ _ _ _ => rfl
  have HST := Aside0.mk (getWorld_facts w (.func (.func 69) #[] #[]) (.slice A0 l0.length c0) 113)
  clear hk hby hr0 hl hs'
  have hu := Tryd.underlying124
  go_enter Tryd.func68, Tryd.ntmps68
  go_wp2_with fail
  change Calls Tryd.prog 84 _ (getWorld w (.func (.func 69) #[] #[]) (.slice A0 l0.length c0) 113) _
  obtain ⟨W, hW⟩ : ∃ W, W = getWorld w (.func (.func 69) #[] #[]) (.slice A0 l0.length c0) 113 := ⟨_, rfl⟩
  rw [← hW] at HST ⊢
  clear hW
  have hRd : Rd w W (w.heap.size + 1) (l0, false) := ⟨HST.out.1, Nat.le_succ _, ⟨A0, c0, HST.out.2.2.1, hc0, HMX.out, HC.out⟩, HBY.out⟩
  refine (severalResult_calls w W (w.heap.size + 1) w.heap.size (w.heap.size + 1 + 1) (l0, false) hRd HST.out.2.1 HST.out.2.2.2 (by omega) (by omega)).mono ?_
  rintro e w3 ⟨v, rfl, hO, hR, hKp⟩
  rw [← HL.out] at hO
  rw [← HS.out] at hR
  obtain ⟨A, c, rfl, hcl, hCl⟩ := Kd.S_reads hO
  have hP3 := keep_cells HST.out.2.2.2 (show w.heap.size + 1 + 1 ≠ w.heap.size + 1 by omega) hKp
  have HO3 := Aside0.mk (Kd.S_lower hO HST.out.1.size)
  have HR3 := Aside0.mk hR
  have HP3 := Aside0.mk hP3
  have HCL := Aside0.mk hCl
  have hw3 : w.heap.size ≤ w3.heap.size := hR.below.size
  clear hO hR hKp hRd hP3 hCl
  go_wp2_with fail
  refine (rows_PutResults.calls k A c l p r2 w3 HCL.out hcl HK.out).mono ?_
  rintro e w4 ⟨v4, rfl, hO4, hB4⟩
  obtain ⟨A4, c4, rfl, hc4, hC4⟩ := Kd.R_reads hO4
  have HO4 := Aside0.mk (Kd.S_below HO3.out hB4)
  have HR4 := Aside0.mk (HR3.out.grown hB4)
  have HP4 := blk_below HP3.out hB4
  obtain ⟨Ar, cr, hrow, _⟩ := HR4.out.row
  have hcs : w4.cell? ⟨w.heap.size + 1, 1, none⟩ = some (.bool s'.2) := blk_cell hrow 1
  have hcp : w4.cell? ⟨w.heap.size + 1 + 1, 0, none⟩ = some (.pointer (some ⟨w.heap.size + 1, 0, none⟩)) := blk_cell HP4 0
  have HC4 := Aside0.mk hC4
  have HA := Aside0.mk (Kd.C_below HC.out HR4.out.below)
  clear hO4 hB4 hrow hC4 HP4 HP3 HR3 HO3 HCL
  have hbb : Below w.heap.size w w4 := HR4.out.below
  have HBB := Aside0.mk hbb
  clear hbb
  cases hsh : s'.2 with
  | true =>
    rw [hsh] at hcs
    go_wp2
    go_ret2
    exact ⟨_, rfl, Kd.S_nil _ _ _ _ _, HBB.out⟩
  | false =>
    rw [hsh] at hcs
    by_cases hr2 : r2 = 0
    · subst hr2
      go_wp2_with fail
      refine (bytes_Equal.calls A0 c0 l0 A4 c4 p _ w4 HA.out hc0 HC4.out hc4 rfl).mono ?_
      rintro e w5 ⟨rfl, ⟨n, rfl⟩⟩
      have HO5 := Aside0.mk (Kd.S_drewN HO4.out n)
      have HB5 := Aside0.mk (pw_below_drewN HBB.out n)
      clear HO4 HBB HA HC4
      cases heq : ((strOfNums l0).toList == (strOfNums p).toList) with
      | true =>
        go_wp2
        go_ret2
        exact ⟨_, rfl, HO5.out, HB5.out⟩
      | false =>
        go_wp2
        go_ret2
        exact ⟨_, rfl, Kd.S_nil _ _ _ _ _, HB5.out⟩
    · have hr2b : (r2 != 0) = true := by simpa using hr2
      go_wp2
      all_goals
        go_ret2
        exact ⟨_, rfl, Kd.S_nil _ _ _ _ _, HBB.out⟩

set_option maxHeartbeats 3200000 in
set_option maxRecDepth 100000 in
theorem rows_GetResults.calls (A0 : Option Addr) (c0 : Nat) (l0 : List Int) (r1 : List (S59)) (r2 : Int) (w : World) (hr0 : Kd.C (Kd.int .u8) w A0 l0.length l0) (hc0 : l0.length ≤ c0) (h : rows_GetResults.f l0 = some (r1, r2)) :
    Calls Tryd.prog 47 #[.slice A0 l0.length c0] w fun e w' => ∃ v0_ : Value, e = .returned (.tuple #[v0_, .int .i64 r2]) ∧ Kd.S k59 59 w' w.heap.size (fun _ => True) v0_ r1 ∧ Below w.heap.size w w' := by
  have hby : ∀ x ∈ l0, 0 ≤ x ∧ x < 256 := by
    unfold rows_GetResults.f at h
    split at h
    · assumption
    · cases h
  have hq : getR resR resS putResults l0 = (r1, r2) := by
    unfold rows_GetResults.f at h
    rw [if_pos hby] at h
    exact Option.some.inj h
  have HQ := Aside0.mk hq
  have HBY := Aside0.mk hby
  have HC := Aside0.mk hr0
  clear h hq hby hr0
  go_enter Tryd.func47, Tryd.ntmps47
  go_wp2_with fail
  refine (getResult_calls A0 c0 l0 w HC.out hc0 HBY.out).mono ?_
  rintro e w1 ⟨v, rfl, hO, hB⟩
  rw [HQ.out] at hO ⊢
  have HO := Aside0.mk hO
  have HB := Aside0.mk hB
  clear hO hB
  go_wp2
  go_ret2
  exact ⟨_, rfl, HO.out, HB.out⟩

end Go.Proofs.YtcohodkpppmaoaaDoor.Q
