/-
  slices.Delete of one message out of a row of one's own: the cells behind it move up; the last place is cleared.
-/
import Derived.Test.YtcohodkpppmaoaaMsg
import Derived.Deep.RegionLaw
import Derived.Outline
namespace Go.Proofs.Ytcohodkpppmaoaa.Q
open Go.RowKit Go.Proofs.YtcohodkpppmaoaaW.PrintWords Go.Proofs.YtcohodkpppmaoaaW.PrintLast Go.Proofs.YtcohodkpppmaoaaW.PrintMore
set_option linter.unusedVariables false

section
variable {P : Program}
/-- append(s[:k], s[k+1:]...), cells told. -/
theorem delete_run {W : World} (t ty e : TypeId) (i : TypeInfo) (size : Nat) (ht : P.underlying t = some (.slice e)) (hi : P.info? e = some i) (hsz : i.size = size) (hs0 : 0 < size)
    {g m c k : Nat} {c0 cm c1 : List Value} (ho : W.ownsRow 0 e size (.slice (some ⟨g, 0, none⟩) (m + 1) c) (m + 1) (c0 ++ (cm ++ c1))) (h0 : c0.length = k * size) (hm : cm.length = size) (hk : k ≤ m) (h1 : ∀ u ∈ c1, u.oneCell' = true)
    {A : Option Addr} (hA : A = if c = k + 1 then some ⟨g, 0, none⟩ else (some (⟨g, 0, none⟩ : Addr)).map (·.add ((k + 1) * size))) (c2 : Nat) :
    ∃ w1, (Builtin.append_ #[t, t] ty #[.slice (some ⟨g, 0, none⟩) k c, .slice A (m - k) c2]).run P W = .ok (.slice (some ⟨g, 0, none⟩) m c) w1 ∧ w1.ownsRow 0 e size (.slice (some ⟨g, 0, none⟩) m c) m (c0 ++ c1) ∧ W.grownBy w1 (some g) := by
  obtain ⟨hlen, hrow⟩ := ho
  rcases hrow with ⟨hv, _⟩ | ⟨g', cap', cur, hv, hb, hh, hnc, hcm, hcs, htake⟩
  · cases hv
  injection hv with ha _ hc
  injection ha with ha
  injection ha with hg
  subst hg; subst hc
  have hks : (k + 1) * size = k * size + size := Nat.succ_mul _ _
  have hms : (m + 1) * size = m * size + size := Nat.succ_mul _ _
  have hkm : k * size ≤ m * size := Nat.mul_le_mul_right _ hk
  have hcc : (m + 1) * size ≤ c * size := Nat.mul_le_mul_right _ hnc
  have hsub : (m - k) * size = m * size - k * size := Nat.sub_mul _ _ _
  rw [List.length_append, List.length_append, h0, hm] at hlen
  have hl1 : c1.length = (m - k) * size := by omega
  have hcur : ∀ q, q < (m + 1) * size → cur.toList[q]? = (c0 ++ (cm ++ c1))[q]? := by
    intro q hq
    rw [← htake, List.getElem?_take, if_pos hq]
  obtain ⟨a, rfl, hcell⟩ : ∃ a, A = some a ∧ ∀ j u, c1[j]? = some u → W.cell? (a.add j) = some u := by
    by_cases hck : c = k + 1
    · rw [if_pos hck] at hA
      refine ⟨_, hA, fun j u hu => ?_⟩
      have : c1 = [] := List.eq_nil_of_length_eq_zero (by rw [hl1, show m - k = 0 by omega, Nat.zero_mul])
      rw [this] at hu
      simp at hu
    · rw [if_neg hck, Option.map_some] at hA
      refine ⟨_, hA, fun j u hu => ?_⟩
      have hj : j < c1.length := (List.getElem?_eq_some_iff.1 hu).1
      rw [add_add, add_at, cell_of_row W g _ cur e (0, 0) hh, ← Array.getElem?_toList, Nat.zero_add, hcur _ (by omega)]
      rw [List.getElem?_append_right (by omega), List.getElem?_append_right (by omega), ← hu]
      congr 1
      omega
  have hfit : 0 + k * size + c1.length ≤ cur.size := by omega
  have hrun := run_append_room_cells (P := P) (w := W) t ty e i ht hi g 0 k c a (m - k) c2 c1 (by rw [hl1, hsz]) hcell h1 (by omega)
    (fun j hj => by rw [hsz, cell_of_row W g _ cur e (0, 0) hh]; simp; omega) (fun j _ => blk_frozen hh _)
  rw [hsz, show k + (m - k) = m by omega] at hrun
  obtain ⟨cur', h3, h4, h5⟩ := setCells_row c1 (0 + k * size) W cur hh hfit
  obtain ⟨s1, s2, s3, s4⟩ := setCells_same g c1 (0 + k * size) W
  refine ⟨_, hrun, ⟨by rw [List.length_append, h0, hl1]; omega, .inr ⟨g, c, cur', rfl, Nat.zero_le _, h3, by omega, hcm, by rw [h4, hcs], ?_⟩⟩, ⟨s1, s2, s3, by rw [s4]; exact Nat.le_refl _, fun k' _ hk' => setCells_far c1 _ k' (fun he => hk' (by rw [he]))⟩⟩
  rw [h5, Nat.zero_add]
  have e0 : cur.toList.take (k * size) = c0 := by
    have : cur.toList.take (k * size) = (cur.toList.take ((m + 1) * size)).take (k * size) := by rw [List.take_take, Nat.min_eq_left (by omega)]
    rw [this, htake, ← h0, List.take_left]
  rw [e0, List.take_append_of_le_length (by rw [List.length_append, h0, hl1]; omega), List.take_of_length_le (by rw [List.length_append, h0, hl1]; omega)]

/-- clear(s[m:m+1]) behind a row of m elements: the row stays. -/
theorem clear_run {W : World} (t ty e : TypeId) (i : TypeInfo) (z : Value) (size : Nat) (ht : P.underlying t = some (.slice e)) (hi : P.info? e = some i) (hz : i.zero = some z) (hzs : z.cells.size = size) (hz1 : ∀ u ∈ z.cells.toList, u.oneCell' = true)
    {g m c c2 : Nat} {xs : List Value} (ho : W.ownsRow 0 e size (.slice (some ⟨g, 0, none⟩) m c) m xs) (hm : m < c) :
    ∃ w1, (Builtin.clear_ #[t] ty #[.slice (some ⟨g, m * size, none⟩) 1 c2]).run P W = .ok (.tuple #[]) w1 ∧ w1.ownsRow 0 e size (.slice (some ⟨g, 0, none⟩) m c) m xs ∧ W.grownBy w1 (some g) := by
  obtain ⟨hlen, hrow⟩ := ho
  rcases hrow with ⟨hv, _⟩ | ⟨g', cap', cur, hv, hb, hh, hnc, hcm, hcs, htake⟩
  · cases hv
  injection hv with ha _ hc
  injection ha with ha
  injection ha with hg
  subst hg; subst hc
  have hcc : (m + 1) * size ≤ c * size := Nat.mul_le_mul_right _ hm
  rw [Nat.succ_mul] at hcc
  have hzc : (Builtin.zeroCells z.cells 1).toList = z.cells.toList := by
    apply List.ext_getElem
    · simp [Builtin.zeroCells]
    · intro j h1 h2
      simp [Builtin.zeroCells]
      have : j < z.cells.size := by simpa using h2
      rw [Nat.mod_eq_of_lt this]
      simp [this]
  have hzl : z.cells.toList.length = size := by simpa using hzs
  have hst := run_storeCells_cells (P := P) g (m * size) z.cells.toList 0 W
    (fun j hj => by rw [cell_of_row W g _ cur e (0, 0) hh]; simp; omega) (fun j _ => blk_frozen hh _) hz1
  simp only [Nat.add_zero] at hst
  obtain ⟨cur', h3, h4, h5⟩ := setCells_row z.cells.toList (m * size) W cur hh (by omega)
  obtain ⟨s1, s2, s3, s4⟩ := setCells_same g z.cells.toList (m * size) W
  refine ⟨W.setCells g (m * size) z.cells.toList, ?_, ⟨hlen, .inr ⟨g, c, cur', rfl, Nat.zero_le _, h3, by omega, hcm, by rw [h4, hcs], ?_⟩⟩, ⟨s1, s2, s3, by rw [s4]; exact Nat.le_refl _, fun k' _ hk' => setCells_far _ _ k' (fun he => hk' (by rw [he]))⟩⟩
  · simp [Builtin.clear_, run_underlying ht, zeroValue, typeInfo, hi, hz, hzc, hst]
  · rw [h5, List.append_assoc, List.take_append_of_le_length (by rw [List.length_take, Array.length_toList]; omega), List.take_of_length_le (by rw [List.length_take]; omega), htake]

theorem slice3 (t e : TypeId) {i : TypeInfo} (ht : P.underlying t = some (.slice e)) (hi : P.info? e = some i) (A : Option Addr) (n c : Nat) (l h m : Int) (h0 : 0 ≤ l) (h1 : l ≤ h) (h2 : h ≤ m) (h3 : m ≤ c) :
    ∃ A' n' c', ∀ W : World, (Instr.slice t (.slice A n c) (some (.int .i64 l)) (some (.int .i64 h)) (some (.int .i64 m))).run P W = .ok (.slice A' n' c') W := by
  have hel : P.elem t = e := by simp [Program.elem, ht]
  have hu : P.underlying t = some (.slice (P.elem t)) := by rw [hel]; exact ht
  refine ⟨if m.toNat = l.toNat then A else A.map (fun a => a.add (l.toNat * i.size)), h.toNat - l.toNat, m.toNat - l.toNat, fun W => ?_⟩
  rw [run_slice_lhm W t A n c hu .i64 .i64 .i64 l h m h0 h1 h2 h3, hel]
  simp [sizeOf, typeInfo, hi, sliced, Result.andThen]
theorem slice2 (t e : TypeId) {i : TypeInfo} (ht : P.underlying t = some (.slice e)) (hi : P.info? e = some i) (size : Nat) (hsz : i.size = size) (g n c : Nat) (l h : Int) (h0 : 0 ≤ l) (h1 : l ≤ h) (h2 : h ≤ c) (h3 : l < c) :
    ∀ W : World, (Instr.slice t (.slice (some ⟨g, 0, none⟩) n c) (some (.int .i64 l)) (some (.int .i64 h)) none).run P W = .ok (.slice (some ⟨g, l.toNat * size, none⟩) (h.toNat - l.toNat) (c - l.toNat)) W := by
  have hel : P.elem t = e := by simp [Program.elem, ht]
  have hu : P.underlying t = some (.slice (P.elem t)) := by rw [hel]; exact ht
  intro W
  rw [run_slice_lh W t (some ⟨g, 0, none⟩) n c hu .i64 .i64 l h h0 h1 h2, hel]
  have hne : ¬ c = l.toNat := by omega
  simp [sizeOf, typeInfo, hi, hsz, sliced, Result.andThen, hne, add_plain]
end

section
variable {P : Program} {ops : Array Oper} {o : Oper} {a : Act} {Q : Exit → Act → World → Prop} {K : Act → World → Prop} {W w1 : World}
/-- append, its run told, as a step of a region that draws its order. -/
theorem append_step (hgd : o.guard = none) (s x : Operand) (t : TypeId) (ho : o.op = .call { callee := .builtin .append, args := #[s, x], argTypes := #[t, t] }) {va vx v1 : Value} (hs : a.eval s = va) (hx : a.eval x = vx)
    (hr : (Builtin.append_ #[t, t] o.type #[va, vx]).run P W = .ok v1 w1) (h : K (a.put o.dst v1) w1) :
    if Region.wanted o (yielded ops a.tmps) = true then Oper.wp P o a W K Q else K (a.put o.dst undef) W := by
  rw [if_pos (by simp [Region.wanted, hgd])]
  unfold Oper.wp execOp
  simp only [ho, resolve, invoke, builtin, Sem.run_bind, Sem.run_pure, Result.andThen_ok, List.map_toArray, List.map_cons, List.map_nil, hs, hx, hr]
  exact h
theorem wpList_clear {rest : List Oper} (hgd : o.guard = none) (s : Operand) (t : TypeId) (ho : o.op = .call { callee := .builtin .clear, args := #[s], argTypes := #[t] }) {va : Value} (hs : a.eval s = va)
    (hr : (Builtin.clear_ #[t] o.type #[va]).run P W = .ok (.tuple #[]) w1) (h : wpList P ops Q rest (a.put o.dst (.tuple #[])) w1) : wpList P ops Q (o :: rest) a W := by
  refine wpList_plain hgd fun K hK => ?_
  unfold Oper.wp execOp
  simp only [ho, resolve, invoke, builtin, Sem.run_bind, Sem.run_pure, Result.andThen_ok, List.map_toArray, List.map_cons, List.map_nil, hs, hr]
  exact hK _ _ h
end
theorem msg_info : ∃ i, Try.prog.info? 38 = some i ∧ i.zero = some (.agg #[.int .u8 0, .int .u8 0, .int .u8 0, .int .u32 0, .slice none 0 0, .slice none 0 0]) ∧ i.size = 6 := by
  have h := infoMsg
  cases e : Try.prog.info? 38 with
  | none => rw [e] at h; simp at h
  | some i => rw [e] at h; simp at h; exact ⟨i, rfl, h.1, h.2.1⟩
def DelPost (w : World) (g m c : Nat) (xs : List Value) (e : Ending) (w' : World) : Prop := e = .returned (.slice (some ⟨g, 0, none⟩) m c) ∧ w'.ownsRow 0 38 6 (.slice (some ⟨g, 0, none⟩) m c) m xs ∧ Keeps [g] w w'
set_option maxHeartbeats 3200000 in
set_option maxRecDepth 100000 in
theorem delete_calls (w : World) (g m c k : Nat) (c0 cm c1 : List Value) (ho : w.ownsRow 0 38 6 (.slice (some ⟨g, 0, none⟩) (m + 1) c) (m + 1) (c0 ++ (cm ++ c1))) (h0 : c0.length = k * 6) (hm : cm.length = 6) (hk : k ≤ m) (h1 : ∀ u ∈ c1, u.oneCell' = true) (hmx : m ≤ 65536) :
    Calls Try.prog 64 #[.slice (some ⟨g, 0, none⟩) (m + 1) c, .int .i64 k, .int .i64 ((k : Int) + 1)] w (DelPost w g m c (c0 ++ c1)) := by
  obtain ⟨iu, hiu, hz, hsz⟩ := msg_info
  have hmc : m + 1 ≤ c := own_le ho
  obtain ⟨A3, n3, c3, s3⟩ := slice3 (P := Try.prog) 48 38 Try.underlying48 hiu (some ⟨g, 0, none⟩) (m + 1) c (k : Int) ((k : Int) + 1) ((m : Int) + 1) (by omega) (by omega) (by omega) (by omega)
  have sA := cut_to (P := Try.prog) 48 38 .i64 Try.underlying48 hiu (some ⟨g, 0, none⟩) (m + 1) c (k : Int) (by omega) (by omega) hmc
  have sB := cut_from (P := Try.prog) 48 38 .i64 Try.underlying48 hiu 6 hsz (some ⟨g, 0, none⟩) (m + 1) c ((k : Int) + 1) (by omega) (by omega)
  have sC := slice2 (P := Try.prog) 48 38 Try.underlying48 hiu 6 hsz g m c (m : Int) ((m : Int) + 1) (by omega) (by omega) (by omega) (by omega)
  obtain ⟨A1, hA1⟩ : ∃ A1, A1 = if c = k + 1 then some ⟨g, 0, none⟩ else (some (⟨g, 0, none⟩ : Addr)).map (·.add ((k + 1) * 6)) := ⟨_, rfl⟩
  rw [show ((k : Int) + 1).toNat = k + 1 from by omega, ← hA1, show m + 1 - (k + 1) = m - k from by omega] at sB
  rw [show ((m : Int) + 1).toNat = m + 1 from by omega, Int.toNat_natCast, show m + 1 - m = 1 from by omega] at sC
  rw [Int.toNat_natCast] at sA
  have hneq : ((k : Int) == (k : Int) + 1) = false := by rw [beq_eq_false_iff_ne]; omega
  have HO := Aside0.mk ho
  have HA := Aside0.mk hA1
  have H0 := Aside0.mk h0
  have HM := Aside0.mk hm
  have H1 := Aside0.mk h1
  have HIU := Aside0.mk hiu
  have HSZ := Aside0.mk hsz
  have HZ := Aside0.mk hz
  clear ho hA1 h0 hm h1 hiu hsz hz
  go_enter Try.func64, Try.ntmps64
  go_wp2_with fail
  obtain ⟨w1, r1, o1, g1⟩ := delete_run (W := w.drew) 48 48 38 iu 6 Try.underlying48 HIU.out HSZ.out (by decide) (own_drew HO.out) H0.out HM.out hk H1.out HA.out (c - (k + 1))
  have R1 := Aside0.mk r1
  have O1 := Aside0.mk o1
  have G1 := Aside0.mk g1
  obtain ⟨w2, r2, o2, g2⟩ := clear_run (P := Try.prog) (W := w1) 48 0 38 iu (.agg #[.int .u8 0, .int .u8 0, .int .u8 0, .int .u32 0, .slice none 0 0, .slice none 0 0]) 6 Try.underlying48 HIU.out HZ.out rfl (by decide) o1 (c2 := c - m) (by omega)
  have R2 := Aside0.mk r2
  have O2 := Aside0.mk o2
  have G2 := Aside0.mk g2
  clear r1 o1 g1 r2 o2 g2
  go_region_law (refine append_step rfl (.tmp 22) (.tmp 25) 48 rfl (va := .slice (some ⟨g, 0, none⟩) k c) (vx := .slice A1 (m - k) (c - (k + 1))) (by simp [Act.eval, Act.put]) (by simp [Act.eval, Act.put]) R1.out ?_)
  all_goals
    go_wp2_with (first | (refine gate_ (.call { callee := .builtin .clear, args := #[.tmp 31], argTypes := #[48] }) rfl ?_; refine wpList_clear rfl (.tmp 31) 48 rfl (va := .slice (some ⟨g, m * 6, none⟩) 1 (c - m)) rfl R2.out ?_))
    go_ret
    exact ⟨rfl, O2.out, (((Keeps.refl [g] w).drew).trans (Keeps.of_grown G1.out (fun k hk => by simpa using hk.symm)) (fun x hx => .inl hx)).trans (Keeps.of_grown G2.out (fun k hk => by simpa using hk.symm)) (fun x hx => .inl hx)⟩
end Go.Proofs.Ytcohodkpppmaoaa.Q
