/-
  slices.Delete of one message out of a row of one's own: the cells behind it move up; the last place is cleared.
  Contracts of layer 8 (bags): Take, Copy, List.
  Contracts of layer 8 (bags): Take at a place where there is none; a bag that is not there; Copy.
  Contracts of layer 8 (bags): List: all messages, in memory of their own.
  What the program's calls answer, as values that own their blocks: rows of plain things, and results with their rows.
  The reference's twin of a message: in memory of its own.
  The reference's bag: New, Add, Copy, List.
  A bag, the reference's bag and the book beside each other, and what is laid by (X): the steps.
  The reference's bag: Take.
-/
import Derived.Test.YtcohodkpppmaoaaGreatDoorMR6
import Derived.Deep.RegionLaw
import Derived.Outline
import Derived.Test.YtcohodkpppmaoaaGreatDoorMR9
import Derived.Test.YtcohodkpppmaoaaGreatDoorMR5
set_option linter.unusedSimpArgs false
set_option linter.unusedVariables false
namespace Go.Proofs.YtcohodkpppmaoaaGreatDoor.Q
open Go.RowKit Go.Proofs.YtcohodkpppmaoaaGreatDoorW.PrintWords Go.Proofs.YtcohodkpppmaoaaGreatDoorW.PrintLast Go.Proofs.YtcohodkpppmaoaaGreatDoorW.PrintMore
set_option linter.unusedVariables false

section
variable {P : Program}
/-- append(s[:k], s[k+1:]...), cells told. -/
theorem delete_run {W : World} (t ty e : TypeId) (i : TypeInfo) (size : Nat) (ht : P.underlying t = some (.slice e)) (hi : P.info? e = some i) (hsz : i.size = size) (hs0 : 0 < size)
    {g m c k : Nat} {c0 cm c1 : List Value} (ho : W.ownsRow 0 e size (.slice (some ⟨g, 0, none⟩) (m + 1) c) (m + 1) (c0 ++ (cm ++ c1))) (h0 : c0.length = k * size) (hm : cm.length = size) (hk : k ≤ m) (h1 : ∀ u ∈ c1, u.oneCell' = true)
    {A : Option Addr} (hA : A = if c = k + 1 then some ⟨g, 0, none⟩ else (some (⟨g, 0, none⟩ : Addr)).map (·.add ((k + 1) * size))) (c2 : Nat) :
    ∃ w1, (Builtin.append_ #[t, t] ty #[.slice (some ⟨g, 0, none⟩) k c, .slice A (m - k) c2]).run P W = .ok (.slice (some ⟨g, 0, none⟩) m c) w1 ∧ w1.ownsRow 0 e size (.slice (some ⟨g, 0, none⟩) m c) m (c0 ++ c1) ∧ W.grownBy w1 (some g) := by
  obtain ⟨hlen, hrow⟩ := ho
  rcases hrow with ⟨hv, _⟩ | ⟨g', cap', cur, hv, hb, hh, hnc, hcm, hcs, htake⟩
  · cases hv
  injection hv with ha _ hc
  injection ha with ha
  injection ha with hg
  subst hg; subst hc
  have hks : (k + 1) * size = k * size + size := Nat.succ_mul _ _
  have hms : (m + 1) * size = m * size + size := Nat.succ_mul _ _
  have hkm : k * size ≤ m * size := Nat.mul_le_mul_right _ hk
  have hcc : (m + 1) * size ≤ c * size := Nat.mul_le_mul_right _ hnc
  have hsub : (m - k) * size = m * size - k * size := Nat.sub_mul _ _ _
  rw [List.length_append, List.length_append, h0, hm] at hlen
  have hl1 : c1.length = (m - k) * size := by omega
  have hcur : ∀ q, q < (m + 1) * size → cur.toList[q]? = (c0 ++ (cm ++ c1))[q]? := by
    intro q hq
    rw [← htake, List.getElem?_take, if_pos hq]
  obtain ⟨a, rfl, hcell⟩ : ∃ a, A = some a ∧ ∀ j u, c1[j]? = some u → W.cell? (a.add j) = some u := by
    by_cases hck : c = k + 1
    · rw [if_pos hck] at hA
      refine ⟨_, hA, fun j u hu => ?_⟩
      have : c1 = [] := List.eq_nil_of_length_eq_zero (by rw [hl1, show m - k = 0 by omega, Nat.zero_mul])
      rw [this] at hu
      simp at hu
    · rw [if_neg hck, Option.map_some] at hA
      refine ⟨_, hA, fun j u hu => ?_⟩
      have hj : j < c1.length := (List.getElem?_eq_some_iff.1 hu).1
      rw [add_add, add_at, cell_of_row W g _ cur e (0, 0) hh, ← Array.getElem?_toList, Nat.zero_add, hcur _ (by omega)]
      rw [List.getElem?_append_right (by omega), List.getElem?_append_right (by omega), ← hu]
      congr 1
      omega
  have hfit : 0 + k * size + c1.length ≤ cur.size := by omega
  have hrun := run_append_room_cells (P := P) (w := W) t ty e i ht hi g 0 k c a (m - k) c2 c1 (by rw [hl1, hsz]) hcell h1 (by omega)
    (fun j hj => by rw [hsz, cell_of_row W g _ cur e (0, 0) hh]; simp; omega) (fun j _ => blk_frozen hh _)
  rw [hsz, show k + (m - k) = m by omega] at hrun
  obtain ⟨cur', h3, h4, h5⟩ := setCells_row c1 (0 + k * size) W cur hh hfit
  obtain ⟨s1, s2, s3, s4⟩ := setCells_same g c1 (0 + k * size) W
  refine ⟨_, hrun, ⟨by rw [List.length_append, h0, hl1]; omega, .inr ⟨g, c, cur', rfl, Nat.zero_le _, h3, by omega, hcm, by rw [h4, hcs], ?_⟩⟩, ⟨s1, s2, s3, by rw [s4]; exact Nat.le_refl _, fun k' _ hk' => setCells_far c1 _ k' (fun he => hk' (by rw [he]))⟩⟩
  rw [h5, Nat.zero_add]
  have e0 : cur.toList.take (k * size) = c0 := by
    have : cur.toList.take (k * size) = (cur.toList.take ((m + 1) * size)).take (k * size) := by rw [List.take_take, Nat.min_eq_left (by omega)]
    rw [this, htake, ← h0, List.take_left]
  rw [e0, List.take_append_of_le_length (by rw [List.length_append, h0, hl1]; omega), List.take_of_length_le (by rw [List.length_append, h0, hl1]; omega)]

/-- clear(s[m:m+1]) behind a row of m elements: the row stays. -/
theorem clear_run {W : World} (t ty e : TypeId) (i : TypeInfo) (z : Value) (size : Nat) (ht : P.underlying t = some (.slice e)) (hi : P.info? e = some i) (hz : i.zero = some z) (hzs : z.cells.size = size) (hz1 : ∀ u ∈ z.cells.toList, u.oneCell' = true)
    {g m c c2 : Nat} {xs : List Value} (ho : W.ownsRow 0 e size (.slice (some ⟨g, 0, none⟩) m c) m xs) (hm : m < c) :
    ∃ w1, (Builtin.clear_ #[t] ty #[.slice (some ⟨g, m * size, none⟩) 1 c2]).run P W = .ok (.tuple #[]) w1 ∧ w1.ownsRow 0 e size (.slice (some ⟨g, 0, none⟩) m c) m xs ∧ W.grownBy w1 (some g) := by
  obtain ⟨hlen, hrow⟩ := ho
  rcases hrow with ⟨hv, _⟩ | ⟨g', cap', cur, hv, hb, hh, hnc, hcm, hcs, htake⟩
  · cases hv
  injection hv with ha _ hc
  injection ha with ha
  injection ha with hg
  subst hg; subst hc
  have hcc : (m + 1) * size ≤ c * size := Nat.mul_le_mul_right _ hm
  rw [Nat.succ_mul] at hcc
  have hzc : (Builtin.zeroCells z.cells 1).toList = z.cells.toList := by
    apply List.ext_getElem
    · simp [Builtin.zeroCells]
    · intro j h1 h2
      simp [Builtin.zeroCells]
      have : j < z.cells.size := by simpa using h2
      rw [Nat.mod_eq_of_lt this]
      simp [this]
  have hzl : z.cells.toList.length = size := by simpa using hzs
  have hst := run_storeCells_cells (P := P) g (m * size) z.cells.toList 0 W
    (fun j hj => by rw [cell_of_row W g _ cur e (0, 0) hh]; simp; omega) (fun j _ => blk_frozen hh _) hz1
  simp only [Nat.add_zero] at hst
  obtain ⟨cur', h3, h4, h5⟩ := setCells_row z.cells.toList (m * size) W cur hh (by omega)
  obtain ⟨s1, s2, s3, s4⟩ := setCells_same g z.cells.toList (m * size) W
  refine ⟨W.setCells g (m * size) z.cells.toList, ?_, ⟨hlen, .inr ⟨g, c, cur', rfl, Nat.zero_le _, h3, by omega, hcm, by rw [h4, hcs], ?_⟩⟩, ⟨s1, s2, s3, by rw [s4]; exact Nat.le_refl _, fun k' _ hk' => setCells_far _ _ k' (fun he => hk' (by rw [he]))⟩⟩
  · simp [Builtin.clear_, run_underlying ht, zeroValue, typeInfo, hi, hz, hzc, hst]
  · rw [h5, List.append_assoc, List.take_append_of_le_length (by rw [List.length_take, Array.length_toList]; omega), List.take_of_length_le (by rw [List.length_take]; omega), htake]

theorem slice3 (t e : TypeId) {i : TypeInfo} (ht : P.underlying t = some (.slice e)) (hi : P.info? e = some i) (A : Option Addr) (n c : Nat) (l h m : Int) (h0 : 0 ≤ l) (h1 : l ≤ h) (h2 : h ≤ m) (h3 : m ≤ c) :
    ∃ A' n' c', ∀ W : World, (Instr.slice t (.slice A n c) (some (.int .i64 l)) (some (.int .i64 h)) (some (.int .i64 m))).run P W = .ok (.slice A' n' c') W := by
  have hel : P.elem t = e := by simp [Program.elem, ht]
  have hu : P.underlying t = some (.slice (P.elem t)) := by rw [hel]; exact ht
  refine ⟨if m.toNat = l.toNat then A else A.map (fun a => a.add (l.toNat * i.size)), h.toNat - l.toNat, m.toNat - l.toNat, fun W => ?_⟩
  rw [run_slice_lhm W t A n c hu .i64 .i64 .i64 l h m h0 h1 h2 h3, hel]
  simp [sizeOf, typeInfo, hi, sliced, Result.andThen]
theorem slice2 (t e : TypeId) {i : TypeInfo} (ht : P.underlying t = some (.slice e)) (hi : P.info? e = some i) (size : Nat) (hsz : i.size = size) (g n c : Nat) (l h : Int) (h0 : 0 ≤ l) (h1 : l ≤ h) (h2 : h ≤ c) (h3 : l < c) :
    ∀ W : World, (Instr.slice t (.slice (some ⟨g, 0, none⟩) n c) (some (.int .i64 l)) (some (.int .i64 h)) none).run P W = .ok (.slice (some ⟨g, l.toNat * size, none⟩) (h.toNat - l.toNat) (c - l.toNat)) W := by
  have hel : P.elem t = e := by simp [Program.elem, ht]
  have hu : P.underlying t = some (.slice (P.elem t)) := by rw [hel]; exact ht
  intro W
  rw [run_slice_lh W t (some ⟨g, 0, none⟩) n c hu .i64 .i64 l h h0 h1 h2, hel]
  have hne : ¬ c = l.toNat := by omega
  simp [sizeOf, typeInfo, hi, hsz, sliced, Result.andThen, hne, add_plain]
end

section
variable {P : Program} {ops : Array Oper} {o : Oper} {a : Act} {Q : Exit → Act → World → Prop} {K : Act → World → Prop} {W w1 : World}
/-- append, its run told, as a step of a region that draws its order. -/
theorem append_step (hgd : o.guard = none) (s x : Operand) (t : TypeId) (ho : o.op = .call { callee := .builtin .append, args := #[s, x], argTypes := #[t, t] }) {va vx v1 : Value} (hs : a.eval s = va) (hx : a.eval x = vx)
    (hr : (Builtin.append_ #[t, t] o.type #[va, vx]).run P W = .ok v1 w1) (h : K (a.put o.dst v1) w1) :
    if Region.wanted o (yielded ops a.tmps) = true then Oper.wp P o a W K Q else K (a.put o.dst undef) W := by
  rw [if_pos (by simp [Region.wanted, hgd])]
  unfold Oper.wp execOp
  simp only [ho, resolve, invoke, builtin, Sem.run_bind, Sem.run_pure, Result.andThen_ok, List.map_toArray, List.map_cons, List.map_nil, hs, hx, hr]
  exact h
theorem wpList_clear {rest : List Oper} (hgd : o.guard = none) (s : Operand) (t : TypeId) (ho : o.op = .call { callee := .builtin .clear, args := #[s], argTypes := #[t] }) {va : Value} (hs : a.eval s = va)
    (hr : (Builtin.clear_ #[t] o.type #[va]).run P W = .ok (.tuple #[]) w1) (h : wpList P ops Q rest (a.put o.dst (.tuple #[])) w1) : wpList P ops Q (o :: rest) a W := by
  refine wpList_plain hgd fun K hK => ?_
  unfold Oper.wp execOp
  simp only [ho, resolve, invoke, builtin, Sem.run_bind, Sem.run_pure, Result.andThen_ok, List.map_toArray, List.map_cons, List.map_nil, hs, hr]
  exact hK _ _ h
end
theorem msg_info : ∃ i, Tryz.prog.info? 50 = some i ∧ i.zero = some (.agg #[.int .u8 0, .int .u8 0, .int .u8 0, .int .u32 0, .slice none 0 0, .slice none 0 0]) ∧ i.size = 6 := by
  have h := infoMsg
  cases e : Tryz.prog.info? 50 with
  | none => rw [e] at h; simp at h
  | some i => rw [e] at h; simp at h; exact ⟨i, rfl, h.1, h.2.1⟩
def DelPost (w : World) (g m c : Nat) (xs : List Value) (e : Ending) (w' : World) : Prop := e = .returned (.slice (some ⟨g, 0, none⟩) m c) ∧ w'.ownsRow 0 50 6 (.slice (some ⟨g, 0, none⟩) m c) m xs ∧ Keeps [g] w w'
set_option maxHeartbeats 3200000 in
set_option maxRecDepth 100000 in
theorem delete_calls (w : World) (g m c k : Nat) (c0 cm c1 : List Value) (ho : w.ownsRow 0 50 6 (.slice (some ⟨g, 0, none⟩) (m + 1) c) (m + 1) (c0 ++ (cm ++ c1))) (h0 : c0.length = k * 6) (hm : cm.length = 6) (hk : k ≤ m) (h1 : ∀ u ∈ c1, u.oneCell' = true) (hmx : m ≤ 65536) :
    Calls Tryz.prog 72 #[.slice (some ⟨g, 0, none⟩) (m + 1) c, .int .i64 k, .int .i64 ((k : Int) + 1)] w (DelPost w g m c (c0 ++ c1)) := by
  obtain ⟨iu, hiu, hz, hsz⟩ := msg_info
  have hmc : m + 1 ≤ c := own_le ho
  obtain ⟨A3, n3, c3, s3⟩ := slice3 (P := Tryz.prog) 60 50 Tryz.underlying60 hiu (some ⟨g, 0, none⟩) (m + 1) c (k : Int) ((k : Int) + 1) ((m : Int) + 1) (by omega) (by omega) (by omega) (by omega)
  have sA := cut_to (P := Tryz.prog) 60 50 .i64 Tryz.underlying60 hiu (some ⟨g, 0, none⟩) (m + 1) c (k : Int) (by omega) (by omega) hmc
  have sB := cut_from (P := Tryz.prog) 60 50 .i64 Tryz.underlying60 hiu 6 hsz (some ⟨g, 0, none⟩) (m + 1) c ((k : Int) + 1) (by omega) (by omega)
  have sC := slice2 (P := Tryz.prog) 60 50 Tryz.underlying60 hiu 6 hsz g m c (m : Int) ((m : Int) + 1) (by omega) (by omega) (by omega) (by omega)
  obtain ⟨A1, hA1⟩ : ∃ A1, A1 = if c = k + 1 then some ⟨g, 0, none⟩ else (some (⟨g, 0, none⟩ : Addr)).map (·.add ((k + 1) * 6)) := ⟨_, rfl⟩
  rw [show ((k : Int) + 1).toNat = k + 1 from by omega, ← hA1, show m + 1 - (k + 1) = m - k from by omega] at sB
  rw [show ((m : Int) + 1).toNat = m + 1 from by omega, Int.toNat_natCast, show m + 1 - m = 1 from by omega] at sC
  rw [Int.toNat_natCast] at sA
  have hneq : ((k : Int) == (k : Int) + 1) = false := by rw [beq_eq_false_iff_ne]; omega
  have HO := Aside0.mk ho
  have HA := Aside0.mk hA1
  have H0 := Aside0.mk h0
  have HM := Aside0.mk hm
  have H1 := Aside0.mk h1
  have HIU := Aside0.mk hiu
  have HSZ := Aside0.mk hsz
  have HZ := Aside0.mk hz
  clear ho hA1 h0 hm h1 hiu hsz hz
  go_enter Tryz.func72, Tryz.ntmps72
  go_wp2_with fail
  obtain ⟨w1, r1, o1, g1⟩ := delete_run (W := w.drew) 60 60 50 iu 6 Tryz.underlying60 HIU.out HSZ.out (by decide) (own_drew HO.out) H0.out HM.out hk H1.out HA.out (c - (k + 1))
  have R1 := Aside0.mk r1
  have O1 := Aside0.mk o1
  have G1 := Aside0.mk g1
  obtain ⟨w2, r2, o2, g2⟩ := clear_run (P := Tryz.prog) (W := w1) 60 0 50 iu (.agg #[.int .u8 0, .int .u8 0, .int .u8 0, .int .u32 0, .slice none 0 0, .slice none 0 0]) 6 Tryz.underlying60 HIU.out HZ.out rfl (by decide) o1 (c2 := c - m) (by omega)
  have R2 := Aside0.mk r2
  have O2 := Aside0.mk o2
  have G2 := Aside0.mk g2
  clear r1 o1 g1 r2 o2 g2
  go_region_law (refine append_step rfl (.tmp 22) (.tmp 25) 60 rfl (va := .slice (some ⟨g, 0, none⟩) k c) (vx := .slice A1 (m - k) (c - (k + 1))) (by simp [Act.eval, Act.put]) (by simp [Act.eval, Act.put]) R1.out ?_)
  all_goals
    go_wp2_with (first | (refine gate_ (.call { callee := .builtin .clear, args := #[.tmp 31], argTypes := #[60] }) rfl ?_; refine wpList_clear rfl (.tmp 31) 60 rfl (va := .slice (some ⟨g, m * 6, none⟩) 1 (c - m)) rfl R2.out ?_))
    go_ret
    exact ⟨rfl, O2.out, (((Keeps.refl [g] w).drew).trans (Keeps.of_grown G1.out (fun k hk => by simpa using hk.symm)) (fun x hx => .inl hx)).trans (Keeps.of_grown G2.out (fun k hk => by simpa using hk.symm)) (fun x hx => .inl hx)⟩
end Go.Proofs.YtcohodkpppmaoaaGreatDoor.Q
namespace Go.Proofs.YtcohodkpppmaoaaGreatDoor.Q
open Go.RowKit Go.Proofs.YtcohodkpppmaoaaGreatDoorW.PrintWords Go.Proofs.YtcohodkpppmaoaaGreatDoorW.PrintLast Go.Proofs.YtcohodkpppmaoaaGreatDoorW.PrintMore
set_option linter.unusedVariables false

/-- A room that holds message x at place k: the row's cells and blocks, parted there. -/
theorem RoomAt.open_ {w : World} {h : Nat} {most : Int} {L : List MsgT} {G : List Nat} (hr : RoomAt w h most L G) {k : Nat} {x : MsgT} (hk : L[k]? = some x) :
    ∃ gl c v4 v5 c0 c1 G0 Gm G1, w.heap[h]? = some (.cells #[.slice (some ⟨gl, 0, none⟩) L.length c, .int .i64 most, .func (.func 67) #[] #[]] 108 (0, 0)) ∧
      w.ownsRow 0 50 6 (.slice (some ⟨gl, 0, none⟩) L.length c) L.length (c0 ++ ((msgCells x v4 v5).toList ++ c1)) ∧ c0.length = k * 6 ∧ Fd.Els fdMsg w (L.take k) c0 G0 ∧ fdMsg.M w Gm x (msgCells x v4 v5).toList ∧ Fd.Els fdMsg w (L.drop (k + 1)) c1 G1 ∧ G = gl :: (G0 ++ (Gm ++ G1)) := by
  obtain ⟨v, hb, inner, G', ho, he, rfl⟩ := hr
  obtain ⟨hkl, hx⟩ := List.getElem?_eq_some_iff.1 hk
  obtain ⟨gl, c, rfl, _⟩ := ho.form (by omega)
  obtain ⟨c0, cm, c1, G0, Gm, G1, rfl, h0, rfl, h1, h2, h3⟩ := Fd.els_at hkl he
  rw [hx] at h2
  obtain ⟨v4, v5, hcm, _⟩ := MsgIn.of_M h2
  subst hcm
  exact ⟨gl, c, v4, v5, c0, c1, G0, Gm, G1, hb, ho, h0, h1, h2, h3, rfl⟩
theorem cells_at {w : World} {g n c k : Nat} {x : MsgT} {v4 v5 : Value} {c0 c1 : List Value} (ho : w.ownsRow 0 50 6 (.slice (some ⟨g, 0, none⟩) n c) n (c0 ++ ((msgCells x v4 v5).toList ++ c1))) (h0 : c0.length = k * 6) :
    w.cell? ⟨g, k * 6, none⟩ = some (.int .u8 x.f0) ∧ w.cell? ⟨g, k * 6 + 1, none⟩ = some (.int .u8 x.f1) ∧ w.cell? ⟨g, k * 6 + 2, none⟩ = some (.int .u8 x.f2) ∧ w.cell? ⟨g, k * 6 + 3, none⟩ = some (.int .u32 x.f3) ∧ w.cell? ⟨g, k * 6 + 4, none⟩ = some v4 ∧ w.cell? ⟨g, k * 6 + 5, none⟩ = some v5 := by
  have hc : ∀ j u, (msgCells x v4 v5).toList[j]? = some u → w.cell? ⟨g, k * 6 + j, none⟩ = some u := by
    intro j u hu
    have hj : j < 6 := by have := (List.getElem?_eq_some_iff.1 hu).1; simpa [msgCells] using this
    have := ho.cells (g := g) rfl (k * 6 + j) u (by
      rw [List.getElem?_append_right (by omega), h0, Nat.add_sub_cancel_left, List.getElem?_append_left (by simpa [msgCells] using hj)]
      exact hu)
    rwa [add_plain] at this
  exact ⟨hc 0 _ rfl, hc 1 _ rfl, hc 2 _ rfl, hc 3 _ rfl, hc 4 _ rfl, hc 5 _ rfl⟩

def TookPost (w : World) (g : Nat) (most : Int) (L : List MsgT) (F : List Nat) (k : Nat) (x : MsgT) (e : Ending) (w' : World) : Prop :=
  ∃ v4 v5 F' Fm, e = .returned (.tuple #[.agg (msgCells x v4 v5), .int .i64 0]) ∧ fdMsg.M w' Fm x (msgCells x v4 v5).toList ∧ BagAt w' g most (L.eraseIdx k) F' ∧ (F' ++ Fm).Nodup ∧ Keeps F w w' ∧ ∀ b ∈ F' ++ Fm, b ∈ F
theorem take_fin {w W0 w5 W : World} {g h gl n c k : Nat} {most : Int} {L : List MsgT} {x : MsgT} {v4 v5 : Value} {c0 c1 : List Value} {G0 Gm G1 : List Nat} (hg : w.heap[g]? = some (.cells #[.pointer (some ⟨h, 0, none⟩)] 110 (0, 0)))
    (hh : h < w.heap.size) (hl : gl < w.heap.size) (hn : L.length = n + 1) (hk : L[k]? = some x) (hE0 : Fd.Els fdMsg w (L.take k) c0 G0) (hM : fdMsg.M w Gm x (msgCells x v4 v5).toList) (hE1 : Fd.Els fdMsg w (L.drop (k + 1)) c1 G1) (hnd : (g :: h :: gl :: (G0 ++ (Gm ++ G1))).Nodup)
    (hW : Below w.heap.size w W0) (k5 : Keeps [gl] W0 w5) (o5 : w5.ownsRow 0 50 6 (.slice (some ⟨gl, 0, none⟩) n c) n (c0 ++ c1)) (kW : Keeps [h, w.heap.size] w5 W)
    (hb : W.heap[h]? = some (.cells #[.slice (some ⟨gl, 0, none⟩) n c, .int .i64 most, .func (.func 67) #[] #[]] 108 (0, 0))) :
    TookPost w g most L (g :: h :: gl :: (G0 ++ (Gm ++ G1))) k x (.returned (.tuple #[.agg (msgCells x v4 v5), .int .i64 0])) W := by
  have KW : Keeps [gl, h, w.heap.size] w W := ((Keeps.of_below hW [gl, h, w.heap.size]).trans k5 (fun y hy => .inl (by simp at hy; simp [hy]))).trans kW (fun y hy => .inl (by simp only [List.mem_cons, List.not_mem_nil, or_false] at hy ⊢; exact .inr hy))
  have hlt : ∀ b ∈ G0 ++ (Gm ++ G1), b < w.heap.size := fun b hb => by
    rcases List.mem_append.1 hb with hb | hb
    · exact Fd.els_lt hE0 b hb
    · rcases List.mem_append.1 hb with hb | hb
      · exact fdMsg.lt hM b hb
      · exact Fd.els_lt hE1 b hb
  obtain ⟨n1, n2⟩ := List.nodup_cons.1 hnd
  obtain ⟨n3, n4⟩ := List.nodup_cons.1 n2
  obtain ⟨n5, n6⟩ := List.nodup_cons.1 n4
  have hfar : ∀ b ∈ G0 ++ (Gm ++ G1), b ∉ [gl, h, w.heap.size] := fun b hb hx => by
    simp only [List.mem_cons, List.not_mem_nil, or_false] at hx
    rcases hx with e | e | e
    · exact n5 (e ▸ hb)
    · exact n3 (List.mem_cons_of_mem _ (e ▸ hb))
    · have := hlt _ hb
      omega
  have hgfar : g ∉ [gl, h, w.heap.size] := fun hx => by
    simp only [List.mem_cons, List.not_mem_nil, or_false] at hx
    have := blk_lt hg
    rcases hx with rfl | rfl | rfl
    · exact n1 (by simp)
    · exact n1 (by simp)
    · omega
  have hlh : gl ∉ [h, w.heap.size] := fun hx => by
    simp only [List.mem_cons, List.not_mem_nil, or_false] at hx
    rcases hx with rfl | rfl
    · exact n3 (by simp)
    · omega
  have hm : ∀ b ∈ G0 ++ (Gm ++ G1), W.heap[b]? = w.heap[b]? := fun b hb => KW.block b (hlt b hb) (hfar b hb)
  have hlen : (L.eraseIdx k).length = n := by
    rw [List.length_eraseIdx_of_lt (List.getElem?_eq_some_iff.1 hk).1]
    omega
  refine ⟨v4, v5, g :: h :: gl :: (G0 ++ G1), Gm, rfl, fdMsg.move (fun b hb => hm b (by simp [hb])) hM, ⟨h, gl :: (G0 ++ G1), KW.blk hg hgfar, ⟨_, hb, c0 ++ c1, G0 ++ G1, ?_, ?_, rfl⟩, rfl, ?_⟩, ?_, ?_, ?_⟩
  · rw [hlen]
    exact own_move o5 (fun b hb => by
      have : gl = b := by simpa [Value.ownBlock] using hb
      subst this
      exact kW.block gl (own_lt o5 gl rfl) hlh)
  · rw [List.eraseIdx_eq_take_drop_succ]
    exact Fd.els_append (Fd.els_move (fun b hb => hm b (by simp [hb])) hE0) (Fd.els_move (fun b hb => hm b (by simp [hb])) hE1)
  · refine List.Sublist.nodup ?_ hnd
    exact ((List.Sublist.append_left (List.sublist_append_right _ _) _).cons_cons _).cons_cons _ |>.cons_cons _
  · refine (List.Perm.nodup_iff ?_).1 hnd
    simp only [List.cons_append, List.append_assoc]
    exact ((List.Perm.append_left _ List.perm_append_comm).cons _).cons _ |>.cons _
  · exact KW.mono (fun y hy => by
      simp only [List.mem_cons, List.not_mem_nil, or_false] at hy ⊢
      rcases hy with rfl | rfl | rfl
      · exact .inl (.inr (.inr (.inl rfl)))
      · exact .inl (.inr (.inl rfl))
      · exact .inr (Nat.le_refl _))
  · intro b hb
    simp only [List.cons_append, List.mem_cons, List.mem_append] at hb ⊢
    rcases hb with h1 | h1 | h1 | (h1 | h1) | h1
    · exact .inl h1
    · exact .inr (.inl h1)
    · exact .inr (.inr (.inl h1))
    · exact .inr (.inr (.inr (.inl h1)))
    · exact .inr (.inr (.inr (.inr (.inr h1))))
    · exact .inr (.inr (.inr (.inr (.inl h1))))
set_option maxHeartbeats 3200000 in
set_option maxRecDepth 100000 in
theorem Take_yes (w : World) (g : Nat) (most : Int) (L : List MsgT) (F : List Nat) (k : Nat) (x : MsgT) (hR : BagAt w g most L F) (hk : L[k]? = some x) (hL : L.length ≤ 65536) :
    Calls Tryz.prog 15 #[.pointer (some ⟨g, 0, none⟩), .int .i64 k] w (TookPost w g most L F k x) := by
  obtain ⟨h, G, hg, hr, rfl, hnd⟩ := hR
  obtain ⟨gl, c, v4, v5, c0, c1, G0, Gm, G1, hb, ho, h0, hE0, hM, hE1, rfl⟩ := hr.open_ hk
  have hu := Tryz.underlying50
  have hkl : k < L.length := (List.getElem?_eq_some_iff.1 hk).1
  obtain ⟨n, hn⟩ : ∃ n, L.length = n + 1 := ⟨L.length - 1, by omega⟩
  rw [hn] at hb ho
  have q0 := blk_cell hg 0
  have p0 := blk_cell hb 0
  have hgl : g < w.heap.size := blk_lt hg
  have hhl : h < w.heap.size := blk_lt hb
  have hll : gl < w.heap.size := own_lt ho gl rfl
  have hkn : (k : Int) < (n : Int) + 1 := by omega
  have hn65 : n ≤ 65536 := by omega
  have hha : hasB (k : Int) (n + 1) = true := by unfold hasB; simp; omega
  obtain ⟨k0, k1, k2, k3, k4, k5⟩ := cells_at ho h0
  obtain ⟨⟨A4, d4, A5, d5, e4, e5, _⟩⟩ := (show MsgIn w x v4 v5 from by
    obtain ⟨a, b, e, hmi⟩ := MsgIn.of_M hM
    have e1 : msgCells x v4 v5 = msgCells x a b := Array.ext' e
    unfold msgCells at e1
    simp at e1
    rw [e1.1, e1.2]
    exact hmi)
  subst e4; subst e5
  have hs1 : IntKind.i64.wrap ((k : Int) + 1) = (k : Int) + 1 := IntWalk.i64_in _ (by omega)
  have HG := Aside0.mk hg
  have HBK := Aside0.mk hb
  have HO := Aside0.mk ho
  have H0 := Aside0.mk h0
  have HE0 := Aside0.mk hE0
  have HE1 := Aside0.mk hE1
  have HM := Aside0.mk hM
  have HND := Aside0.mk hnd
  have HN := Aside0.mk hn
  have HK := Aside0.mk hk
  have HHA := Aside0.mk hha
  clear hg hb ho h0 hE0 hE1 hM hnd hn hk hr hha
  go_enter Tryz.func15, Tryz.ntmps15
  go_wp2_with fail
  refine (ask_calls _ g h (n + 1) c (some ⟨gl, 0, none⟩) (k : Int) (cell_later (below_alloc (Below.refl w.heap.size w) _) q0) (cell_later (below_alloc (Below.refl w.heap.size w) _) p0)).mono ?_
  rintro e w' ⟨rfl, rfl⟩
  rw [HHA.out, if_pos rfl]
  go_wp2_with fail
  go_region_with (first
    | (go_at_call 72
       have hbw := below_drew1 (below_alloc (Below.refl w.heap.size w) (.cells #[.int .u8 x.f0, .int .u8 x.f1, .int .u8 x.f2, .int .u32 x.f3, .slice A4 x.f4.length d4, .slice A5 x.f5.length d5] 50))
       refine (delete_calls _ gl n c k c0 _ c1 (pw_own_below HO.out hbw) H0.out rfl (by omega) (fun u hu => Fd.els_one_cell HE1.out u hu) (by omega)).mono ?_
       rintro e w5 ⟨rfl, ho5, k5⟩
       have BW := Aside0.mk hbw
       have O5 := Aside0.mk ho5
       have K5 := Aside0.mk k5
       have hgn : g ∉ [gl] := fun hx => (List.nodup_cons.1 HND.out).1 (by simp at hx; simp [hx])
       have hhn : h ∉ [gl] := fun hx => (List.nodup_cons.1 (List.nodup_cons.1 HND.out).2).1 (by simp at hx; simp [hx])
       have bg5 := k5.blk (blk_below HG.out hbw) hgn
       have bh5 := k5.blk (blk_below HBK.out hbw) hhn
       have bb5 := k5.blk (blk_drew (blk_new w (.cells #[.int .u8 x.f0, .int .u8 x.f1, .int .u8 x.f2, .int .u32 x.f3, .slice A4 x.f4.length d4, .slice A5 x.f5.length d5] 50))) (by simp; omega)
       have q5 := blk_cell bg5 0
       have p5 := blk_cell bh5 0
       have pf5 := blk_frozen bh5 0
       obtain ⟨⟨z0, z1, z2, z3, z4, z5⟩, y0, y1, y2, y3, y4, y5⟩ := blk6 bb5
       have hhb : h ≠ w.heap.size := by omega
       have BH5 := Aside0.mk bh5
       have BB5 := Aside0.mk bb5
       clear hbw ho5 k5 hgn hhn bg5 bh5 bb5))
  all_goals
    have BH6 := Aside0.mk (blk_put BH5.out 0 (.slice (some ⟨gl, 0, none⟩) n c) (cs' := #[.slice (some ⟨gl, 0, none⟩) n c, .int .i64 most, .func (.func 67) #[] #[]]) rfl)
    have BB6 := Aside0.mk (blk_far BB5.out (p := ⟨h, 0, none⟩) (Ne.symm hhb) (.slice (some ⟨gl, 0, none⟩) n c))
    go_wp2
    try simp only [Exit.inBlock, Exit.then]
    refine bodyPost_ret (results_ct rfl _ _ w.heap.size 50 (msgCells x (.slice A4 x.f4.length d4) (.slice A5 x.f5.length d5)) (0, 0) _ rfl (blk_put (cs' := msgCells x (.slice A4 x.f4.length d4) (.slice A5 x.f5.length d5)) (blk_put (cs' := msgCells x (.slice A4 x.f4.length d4) (.slice A5 x.f5.length d5)) (blk_put (cs' := msgCells x (.slice A4 x.f4.length d4) (.slice A5 x.f5.length d5)) (blk_put (cs' := msgCells x (.slice A4 x.f4.length d4) (.slice A5 x.f5.length d5)) (blk_put (cs' := msgCells x (.slice A4 x.f4.length d4) (.slice A5 x.f5.length d5)) (blk_put (cs' := msgCells x (.slice A4 x.f4.length d4) (.slice A5 x.f5.length d5)) BB6.out 0 _ rfl) 1 _ rfl) 2 _ rfl) 3 _ rfl) 4 _ rfl) 5 _ rfl) hu rfl (by kernel_rfl)) rfl ?_
    have FIN := fun (W : World) (kW : Keeps [h, w.heap.size] w5 W) (hb : W.heap[h]? = some (.cells #[.slice (some ⟨gl, 0, none⟩) n c, .int .i64 most, .func (.func 67) #[] #[]] 108 (0, 0))) => take_fin HG.out hhl hll HN.out HK.out HE0.out HM.out HE1.out HND.out BW.out K5.out O5.out kW hb
    refine FIN _ ?_ ?_
    · exact (Keeps.setCell (Keeps.setCell (Keeps.setCell (Keeps.setCell (Keeps.setCell (Keeps.setCell (Keeps.setCell (Keeps.refl [h, w.heap.size] w5) (p := ⟨h, 0, none⟩) (.inl (by simp)) _) (p := ⟨w.heap.size, 0, none⟩) (.inl (by simp)) _) (p := ⟨w.heap.size, 1, none⟩) (.inl (by simp)) _) (p := ⟨w.heap.size, 2, none⟩) (.inl (by simp)) _) (p := ⟨w.heap.size, 3, none⟩) (.inl (by simp)) _) (p := ⟨w.heap.size, 4, none⟩) (.inl (by simp)) _) (p := ⟨w.heap.size, 5, none⟩) (.inl (by simp)) _)
    · exact (blk_far (blk_far (blk_far (blk_far (blk_far (blk_far BH6.out (p := ⟨w.heap.size, 0, none⟩) hhb _) (p := ⟨w.heap.size, 1, none⟩) hhb _) (p := ⟨w.heap.size, 2, none⟩) hhb _) (p := ⟨w.heap.size, 3, none⟩) hhb _) (p := ⟨w.heap.size, 4, none⟩) hhb _) (p := ⟨w.heap.size, 5, none⟩) hhb _)

end Go.Proofs.YtcohodkpppmaoaaGreatDoor.Q
namespace Go.Proofs.YtcohodkpppmaoaaGreatDoor.Q
open Go.RowKit Go.Proofs.YtcohodkpppmaoaaGreatDoorW.PrintWords Go.Proofs.YtcohodkpppmaoaaGreatDoorW.PrintLast Go.Proofs.YtcohodkpppmaoaaGreatDoorW.PrintMore
set_option linter.unusedVariables false

/-- A place where there is none: nothing is taken. -/
theorem Take_no (w : World) (g : Nat) (most : Int) (L : List MsgT) (F : List Nat) (i : Int) (hR : BagAt w g most L F) (hi : ¬ (0 ≤ i ∧ i < (L.length : Int))) :
    Calls Tryz.prog 15 #[.pointer (some ⟨g, 0, none⟩), .int .i64 i] w fun e w' => e = .returned (.tuple #[.agg #[.int .u8 0, .int .u8 0, .int .u8 0, .int .u32 0, .slice none 0 0, .slice none 0 0], .int .i64 1]) ∧ Below w.heap.size w w' := by
  obtain ⟨h, G, hg, ⟨v, hb, hr⟩, rfl, hnd⟩ := hR
  obtain ⟨A, c, rfl, _⟩ := Fd.row_reads hr
  have hu := Tryz.underlying50
  have q0 := blk_cell hg 0
  have p0 := blk_cell hb 0
  have HHA := Aside0.mk (show hasB i L.length = false by unfold hasB; rw [Bool.eq_false_iff]; simpa using hi)
  clear hg hb hr hnd hi
  go_enter Tryz.func15, Tryz.ntmps15
  go_wp2_with fail
  refine (ask_calls _ g h L.length c A i (cell_later (below_alloc (Below.refl w.heap.size w) _) q0) (cell_later (below_alloc (Below.refl w.heap.size w) _) p0)).mono ?_
  rintro e w' ⟨rfl, rfl⟩
  rw [HHA.out, if_neg (by decide)]
  go_wp2
  try simp only [Exit.inBlock, Exit.then]
  refine bodyPost_ret (results_ct rfl _ _ w.heap.size 50 #[.int .u8 0, .int .u8 0, .int .u8 0, .int .u32 0, .slice none 0 0, .slice none 0 0] (0, 0) _ rfl (blk_new w _) hu rfl (by kernel_rfl)) rfl ?_
  exact ⟨rfl, below_alloc (Below.refl _ _) _⟩
/-- A bag that is not there, or that no call made. -/
def NoBag (w : World) (p : Option Addr) : Prop := p = none ∨ ∃ g, p = some ⟨g, 0, none⟩ ∧ w.cell? ⟨g, 0, none⟩ = some (.pointer none)
theorem NoBag.below {w w1 : World} {p : Option Addr} (h : NoBag w p) (hb : Below w.heap.size w w1) : NoBag w1 p := by
  rcases h with h | ⟨g, h, hc⟩
  · exact .inl h
  · exact .inr ⟨g, h, cell_later hb hc⟩
set_option maxHeartbeats 3200000 in
set_option maxRecDepth 100000 in
theorem Copy_yes (w : World) (g : Nat) (most : Int) (L : List MsgT) (F : List Nat) (k : Nat) (x : MsgT) (hR : BagAt w g most L F) (hk : L[k]? = some x) (hne : (L.length : Int) ≠ most) (hL : L.length ≤ 65536) (hB : msgB x) :
    Calls Tryz.prog 19 #[.pointer (some ⟨g, 0, none⟩), .int .i64 k] w (AddedPost w g most L F x) := by
  have HR := Aside0.mk hR
  obtain ⟨h, G, hg, hr, rfl, hnd⟩ := hR
  obtain ⟨gl, c, v4, v5, c0, c1, G0, Gm, G1, hb, ho, h0, hE0, hM, hE1, rfl⟩ := hr.open_ hk
  have hkl : k < L.length := (List.getElem?_eq_some_iff.1 hk).1
  have hkn : (k : Int) < (L.length : Int) := by omega
  have q0 := blk_cell hg 0
  have p0 := blk_cell hb 0
  have HHA := Aside0.mk (show hasB (k : Int) L.length = true by unfold hasB; simp; omega)
  obtain ⟨k0, k1, k2, k3, k4, k5⟩ := cells_at ho h0
  have hMI : MsgIn w x v4 v5 := by
    obtain ⟨a, b, e, hmi⟩ := MsgIn.of_M hM
    have e1 : msgCells x v4 v5 = msgCells x a b := Array.ext' e
    unfold msgCells at e1
    simp at e1
    rw [e1.1, e1.2]
    exact hmi
  have HMI := Aside0.mk hMI
  have HB := Aside0.mk hB
  have HNE := Aside0.mk hne
  obtain ⟨⟨A4, d4, A5, d5, e4, e5, _⟩⟩ := hMI
  subst e4; subst e5
  clear hg hb ho h0 hE0 hE1 hM hnd hk hr hB hne
  go_enter Tryz.func19, Tryz.ntmps19
  go_wp2_with fail
  refine (ask_calls _ g h L.length c (some ⟨gl, 0, none⟩) (k : Int) q0 p0).mono ?_
  rintro e w' ⟨rfl, rfl⟩
  rw [HHA.out, if_pos rfl]
  go_wp2_with fail
  refine (Add_yes _ g most L _ x _ _ HR.out HNE.out hL HMI.out HB.out).mono ?_
  rintro e w5 ⟨F', rfl, r5, k5, l5⟩
  have R5 := Aside0.mk (And.intro r5 (And.intro k5 l5))
  clear r5 k5 l5
  go_wp2
  go_ret
  exact ⟨F', rfl, R5.out.1, R5.out.2.1, R5.out.2.2⟩
set_option maxRecDepth 100000 in
theorem Copy_full (w : World) (g : Nat) (most : Int) (L : List MsgT) (F : List Nat) (k : Nat) (x : MsgT) (hR : BagAt w g most L F) (hk : L[k]? = some x) (hne : (L.length : Int) = most) (hL : L.length ≤ 65536) :
    Calls Tryz.prog 19 #[.pointer (some ⟨g, 0, none⟩), .int .i64 k] w fun e w' => e = .returned (.int .i64 5) ∧ Below w.heap.size w w' := by
  have HR := Aside0.mk hR
  obtain ⟨h, G, hg, hr, rfl, hnd⟩ := hR
  obtain ⟨gl, c, v4, v5, c0, c1, G0, Gm, G1, hb, ho, h0, hE0, hM, hE1, rfl⟩ := hr.open_ hk
  have hkl : k < L.length := (List.getElem?_eq_some_iff.1 hk).1
  have hkn : (k : Int) < (L.length : Int) := by omega
  have q0 := blk_cell hg 0
  have p0 := blk_cell hb 0
  have HHA := Aside0.mk (show hasB (k : Int) L.length = true by unfold hasB; simp; omega)
  obtain ⟨k0, k1, k2, k3, k4, k5⟩ := cells_at ho h0
  have hMI : MsgIn w x v4 v5 := by
    obtain ⟨a, b, e, hmi⟩ := MsgIn.of_M hM
    have e1 : msgCells x v4 v5 = msgCells x a b := Array.ext' e
    unfold msgCells at e1
    simp at e1
    rw [e1.1, e1.2]
    exact hmi
  have HMI := Aside0.mk hMI
  have HNE := Aside0.mk hne
  obtain ⟨⟨A4, d4, A5, d5, e4, e5, _⟩⟩ := hMI
  subst e4; subst e5
  clear hg hb ho h0 hE0 hE1 hM hnd hk hr hne
  go_enter Tryz.func19, Tryz.ntmps19
  go_wp2_with fail
  refine (ask_calls _ g h L.length c (some ⟨gl, 0, none⟩) (k : Int) q0 p0).mono ?_
  rintro e w' ⟨rfl, rfl⟩
  rw [HHA.out, if_pos rfl]
  go_wp2_with fail
  refine (Add_no _ g most L _ x _ _ HR.out HNE.out HMI.out).mono ?_
  rintro e w5 ⟨rfl, hb5⟩
  have B5 := Aside0.mk hb5
  clear hb5
  go_wp2
  go_ret
  exact ⟨rfl, B5.out⟩
theorem Copy_no (w : World) (g : Nat) (most : Int) (L : List MsgT) (F : List Nat) (i : Int) (hR : BagAt w g most L F) (hi : ¬ (0 ≤ i ∧ i < (L.length : Int))) :
    Calls Tryz.prog 19 #[.pointer (some ⟨g, 0, none⟩), .int .i64 i] w fun e w' => e = .returned (.int .i64 1) ∧ w = w' := by
  obtain ⟨h, G, hg, ⟨v, hb, hr⟩, rfl, hnd⟩ := hR
  obtain ⟨A, c, rfl, _⟩ := Fd.row_reads hr
  have q0 := blk_cell hg 0
  have p0 := blk_cell hb 0
  have HHA := Aside0.mk (show hasB i L.length = false by unfold hasB; rw [Bool.eq_false_iff]; simpa using hi)
  clear hg hb hr hnd hi
  go_enter Tryz.func19, Tryz.ntmps19
  go_wp2_with fail
  refine (ask_calls _ g h L.length c A i q0 p0).mono ?_
  rintro e w' ⟨rfl, rfl⟩
  rw [HHA.out, if_neg (by decide)]
  go_wp2
  go_ret
  exact ⟨rfl, rfl⟩
end Go.Proofs.YtcohodkpppmaoaaGreatDoor.Q
namespace Go.Proofs.YtcohodkpppmaoaaGreatDoor.Q
open Go.RowKit Go.Proofs.YtcohodkpppmaoaaGreatDoorW.PrintWords Go.Proofs.YtcohodkpppmaoaaGreatDoorW.PrintLast Go.Proofs.YtcohodkpppmaoaaGreatDoorW.PrintMore
set_option linter.unusedVariables false

/-- Rows made since w. -/
def MadeMsgs (w wr : World) (v : Value) (L : List MsgT) : Prop := Below w.heap.size w wr ∧ ∃ F, Fd.Row fdMsg 50 wr F v L ∧ F.Nodup ∧ ∀ b ∈ F, w.heap.size ≤ b
def ListPost (w : World) (L : List MsgT) (e : Ending) (w' : World) : Prop := ∃ v, e = .returned v ∧ MadeMsgs w w' v L
set_option maxHeartbeats 3200000 in
set_option maxRecDepth 100000 in
theorem List_calls (w : World) (g : Nat) (most : Int) (L : List MsgT) (F : List Nat) (hR : BagAt w g most L F) (hL : L.length ≤ 65536) (hB : ∀ m ∈ L, msgB m) :
    Calls Tryz.prog 21 #[.pointer (some ⟨g, 0, none⟩)] w (ListPost w L) := by
  obtain ⟨h, G, hg, hr, rfl, hnd⟩ := hR
  have HR := Aside0.mk hr
  obtain ⟨v, hb, hrow⟩ := hr
  obtain ⟨A, c, rfl, _⟩ := Fd.row_reads hrow
  have q0 := blk_cell hg 0
  have p0 := blk_cell hb 0
  have HB := Aside0.mk hB
  clear hg hb hrow hnd hB
  go_enter Tryz.func21, Tryz.ntmps21
  go_wp2_with fail
  refine (there_yes _ g h q0).mono ?_
  rintro e w' ⟨rfl, rfl⟩
  go_wp2
  go_loopw [2, 16] (fun l i wr => ∃ (k : Nat) (v : Value), k ≤ L.length ∧ i = .int .i64 k ∧ v = l ∧ Aside0 (MadeMsgs w wr v (L.take k))) (fun _ i _ => L.length - (intOf i).toNat)
  case atStart => exact ⟨0, .slice none 0 0, Nat.zero_le _, rfl, rfl, ⟨Below.refl _ _, [], Fd.row_nil _ _ _, by simp, fun b hb => by cases hb⟩⟩
  case round =>
    obtain ⟨k, v, hk, rfl, rfl, HM⟩ := hrel
    by_cases hlt : k < L.length
    · have hlt' : (k : Int) < (L.length : Int) := by omega
      obtain ⟨x, hx⟩ : ∃ x, L[k]? = some x := ⟨L[k], List.getElem?_eq_getElem hlt⟩
      obtain ⟨gl, c', v4, v5, c0, c1, G0, Gm, G1, hb, ho, h0, hE0, hXM, hE1, rfl⟩ := HR.out.open_ hx
      obtain ⟨hA, hc⟩ : A = some ⟨gl, 0, none⟩ ∧ c = c' := by
        have := (blk_cell hb 0).symm.trans p0
        simp at this
        exact ⟨this.1.symm, this.2.symm⟩
      subst hA; subst hc
      obtain ⟨k0, k1, k2, k3, k4, k5⟩ := cells_at ho h0
      have bl := HM.out.1
      replace k0 := cell_later bl k0
      replace k1 := cell_later bl k1
      replace k2 := cell_later bl k2
      replace k3 := cell_later bl k3
      replace k4 := cell_later bl k4
      replace k5 := cell_later bl k5
      have hMI : MsgIn w x v4 v5 := by
        obtain ⟨a, b, e, hmi⟩ := MsgIn.of_M hXM
        have e1 : msgCells x v4 v5 = msgCells x a b := Array.ext' e
        unfold msgCells at e1
        simp at e1
        rw [e1.1, e1.2]
        exact hmi
      have HMI := Aside0.mk hMI
      have hxB := HB.out x (List.mem_of_getElem? hx)
      have HXB := Aside0.mk hxB
      have HX := Aside0.mk hx
      obtain ⟨⟨A4, d4, A5, d5, e4, e5, _⟩⟩ := hMI
      subst e4; subst e5
      clear hb ho h0 hE0 hE1 hXM bl hxB hx
      go_wp2_with fail
      refine (liked _ x (HMI.out.below (below_step HM.out.1 (below_alloc (Below.refl wr.heap.size wr) _))) HXB.out).mono ?_
      rintro e w5 ⟨x4, x5, F5, rfl, hM5, hn5, hl5, hb5⟩
      have M5 := Aside0.mk hM5
      have N5 := Aside0.mk hn5
      have B5 := Aside0.mk (below_step (below_alloc (Below.refl wr.heap.size wr) _) hb5)
      have L5 := Aside0.mk (show ∀ b ∈ F5, wr.heap.size ≤ b from fun b hb => Nat.le_trans (below_alloc (Below.refl wr.heap.size wr) _).size (hl5 b hb))
      obtain ⟨hbl, FF, hrr, hnn, hll⟩ := HM.out
      have RR := Aside0.mk hrr
      have NN := Aside0.mk hnn
      have LL := Aside0.mk hll
      have BL := Aside0.mk hbl
      have hlen : (L.take k).length = k := by rw [List.length_take]; omega
      have HLEN := Aside0.mk hlen
      clear hM5 hn5 hl5 hb5 hbl hrr hnn hll hlen
      unfold msgCells
      go_wp2_with (first | (at_builtin; (refine Fd.R_append fdMsg rfl (.tmp 20) (.tmp 23) 60 50 (.agg #[.int .u8 0, .int .u8 0, .int .u8 0, .int .u32 0, .slice none 0 0, .slice none 0 0]) 56 rfl Tryz.underlying60 infoMsg rfl (show 0 < 6 from by decide) (by decide) v (L.take k) x [.int .u8 x.f0, .int .u8 x.f1, .int .u8 x.f2, .int .u32 x.f3, x4, x5] FF F5 rfl rfl M5.out (Fd.row_below RR.out B5.out) (nodup_new NN.out N5.out (Fd.row_lt RR.out) L5.out) (by rw [HLEN.out]; omega) ?_); intro v1 w6 F6 h1 h2 h3 h4; have R6 := Aside0.mk h1; have N6 := Aside0.mk h2; have K6 := Aside0.mk h3; have L6 := Aside0.mk h4; clear h1 h2 h3 h4))
      go_roundw
      case rel =>
        refine ⟨k + 1, v1, by omega, by go_num, rfl, ⟨?_, F6, ?_, N6.out, ?_⟩⟩
        · exact (below_step BL.out B5.out).trans (K6.out.below LL.out (below_step BL.out B5.out).size)
        · have hxx : L[k] = x := by have := HX.out; rw [List.getElem?_eq_getElem hlt] at this; exact Option.some.inj this
          rw [List.take_succ_eq_append_getElem hlt, hxx]
          exact R6.out
        · intro b hb
          rcases L6.out b hb with h1 | h1 | h1
          · exact LL.out b h1
          · have := L5.out b h1
            have := BL.out.size
            omega
          · have := (below_step BL.out B5.out).size
            omega
      case measure => simp [intOf]; omega
    · go_wp2
      go_ret
      have e2 : L.take k = L := List.take_of_length_le (by omega)
      have hm := HM.out
      rw [e2] at hm
      exact ⟨_, rfl, hm⟩
end Go.Proofs.YtcohodkpppmaoaaGreatDoor.Q
namespace Go.Proofs.YtcohodkpppmaoaaGreatDoor.Q
open Go.RowKit Go.Proofs.YtcohodkpppmaoaaGreatDoorW.PrintWords Go.Proofs.YtcohodkpppmaoaaGreatDoorW.PrintLast Go.Proofs.YtcohodkpppmaoaaGreatDoorW.PrintMore
set_option linter.unusedVariables false
section
variable {w : World} {base : Nat} {ok : Nat → Prop} {v : Value}
/-- A row's own block, whatever it holds. -/
theorem R_own {α : Type} {d : Kd α} {e : Nat} {xs : List α} (h : Kd.R d e w base ok v xs) : (∃ inner, w.ownsRow 0 e d.sz v xs.length inner) ∧ ∀ b ∈ v.ownBlock.toList, base ≤ b := by
  obtain ⟨_, inner, ho, hr⟩ := h
  exact ⟨⟨inner, own_less ho (Nat.zero_le _)⟩, fun b hb => own_base ho b (by simpa using hb)⟩
end
end Go.Proofs.YtcohodkpppmaoaaGreatDoor.Q
namespace Go.Proofs.YtcohodkpppmaoaaGreatDoor.Q
open Go.RowKit Go.Proofs.YtcohodkpppmaoaaGreatDoorW.PrintWords Go.Proofs.YtcohodkpppmaoaaGreatDoorW.PrintLast Go.Proofs.YtcohodkpppmaoaaGreatDoorW.PrintMore
set_option linter.unusedVariables false
abbrev zeroMsg : Array Value := #[.int .u8 0, .int .u8 0, .int .u8 0, .int .u32 0, .slice none 0 0, .slice none 0 0]
/-- Where twin's loop stands. -/
structure RTw (w wr : World) (m : MsgT) (A4 : Option Addr) (c4 : Nat) (A5 : Option Addr) (c5 : Nat) (F4 : List Nat) (v : Value) (k : Nat) : Prop where
  below : Below w.heap.size w wr
  box : wr.heap[w.heap.size]? = some (.cells #[.int .u8 m.f0, .int .u8 m.f1, .int .u8 m.f2, .int .u32 m.f3, .slice A4 m.f4.length c4, .slice A5 m.f5.length c5] 50 (0, 0))
  res : wr.heap[w.heap.size + 1]? = some (.cells zeroMsg 50 (0, 0))
  ops : Fd.Row fdOp 82 wr F4 (.slice A4 m.f4.length c4) m.f4
  rows : ∃ F, Fd.Row fdResult 145 wr F v (m.f5.take k) ∧ (F4 ++ F).Nodup ∧ ∀ b ∈ F4 ++ F, w.heap.size + 2 ≤ b
theorem row_of_fixed {W w0 : World} {base : Nat} {ok : Nat → Prop} {v : Value} {xs : List RowT'} (h : Kd.R (Kd.fixed k148 w0) 148 W base ok v xs) : Fd.Row fdRow 148 W v.ownBlock.toList v xs ∧ ∀ b ∈ v.ownBlock.toList, base ≤ b := by
  have hb := Kd.R_base h
  obtain ⟨_, inner, ho, hr⟩ := h
  exact ⟨⟨inner, [], own_weaken ho (Nat.zero_le _), els_fdRow hr, by simp⟩, fun b hx => hb b (by simpa using hx)⟩
theorem op_of_fixed {W w0 : World} {base : Nat} {ok : Nat → Prop} {v : Value} {xs : List OpT'} (h : Kd.R (Kd.fixed k82 w0) 82 W base ok v xs) : Fd.Row fdOp 82 W v.ownBlock.toList v xs ∧ ∀ b ∈ v.ownBlock.toList, base ≤ b := by
  have hb := Kd.R_base h
  obtain ⟨_, inner, ho, hr⟩ := h
  exact ⟨⟨inner, [], own_weaken ho (Nat.zero_le _), els_fdOp hr, by simp⟩, fun b hx => hb b (by simpa using hx)⟩
theorem nodup_own (v : Value) : v.ownBlock.toList.Nodup := by cases v.ownBlock <;> simp
set_option maxHeartbeats 3200000 in
set_option maxRecDepth 100000 in
theorem reftwin (w : World) (m : MsgT) {v4 v5 : Value} (h : MsgIn w m v4 v5) (hB : msgB m) : Calls Tryz.prog 70 #[.agg (msgCells m v4 v5)] w (Liked w m) := by
  obtain ⟨A4, c4, A5, c5, rfl, rfl, l4, h4, l5, h5⟩ := h.read
  have hu := Tryz.underlying50
  have hur := Tryz.underlying145
  have HMB := Aside0.mk hB
  have H5 := Aside0.mk h5
  obtain ⟨w1, hw1⟩ : ∃ w1, w1 = (w.alloc (.cells (msgCells m (.slice A4 m.f4.length c4) (.slice A5 m.f5.length c5)) 50)).alloc (.cells zeroMsg 50) := ⟨_, rfl⟩
  have hb0 := below_alloc (Below.refl w.heap.size w) (.cells (msgCells m (.slice A4 m.f4.length c4) (.slice A5 m.f5.length c5)) 50)
  have hb1 : Below w.heap.size w w1 := by rw [hw1]; exact hb0.alloc hb0.size _
  have hbx : w1.heap[w.heap.size]? = some (.cells (msgCells m (.slice A4 m.f4.length c4) (.slice A5 m.f5.length c5)) 50 (0, 0)) := by
    rw [hw1]
    exact blk_below (blk_new w _) (below_alloc (Below.refl _ _) _)
  have hbo : w1.heap[w.heap.size + 1]? = some (.cells zeroMsg 50 (0, 0)) := by
    rw [hw1]
    have h := blk_new (w.alloc (.cells (msgCells m (.slice A4 m.f4.length c4) (.slice A5 m.f5.length c5)) 50)) (.cells zeroMsg 50)
    rwa [alloc_size] at h
  have H4 := Aside0.mk (Kd.C_below h4 hb1)
  have HB1 := Aside0.mk hb1
  have BX := Aside0.mk hbx
  have BO := Aside0.mk hbo
  have s1 : w.heap.size + 2 ≤ w1.heap.size := blk_lt hbo
  have hlm : (([] : List OpT').length + m.f4.length) * 48 ≤ 140737488355328 := by have := hB.1; simp; omega
  clear h h4 h5 hB hb0 hb1
  unfold msgCells at hbx hw1 ⊢
  obtain ⟨⟨x0, x1, x2, x3, x4, x5⟩, ⟨y0, y1, y2, y3, y4, y5⟩⟩ := blk6p hbx
  clear hbx hbo
  go_enter Tryz.func70, Tryz.ntmps70
  go_upto_region 1 with fail
  rw [← hw1]
  clear hw1
  go_wp2_with (first | (at_builtin
                        refine Kd.R_append_rows (Kd.fixed k82 w1) (w0 := w1) w1.heap.size rfl (.const (.slice none 0 0)) (.tmp 6) 47 82 (.agg #[.int .u8 0, .string ⟨#[]⟩, .string ⟨#[]⟩, .int .u32 0]) 48 rfl Tryz.underlying47 infoOp rfl (show 0 < 4 from by decide) (by decide) (.slice none 0 0) [] m.f4 A4 m.f4.length c4 (fun _ => True) (fun _ => False) rfl rfl (Kd.R_nil _ _ _ _ _) H4.out (fun _ _ h => h) (fun _ h => h.elim) (fun _ _ => trivial) (Below.refl _ _) (Nat.le_refl _) hlm ?_
                        intro v1 w2 ho hb _ _
                        have hf := op_of_fixed ho
                        rw [List.nil_append] at hf
                        obtain ⟨A6, d6, ev6, _, _⟩ := Fd.row_reads hf.1
                        subst ev6
                        have O2 := Aside0.mk hf
                        have B2 := Aside0.mk hb
                        have hx2 := blk_below BX.out hb
                        have ho2 := blk_below BO.out hb
                        unfold msgCells at hx2
                        have X2 := Aside0.mk hx2
                        have R2 := Aside0.mk ho2
                        obtain ⟨⟨z0, z1, z2, z3, z4, z5⟩, ⟨u0, u1, u2, u3, u4, u5⟩⟩ := blk6p hx2
                        have hlt2 := blk_lt hx2
                        clear ho hb hf hx2 ho2 x0 x1 x2 x3 x4 x5 y0 y1 y2 y3 y4 y5))
  obtain ⟨F4, hF4⟩ : ∃ F4, F4 = (Value.slice A6 m.f4.length d6).ownBlock.toList := ⟨_, rfl⟩
  have nF4 : F4.Nodup := by rw [hF4]; exact nodup_own _
  have ST := Aside0.mk (show RTw w (w2.setCell ⟨w.heap.size, 4, none⟩ (.slice A6 m.f4.length d6)) m A6 d6 A5 c5 F4 (.slice none 0 0) 0 from by
    refine ⟨(below_step HB1.out B2.out).setCell (p := ⟨w.heap.size, 4, none⟩) (Nat.le_refl _) _, blk_put X2.out 4 _ rfl, (Below.heap_setCell _ _ _ _ (show w.heap.size + 1 ≠ w.heap.size by omega)).trans R2.out, Fd.row_move (fun b hb => Below.heap_setCell _ _ _ _ ?_) (hF4 ▸ O2.out.1), [], Fd.row_nil _ _ _, by rw [List.append_nil]; exact nF4, fun b hb => ?_⟩
    · rw [hF4] at hb
      have := O2.out.2 b hb
      show b ≠ w.heap.size
      omega
    · rw [List.append_nil, hF4] at hb
      have := O2.out.2 b hb
      omega)
  clear nF4 hF4 O2 B2 X2 R2 H4 HB1 BX BO z0 z1 z2 z3 z4 z5 u0 u1 u2 u3 u4 u5
  go_loopw [3, 4] (fun v i wr => ∃ k : Nat, k ≤ m.f5.length ∧ i = .int .i64 k ∧ Aside0 (RTw w wr m A6 d6 A5 c5 F4 v k)) (fun _ i _ => m.f5.length - (intOf i).toNat)
  case atStart => exact ⟨0, Nat.zero_le _, rfl, ST⟩
  case round =>
    clear ST
    obtain ⟨wq, hwq⟩ : ∃ wq, wq = wr := ⟨_, rfl⟩
    subst hwq
    obtain ⟨k, hk, rfl, HR⟩ := hrel
    obtain ⟨⟨x0, x1, x2, x3, x4, x5⟩, ⟨y0, y1, y2, y3, y4, y5⟩⟩ := blk6p HR.out.box
    have hbl := blk_lt HR.out.box
    have hsz : w.heap.size + 2 ≤ wq.heap.size := blk_lt HR.out.res
    have hml : m.f5.length ≤ 5864062014805 := by have := HMB.out.2.1; omega
    obtain ⟨F, hr, hn, hl⟩ := HR.out.rows
    obtain ⟨Av, cv, ev, _, _⟩ := Fd.row_reads hr
    rw [List.length_take, Nat.min_eq_left hk] at ev
    subst ev
    by_cases hlt : k < m.f5.length
    · have hlt' : (k : Int) < (m.f5.length : Int) := by omega
      have hk0 : (0 : Int) ≤ (k : Int) := by omega
      obtain ⟨ad, Ai, ci, e1, hx0, hci, hCi⟩ := at_T145 (Kd.C_below H5.out HR.out.below) (k : Int) hk0 hlt'
      subst e1
      simp only [Int.toNat_natCast] at hx0
      have e : rd_T145 m.f5 (k : Int) = m.f5[k] := by simp [rd_T145, hlt]
      rw [e] at hx0 hci hCi
      obtain ⟨x, hx⟩ : ∃ x, m.f5[k] = x := ⟨_, rfl⟩
      rw [hx] at hx0 hci hCi
      have hxb := HMB.out.2.2 x (hx ▸ List.getElem_mem hlt)
      have hlm2 : (([] : List RowT').length + x.f0.length) * 24 ≤ 140737488355328 := by simp; omega
      have htk : m.f5.take (k + 1) = m.f5.take k ++ [x] := by rw [List.take_succ_eq_append_getElem hlt, hx]
      have hsz5 : ((m.f5.take k).length + 1) * 24 ≤ 140737488355328 := by have := HMB.out.2.1; rw [List.length_take]; omega
      have HCI := Aside0.mk hCi
      have HTK := Aside0.mk htk
      have HROW := Aside0.mk hr
      have HN := Aside0.mk hn
      have HL := Aside0.mk hl
      clear hCi htk hr hn hl e hx hxb
      go_wp2_with (first
        | (at_builtin
           refine Kd.R_append_rows (Kd.fixed k148 wq) (w0 := wq) wq.heap.size rfl (.const (.slice none 0 0)) (.tmp 22) 143 148 (.agg #[.string ⟨#[]⟩, .int .u32 0]) 24 rfl Tryz.underlying143 infoRow rfl (show 0 < 2 from by decide) (by decide) (.slice none 0 0) [] x.f0 Ai x.f0.length ci (fun _ => True) (fun _ => False) rfl rfl (Kd.R_nil _ _ _ _ _) HCI.out (fun _ _ h => h) (fun _ h => h.elim) (fun _ _ => trivial) (Below.refl _ _) (Nat.le_refl _) hlm2 ?_
           intro v1 w5 ho hb _ _
           have hf := row_of_fixed ho
           rw [List.nil_append] at hf
           obtain ⟨A7, d7, ev7, _, _⟩ := Fd.row_reads hf.1
           subst ev7
           have O5 := Aside0.mk hf
           have B5 := Aside0.mk hb
           have LF := Aside0.mk (Fd.row_lt HROW.out)
           have L4 := Aside0.mk (Fd.row_lt HR.out.ops)
           have hs5 := hb.size
           clear ho hb hf x0 x1 x2 x3 x4 x5 y0 y1 y2 y3 y4 y5)
        | (at_builtin
           refine Fd.R_append (W := w5) fdResult rfl (.tmp 16) (.tmp 25) 48 145 (.agg #[.slice none 0 0]) 24 rfl Tryz.underlying48 infoResult rfl (show 0 < 1 from by decide) (by decide) (.slice Av k cv) (m.f5.take k) x [.slice A7 x.f0.length d7] F (Value.slice A7 x.f0.length d7).ownBlock.toList rfl rfl ⟨_, rfl, O5.out.1⟩ (Fd.row_below HROW.out B5.out) (List.nodup_append.2 ⟨(List.nodup_append.1 HN.out).2.1, nodup_own _, fun a ha b hb e => by have := LF.out a ha; have := O5.out.2 b hb; omega⟩) hsz5 ?_
           intro v2 w6 F6 h1 h2 h3 h4
           have R6 := Aside0.mk h1
           have N6 := Aside0.mk h2
           have K6 := Aside0.mk h3
           have L6 := Aside0.mk h4
           clear h1 h2 h3 h4))
      go_roundw
      case rel =>
        have hlo : ∀ b ∈ F, w.heap.size + 2 ≤ b := fun b hb => HL.out b (List.mem_append_right _ hb)
        have hlo4 : ∀ b ∈ F4, w.heap.size + 2 ≤ b := fun b hb => HL.out b (List.mem_append_left _ hb)
        have hd4 : ∀ b ∈ F4, b ∉ F := fun b hb hx => (List.nodup_append.1 HN.out).2.2 b hb b hx rfl
        have hq5 : wq.heap.size ≤ w5.heap.size := B5.out.size
        refine ⟨k + 1, by omega, by go_num, ⟨?_, ?_, ?_, ?_, F6, by rw [HTK.out]; exact R6.out, ?_, ?_⟩⟩
        · exact (below_step HR.out.below B5.out).trans (K6.out.below (fun b hb => by have := hlo b hb; omega) (by omega))
        · exact K6.out.blk (blk_below HR.out.box B5.out) (fun hx => by have := hlo _ hx; omega)
        · exact K6.out.blk (blk_below HR.out.res B5.out) (fun hx => by have := hlo _ hx; omega)
        · exact Fd.row_keeps (Fd.row_below HR.out.ops B5.out) K6.out hd4
        · refine List.nodup_append.2 ⟨(List.nodup_append.1 HN.out).1, N6.out, fun a ha b hb e => ?_⟩
          subst e
          rcases L6.out a hb with h | h | h
          · exact hd4 a ha h
          · have := O5.out.2 a h; have := L4.out a ha; omega
          · have := L4.out a ha; omega
        · intro b hb
          rcases List.mem_append.1 hb with hb | hb
          · exact hlo4 b hb
          · rcases L6.out b hb with h | h | h
            · exact hlo b h
            · have := O5.out.2 b h; omega
            · omega
      case measure => simp [intOf]; omega
    · obtain rfl : k = m.f5.length := by omega
      have hlt' : ¬ ((m.f5.length : Int) < (m.f5.length : Int)) := by omega
      rw [List.take_length] at hr
      obtain ⟨W, hW⟩ : ∃ W, W = wq.setCell ⟨w.heap.size, 5, none⟩ (.slice Av m.f5.length cv) := ⟨_, rfl⟩
      have hbox : W.heap[w.heap.size]? = some (.cells #[.int .u8 m.f0, .int .u8 m.f1, .int .u8 m.f2, .int .u32 m.f3, .slice A6 m.f4.length d6, .slice Av m.f5.length cv] 50 (0, 0)) := by rw [hW]; exact blk_put HR.out.box 5 _ rfl
      have hres : W.heap[w.heap.size + 1]? = some (.cells zeroMsg 50 (0, 0)) := by rw [hW]; exact (Below.heap_setCell _ _ _ _ (show w.heap.size + 1 ≠ w.heap.size by omega)).trans HR.out.res
      have hsame : ∀ b, w.heap.size + 2 ≤ b → W.heap[b]? = wq.heap[b]? := fun b hb => by rw [hW]; exact Below.heap_setCell _ _ _ _ (show b ≠ w.heap.size by omega)
      have HROW := Aside0.mk (Fd.row_move (fun b hb => hsame b (hl b (List.mem_append_right _ hb))) hr)
      have HOPS := Aside0.mk (Fd.row_move (fun b hb => hsame b (hl b (List.mem_append_left _ hb))) HR.out.ops)
      have HBB := Aside0.mk (show Below w.heap.size w W by rw [hW]; exact HR.out.below.setCell (p := ⟨w.heap.size, 5, none⟩) (Nat.le_refl _) _)
      have HN := Aside0.mk hn
      have HL := Aside0.mk hl
      have BO := Aside0.mk hres
      clear hsame hr hn hl
      go_upto_region 8 with fail
      rw [← hW]
      clear hW x0 x1 x2 x3 x4 x5 y0 y1 y2 y3 y4 y5
      obtain ⟨⟨x0, x1, x2, x3, x4, x5⟩, ⟨y0, y1, y2, y3, y4, y5⟩⟩ := blk6p hbox
      obtain ⟨⟨z0, z1, z2, z3, z4, z5⟩, ⟨u0, u1, u2, u3, u4, u5⟩⟩ := blk6p hres
      have hw1 := blk_lt hbox
      have hw2 := blk_lt hres
      clear hbox hres
      go_wp2
      try simp only [Exit.inBlock, Exit.then]
      refine bodyPost_ret (results_cell_row rfl _ _ (w.heap.size + 1) 50 #[.int .u8 m.f0, .int .u8 m.f1, .int .u8 m.f2, .int .u32 m.f3, .slice A6 m.f4.length d6, .slice Av m.f5.length cv] (0, 0) _ rfl (put6 BO.out _ _ _ _ _ _) hu rfl (by kernel_rfl)) rfl ?_
      have hkp : ∀ k, w.heap.size + 2 ≤ k → _ := fun k hk => far6 (W := W) (g := w.heap.size + 1) (k := k) (by omega) (.int .u8 m.f0) (.int .u8 m.f1) (.int .u8 m.f2) (.int .u32 m.f3) (.slice A6 m.f4.length d6) (.slice Av m.f5.length cv)
      refine ⟨.slice A6 m.f4.length d6, .slice Av m.f5.length cv, F4 ++ F, rfl, ⟨_, _, F4, F, rfl, rfl, Fd.row_move (fun b hb => hkp b (HL.out b (List.mem_append_left _ hb))) HOPS.out, Fd.row_move (fun b hb => hkp b (HL.out b (List.mem_append_right _ hb))) HROW.out⟩, HN.out, fun b hb => by have := HL.out b hb; omega, below6 HBB.out (Nat.le_succ _) _ _ _ _ _ _⟩
end Go.Proofs.YtcohodkpppmaoaaGreatDoor.Q
namespace Go.Proofs.YtcohodkpppmaoaaGreatDoor.Q
open Go.RowKit Go.Proofs.YtcohodkpppmaoaaGreatDoorW.PrintWords Go.Proofs.YtcohodkpppmaoaaGreatDoorW.PrintLast Go.Proofs.YtcohodkpppmaoaaGreatDoorW.PrintMore
set_option linter.unusedVariables false
/-- The reference's bag at block g; F: all its blocks. -/
def RefAt (w : World) (g : Nat) (most : Int) (L : List MsgT) (F : List Nat) : Prop :=
  ∃ v G, w.heap[g]? = some (.cells #[v, .int .i64 most] 112 (0, 0)) ∧ Fd.Row fdMsg 50 w G v L ∧ F = g :: G ∧ F.Nodup
theorem RefAt.keeps {w w1 : World} {g : Nat} {most : Int} {L : List MsgT} {F F' : List Nat} (hr : RefAt w g most L F) (hk : Keeps F' w w1) (hF : ∀ b ∈ F, b ∉ F') : RefAt w1 g most L F := by
  obtain ⟨v, G, h1, h2, rfl, h3⟩ := hr
  exact ⟨v, G, hk.blk h1 (hF g (by simp)), Fd.row_keeps h2 hk (fun b hb => hF b (List.mem_cons_of_mem _ hb)), rfl, h3⟩
theorem RefAt.below {w w1 : World} {g : Nat} {most : Int} {L : List MsgT} {F : List Nat} (hr : RefAt w g most L F) (hb : Below w.heap.size w w1) : RefAt w1 g most L F := hr.keeps (Keeps.of_below hb []) (fun _ _ h => by cases h)
theorem RefAt.lt {w : World} {g : Nat} {most : Int} {L : List MsgT} {F : List Nat} (hr : RefAt w g most L F) : ∀ b ∈ F, b < w.heap.size := by
  obtain ⟨v, G, h1, h2, rfl, h3⟩ := hr
  intro b hb
  rcases List.mem_cons.1 hb with rfl | hb
  · exact blk_lt h1
  · exact Fd.row_lt h2 b hb
/-- A bag that holds message x at place k: the row's cells and blocks, parted there. -/
theorem RefAt.open_ {w : World} {g : Nat} {most : Int} {L : List MsgT} {F : List Nat} (hr : RefAt w g most L F) {k : Nat} {x : MsgT} (hk : L[k]? = some x) :
    ∃ gl c v4 v5 c0 c1 G0 Gm G1, w.heap[g]? = some (.cells #[.slice (some ⟨gl, 0, none⟩) L.length c, .int .i64 most] 112 (0, 0)) ∧
      w.ownsRow 0 50 6 (.slice (some ⟨gl, 0, none⟩) L.length c) L.length (c0 ++ ((msgCells x v4 v5).toList ++ c1)) ∧ c0.length = k * 6 ∧ Fd.Els fdMsg w (L.take k) c0 G0 ∧ fdMsg.M w Gm x (msgCells x v4 v5).toList ∧ Fd.Els fdMsg w (L.drop (k + 1)) c1 G1 ∧ F = g :: gl :: (G0 ++ (Gm ++ G1)) := by
  obtain ⟨v, G', hb, ⟨inner, G2, ho, he, rfl⟩, rfl, _⟩ := hr
  obtain ⟨hkl, hx⟩ := List.getElem?_eq_some_iff.1 hk
  obtain ⟨gl, c, rfl, _⟩ := ho.form (by omega)
  obtain ⟨c0, cm, c1, G0, Gm, G1, rfl, h0, rfl, h1, h2, h3⟩ := Fd.els_at hkl he
  rw [hx] at h2
  obtain ⟨v4, v5, hcm, _⟩ := MsgIn.of_M h2
  subst hcm
  exact ⟨gl, c, v4, v5, c0, c1, G0, Gm, G1, hb, ho, h0, h1, h2, h3, rfl⟩
theorem msgIn_M {w : World} {F : List Nat} {x : MsgT} {v4 v5 : Value} (hM : fdMsg.M w F x (msgCells x v4 v5).toList) : MsgIn w x v4 v5 := by
  obtain ⟨a, b, e, hmi⟩ := MsgIn.of_M hM
  have e1 : msgCells x v4 v5 = msgCells x a b := Array.ext' e
  unfold msgCells at e1
  simp at e1
  rw [e1.1, e1.2]
  exact hmi

theorem refNew_yes (w : World) (most : Int) (h1 : 1 ≤ most) (h2 : most ≤ 256) : Calls Tryz.prog 11 #[.int .i64 most] w fun e w' => ∃ g F, e = .returned (.tuple #[.pointer (some ⟨g, 0, none⟩), .int .i64 0]) ∧ RefAt w' g most [] F ∧ (∀ b ∈ F, w.heap.size ≤ b) ∧ Below w.heap.size w w' := by
  have hn1 : ¬ most < 1 := by omega
  have hn2 : ¬ (256 : Int) < most := by omega
  go_enter Tryz.func11, Tryz.ntmps11
  go_wp2
  go_ret2
  exact ⟨w.heap.size, rfl, [w.heap.size], ⟨.slice none 0 0, [], blk_new w _, Fd.row_nil _ _ _, rfl, by simp⟩, fun b hb => by simp at hb; omega, below_alloc (Below.refl _ _) _⟩
theorem refNew_no (w : World) (most : Int) (h : most < 1 ∨ 256 < most) : Calls Tryz.prog 11 #[.int .i64 most] w fun e w' => e = .returned (.tuple #[.pointer none, .int .i64 1]) ∧ w = w' := by
  rcases h with h | h
  · go_enter Tryz.func11, Tryz.ntmps11
    go_wp2
    go_ret2
    exact ⟨rfl, rfl⟩
  · have hn1 : ¬ most < 1 := by omega
    go_enter Tryz.func11, Tryz.ntmps11
    go_wp2
    go_ret2
    exact ⟨rfl, rfl⟩

def RefAdded (w : World) (g : Nat) (most : Int) (L : List MsgT) (F : List Nat) (m : MsgT) (e : Ending) (w' : World) : Prop := ∃ F', e = .returned (.int .i64 0) ∧ RefAt w' g most (L ++ [m]) F' ∧ Keeps F w w' ∧ ∀ b ∈ F', b ∈ F ∨ w.heap.size ≤ b
theorem refAdd_fin {w w5 w6 : World} {g : Nat} {most : Int} {L : List MsgT} {G F5 F6 : List Nat} {m : MsgT} {v0 v1 : Value} (hnd : (g :: G).Nodup) (hG : ∀ b ∈ G, b < w.heap.size) (hh : g < w.heap.size) (h5 : Below w.heap.size w w5) (l5 : ∀ b ∈ F5, w.heap.size ≤ b)
    (r6 : Fd.Row fdMsg 50 w6 F6 v1 (L ++ [m])) (n6 : F6.Nodup) (k6 : Keeps G w5 w6) (l6 : ∀ b ∈ F6, b ∈ G ∨ b ∈ F5 ∨ w5.heap.size ≤ b) (b6 : w6.heap[g]? = some (.cells #[v0, .int .i64 most] 112 (0, 0))) :
    RefAdded w g most L (g :: G) m (.returned (.int .i64 0)) (w6.setCell ⟨g, 0, none⟩ v1) := by
  have h5s := h5.size
  have l6' : ∀ b ∈ F6, b ∈ G ∨ w.heap.size ≤ b := fun b hb => by
    rcases l6 b hb with h1 | h1 | h1
    · exact .inl h1
    · exact .inr (l5 b h1)
    · exact .inr (by omega)
  have hF6 : g ∉ F6 := fun hx => by
    rcases l6' g hx with h1 | h1
    · exact (List.nodup_cons.1 hnd).1 h1
    · omega
  refine ⟨g :: F6, rfl, ⟨v1, F6, blk_put b6 0 v1 rfl, Fd.row_keeps r6 ((Keeps.refl [g] w6).setCell (p := ⟨g, 0, none⟩) (.inl (by simp)) v1) (fun b hb hx => ?_), rfl, List.nodup_cons.2 ⟨hF6, n6⟩⟩, ?_, fun b hb => ?_⟩
  · simp at hx
    subst hx
    exact hF6 hb
  · exact ((Keeps.of_below h5 (g :: G)).trans k6 (fun x hx => .inl (by simp [hx]))).setCell (p := ⟨g, 0, none⟩) (.inl (by simp)) v1
  · rcases List.mem_cons.1 hb with rfl | hb
    · exact .inl (by simp)
    · exact (l6' b hb).imp_left (fun h => List.mem_cons_of_mem _ h)
set_option maxHeartbeats 3200000 in
set_option maxRecDepth 100000 in
theorem refAdd_yes (w : World) (g : Nat) (most : Int) (L : List MsgT) (F : List Nat) (m : MsgT) (v4 v5 : Value) (hR : RefAt w g most L F) (hne : (L.length : Int) ≠ most) (hL : L.length ≤ 65536) (hm : MsgIn w m v4 v5) (hB : msgB m) :
    Calls Tryz.prog 14 #[.pointer (some ⟨g, 0, none⟩), .agg (msgCells m v4 v5)] w (RefAdded w g most L F m) := by
  obtain ⟨v, G, hb, hr, rfl, hnd⟩ := hR
  obtain ⟨A, c, rfl, hlc, hC⟩ := Fd.row_reads hr
  have hu := Tryz.underlying50
  have c0 := blk_cell hb 0
  have c1 := blk_cell hb 1
  have f0 := blk_frozen hb 0
  have hlt : g < w.heap.size := blk_lt hb
  have hne' : ((L.length : Int) == most) = false := by simpa using hne
  have HBK := Aside0.mk hb
  have HR := Aside0.mk hr
  have HM := Aside0.mk hm
  have HMB := Aside0.mk hB
  have HND := Aside0.mk hnd
  obtain ⟨A4, c4, A5, c5, rfl, rfl, _⟩ := hm.read
  clear hb hr hm hB hnd hne hC hlc
  unfold msgCells
  go_enter Tryz.func14, Tryz.ntmps14
  go_wp2_with fail
  go_region
  go_wp2_with fail
  go_region_law (first
    | (go_simp
       go_at_call 70
       refine (reftwin _ m (HM.out.below (below_drew1 (below_drew1 (below_alloc (Below.refl w.heap.size w) _)))) HMB.out).mono ?_
       rintro e w5 ⟨x4, x5, F5, rfl, hM, hn5, hl5, hb5⟩
       have B5 := Aside0.mk (below_step (below_drew1 (below_drew1 (below_alloc (Below.refl w.heap.size w) _))) hb5)
       have bk5 := blk_below HBK.out B5.out
       have k0 := blk_cell bk5 0
       have hlt5 := blk_lt bk5
       have M5 := Aside0.mk hM
       have N5 := Aside0.mk hn5
       have L5 := Aside0.mk (show ∀ b ∈ F5, w.heap.size ≤ b from fun b hb => Nat.le_trans (below_drew1 (below_drew1 (below_alloc (Below.refl w.heap.size w) _))).size (hl5 b hb))
       have BK5 := Aside0.mk bk5
       clear hM hn5 hl5 hb5 bk5
       unfold msgCells)
    | (refine Fd.R_append_step fdMsg rfl (.tmp 19) (.tmp 22) 60 50 (.agg #[.int .u8 0, .int .u8 0, .int .u8 0, .int .u32 0, .slice none 0 0, .slice none 0 0]) 56 rfl Tryz.underlying60 infoMsg rfl (show 0 < 6 from by decide) (by decide) (.slice A L.length c) L m [.int .u8 m.f0, .int .u8 m.f1, .int .u8 m.f2, .int .u32 m.f3, x4, x5] G F5 (by simp [Act.eval]) (by simp [Act.eval]) M5.out (Fd.row_below HR.out B5.out) (nodup_new (List.nodup_cons.1 HND.out).2 N5.out (Fd.row_lt HR.out) L5.out) (by omega) ?_
       intro v1 w6 F6 h1 h2 h3 h4
       obtain ⟨A1, d1, rfl, _⟩ := Fd.row_reads h1
       rw [show (L ++ [m]).length = L.length + 1 from by simp] at h1 ⊢
       have hh : g ∉ G := (List.nodup_cons.1 HND.out).1
       have bk6 := h3.blk BK5.out hh
       have j0 := blk_cell bk6 0
       have j1 := blk_frozen bk6 0
       have BK6 := Aside0.mk bk6
       have R6 := Aside0.mk h1
       have N6 := Aside0.mk h2
       have K6 := Aside0.mk h3
       have L6 := Aside0.mk h4
       clear h1 h2 h3 h4 bk6))
  all_goals
    go_wp2
    go_ret
    exact refAdd_fin HND.out (Fd.row_lt HR.out) (blk_lt HBK.out) B5.out L5.out R6.out N6.out K6.out L6.out BK6.out
set_option maxRecDepth 100000 in
theorem refAdd_no (w : World) (g : Nat) (most : Int) (L : List MsgT) (F : List Nat) (m : MsgT) (v4 v5 : Value) (hR : RefAt w g most L F) (hne : (L.length : Int) = most) :
    Calls Tryz.prog 14 #[.pointer (some ⟨g, 0, none⟩), .agg (msgCells m v4 v5)] w fun e w' => e = .returned (.int .i64 5) ∧ Below w.heap.size w w' := by
  obtain ⟨v, G, hb, hr, rfl, hnd⟩ := hR
  obtain ⟨A, c, rfl, hlc, hC⟩ := Fd.row_reads hr
  have c0 := blk_cell hb 0
  have c1 := blk_cell hb 1
  have hlt : g < w.heap.size := blk_lt hb
  have hne' : ((L.length : Int) == most) = true := by simpa using hne
  clear hb hr hnd hne hC hlc
  unfold msgCells
  go_enter Tryz.func14, Tryz.ntmps14
  go_wp2_with fail
  go_region
  go_wp2
  go_ret
  exact ⟨rfl, below_drew1 (below_alloc (Below.refl _ _) _)⟩

set_option maxHeartbeats 3200000 in
set_option maxRecDepth 100000 in
theorem refCopy_yes (w : World) (g : Nat) (most : Int) (L : List MsgT) (F : List Nat) (k : Nat) (x : MsgT) (hR : RefAt w g most L F) (hk : L[k]? = some x) (hne : (L.length : Int) ≠ most) (hL : L.length ≤ 65536) (hB : msgB x) :
    Calls Tryz.prog 20 #[.pointer (some ⟨g, 0, none⟩), .int .i64 k] w (RefAdded w g most L F x) := by
  have HR := Aside0.mk hR
  obtain ⟨gl, c, v4, v5, c0, c1, G0, Gm, G1, hb, ho, h0, hE0, hM, hE1, rfl⟩ := hR.open_ hk
  have hkl : k < L.length := (List.getElem?_eq_some_iff.1 hk).1
  have hkn : (k : Int) < (L.length : Int) := by omega
  have hk0 : ¬ (k : Int) < 0 := by omega
  have hk1 : ¬ (L.length : Int) ≤ (k : Int) := by omega
  have hk2 : (0 : Int) ≤ (k : Int) := by omega
  have p0 := blk_cell hb 0
  obtain ⟨k0, k1, k2, k3, k4, k5⟩ := cells_at ho h0
  have hMI := msgIn_M hM
  have HMI := Aside0.mk hMI
  have HB := Aside0.mk hB
  have HNE := Aside0.mk hne
  obtain ⟨⟨A4, d4, A5, d5, e4, e5, _⟩⟩ := hMI
  subst e4; subst e5
  clear hb ho h0 hE0 hE1 hM hk hR hB hne
  go_enter Tryz.func20, Tryz.ntmps20
  go_wp2_with fail
  refine (refAdd_yes _ g most L _ x _ _ HR.out HNE.out hL HMI.out HB.out).mono ?_
  rintro e w5 ⟨F', rfl, r5, k5, l5⟩
  have R5 := Aside0.mk (And.intro r5 (And.intro k5 l5))
  clear r5 k5 l5
  go_wp2
  go_ret
  exact ⟨F', rfl, R5.out.1, R5.out.2.1, R5.out.2.2⟩
set_option maxHeartbeats 3200000 in
set_option maxRecDepth 100000 in
theorem refCopy_full (w : World) (g : Nat) (most : Int) (L : List MsgT) (F : List Nat) (k : Nat) (x : MsgT) (hR : RefAt w g most L F) (hk : L[k]? = some x) (hne : (L.length : Int) = most) (hL : L.length ≤ 65536) :
    Calls Tryz.prog 20 #[.pointer (some ⟨g, 0, none⟩), .int .i64 k] w fun e w' => e = .returned (.int .i64 5) ∧ Below w.heap.size w w' := by
  have HR := Aside0.mk hR
  obtain ⟨gl, c, v4, v5, c0, c1, G0, Gm, G1, hb, ho, h0, hE0, hM, hE1, rfl⟩ := hR.open_ hk
  have hkl : k < L.length := (List.getElem?_eq_some_iff.1 hk).1
  have hkn : (k : Int) < (L.length : Int) := by omega
  have hk0 : ¬ (k : Int) < 0 := by omega
  have hk1 : ¬ (L.length : Int) ≤ (k : Int) := by omega
  have hk2 : (0 : Int) ≤ (k : Int) := by omega
  have p0 := blk_cell hb 0
  obtain ⟨k0, k1, k2, k3, k4, k5⟩ := cells_at ho h0
  have hMI := msgIn_M hM
  have HNE := Aside0.mk hne
  obtain ⟨⟨A4, d4, A5, d5, e4, e5, _⟩⟩ := hMI
  subst e4; subst e5
  clear hb ho h0 hE0 hE1 hM hk hR hne
  go_enter Tryz.func20, Tryz.ntmps20
  go_wp2_with fail
  refine (refAdd_no _ g most L _ x _ _ HR.out HNE.out).mono ?_
  rintro e w5 ⟨rfl, hb5⟩
  have B5 := Aside0.mk hb5
  clear hb5
  go_wp2
  go_ret
  exact ⟨rfl, B5.out⟩
theorem refCopy_no (w : World) (g : Nat) (most : Int) (L : List MsgT) (F : List Nat) (i : Int) (hR : RefAt w g most L F) (hi : ¬ (0 ≤ i ∧ i < (L.length : Int))) :
    Calls Tryz.prog 20 #[.pointer (some ⟨g, 0, none⟩), .int .i64 i] w fun e w' => e = .returned (.int .i64 1) ∧ w = w' := by
  obtain ⟨v, G, hb, hr, rfl, hnd⟩ := hR
  obtain ⟨A, c, rfl, _⟩ := Fd.row_reads hr
  have p0 := blk_cell hb 0
  clear hb hr hnd
  by_cases h0 : i < 0
  · go_enter Tryz.func20, Tryz.ntmps20
    go_wp2
    go_ret
    exact ⟨rfl, rfl⟩
  · have h1 : (L.length : Int) ≤ i := by omega
    clear hi
    go_enter Tryz.func20, Tryz.ntmps20
    go_wp2
    go_ret
    exact ⟨rfl, rfl⟩

set_option maxHeartbeats 3200000 in
set_option maxRecDepth 100000 in
theorem refList (w : World) (g : Nat) (most : Int) (L : List MsgT) (F : List Nat) (hR : RefAt w g most L F) (hL : L.length ≤ 65536) (hB : ∀ m ∈ L, msgB m) :
    Calls Tryz.prog 23 #[.pointer (some ⟨g, 0, none⟩)] w (ListPost w L) := by
  have HR := Aside0.mk hR
  obtain ⟨v, G, hb, hrow, rfl, hnd⟩ := hR
  obtain ⟨A, c, rfl, _⟩ := Fd.row_reads hrow
  have p0 := blk_cell hb 0
  have HP0 := Aside0.mk p0
  have HB := Aside0.mk hB
  clear hb hrow hnd hB
  go_enter Tryz.func23, Tryz.ntmps23
  go_wp2
  go_loopw [3, 4] (fun l i wr => ∃ (k : Nat) (v : Value), k ≤ L.length ∧ i = .int .i64 k ∧ v = l ∧ Aside0 (MadeMsgs w wr v (L.take k))) (fun _ i _ => L.length - (intOf i).toNat)
  case atStart => exact ⟨0, .slice none 0 0, Nat.zero_le _, rfl, rfl, ⟨Below.refl _ _, [], Fd.row_nil _ _ _, by simp, fun b hb => by cases hb⟩⟩
  case round =>
    obtain ⟨k, v, hk, rfl, rfl, HM⟩ := hrel
    have q0 := cell_later HM.out.1 HP0.out
    by_cases hlt : k < L.length
    · have hlt' : (k : Int) < (L.length : Int) := by omega
      have hk0 : (0 : Int) ≤ (k : Int) := by omega
      obtain ⟨x, hx⟩ : ∃ x, L[k]? = some x := ⟨L[k], List.getElem?_eq_getElem hlt⟩
      obtain ⟨gl, c', v4, v5, c0, c1, G0, Gm, G1, hb, ho, h0, hE0, hXM, hE1, hF⟩ := HR.out.open_ hx
      obtain ⟨hA, hc⟩ : A = some ⟨gl, 0, none⟩ ∧ c = c' := by
        have := (blk_cell hb 0).symm.trans p0
        simp at this
        exact ⟨this.1.symm, this.2.symm⟩
      subst hA; subst hc
      obtain ⟨k0, k1, k2, k3, k4, k5⟩ := cells_at ho h0
      have bl := HM.out.1
      replace k0 := cell_later bl k0
      replace k1 := cell_later bl k1
      replace k2 := cell_later bl k2
      replace k3 := cell_later bl k3
      replace k4 := cell_later bl k4
      replace k5 := cell_later bl k5
      have hMI := msgIn_M hXM
      have HMI := Aside0.mk hMI
      have hxB := HB.out x (List.mem_of_getElem? hx)
      have HXB := Aside0.mk hxB
      have HX := Aside0.mk hx
      obtain ⟨⟨A4, d4, A5, d5, e4, e5, _⟩⟩ := hMI
      subst e4; subst e5
      clear hb ho h0 hE0 hE1 hXM bl hxB hx hF p0
      go_wp2_with fail
      refine (reftwin _ x (HMI.out.below HM.out.1) HXB.out).mono ?_
      rintro e w5 ⟨x4, x5, F5, rfl, hM5, hn5, hl5, hb5⟩
      have M5 := Aside0.mk hM5
      have N5 := Aside0.mk hn5
      have B5 := Aside0.mk hb5
      have L5 := Aside0.mk (show ∀ b ∈ F5, wr.heap.size ≤ b from hl5)
      obtain ⟨hbl, FF, hrr, hnn, hll⟩ := HM.out
      have RR := Aside0.mk hrr
      have NN := Aside0.mk hnn
      have LL := Aside0.mk hll
      have BL := Aside0.mk hbl
      have hlen : (L.take k).length = k := by rw [List.length_take]; omega
      have HLEN := Aside0.mk hlen
      clear hM5 hn5 hl5 hb5 hbl hrr hnn hll hlen
      unfold msgCells
      go_wp2_with (first | (at_builtin; (refine Fd.R_append fdMsg rfl (.tmp 14) (.tmp 23) 60 50 (.agg #[.int .u8 0, .int .u8 0, .int .u8 0, .int .u32 0, .slice none 0 0, .slice none 0 0]) 56 rfl Tryz.underlying60 infoMsg rfl (show 0 < 6 from by decide) (by decide) v (L.take k) x [.int .u8 x.f0, .int .u8 x.f1, .int .u8 x.f2, .int .u32 x.f3, x4, x5] FF F5 rfl rfl M5.out (Fd.row_below RR.out B5.out) (nodup_new NN.out N5.out (Fd.row_lt RR.out) L5.out) (by rw [HLEN.out]; omega) ?_); intro v1 w6 F6 h1 h2 h3 h4; have R6 := Aside0.mk h1; have N6 := Aside0.mk h2; have K6 := Aside0.mk h3; have L6 := Aside0.mk h4; clear h1 h2 h3 h4))
      go_roundw
      case rel =>
        refine ⟨k + 1, v1, by omega, by go_num, rfl, ⟨?_, F6, ?_, N6.out, ?_⟩⟩
        · exact (below_step BL.out B5.out).trans (K6.out.below LL.out (below_step BL.out B5.out).size)
        · have hxx : L[k] = x := by have := HX.out; rw [List.getElem?_eq_getElem hlt] at this; exact Option.some.inj this
          rw [List.take_succ_eq_append_getElem hlt, hxx]
          exact R6.out
        · intro b hb
          rcases L6.out b hb with h1 | h1 | h1
          · exact LL.out b h1
          · have := L5.out b h1
            have := BL.out.size
            omega
          · have := (below_step BL.out B5.out).size
            omega
      case measure => simp [intOf]; omega
    · have hlt' : ¬ (k : Int) < (L.length : Int) := by omega
      go_wp2
      go_ret
      have e2 : L.take k = L := List.take_of_length_le (by omega)
      have hm := HM.out
      rw [e2] at hm
      exact ⟨_, rfl, hm⟩
end Go.Proofs.YtcohodkpppmaoaaGreatDoor.Q
namespace Go.Proofs.YtcohodkpppmaoaaGreatDoor.Q
open Go.RowKit Go.Proofs.YtcohodkpppmaoaaGreatDoorW.PrintWords Go.Proofs.YtcohodkpppmaoaaGreatDoorW.PrintLast Go.Proofs.YtcohodkpppmaoaaGreatDoorW.PrintMore
set_option linter.unusedVariables false
/-- What is laid by stays. -/
def Same (X : List Nat) (w w' : World) : Prop := ∀ x ∈ X, w'.heap[x]? = w.heap[x]?
structure PlayF (w0 w : World) (gb gr gk : Nat) (most : Int) (La Lb : List MsgT) (n : Int) (FB FR FK OB X : List Nat) : Prop where
  bag : BagAt w gb most La FB
  ref : RefAt w gr most Lb FR
  book : BookAt w0 w gk n FK OB
  br : ∀ x ∈ FB, x ∉ FR
  bk : ∀ x ∈ FB, x ∉ FK
  rk : ∀ x ∈ FR, x ∉ FK
  bx : ∀ x ∈ FB, x ∉ X
  rx : ∀ x ∈ FR, x ∉ X
  kx : ∀ x ∈ FK, x ∉ X
  b0 : ∀ x ∈ FB, w0.heap.size ≤ x
  r0 : ∀ x ∈ FR, w0.heap.size ≤ x
  x0 : ∀ x ∈ X, w0.heap.size ≤ x ∧ x < w.heap.size
def Play (w0 w : World) (gb gr gk : Nat) (most : Int) (La Lb : List MsgT) (n : Int) (X : List Nat) : Prop := ∃ FB FR FK OB, PlayF w0 w gb gr gk most La Lb n FB FR FK OB X
section
variable {w0 w w1 : World} {gb gr gk : Nat} {most : Int} {La Lb La' Lb' : List MsgT} {n : Int} {X Y X' FB FR FK OB FB' FR' : List Nat}
theorem Same.row {α : Type} {d : Fd α} {e : Nat} {F : List Nat} {v : Value} {xs : List α} (h : Same X w w1) (hr : Fd.Row d e w F v xs) (hF : ∀ b ∈ F, b ∈ X) : Fd.Row d e w1 F v xs := Fd.row_move (fun b hb => h b (hF b hb)) hr
theorem Same.blk {g : Nat} {o : Obj} (h : Same X w w1) (hb : w.heap[g]? = some o) (hg : g ∈ X) : w1.heap[g]? = some o := (h g hg).trans hb
theorem Same.msg {F : List Nat} {x : MsgT} {cs : List Value} (h : Same X w w1) (hM : fdMsg.M w F x cs) (hF : ∀ b ∈ F, b ∈ X) : fdMsg.M w1 F x cs := fdMsg.move (fun b hb => h b (hF b hb)) hM
theorem Same.twin {α : Type} {d : Fd α} {e : Nat} {F : List Nat} {v : Value} {xs : List α} {sp : α} (h : Same X w w1) (hT : Twin d e w F v xs sp) (hF : ∀ b ∈ F, b ∈ X) : Twin d e w1 F v xs sp := by
  obtain ⟨A', c', ev, h2, h3⟩ := hT
  exact ⟨A', c', ev, h2, Fd.row_move (fun b hb => h b (hF b hb)) h3⟩
theorem Play.base (h : Play w0 w gb gr gk most La Lb n X) : Below w0.heap.size w0 w := by
  obtain ⟨FB, FR, FK, OB, h⟩ := h
  exact h.book.base
theorem Play.size (h : Play w0 w gb gr gk most La Lb n X) : w0.heap.size ≤ w.heap.size := h.base.size
theorem Play.lt (h : Play w0 w gb gr gk most La Lb n X) : ∀ x ∈ X, x < w.heap.size := by
  obtain ⟨FB, FR, FK, OB, h⟩ := h
  exact fun x hx => (h.x0 x hx).2
theorem Play.sub (h : Play w0 w gb gr gk most La Lb n X) (hX : ∀ x ∈ X', x ∈ X) : Play w0 w gb gr gk most La Lb n X' := by
  obtain ⟨FB, FR, FK, OB, h⟩ := h
  exact ⟨FB, FR, FK, OB, h.bag, h.ref, h.book, h.br, h.bk, h.rk, fun x hx hy => h.bx x hx (hX x hy), fun x hx hy => h.rx x hx (hX x hy), fun x hx hy => h.kx x hx (hX x hy), h.b0, h.r0, fun x hx => h.x0 x (hX x hx)⟩
/-- Something was made, nothing turned; what was made is laid by. -/
theorem Play.park (h : Play w0 w gb gr gk most La Lb n X) (hb : Below w.heap.size w w1) (hY : ∀ y ∈ Y, w.heap.size ≤ y ∧ y < w1.heap.size) : Play w0 w1 gb gr gk most La Lb n (X ++ Y) ∧ Same X w w1 := by
  have hsz := h.size
  have hl := h.lt
  obtain ⟨FB, FR, FK, OB, h⟩ := h
  refine ⟨⟨FB, FR, FK, OB, h.bag.below hb, h.ref.below hb, h.book.below hb, h.br, h.bk, h.rk, fun x hx hy => ?_, fun x hx hy => ?_, fun x hx hy => ?_, h.b0, h.r0, fun x hx => ?_⟩, fun x hx => hb.block x (hl x hx)⟩
  · rcases List.mem_append.1 hy with hy | hy
    · exact h.bx x hx hy
    · have := hY x hy; have := h.bag.lt x hx; omega
  · rcases List.mem_append.1 hy with hy | hy
    · exact h.rx x hx hy
    · have := hY x hy; have := h.ref.lt x hx; omega
  · rcases List.mem_append.1 hy with hy | hy
    · exact h.kx x hx hy
    · have := hY x hy; have := h.book.lt x hx; omega
  · rcases List.mem_append.1 hx with hx | hx
    · have := h.x0 x hx; have := hb.size; omega
    · have := hY x hx; omega
theorem Play.below (h : Play w0 w gb gr gk most La Lb n X) (hb : Below w.heap.size w w1) : Play w0 w1 gb gr gk most La Lb n X ∧ Same X w w1 := by
  have k := h.park hb (Y := []) (fun _ hy => by cases hy)
  rwa [List.append_nil] at k
theorem PlayF.bagStep (h : PlayF w0 w gb gr gk most La Lb n FB FR FK OB X) (r : BagAt w1 gb most La' FB') (k : Keeps FB w w1) (l : ∀ b ∈ FB' ++ Y, b ∈ FB ∨ w.heap.size ≤ b) (hn : ∀ x ∈ FB', x ∉ Y) (hy : ∀ y ∈ Y, y < w1.heap.size) : Play w0 w1 gb gr gk most La' Lb n (X ++ Y) ∧ Same X w w1 := by
  have hs := h.book.base.size
  have l1 : ∀ b ∈ FB', b ∈ FB ∨ w.heap.size ≤ b := fun b hb => l b (List.mem_append_left _ hb)
  have l2 : ∀ b ∈ Y, b ∈ FB ∨ w.heap.size ≤ b := fun b hb => l b (List.mem_append_right _ hb)
  have off : ∀ {S : List Nat}, (∀ x ∈ FB, x ∉ S) → (∀ x ∈ S, x < w.heap.size) → ∀ b, (b ∈ FB ∨ w.heap.size ≤ b) → b ∉ S := fun h1 h2 b hb hx => by
    rcases hb with hb | hb
    · exact h1 b hb hx
    · have := h2 b hx; omega
  refine ⟨⟨FB', FR, FK, OB, r, h.ref.keeps k (fun b hb hx => h.br b hx hb), h.book.keeps k (fun b hb => h.bk b hb) h.b0, fun x hx => off h.br h.ref.lt x (l1 x hx), fun x hx => off h.bk h.book.lt x (l1 x hx), h.rk, fun x hx hy => ?_, fun x hx hy => ?_, fun x hx hy => ?_, fun x hx => ?_, h.r0, fun x hx => ?_⟩, fun x hx => k.block x (h.x0 x hx).2 (fun hy => h.bx x hy hx)⟩
  · rcases List.mem_append.1 hy with hy | hy
    · exact off h.bx (fun x hx => (h.x0 x hx).2) x (l1 x hx) hy
    · exact hn x hx hy
  · rcases List.mem_append.1 hy with hy | hy
    · exact h.rx x hx hy
    · exact off h.br h.ref.lt x (l2 x hy) hx
  · rcases List.mem_append.1 hy with hy | hy
    · exact h.kx x hx hy
    · exact off h.bk h.book.lt x (l2 x hy) hx
  · exact (l1 x hx).elim (h.b0 x) (fun h => Nat.le_trans hs h)
  · rcases List.mem_append.1 hx with hx | hx
    · exact ⟨(h.x0 x hx).1, Nat.lt_of_lt_of_le (h.x0 x hx).2 k.size⟩
    · exact ⟨(l2 x hx).elim (h.b0 x) (fun h => Nat.le_trans hs h), hy x hx⟩
theorem PlayF.refStep (h : PlayF w0 w gb gr gk most La Lb n FB FR FK OB X) (r : RefAt w1 gr most Lb' FR') (k : Keeps FR w w1) (l : ∀ b ∈ FR', b ∈ FR ∨ w.heap.size ≤ b) : Play w0 w1 gb gr gk most La Lb' n X ∧ Same X w w1 := by
  have hs := h.book.base.size
  have off : ∀ {S : List Nat}, (∀ x ∈ FR, x ∉ S) → (∀ x ∈ S, x < w.heap.size) → ∀ b, (b ∈ FR ∨ w.heap.size ≤ b) → b ∉ S := fun h1 h2 b hb hx => by
    rcases hb with hb | hb
    · exact h1 b hb hx
    · have := h2 b hx; omega
  refine ⟨⟨FB, FR', FK, OB, h.bag.keeps k (fun b hb => h.br b hb), r, h.book.keeps k (fun b hb => h.rk b hb) h.r0, fun x hx hy => ?_, h.bk, fun x hx => off h.rk h.book.lt x (l x hx), h.bx, fun x hx => off h.rx (fun x hx => (h.x0 x hx).2) x (l x hx), h.kx, h.b0, fun x hx => ?_, fun x hx => ⟨(h.x0 x hx).1, Nat.lt_of_lt_of_le (h.x0 x hx).2 k.size⟩⟩, fun x hx => k.block x (h.x0 x hx).2 (fun hy => h.rx x hy hx)⟩
  · exact off (fun x hx hy => h.br x hy hx) h.bag.lt x (l x hy) hx
  · exact (l x hx).elim (h.r0 x) (fun h => Nat.le_trans hs h)
theorem keeps_of_spared {N : Nat} {L : List Nat} (h0 : Below N w0 w) (h1 : Below N w0 w1) (hz : w.heap.size ≤ w1.heap.size) (hs : Spared w.heap.size L w w1) : Keeps L w w1 :=
  ⟨h1.os.trans h0.os.symm, h1.tape.trans h0.tape.symm, h1.output.trans h0.output.symm, hz, fun b hb hx => hs b hb hx⟩
theorem PlayF.pile (h : PlayF w0 w gb gr gk most La Lb n FB FR FK OB X) : Pile w0 w gk n w.heap.size FK OB := ⟨FK, OB, h.book, fun b hb => .inl hb, Nat.le_refl _, fun b hb => .inl hb, fun b hb => .inl (h.book.sub b hb)⟩
/-- The book keeps what was laid by in blocks Y. -/
theorem PlayF.bookStep {n' : Int} {L' : List Nat} (h : PlayF w0 w gb gr gk most La Lb n FB FR FK OB X) (hY : ∀ y ∈ Y, y ∈ X) (hX : ∀ x ∈ X', x ∈ X ∧ x ∉ Y) (hp : Pile w0 w1 gk n' w.heap.size L' OB) (hL : ∀ b ∈ L', b ∈ FK ∨ b ∈ Y) (hs : Spared w.heap.size OB w w1) : Play w0 w1 gb gr gk most La Lb n' X' ∧ Same X w w1 := by
  have hz : w.heap.size ≤ w1.heap.size := hp.size
  have k := keeps_of_spared h.book.base hp.base hz hs
  obtain ⟨F, OB', hB, hF, _⟩ := hp
  have l : ∀ b ∈ F, b ∈ FK ∨ b ∈ Y ∨ w.heap.size ≤ b := fun b hb => by
    rcases hF b hb with h | h
    · exact (hL b h).imp_right .inl
    · exact .inr (.inr h)
  have hsub := h.book.sub
  have nx : ∀ b ∈ X, b ∉ OB := fun b hb hx => h.kx b (hsub b hx) hb
  refine ⟨⟨FB, FR, F, OB', h.bag.keeps k (fun b hb hx => h.bk b hb (hsub b hx)), h.ref.keeps k (fun b hb hx => h.rk b hb (hsub b hx)), hB, h.br, fun x hx hy => ?_, fun x hx hy => ?_, fun x hx hy => h.bx x hx (hX x hy).1, fun x hx hy => h.rx x hx (hX x hy).1, fun x hx hy => ?_, h.b0, h.r0, fun x hx => ⟨(h.x0 x (hX x hx).1).1, Nat.lt_of_lt_of_le (h.x0 x (hX x hx).1).2 hz⟩⟩, fun x hx => k.block x (h.x0 x hx).2 (nx x hx)⟩
  · rcases l x hy with h1 | h1 | h1
    · exact h.bk x hx h1
    · exact h.bx x hx (hY x h1)
    · have := h.bag.lt x hx; omega
  · rcases l x hy with h1 | h1 | h1
    · exact h.rk x hx h1
    · exact h.rx x hx (hY x h1)
    · have := h.ref.lt x hx; omega
  · rcases l x hx with h1 | h1 | h1
    · exact h.kx x h1 (hX x hy).1
    · exact (hX x hy).2 h1
    · have := (h.x0 x (hX x hy).1).2; omega

theorem Play.apart (h : Play w0 w gb gr gk most La Lb n X) (hT : TabOk w0) : Calls Tryz.prog 26 #[.pointer (some ⟨gk, 0, none⟩)] w fun e w' => e = .returned (.bool true) ∧ Below w0.heap.size w0 w' := by
  obtain ⟨FB, FR, FK, OB, h⟩ := h
  exact h.book.apart hT

theorem Play.Add (h : Play w0 w gb gr gk most La Lb n X) (hne : (La.length : Int) ≠ most) (hL : La.length ≤ 65536) {m : MsgT} {v4 v5 : Value} (hm : MsgIn w m v4 v5) (hB : msgB m) :
    Calls Tryz.prog 13 #[.pointer (some ⟨gb, 0, none⟩), .agg (msgCells m v4 v5)] w fun e w' => e = .returned (.int .i64 0) ∧ Play w0 w' gb gr gk most (La ++ [m]) Lb n X ∧ Same X w w' := by
  obtain ⟨FB, FR, FK, OB, h⟩ := h
  refine (Add_yes w gb most La FB m v4 v5 h.bag hne hL hm hB).mono ?_
  rintro e w' ⟨F', rfl, r, k, l⟩
  have s := h.bagStep (Y := []) r k (by rwa [List.append_nil]) (fun _ _ hy => by cases hy) (fun _ hy => by cases hy)
  rw [List.append_nil] at s
  exact ⟨rfl, s⟩
theorem Play.AddFull (h : Play w0 w gb gr gk most La Lb n X) (hne : (La.length : Int) = most) {m : MsgT} {v4 v5 : Value} (hm : MsgIn w m v4 v5) :
    Calls Tryz.prog 13 #[.pointer (some ⟨gb, 0, none⟩), .agg (msgCells m v4 v5)] w fun e w' => e = .returned (.int .i64 5) ∧ Play w0 w' gb gr gk most La Lb n X ∧ Same X w w' := by
  have h' := h
  obtain ⟨FB, FR, FK, OB, hf⟩ := h
  refine (Add_no w gb most La FB m v4 v5 hf.bag hne hm).mono ?_
  rintro e w' ⟨rfl, hb⟩
  exact ⟨rfl, h'.below hb⟩
theorem Play.Copy (h : Play w0 w gb gr gk most La Lb n X) {k : Nat} {x : MsgT} (hk : La[k]? = some x) (hne : (La.length : Int) ≠ most) (hL : La.length ≤ 65536) (hB : msgB x) :
    Calls Tryz.prog 19 #[.pointer (some ⟨gb, 0, none⟩), .int .i64 k] w fun e w' => e = .returned (.int .i64 0) ∧ Play w0 w' gb gr gk most (La ++ [x]) Lb n X ∧ Same X w w' := by
  obtain ⟨FB, FR, FK, OB, h⟩ := h
  refine (Copy_yes w gb most La FB k x h.bag hk hne hL hB).mono ?_
  rintro e w' ⟨F', rfl, r, k, l⟩
  have s := h.bagStep (Y := []) r k (by rwa [List.append_nil]) (fun _ _ hy => by cases hy) (fun _ hy => by cases hy)
  rw [List.append_nil] at s
  exact ⟨rfl, s⟩
theorem Play.CopyFull (h : Play w0 w gb gr gk most La Lb n X) {k : Nat} {x : MsgT} (hk : La[k]? = some x) (hne : (La.length : Int) = most) (hL : La.length ≤ 65536) :
    Calls Tryz.prog 19 #[.pointer (some ⟨gb, 0, none⟩), .int .i64 k] w fun e w' => e = .returned (.int .i64 5) ∧ Play w0 w' gb gr gk most La Lb n X ∧ Same X w w' := by
  have h' := h
  obtain ⟨FB, FR, FK, OB, hf⟩ := h
  refine (Copy_full w gb most La FB k x hf.bag hk hne hL).mono ?_
  rintro e w' ⟨rfl, hb⟩
  exact ⟨rfl, h'.below hb⟩
theorem Play.CopyNo (h : Play w0 w gb gr gk most La Lb n X) {i : Int} (hi : ¬ (0 ≤ i ∧ i < (La.length : Int))) :
    Calls Tryz.prog 19 #[.pointer (some ⟨gb, 0, none⟩), .int .i64 i] w fun e w' => e = .returned (.int .i64 1) ∧ w = w' := by
  obtain ⟨FB, FR, FK, OB, hf⟩ := h
  exact Copy_no w gb most La FB i hf.bag hi
theorem Play.Take (h : Play w0 w gb gr gk most La Lb n X) {k : Nat} {x : MsgT} (hk : La[k]? = some x) (hL : La.length ≤ 65536) :
    Calls Tryz.prog 15 #[.pointer (some ⟨gb, 0, none⟩), .int .i64 k] w fun e w' => ∃ v4 v5 Fm, e = .returned (.tuple #[.agg (msgCells x v4 v5), .int .i64 0]) ∧ fdMsg.M w' Fm x (msgCells x v4 v5).toList ∧ Fm.Nodup ∧ (∀ y ∈ Fm, y ∉ X) ∧ Play w0 w' gb gr gk most (La.eraseIdx k) Lb n (X ++ Fm) ∧ Same X w w' := by
  obtain ⟨FB, FR, FK, OB, h⟩ := h
  refine (Take_yes w gb most La FB k x h.bag hk hL).mono ?_
  rintro e w' ⟨v4, v5, F', Fm, rfl, hM, r, hnd, hk, hl⟩
  obtain ⟨_, n2, n3⟩ := List.nodup_append.1 hnd
  exact ⟨v4, v5, Fm, rfl, hM, n2, fun y hy => h.bx y (hl y (List.mem_append_right _ hy)), h.bagStep r hk (fun b hb => .inl (hl b hb)) (fun x hx hy => n3 x hx x hy rfl) (fun y hy => fdMsg.lt hM y hy)⟩
theorem Play.Lst (h : Play w0 w gb gr gk most La Lb n X) (hL : La.length ≤ 65536) (hB : ∀ m ∈ La, msgB m) :
    Calls Tryz.prog 21 #[.pointer (some ⟨gb, 0, none⟩)] w fun e w' => ∃ A c F, e = .returned (.slice A La.length c) ∧ La.length ≤ c ∧ Fd.Row fdMsg 50 w' F (.slice A La.length c) La ∧ F.Nodup ∧ (∀ y ∈ F, y ∉ X) ∧ Play w0 w' gb gr gk most La Lb n (X ++ F) ∧ Same X w w' := by
  have h' := h
  obtain ⟨FB, FR, FK, OB, hf⟩ := h
  refine (List_calls w gb most La FB hf.bag hL hB).mono ?_
  rintro e w' ⟨v, rfl, hb, F, hr, hn, hl⟩
  obtain ⟨A, c, rfl, hc, _⟩ := Fd.row_reads hr
  exact ⟨A, c, F, rfl, hc, hr, hn, fun y hy hx => by have := hl y hy; have := (hf.x0 y hx).2; omega, h'.park hb (fun y hy => ⟨hl y hy, Fd.row_lt hr y hy⟩)⟩
theorem Play.Msg (h : Play w0 w gb gr gk most La Lb n X) {x : MsgT} {F : List Nat} {cs : List Value} (hM : fdMsg.M w F x cs) (hnd : F.Nodup) (hF : ∀ b ∈ F, b ∈ X) (hX : ∀ x ∈ X', x ∈ X ∧ x ∉ F) (hx : fewM x) (hn : n + 5002 ≤ 1000000000) :
    Calls Tryz.prog 18 #[.pointer (some ⟨gk, 0, none⟩), .agg cs.toArray] w fun e w' => e = .returned (.tuple #[]) ∧ ∃ n', n' ≤ n + 5002 ∧ Play w0 w' gb gr gk most La Lb n' X' ∧ Same X w w' := by
  obtain ⟨FB, FR, FK, OB, h⟩ := h
  refine (h.pile.MsgM hM hnd (fun b hb => ⟨⟨(h.x0 b (hF b hb)).2, fun hx => h.kx b hx (hF b hb)⟩, (h.x0 b (hF b hb)).1⟩) hx hn).mono ?_
  rintro e w' ⟨rfl, n', L', hn', hp, hL, hs⟩
  exact ⟨rfl, n', hn', h.bookStep hF hX hp hL hs⟩
theorem Play.MsgC (h : Play w0 w gb gr gk most La Lb n X) {x : MsgT} {F : List Nat} {v4 v5 : Value} (hM : fdMsg.M w F x (msgCells x v4 v5).toList) (hnd : F.Nodup) (hF : ∀ b ∈ F, b ∈ X) (hX : ∀ x ∈ X', x ∈ X ∧ x ∉ F) (hx : fewM x) (hn : n + 5002 ≤ 1000000000) :
    Calls Tryz.prog 18 #[.pointer (some ⟨gk, 0, none⟩), .agg (msgCells x v4 v5)] w fun e w' => e = .returned (.tuple #[]) ∧ ∃ n', n' ≤ n + 5002 ∧ Play w0 w' gb gr gk most La Lb n' X' ∧ Same X w w' := h.Msg hM hnd hF hX hx hn
theorem Play.Msgs (h : Play w0 w gb gr gk most La Lb n X) {A : Option Addr} {c : Nat} {xs : List MsgT} {F : List Nat} (hr : Fd.Row fdMsg 50 w F (.slice A xs.length c) xs) (hnd : F.Nodup) (hF : ∀ b ∈ F, b ∈ X) (hX : ∀ x ∈ X', x ∈ X ∧ x ∉ F) (hlen : xs.length ≤ 300) (hx : ∀ x ∈ xs, fewM x) (hn : n + 2000000 ≤ 1000000000) :
    Calls Tryz.prog 24 #[.pointer (some ⟨gk, 0, none⟩), .slice A xs.length c] w fun e w' => e = .returned (.tuple #[]) ∧ ∃ n', n' ≤ n + 2000000 ∧ Play w0 w' gb gr gk most La Lb n' X' ∧ Same X w w' := by
  obtain ⟨FB, FR, FK, OB, h⟩ := h
  refine (h.pile.Msgs A c xs F hr hnd (fun b hb => ⟨⟨(h.x0 b (hF b hb)).2, fun hx => h.kx b hx (hF b hb)⟩, (h.x0 b (hF b hb)).1⟩) hlen hx hn).mono ?_
  rintro e w' ⟨rfl, n', L', hn', hp, hL, hs⟩
  exact ⟨rfl, n', hn', h.bookStep hF hX hp hL hs⟩
/-- A copy with marks behind its lists. -/
theorem Play.Tw (h : Play w0 w gb gr gk most La Lb n X) {m : MsgT} {B4 B5 : Option Addr} {k4 k5 : Nat} {F4 F5 : List Nat} (t4 : Twin fdOp 82 w F4 (.slice B4 m.f4.length k4) m.f4 spareOp) (t5 : Twin fdTR 145 w F5 (.slice B5 m.f5.length k5) (m.f5.map twOf) spareRes) (n5 : F5.Nodup) (hd : ∀ x ∈ F4, ∀ y ∈ F5, x ≠ y)
    (hF : ∀ b ∈ F4 ++ F5, b ∈ X) (hX : ∀ x ∈ X', x ∈ X ∧ x ∉ F4 ++ F5) (hx : fewM m) (hn : n + 5002 ≤ 1000000000) :
    Calls Tryz.prog 18 #[.pointer (some ⟨gk, 0, none⟩), .agg (msgCells m (.slice B4 m.f4.length k4) (.slice B5 m.f5.length k5))] w fun e w' => e = .returned (.tuple #[]) ∧ ∃ n', n' ≤ n + 5002 ∧ Play w0 w' gb gr gk most La Lb n' X' ∧ Same X w w' := by
  obtain ⟨FB, FR, FK, OB, h⟩ := h
  obtain ⟨i4, o4⟩ := t4.owns
  obtain ⟨F6, q5, n6, f6⟩ := loose_tw t5 n5
  obtain ⟨x4, x5, xr⟩ := hx
  obtain ⟨lm, hlm⟩ : ∃ lm, lm = m.f5.map (fun x => x.f0.length) := ⟨_, rfl⟩
  have hlml : lm.length = m.f5.length := by rw [hlm, List.length_map]
  have hlms : ∀ n ∈ lm, n ≤ 1000000000 := fun n hn => by
    rw [hlm] at hn
    obtain ⟨r, hr, rfl⟩ := List.mem_map.1 hn
    have := xr r hr
    omega
  rw [← hlm] at q5
  have hsub : ∀ b ∈ (Value.slice B4 m.f4.length k4).ownBlock.toList ++ F6, b ∈ F4 ++ F5 := fun b hb => by
    rcases List.mem_append.1 hb with h | h
    · exact List.mem_append_left _ (t4.blk b h)
    · exact List.mem_append_right _ (f6 b h)
  have hnd : ((Value.slice B4 m.f4.length k4).ownBlock.toList ++ F6).Nodup := List.nodup_append.2 ⟨by cases (Value.slice B4 m.f4.length k4).ownBlock <;> simp, n6, fun x hx y hy => hd x (t4.blk x hx) y (f6 y hy)⟩
  have k := h.pile.Msg (.int .u8 m.f0) (.int .u8 m.f1) (.int .u8 m.f2) (.int .u32 m.f3) B4 m.f4.length k4 i4 B5 k5 lm F6 (by omega) o4 (by rw [hlml]; exact q5) hnd (fun b hb => ⟨⟨(h.x0 b (hF b (hsub b hb))).2, fun hx => h.kx b hx (hF b (hsub b hb))⟩, (h.x0 b (hF b (hsub b hb))).1⟩) (by omega) (by omega) hlms
  rw [hlml] at k
  refine Calls.mono k ?_
  rintro e w' ⟨rfl, L', hp, hL, hs⟩
  exact ⟨rfl, _, by omega, h.bookStep (fun y hy => hF y (hsub y hy)) (fun x hx => ⟨(hX x hx).1, fun hy => (hX x hx).2 (hsub x hy)⟩) hp hL hs⟩
end
end Go.Proofs.YtcohodkpppmaoaaGreatDoor.Q
namespace Go.Proofs.YtcohodkpppmaoaaGreatDoor.Q
open Go.RowKit Go.Proofs.YtcohodkpppmaoaaGreatDoorW.PrintWords Go.Proofs.YtcohodkpppmaoaaGreatDoorW.PrintLast Go.Proofs.YtcohodkpppmaoaaGreatDoorW.PrintMore
set_option linter.unusedVariables false
/-- A message's six cells, told as they lie. -/
def kCells : Kd (List Value) where
  sz := 6
  E := []
  K := fun _ x cs => cs = x ∧ x.length = 6 ∧ ∀ u ∈ x, u.oneCell' = true
  M := fun _ _ _ x cs => cs = x ∧ x.length = 6 ∧ ∀ u ∈ x, u.oneCell' = true
  K_len := by
    rintro w x cs ⟨rfl, h, _⟩
    exact h
  K_one := by
    rintro w x cs ⟨rfl, _, h⟩
    exact h
  K_below := fun _ h => h
  K_of_M := fun h => h
  M_mono := fun _ h => h
  M_bound := fun h => h
  M_move := fun _ h => h
  M_lower := fun _ h => h
def fdCells : Fd (List Value) := Fd.flat kCells (fun h => h)
def chunkM (c : List Value) : Prop := c.length = 6 ∧ ∀ u ∈ c, u.oneCell' = true
theorem els_chunks (w : World) : ∀ ch : List (List Value), (∀ c ∈ ch, chunkM c) → Fd.Els fdCells w ch ch.flatten []
  | [], _ => ⟨rfl, rfl⟩
  | c :: ch, h => ⟨c, ch.flatten, [], [], rfl, rfl, ⟨rfl, rfl, (h c (by simp)).1, (h c (by simp)).2⟩, els_chunks w ch (fun d hd => h d (by simp [hd]))⟩
theorem flat_of_els {w : World} : ∀ {ch : List (List Value)} {cs : List Value} {F : List Nat}, Fd.Els fdCells w ch cs F → cs = ch.flatten
  | [], _, _, h => h.1
  | c :: ch, _, _, h => by
    obtain ⟨c', r, F0, F1, rfl, rfl, ⟨_, rfl, _⟩, h2⟩ := h
    rw [flat_of_els h2]
    rfl
theorem flat_of_reps {w : World} {ch : List (List Value)} {cs : List Value} (h : Reps (kCells.K w) 6 ch cs) : cs = ch.flatten := flat_of_els (w := w) (F := []) (els_flat (w := w) (w1 := w) (hk := fun h => h) h)
theorem chunks_of_els {w : World} : ∀ {xs : List MsgT} {cs : List Value} {F : List Nat}, Fd.Els fdMsg w xs cs F → ∃ ch : List (List Value), ch.length = xs.length ∧ cs = ch.flatten ∧ ∀ c ∈ ch, chunkM c
  | [], _, _, h => ⟨[], rfl, h.1, fun _ hc => by cases hc⟩
  | x :: xs, _, _, h => by
    obtain ⟨c, r, F0, F1, rfl, rfl, h1, h2⟩ := h
    obtain ⟨ch, e1, e2, e3⟩ := chunks_of_els h2
    refine ⟨c :: ch, by simp [e1], by rw [e2]; rfl, fun d hd => ?_⟩
    rcases List.mem_cons.1 hd with rfl | hd
    · exact ⟨fdMsg.k.K_len (fdMsg.read h1), fdMsg.k.K_one (fdMsg.read h1)⟩
    · exact e3 d hd
theorem chunk_msg (x : MsgT) (A4 A5 : Option Addr) (n4 c4 n5 c5 : Nat) : chunkM (msgCells x (.slice A4 n4 c4) (.slice A5 n5 c5)).toList := ⟨rfl, fun u hu => by
  simp only [msgCells, List.mem_cons, List.not_mem_nil, or_false] at hu
  rcases hu with rfl | rfl | rfl | rfl | rfl | rfl <;> rfl⟩
def RefTook (w : World) (g : Nat) (most : Int) (L : List MsgT) (F : List Nat) (k : Nat) (x : MsgT) (e : Ending) (w' : World) : Prop :=
  ∃ v4 v5 F', e = .returned (.tuple #[.agg (msgCells x v4 v5), .int .i64 0]) ∧ MsgIn w' x v4 v5 ∧ RefAt w' g most (L.eraseIdx k) F' ∧ Keeps F w w' ∧ ∀ b ∈ F', b ∈ F ∨ w.heap.size ≤ b
theorem refTake_fin {w W : World} {g gl base : Nat} {most : Int} {L : List MsgT} {x : MsgT} {v v4 v5 : Value} {k : Nat} {ch0 ch1 : List (List Value)} {ok : Nat → Prop} {G0 Gm G1 : List Nat} (hg : g < w.heap.size) (hnd : (g :: gl :: (G0 ++ (Gm ++ G1))).Nodup) (hE0 : Fd.Els fdMsg w (L.take k) ch0.flatten G0) (hM : fdMsg.M w Gm x (msgCells x v4 v5).toList) (hE1 : Fd.Els fdMsg w (L.drop (k + 1)) ch1.flatten G1)
    (hk : Keeps [g] w W) (hb : W.heap[g]? = some (.cells #[v, .int .i64 most] 112 (0, 0))) (hr : kCells.R 50 W base ok v (([] ++ ch0) ++ ch1)) (hbase : w.heap.size ≤ base) :
    RefTook w g most L (g :: gl :: (G0 ++ (Gm ++ G1))) k x (.returned (.tuple #[.agg (msgCells x v4 v5), .int .i64 0])) W := by
  have hvb := Kd.R_base hr
  obtain ⟨_, inner, ho, hrp⟩ := hr
  have hin := flat_of_reps (w := W) hrp
  have hgn : ∀ b ∈ G0 ++ (Gm ++ G1), b ∉ [g] := fun b hy hx => by
    simp only [List.mem_cons, List.not_mem_nil, or_false] at hx
    rw [hx] at hy
    exact (List.nodup_cons.1 hnd).1 (List.mem_cons_of_mem _ hy)
  have hmove : ∀ b ∈ G0 ++ (Gm ++ G1), b < w.heap.size → W.heap[b]? = w.heap[b]? := fun b hb hl => hk.block b hl (hgn b hb)
  have hE0' : Fd.Els fdMsg W (L.take k) ch0.flatten G0 := Fd.els_move (fun b hb => hmove b (List.mem_append_left _ hb) (Fd.els_lt hE0 b hb)) hE0
  have hE1' : Fd.Els fdMsg W (L.drop (k + 1)) ch1.flatten G1 := Fd.els_move (fun b hb => hmove b (List.mem_append_right _ (List.mem_append_right _ hb)) (Fd.els_lt hE1 b hb)) hE1
  have hM' : fdMsg.M W Gm x (msgCells x v4 v5).toList := fdMsg.move (fun b hb => hmove b (List.mem_append_right _ (List.mem_append_left _ hb)) (fdMsg.lt hM b hb)) hM
  have hE := Fd.els_append hE0' hE1'
  have hlen : (([] ++ ch0) ++ ch1).length = (L.eraseIdx k).length := by
    have h0 := Fd.els_len hE0
    have h1 := Fd.els_len hE1
    have hl := ho.2
    have q : (ch0 ++ ch1).length * 6 = (L.take k ++ L.drop (k + 1)).length * 6 := by
      have a := hrp.1
      rw [hin] at a
      simp only [List.nil_append] at a
      have b := Fd.els_len hE
      rw [← List.flatten_append] at b
      have a' : (ch0 ++ ch1).flatten.length = (ch0 ++ ch1).length * 6 := a
      have b' : (ch0 ++ ch1).flatten.length = (L.take k ++ L.drop (k + 1)).length * 6 := b
      rw [← a', b']
    rw [List.nil_append, List.eraseIdx_eq_take_drop_succ]
    exact Nat.eq_of_mul_eq_mul_right (by decide : 0 < 6) q
  rw [hlen, hin] at ho
  rw [List.nil_append, List.flatten_append] at ho
  rw [← List.eraseIdx_eq_take_drop_succ] at hE
  have hlt : ∀ b ∈ G0 ++ G1, b < w.heap.size := fun b hb => by
    rcases List.mem_append.1 hb with h | h
    · exact Fd.els_lt hE0 b h
    · exact Fd.els_lt hE1 b h
  have hvo : ∀ b ∈ v.ownBlock.toList, w.heap.size ≤ b := fun b hb => Nat.le_trans hbase (hvb b (by simpa using hb))
  have hsub : ∀ b ∈ G0 ++ G1, b ∈ G0 ++ (Gm ++ G1) := fun b hb => by
    rcases List.mem_append.1 hb with h | h
    · exact List.mem_append_left _ h
    · exact List.mem_append_right _ (List.mem_append_right _ h)
  have hn3 := (List.nodup_cons.1 (List.nodup_cons.1 hnd).2).2
  have hn01 : (G0 ++ G1).Nodup := List.nodup_append.2 ⟨(List.nodup_append.1 hn3).1, (List.nodup_append.1 (List.nodup_append.1 hn3).2.1).2.1, fun a ha b hb => (List.nodup_append.1 hn3).2.2 a ha b (List.mem_append_right _ hb)⟩
  refine ⟨v4, v5, g :: (v.ownBlock.toList ++ (G0 ++ G1)), rfl, msgIn_M hM', ⟨v, _, hb, ⟨_, G0 ++ G1, own_weaken ho (Nat.zero_le _), hE, rfl⟩, rfl, List.nodup_cons.2 ⟨fun hx => ?_, List.nodup_append.2 ⟨nodup_own v, hn01, fun a ha b hb e => ?_⟩⟩⟩, hk.mono (fun y hy => .inl (by simp at hy; simp [hy])), fun b hb => ?_⟩
  · rcases List.mem_append.1 hx with h | h
    · have := hvo g h; omega
    · exact (List.nodup_cons.1 hnd).1 (List.mem_cons_of_mem _ (hsub g h))
  · have := hvo a ha
    have := hlt b hb
    omega
  · rcases List.mem_cons.1 hb with rfl | hb
    · exact .inl (by simp)
    · rcases List.mem_append.1 hb with h | h
      · exact .inr (hvo b h)
      · exact .inl (List.mem_cons_of_mem _ (List.mem_cons_of_mem _ (hsub b h)))
set_option maxHeartbeats 3200000 in
set_option maxRecDepth 100000 in
theorem refTake_yes (w : World) (g : Nat) (most : Int) (L : List MsgT) (F : List Nat) (k : Nat) (x : MsgT) (hR : RefAt w g most L F) (hk : L[k]? = some x) (hL : L.length ≤ 65536) :
    Calls Tryz.prog 16 #[.pointer (some ⟨g, 0, none⟩), .int .i64 k] w (RefTook w g most L F k x) := by
  have hnd : F.Nodup := by
    obtain ⟨_, _, _, _, _, h⟩ := hR
    exact h
  obtain ⟨gl, c, v4, v5, c0, c1, G0, Gm, G1, hb, ho, h0, hE0, hM, hE1, rfl⟩ := hR.open_ hk
  have hu := Tryz.underlying50
  have hkl : k < L.length := (List.getElem?_eq_some_iff.1 hk).1
  have hkn : (k : Int) < (L.length : Int) := by omega
  have hk0 : ¬ (k : Int) < 0 := by omega
  have hk1 : ¬ (L.length : Int) ≤ (k : Int) := by omega
  have hk2 : (0 : Int) ≤ (k : Int) := by omega
  have p0 := blk_cell hb 0
  have hgw : g < w.heap.size := blk_lt hb
  have hll : gl < w.heap.size := own_lt ho gl rfl
  obtain ⟨k0, k1, k2, k3, k4, k5⟩ := cells_at ho h0
  obtain ⟨⟨A4, d4, A5, d5, e4, e5, _⟩⟩ := msgIn_M hM
  subst e4; subst e5
  obtain ⟨ch0, l0, rfl, hc0⟩ := chunks_of_els hE0
  obtain ⟨ch1, l1, rfl, hc1⟩ := chunks_of_els hE1
  rw [List.length_take, Nat.min_eq_left (by omega)] at l0
  rw [List.length_drop] at l1
  obtain ⟨cx, hcx⟩ : ∃ cx, cx = (msgCells x (.slice A4 x.f4.length d4) (.slice A5 x.f5.length d5)).toList := ⟨_, rfl⟩
  have hCH : (ch0 ++ cx :: ch1).length = L.length := by simp; omega
  have hrow : Fd.Row fdCells 50 w ((Value.slice (some ⟨gl, 0, none⟩) L.length c).ownBlock.toList ++ []) (.slice (some ⟨gl, 0, none⟩) L.length c) (ch0 ++ cx :: ch1) := by
    refine ⟨_, [], ?_, els_chunks w _ (fun d hd => ?_), rfl⟩
    · rw [hCH]
      have : (ch0 ++ cx :: ch1).flatten = ch0.flatten ++ ((msgCells x (.slice A4 x.f4.length d4) (.slice A5 x.f5.length d5)).toList ++ ch1.flatten) := by rw [List.flatten_append, hcx]; rfl
      rw [this]
      exact ho
    · rcases List.mem_append.1 hd with hd | hd
      · exact hc0 d hd
      · rcases List.mem_cons.1 hd with rfl | hd
        · rw [hcx]; exact chunk_msg _ _ _ _ _ _ _
        · exact hc1 d hd
  obtain ⟨A', c', ev, hcl, hC⟩ := Fd.row_reads hrow
  rw [hCH] at ev hcl
  injection ev with ev1 _ ev3
  subst ev1 ev3
  obtain ⟨iu, hiu, hsz⟩ : ∃ i, Tryz.prog.info? 50 = some i ∧ i.size = 6 := by
    obtain ⟨i0, hi, hzz⟩ := Option.map_eq_some_iff.1 infoMsg
    simp only [Prod.mk.injEq] at hzz
    exact ⟨i0, hi, hzz.2.1⟩
  have hs1 := cut_to (P := Tryz.prog) 60 50 .i64 Tryz.underlying60 hiu (some ⟨gl, 0, none⟩) L.length c (k : Int) hk2 (by omega) hcl
  have hs2 := cut_from (P := Tryz.prog) 60 50 .i64 Tryz.underlying60 hiu 6 hsz (some ⟨gl, 0, none⟩) L.length c ((k : Int) + 1) (by omega) (by omega)
  rw [show ((k : Int) + 1).toNat = k + 1 by omega] at hs2
  simp only [Int.toNat_natCast] at hs1 hs2
  obtain ⟨A1, hA1⟩ : ∃ A1, A1 = if c = k + 1 then (some (⟨gl, 0, none⟩ : Addr)) else Option.map (fun x : Addr => x.add ((k + 1) * 6)) (some ⟨gl, 0, none⟩) := ⟨_, rfl⟩
  rw [← hA1] at hs2
  obtain ⟨W, hW⟩ : ∃ W, W = (w.alloc (.cells zeroMsg 50)).alloc (.cells (msgCells x (.slice A4 x.f4.length d4) (.slice A5 x.f5.length d5)) 50) := ⟨_, rfl⟩
  have hba := below_alloc (Below.refl w.heap.size w) (.cells zeroMsg 50)
  have hbW : Below w.heap.size w W := by rw [hW]; exact hba.alloc hba.size _
  have hbr : W.heap[w.heap.size]? = some (.cells zeroMsg 50 (0, 0)) := by
    rw [hW]
    exact blk_below (blk_new w _) (below_alloc (Below.refl _ _) _)
  have hbm : W.heap[w.heap.size + 1]? = some (.cells (msgCells x (.slice A4 x.f4.length d4) (.slice A5 x.f5.length d5)) 50 (0, 0)) := by
    rw [hW]
    have h := blk_new (w.alloc (.cells zeroMsg 50)) (.cells (msgCells x (.slice A4 x.f4.length d4) (.slice A5 x.f5.length d5)) 50)
    rwa [alloc_size] at h
  unfold msgCells at hbm hW
  have hbg := blk_below hb hbW
  have hsW : w.heap.size + 2 ≤ W.heap.size := blk_lt hbm
  have HBG := Aside0.mk hbg
  have HBR := Aside0.mk hbr
  have HBM := Aside0.mk hbm
  have HBW := Aside0.mk hbW
  have R1 := Aside0.mk (show ReadsRow (kCells.K W) 6 W (some ⟨gl, 0, none⟩) k ch0 from by
    have h := Kd.C_take (Kd.C_below hC hbW) (m := k) (by rw [hCH]; omega)
    rwa [List.take_left' l0, l0] at h)
  have R2 := Aside0.mk (show kCells.C W A1 (L.length - (k + 1)) ch1 from by
    have h := Kd.C_drop (Kd.C_below hC hbW) (m := k + 1) (c := c) (by rw [hCH]; omega) (by rw [hCH]; exact hcl)
    have e : (ch0 ++ cx :: ch1).drop (k + 1) = ch1 := by
      rw [List.drop_append, List.drop_of_length_le (by omega), show k + 1 - ch0.length = 1 by omega]
      rfl
    rw [e, l1] at h
    rw [hA1]
    exact h)
  have FIN := Aside0.mk (fun (W' : World) (v : Value) (hk : Keeps [g] w W') (hb : W'.heap[g]? = some (.cells #[v, .int .i64 most] 112 (0, 0))) (hr : kCells.R 50 W' W.heap.size (fun _ => True) v (([] ++ ch0) ++ ch1)) => refTake_fin (L := L) (k := k) hgw hnd hE0 hM hE1 hk hb hr hbW.size)
  have hl0 : (([] : List (List Value)).length + k) * 56 ≤ 140737488355328 := by simp; omega
  have hl1 : (([] ++ ch0).length + (L.length - (k + 1))) * 56 ≤ 140737488355328 := by simp; omega
  have hw1 : IntKind.i64.wrap ((k : Int) + 1) = (k : Int) + 1 := IntWalk.i64_in _ (by omega)
  have hj1 : (0 : Int) ≤ (k : Int) + 1 := by omega
  have hj2 : (k : Int) + 1 ≤ (L.length : Int) := by omega
  have q0 := blk_cell hbg 0
  clear hb ho h0 hE0 hE1 hM hk hR hnd hc0 hc1 hrow hC hba hbr hbm hbg hbW hA1 hcx hCH
  go_enter Tryz.func16, Tryz.ntmps16
  go_upto_region 5 with fail
  rw [← hW]
  clear hW
  go_upto_region 6 with (first
    | (at_builtin
       refine Kd.R_append_rows kCells (w0 := W) W.heap.size rfl (.tmp 27) (.tmp 33) 60 50 (.agg #[.int .u8 0, .int .u8 0, .int .u8 0, .int .u32 0, .slice none 0 0, .slice none 0 0]) 56 rfl Tryz.underlying60 infoMsg rfl (show 0 < 6 from by decide) (by decide) (.slice none 0 0) [] ch0 (some ⟨gl, 0, none⟩) k c (fun _ => True) (fun _ => False) rfl rfl (Kd.R_nil _ _ _ _ _) R1.out (fun _ _ h => h) (fun _ h => h.elim) (fun _ _ => trivial) (Below.refl _ _) (Nat.le_refl _) hl0 ?_
       intro v1 w5 ho hb _ _
       obtain ⟨A7, d7, ev7, _, _⟩ := Kd.R_reads ho
       rw [List.nil_append, l0] at ev7
       subst ev7
       have O5 := Aside0.mk ho
       have B5 := Aside0.mk hb
       have j0 := blk_cell (blk_below HBG.out hb) 0
       clear ho hb))
  go_upto_region 7 with (first
    | (at_builtin
       refine Kd.R_append_rows kCells (w0 := W) W.heap.size rfl (.tmp 36) (.tmp 43) 60 50 (.agg #[.int .u8 0, .int .u8 0, .int .u8 0, .int .u32 0, .slice none 0 0, .slice none 0 0]) 56 rfl Tryz.underlying60 infoMsg rfl (show 0 < 6 from by decide) (by decide) (.slice A7 k d7) ([] ++ ch0) ch1 A1 (L.length - (k + 1)) (c - (k + 1)) (fun _ => True) (fun _ => False) rfl rfl O5.out (Kd.C_below R2.out B5.out) (fun _ _ h => h) (fun _ h => h.elim) (fun _ _ => trivial) B5.out B5.out.size hl1 ?_
       intro v2 w6 ho hb _ _
       obtain ⟨A8, d8, ev8, _, _⟩ := Kd.R_reads ho
       obtain ⟨m8, hm8⟩ : ∃ m8, (([] ++ ch0) ++ ch1).length = m8 := ⟨_, rfl⟩
       rw [hm8] at ev8
       subst ev8
       have O6 := Aside0.mk ho
       have B6 := Aside0.mk hb
       have BG6 := Aside0.mk (blk_below HBG.out hb)
       have z0 := blk_cell BG6.out 0
       have y0 := blk_frozen BG6.out 0
       clear ho hb))
  obtain ⟨W7, hW7⟩ : ∃ W7, W7 = w6.setCell ⟨g, 0, none⟩ (.slice A8 m8 d8) := ⟨_, rfl⟩
  have hk7 : Keeps [g] w W7 := by
    rw [hW7]
    exact (Keeps.of_below (below_step HBW.out B6.out) [g]).setCell (p := ⟨g, 0, none⟩) (.inl (by simp)) _
  have hb7 : W7.heap[g]? = some (.cells #[.slice A8 m8 d8, .int .i64 most] 112 (0, 0)) := by rw [hW7]; exact blk_put BG6.out 0 _ rfl
  have hr7 : kCells.R 50 W7 W.heap.size (fun _ => True) (.slice A8 m8 d8) (([] ++ ch0) ++ ch1) := Kd.R_mono (Kd.R_move (w1 := W7) (Kd.R_bound O6.out) (fun b hb => by rw [hW7]; exact Below.heap_setCell _ _ _ _ (show b ≠ g by have := hb.2.1; omega))) (fun _ _ => trivial)
  have hres : W7.heap[w.heap.size]? = some (.cells zeroMsg 50 (0, 0)) := by rw [hW7]; exact (Below.heap_setCell _ _ _ _ (show w.heap.size ≠ g by omega)).trans (blk_below HBR.out B6.out)
  have hbox : W7.heap[w.heap.size + 1]? = some (.cells (msgCells x (.slice A4 x.f4.length d4) (.slice A5 x.f5.length d5)) 50 (0, 0)) := by rw [hW7]; exact (Below.heap_setCell _ _ _ _ (show w.heap.size + 1 ≠ g by omega)).trans (blk_below HBM.out B6.out)
  have F7 := Aside0.mk (fun (W' : World) (hk : Keeps [g] w W') (hb : W'.heap[g]? = W7.heap[g]?) (hm : ∀ b, W.heap.size ≤ b → W'.heap[b]? = W7.heap[b]?) => FIN.out W' _ hk (hb.trans hb7) (Kd.R_mono (Kd.R_move (w1 := W') (Kd.R_bound hr7) (fun b hb => hm b hb.2.1)) (fun _ _ => trivial)))
  have BR7 := Aside0.mk hres
  have HK7 := Aside0.mk hk7
  have hs7 : W.heap.size ≤ W7.heap.size := by rw [hW7]; have := B6.out.size; simpa [World.setCell] using this
  rw [← hW7]
  clear hW7 hk7 hb7 hr7 FIN O5 O6 B5 B6 BG6 HBG HBR HBM HBW R1 R2 z0 y0 j0 q0 p0 k0 k1 k2 k3 k4 k5
  unfold msgCells at hbox
  obtain ⟨⟨x0, x1, x2, x3, x4, x5⟩, ⟨u0, u1, u2, u3, u4, u5⟩⟩ := blk6p hbox
  obtain ⟨⟨z0, z1, z2, z3, z4, z5⟩, ⟨y0, y1, y2, y3, y4, y5⟩⟩ := blk6p hres
  have hl1 := blk_lt hbox
  have hl2 := blk_lt hres
  clear hbox hres
  go_wp2
  try simp only [Exit.inBlock, Exit.then]
  refine bodyPost_ret (results_ct rfl _ _ w.heap.size 50 (msgCells x (.slice A4 x.f4.length d4) (.slice A5 x.f5.length d5)) (0, 0) _ rfl (put6 BR7.out _ _ _ _ _ _) hu rfl (by kernel_rfl)) rfl ?_
  refine F7.out _ ?_ ?_ ?_
  · exact (((((HK7.out.setCell (p := ⟨w.heap.size, 0, none⟩) (.inr (Nat.le_refl _)) _).setCell (p := ⟨w.heap.size, 1, none⟩) (.inr (Nat.le_refl _)) _).setCell (p := ⟨w.heap.size, 2, none⟩) (.inr (Nat.le_refl _)) _).setCell (p := ⟨w.heap.size, 3, none⟩) (.inr (Nat.le_refl _)) _).setCell (p := ⟨w.heap.size, 4, none⟩) (.inr (Nat.le_refl _)) _).setCell (p := ⟨w.heap.size, 5, none⟩) (.inr (Nat.le_refl _)) _
  · exact far6 (by omega) _ _ _ _ _ _
  · exact fun b hb => far6 (by omega) _ _ _ _ _ _
set_option maxHeartbeats 3200000 in
set_option maxRecDepth 100000 in
theorem refTake_no (w : World) (g : Nat) (most : Int) (L : List MsgT) (F : List Nat) (i : Int) (hR : RefAt w g most L F) (hi : ¬ (0 ≤ i ∧ i < (L.length : Int))) :
    Calls Tryz.prog 16 #[.pointer (some ⟨g, 0, none⟩), .int .i64 i] w fun e w' => e = .returned (.tuple #[.agg #[.int .u8 0, .int .u8 0, .int .u8 0, .int .u32 0, .slice none 0 0, .slice none 0 0], .int .i64 1]) ∧ Below w.heap.size w w' := by
  obtain ⟨v, G, hb, hr, rfl, hnd⟩ := hR
  obtain ⟨A, c, rfl, _⟩ := Fd.row_reads hr
  have hu := Tryz.underlying50
  have p0 := blk_cell hb 0
  have hlt := blk_lt hb
  clear hb hr hnd
  obtain ⟨W, hW⟩ : ∃ W, W = w.alloc (.cells zeroMsg 50) := ⟨_, rfl⟩
  have hba : W.heap[w.heap.size]? = some (.cells zeroMsg 50 (0, 0)) := by rw [hW]; exact blk_new w _
  have hbb : Below w.heap.size w W := by rw [hW]; exact below_alloc (Below.refl w.heap.size w) _
  obtain ⟨⟨z0, z1, z2, z3, z4, z5⟩, ⟨y0, y1, y2, y3, y4, y5⟩⟩ := blk6p hba
  have hlW := blk_lt hba
  have HBA := Aside0.mk hba
  have HB := Aside0.mk hbb
  clear hba hbb
  by_cases h0 : i < 0
  · go_enter Tryz.func16, Tryz.ntmps16
    go_upto_region 2 with fail
    rw [← hW]
    clear hW
    go_wp2
    try simp only [Exit.inBlock, Exit.then]
    refine bodyPost_ret (results_ct rfl _ _ w.heap.size 50 zeroMsg (0, 0) _ rfl (put6 HBA.out _ _ _ _ _ _) hu rfl (by kernel_rfl)) rfl ?_
    exact ⟨rfl, below6 HB.out (Nat.le_refl _) _ _ _ _ _ _⟩
  · have h1 : (L.length : Int) ≤ i := by omega
    clear hi
    go_enter Tryz.func16, Tryz.ntmps16
    go_upto_region 2 with fail
    rw [← hW]
    clear hW
    go_wp2
    try simp only [Exit.inBlock, Exit.then]
    refine bodyPost_ret (results_ct rfl _ _ w.heap.size 50 zeroMsg (0, 0) _ rfl (put6 HBA.out _ _ _ _ _ _) hu rfl (by kernel_rfl)) rfl ?_
    exact ⟨rfl, below6 HB.out (Nat.le_refl _) _ _ _ _ _ _⟩
end Go.Proofs.YtcohodkpppmaoaaGreatDoor.Q
