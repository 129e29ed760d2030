/-
  What a message owns; slices.Clone of ops, of results, of rows; bags.like: a message in memory of its own.
  What the bytes of ops, results and changes are, in plain words: the common answer of the program's and the reference's texts. No program in sight.
  The marks that the book writes, kind by kind.
  The book's lists of kind Row: each is written over with its marks.
  The book's lists of kind Row: each grows by forty marks.
  The same for the book: a region that draws its order, one operation at a time.
-/
import Derived.Test.YtcohodkpppmaoaaGreatDoorMR3
import Derived.Test.YtcohodkpppmaoaaGreatDoorMR5
import Derived.WalkSpells
import Derived.BigRegion
set_option linter.unusedSimpArgs false
set_option linter.unusedVariables false
namespace Go.Proofs.YtcohodkpppmaoaaGreatDoor.Q
open Go.RowKit Go.Proofs.YtcohodkpppmaoaaGreatDoorW.PrintWords Go.Proofs.YtcohodkpppmaoaaGreatDoorW.PrintLast Go.Proofs.YtcohodkpppmaoaaGreatDoorW.PrintMore
attribute [local go_sem] max2_int min2_int max_two min_two max_three min_three max_four min_four   -- for this text's walks alone
set_option linter.unusedVariables false
set_option linter.unusedSimpArgs false

def concordatlaw01_markRow.f (a0 : Int) : Option (ByteArray × Int) := (concordatlaw01_word.f a0).bind fun t274 => (some (t274, 0))
set_option maxHeartbeats 8000000 in
set_option maxRecDepth 100000 in
theorem concordatlaw01_markRow.calls (a0 : Int) (r1 : ByteArray) (r2 : Int) (w : World) (h : concordatlaw01_markRow.f a0 = some (r1, r2)) (hT0_ : TabOk w) :
    Calls Tryz.prog 168 #[.int .i64 a0] w fun e w' => e = .returned (.agg #[.string r1, .int .u32 r2]) ∧ Below w.heap.size w w' := by
  have HTab_ := Aside0.mk hT0_
  clear hT0_
  have hu148 := Tryz.underlying148
  have HB := Aside0.mk (Below.refl w.heap.size w)
  have H : ((concordatlaw01_word.f a0).bind fun t274 => (some (t274, 0))) = some (r1, r2) := h
  clear h
  replace H := Option.bind_eq_some_iff.mp H
  obtain ⟨t274, A20, H⟩ := H
  replace H : (some (t274, 0)) = some (r1, r2) := H
  have A2 := Aside0.mk A20
  clear A20
  simp only [Option.some.injEq, Prod.mk.injEq] at H
  obtain ⟨rfl, rfl⟩ := H
  go_enter Tryz.func168, Tryz.ntmps168
  go_wp2_with (first | ((with_reducible refine gate_dst (N := 2) rfl ?_); refine box_event ?hg (N := 2) ?hd (cs := #[.string (⟨#[]⟩ : ByteArray), .int .u32 0]) (t := 148) ?hr ?_; (case hd => rfl); (case hg => rfl); (case hr => first | (go_simp; done) | (go_simp; rfl)); intro gb273 hg w3 hbox hb; have n0_ := Aside0.mk (below_step (by repeat (first | (with_reducible first | exact HB.out | apply below_alloc | apply pw_below_drewN | apply below_drew1) | exact HB.out)) hb); have n1_ := Aside0.mk (hbox); have n2_ := Aside0.mk ((by rw [hg]; exact (below_size (by repeat (first | (with_reducible first | exact HB.out | apply below_alloc | apply pw_below_drewN | apply below_drew1) | exact HB.out))) : w.heap.size ≤ gb273)); have n3_ := Aside0.mk ((by rw [hg]; exact (below_size (by repeat (first | (with_reducible first | exact HB.out | apply below_alloc | apply pw_below_drewN | apply below_drew1) | exact HB.out))) : w.heap.size ≤ gb273)); clear HB; have HB := n0_; have BK273 := n1_; have GW273 := n2_; have GE273 := n3_; clear n0_ n1_ n2_ n3_; clear hb hbox hg) | ((with_reducible refine gate_callee (f := 207) rfl ?_); refine goesL_ (some 4) rfl rfl Tryz.func207 (by kernel_rfl) rfl #[.int .i64 a0] rfl (by (try simp only [List.map_toArray, List.map_cons, List.map_nil]); first | done | rfl | (simp only [List.length_drop, List.length_take]; rfl)) ?_; (with_reducible refine (concordatlaw01_word.calls a0 t274 _ A2.out ?tabw_).mono ?_); (case tabw_ => exact TabOk.below HTab_.out (by repeat (first | (with_reducible first | exact HB.out | apply below_alloc | apply pw_below_drewN | apply below_drew1) | exact HB.out))); rintro e w4 ⟨rfl, hb⟩; refine ⟨_, rfl, ?_⟩; have n0_ := Aside0.mk (blk_below (g := gb273) (o := .cells #[.string (⟨#[]⟩ : ByteArray), .int .u32 0] 148 (0, 0)) (by (with_reducible repeat (first | refine blk_drewN ?_ _ | refine blk_drew ?_ | refine blk_alloc ?_ _)); exact BK273.out) hb); have n1_ := Aside0.mk (below_step (by repeat (first | (with_reducible first | exact HB.out | apply below_alloc | apply pw_below_drewN | apply below_drew1 | refine below_set ?_ GE273.out) | exact HB.out)) hb); clear BK273; clear HB; have BK273 := n0_; have HB := n1_; clear n0_ n1_; (try clear hb); (try clear hb2); (try clear hk); (try clear hi); have hcz5_0 : w4.cell? ⟨gb273, 0, none⟩ = some (.string (⟨#[]⟩ : ByteArray)) := (blk_cell BK273.out 0).trans rfl; have hcz5_1 : w4.cell? ⟨gb273, 1, none⟩ = some (.int .u32 0) := (blk_cell BK273.out 1).trans rfl; have hfz5_0 := blk_frozen BK273.out 0; have hfz5_1 := blk_frozen BK273.out 1))
  refine bodyPost_ret (results_cell_row rfl _ _ gb273 148 #[.string t274, .int .u32 0] (0, 0) _ rfl (by (with_reducible repeat (first | refine blk_drewN ?_ _ | refine blk_drew ?_ | refine blk_alloc ?_ _)); refine blk_put (cs := #[.string t274, .int .u32 0]) ?_ 1 _ rfl; (with_reducible repeat (first | refine blk_drewN ?_ _ | refine blk_drew ?_ | refine blk_alloc ?_ _)); refine blk_put (cs := #[.string (⟨#[]⟩ : ByteArray), .int .u32 0]) ?_ 0 _ rfl; (with_reducible repeat (first | refine blk_drewN ?_ _ | refine blk_drew ?_ | refine blk_alloc ?_ _)); exact BK273.out) Tryz.underlying148 rfl (by kernel_rfl)) rfl ?_
  exact ⟨by first | rfl | (simp [errW_none, errW_some] <;> rfl) | (simp [*, errW_none, errW_some] <;> rfl), by repeat (first | (with_reducible first | exact HB.out | apply below_alloc | apply pw_below_drewN | apply below_drew1 | refine below_set ?_ GE273.out) | exact HB.out)⟩

def concordatlaw01_markOp.f (a0 : Int) : Option (Int × ByteArray × ByteArray × Int) := (concordatlaw01_word.f a0).bind fun t276 => (some (0, t276, (⟨#[]⟩ : ByteArray), 0))
set_option maxHeartbeats 8000000 in
set_option maxRecDepth 100000 in
theorem concordatlaw01_markOp.calls (a0 : Int) (r1 : Int) (r2 : ByteArray) (r3 : ByteArray) (r4 : Int) (w : World) (h : concordatlaw01_markOp.f a0 = some (r1, r2, r3, r4)) (hT0_ : TabOk w) :
    Calls Tryz.prog 169 #[.int .i64 a0] w fun e w' => e = .returned (.agg #[.int .u8 r1, .string r2, .string r3, .int .u32 r4]) ∧ Below w.heap.size w w' := by
  have HTab_ := Aside0.mk hT0_
  clear hT0_
  have hu82 := Tryz.underlying82
  have HB := Aside0.mk (Below.refl w.heap.size w)
  have H : ((concordatlaw01_word.f a0).bind fun t276 => (some (0, t276, (⟨#[]⟩ : ByteArray), 0))) = some (r1, r2, r3, r4) := h
  clear h
  replace H := Option.bind_eq_some_iff.mp H
  obtain ⟨t276, A20, H⟩ := H
  replace H : (some (0, t276, (⟨#[]⟩ : ByteArray), 0)) = some (r1, r2, r3, r4) := H
  have A2 := Aside0.mk A20
  clear A20
  simp only [Option.some.injEq, Prod.mk.injEq] at H
  obtain ⟨rfl, rfl, rfl, rfl⟩ := H
  go_enter Tryz.func169, Tryz.ntmps169
  go_wp2_with (first | ((with_reducible refine gate_dst (N := 2) rfl ?_); refine box_event ?hg (N := 2) ?hd (cs := #[.int .u8 0, .string (⟨#[]⟩ : ByteArray), .string (⟨#[]⟩ : ByteArray), .int .u32 0]) (t := 82) ?hr ?_; (case hd => rfl); (case hg => rfl); (case hr => first | (go_simp; done) | (go_simp; rfl)); intro gb275 hg w3 hbox hb; have n0_ := Aside0.mk (below_step (by repeat (first | (with_reducible first | exact HB.out | apply below_alloc | apply pw_below_drewN | apply below_drew1) | exact HB.out)) hb); have n1_ := Aside0.mk (hbox); have n2_ := Aside0.mk ((by rw [hg]; exact (below_size (by repeat (first | (with_reducible first | exact HB.out | apply below_alloc | apply pw_below_drewN | apply below_drew1) | exact HB.out))) : w.heap.size ≤ gb275)); have n3_ := Aside0.mk ((by rw [hg]; exact (below_size (by repeat (first | (with_reducible first | exact HB.out | apply below_alloc | apply pw_below_drewN | apply below_drew1) | exact HB.out))) : w.heap.size ≤ gb275)); clear HB; have HB := n0_; have BK275 := n1_; have GW275 := n2_; have GE275 := n3_; clear n0_ n1_ n2_ n3_; clear hb hbox hg) | ((with_reducible refine gate_callee (f := 207) rfl ?_); refine goesL_ (some 4) rfl rfl Tryz.func207 (by kernel_rfl) rfl #[.int .i64 a0] rfl (by (try simp only [List.map_toArray, List.map_cons, List.map_nil]); first | done | rfl | (simp only [List.length_drop, List.length_take]; rfl)) ?_; (with_reducible refine (concordatlaw01_word.calls a0 t276 _ A2.out ?tabw_).mono ?_); (case tabw_ => exact TabOk.below HTab_.out (by repeat (first | (with_reducible first | exact HB.out | apply below_alloc | apply pw_below_drewN | apply below_drew1) | exact HB.out))); rintro e w4 ⟨rfl, hb⟩; refine ⟨_, rfl, ?_⟩; have n0_ := Aside0.mk (blk_below (g := gb275) (o := .cells #[.int .u8 0, .string (⟨#[]⟩ : ByteArray), .string (⟨#[]⟩ : ByteArray), .int .u32 0] 82 (0, 0)) (by (with_reducible repeat (first | refine blk_drewN ?_ _ | refine blk_drew ?_ | refine blk_alloc ?_ _)); exact BK275.out) hb); have n1_ := Aside0.mk (below_step (by repeat (first | (with_reducible first | exact HB.out | apply below_alloc | apply pw_below_drewN | apply below_drew1 | refine below_set ?_ GE275.out) | exact HB.out)) hb); clear BK275; clear HB; have BK275 := n0_; have HB := n1_; clear n0_ n1_; (try clear hb); (try clear hb2); (try clear hk); (try clear hi); have hcz5_0 : w4.cell? ⟨gb275, 0, none⟩ = some (.int .u8 0) := (blk_cell BK275.out 0).trans rfl; have hcz5_1 : w4.cell? ⟨gb275, 1, none⟩ = some (.string (⟨#[]⟩ : ByteArray)) := (blk_cell BK275.out 1).trans rfl; have hcz5_2 : w4.cell? ⟨gb275, 2, none⟩ = some (.string (⟨#[]⟩ : ByteArray)) := (blk_cell BK275.out 2).trans rfl; have hcz5_3 : w4.cell? ⟨gb275, 3, none⟩ = some (.int .u32 0) := (blk_cell BK275.out 3).trans rfl; have hfz5_0 := blk_frozen BK275.out 0; have hfz5_1 := blk_frozen BK275.out 1; have hfz5_2 := blk_frozen BK275.out 2; have hfz5_3 := blk_frozen BK275.out 3))
  refine bodyPost_ret (results_cell_row rfl _ _ gb275 82 #[.int .u8 0, .string t276, .string (⟨#[]⟩ : ByteArray), .int .u32 0] (0, 0) _ rfl (by (with_reducible repeat (first | refine blk_drewN ?_ _ | refine blk_drew ?_ | refine blk_alloc ?_ _)); refine blk_put (cs := #[.int .u8 0, .string t276, .string (⟨#[]⟩ : ByteArray), .int .u32 0]) ?_ 3 _ rfl; (with_reducible repeat (first | refine blk_drewN ?_ _ | refine blk_drew ?_ | refine blk_alloc ?_ _)); refine blk_put (cs := #[.int .u8 0, .string t276, .string (⟨#[]⟩ : ByteArray), .int .u32 0]) ?_ 2 _ rfl; (with_reducible repeat (first | refine blk_drewN ?_ _ | refine blk_drew ?_ | refine blk_alloc ?_ _)); refine blk_put (cs := #[.int .u8 0, .string (⟨#[]⟩ : ByteArray), .string (⟨#[]⟩ : ByteArray), .int .u32 0]) ?_ 1 _ rfl; (with_reducible repeat (first | refine blk_drewN ?_ _ | refine blk_drew ?_ | refine blk_alloc ?_ _)); refine blk_put (cs := #[.int .u8 0, .string (⟨#[]⟩ : ByteArray), .string (⟨#[]⟩ : ByteArray), .int .u32 0]) ?_ 0 _ rfl; (with_reducible repeat (first | refine blk_drewN ?_ _ | refine blk_drew ?_ | refine blk_alloc ?_ _)); exact BK275.out) Tryz.underlying82 rfl (by kernel_rfl)) rfl ?_
  exact ⟨by first | rfl | (simp [errW_none, errW_some] <;> rfl) | (simp [*, errW_none, errW_some] <;> rfl), by repeat (first | (with_reducible first | exact HB.out | apply below_alloc | apply pw_below_drewN | apply below_drew1 | refine below_set ?_ GE275.out) | exact HB.out)⟩

def concordatlaw01_isRow.f (a0_0 : ByteArray) (a0_1 : Int) (a1 : Int) : Option (Bool) := (concordatlaw01_word.f a1).bind fun t281 => (some (a0_0.toList == t281.toList))
set_option maxHeartbeats 8000000 in
set_option maxRecDepth 100000 in
theorem concordatlaw01_isRow.calls (a0_0 : ByteArray) (a0_1 : Int) (a1 : Int) (r : Bool) (w : World) (h : concordatlaw01_isRow.f a0_0 a0_1 a1 = some r) (hT0_ : TabOk w) :
    Calls Tryz.prog 180 #[.agg #[.string a0_0, .int .u32 a0_1], .int .i64 a1] w fun e w' => e = .returned (.bool r) ∧ Below w.heap.size w w' := by
  have HTab_ := Aside0.mk hT0_
  clear hT0_
  have hu148 := Tryz.underlying148
  have HB := Aside0.mk (Below.refl w.heap.size w)
  have H : ((concordatlaw01_word.f a1).bind fun t281 => (some (a0_0.toList == t281.toList))) = some r := h
  clear h
  replace H := Option.bind_eq_some_iff.mp H
  obtain ⟨t281, A30, H⟩ := H
  replace H : (some (a0_0.toList == t281.toList)) = some r := H
  have A3 := Aside0.mk A30
  clear A30
  obtain rfl := Option.some.inj H
  go_enter Tryz.func180, Tryz.ntmps180
  try go_wp2_with (first | ((with_reducible refine gate_dst (N := 2) rfl ?_); refine box_event ?hg (N := 2) ?hd (cs := #[.string a0_0, .int .u32 a0_1]) (t := 148) ?hr ?_; (case hd => rfl); (case hg => rfl); (case hr => first | (go_simp; done) | (go_simp; rfl)); intro gb280 hg w4 hbox hb; have n0_ := Aside0.mk (below_step (by repeat (first | (with_reducible first | exact HB.out | apply below_alloc | apply pw_below_drewN | apply below_drew1) | exact HB.out)) hb); have n1_ := Aside0.mk (hbox); have n2_ := Aside0.mk ((by rw [hg]; exact (below_size (by repeat (first | (with_reducible first | exact HB.out | apply below_alloc | apply pw_below_drewN | apply below_drew1) | exact HB.out))) : w.heap.size ≤ gb280)); have n3_ := Aside0.mk ((by rw [hg]; exact (below_size (by repeat (first | (with_reducible first | exact HB.out | apply below_alloc | apply pw_below_drewN | apply below_drew1) | exact HB.out))) : w.heap.size ≤ gb280)); clear HB; have HB := n0_; have BK280 := n1_; have GW280 := n2_; have GE280 := n3_; clear n0_ n1_ n2_ n3_; clear hb hbox hg))
  have n0_ := Aside0.mk (blk_drew BK280.out)
  have n1_ := Aside0.mk (below_drew1 HB.out)
  clear BK280
  clear HB
  have BK280 := n0_
  have HB := n1_
  clear n0_ n1_
  refine start_ (n := 6) (S := fun w' => w'.cell? ⟨gb280, 0, none⟩ = some (.string a0_0) ∧ w'.cell? ⟨gb280, 1, none⟩ = some (.int .u32 a0_1)) (ds := []) #[false, false, false, false, false, false] (by kernel_rfl) rfl rfl ⟨(blk_cell BK280.out 0).trans rfl, (blk_cell BK280.out 1).trans rfl⟩ (fun hHeld => ?_)
  generalize w4.drew = w5 at BK280 HB hHeld ⊢
  refine pure_ (i := 0) (N := some 5) (v := ?_) (a' := ?_) #[true, false, false, false, false, false] rfl rfl (by kernel_rfl) (fun _ _ _ h => h) (Or.inl ⟨by rfl, ?_⟩) ?_ ?_
  rotate_left
  · intro w'
    go_simp
    with_reducible rfl
  rotate_left
  · simp only [Act.put, List.setIfInBounds_toArray, List.set_cons_zero, List.set_cons_succ, i64_w, i32_w]
    rfl
  refine pure_ (i := 2) (N := some 7) (v := ?_) (a' := ?_) #[true, false, true, false, false, false] rfl rfl (by kernel_rfl) (fun _ _ _ h => h) (Or.inl ⟨by rfl, ?_⟩) ?_ ?_
  rotate_left
  · intro w'
    go_simp
    with_reducible rfl
  rotate_left
  · simp only [Act.put, List.setIfInBounds_toArray, List.set_cons_zero, List.set_cons_succ, i64_w, i32_w]
    rfl
  refine take_ (i := 1) (N := some 6) (v := ?_) (a' := ?_) #[true, true, true, false, false, false] rfl rfl (by kernel_rfl) (fun _ _ _ h => h) (Or.inl ⟨by rfl, ?_⟩) hHeld ?_ ?_
  rotate_left
  · rintro w' ⟨s0, s1⟩
    go_simp
    with_reducible rfl
  rotate_left
  · simp only [Act.put, List.setIfInBounds_toArray, List.set_cons_zero, List.set_cons_succ, i64_w, i32_w]
    rfl
  refine one_ (i := 3) (N := some 8) #[true, true, true, true, false, false] rfl rfl (by kernel_rfl) (by decide) (fun K hK => ?_)
  refine goes_ Tryz.func207 (by kernel_rfl) rfl #[.int .i64 a1] (by rfl) rfl rfl (by (try simp only [List.map_toArray, List.map_cons, List.map_nil]); first | done | rfl | (simp only [List.length_drop, List.length_take]; rfl)) ?_
  with_reducible refine (concordatlaw01_word.calls a1 t281 _ A3.out ?tabw_).mono ?_
  case tabw_ => exact TabOk.below HTab_.out (by repeat (first | (with_reducible first | exact HB.out | apply below_alloc | apply pw_below_drewN | apply below_drew1 | refine below_set ?_ GE280.out) | exact HB.out))
  rintro e w6 ⟨rfl, hb⟩
  refine ⟨_, rfl, ?_⟩
  have n0_ := Aside0.mk (blk_below (g := gb280) (o := .cells #[.string a0_0, .int .u32 a0_1] 148 (0, 0)) (by (with_reducible repeat (first | refine blk_drewN ?_ _ | refine blk_drew ?_ | refine blk_alloc ?_ _)); exact BK280.out) hb)
  have n1_ := Aside0.mk (below_step (by repeat (first | (with_reducible first | exact HB.out | apply below_alloc | apply pw_below_drewN | apply below_drew1 | refine below_set ?_ GE280.out) | exact HB.out)) hb)
  clear BK280
  clear HB
  have BK280 := n0_
  have HB := n1_
  clear n0_ n1_
  (try clear hb)
  (try clear hb2)
  (try clear hk)
  (try clear hi)
  refine hK.out _ _ ⟨(blk_cell BK280.out 0).trans rfl, (blk_cell BK280.out 1).trans rfl⟩ (fun hHeld => ?_)
  clear hK K
  refine norm_ (a' := ?_) ?_ ?_
  rotate_left
  · show Act.put _ (some 8) _ = _
    simp only [Act.put, List.setIfInBounds_toArray, List.set_cons_zero, List.set_cons_succ, i64_w, i32_w]
    rfl
  refine pure_ (i := 4) (N := some 9) (v := ?_) (a' := ?_) #[true, true, true, true, true, false] rfl rfl (by kernel_rfl) (fun _ _ _ h => h) (Or.inl ⟨by rfl, ?_⟩) ?_ ?_
  rotate_left
  · intro w'
    go_simp
    with_reducible rfl
  rotate_left
  · simp only [Act.put, List.setIfInBounds_toArray, List.set_cons_zero, List.set_cons_succ, i64_w, i32_w]
    rfl
  refine pure_ (i := 5) (N := some 4) (v := ?_) (a' := ?_) #[true, true, true, true, true, true] rfl rfl (by kernel_rfl) (fun _ _ _ h => h) (Or.inl ⟨by rfl, ?_⟩) ?_ ?_
  rotate_left
  · intro w'
    go_simp
    with_reducible rfl
  rotate_left
  · simp only [Act.put, List.setIfInBounds_toArray, List.set_cons_zero, List.set_cons_succ, i64_w, i32_w]
    rfl
  refine done_ (by kernel_rfl) ?_
  try go_wp2
  go_ret
  exact ⟨by first | rfl | (simp [errW_none, errW_some] <;> rfl) | (simp [*, errW_none, errW_some] <;> rfl), by repeat (first | (with_reducible first | exact HB.out | apply below_alloc | apply pw_below_drewN | apply below_drew1 | refine below_set ?_ GE280.out) | exact HB.out)⟩

def concordatlaw01_isOp.f (a0_0 : Int) (a0_1 : ByteArray) (a0_2 : ByteArray) (a0_3 : Int) (a1 : Int) : Option (Bool) := (concordatlaw01_word.f a1).bind fun t283 => (some (a0_1.toList == t283.toList))
set_option maxHeartbeats 8000000 in
set_option maxRecDepth 100000 in
theorem concordatlaw01_isOp.calls (a0_0 : Int) (a0_1 : ByteArray) (a0_2 : ByteArray) (a0_3 : Int) (a1 : Int) (r : Bool) (w : World) (h : concordatlaw01_isOp.f a0_0 a0_1 a0_2 a0_3 a1 = some r) (hT0_ : TabOk w) :
    Calls Tryz.prog 181 #[.agg #[.int .u8 a0_0, .string a0_1, .string a0_2, .int .u32 a0_3], .int .i64 a1] w fun e w' => e = .returned (.bool r) ∧ Below w.heap.size w w' := by
  have HTab_ := Aside0.mk hT0_
  clear hT0_
  have hu82 := Tryz.underlying82
  have HB := Aside0.mk (Below.refl w.heap.size w)
  have H : ((concordatlaw01_word.f a1).bind fun t283 => (some (a0_1.toList == t283.toList))) = some r := h
  clear h
  replace H := Option.bind_eq_some_iff.mp H
  obtain ⟨t283, A30, H⟩ := H
  replace H : (some (a0_1.toList == t283.toList)) = some r := H
  have A3 := Aside0.mk A30
  clear A30
  obtain rfl := Option.some.inj H
  go_enter Tryz.func181, Tryz.ntmps181
  try go_wp2_with (first | ((with_reducible refine gate_dst (N := 2) rfl ?_); refine box_event ?hg (N := 2) ?hd (cs := #[.int .u8 a0_0, .string a0_1, .string a0_2, .int .u32 a0_3]) (t := 82) ?hr ?_; (case hd => rfl); (case hg => rfl); (case hr => first | (go_simp; done) | (go_simp; rfl)); intro gb282 hg w4 hbox hb; have n0_ := Aside0.mk (below_step (by repeat (first | (with_reducible first | exact HB.out | apply below_alloc | apply pw_below_drewN | apply below_drew1) | exact HB.out)) hb); have n1_ := Aside0.mk (hbox); have n2_ := Aside0.mk ((by rw [hg]; exact (below_size (by repeat (first | (with_reducible first | exact HB.out | apply below_alloc | apply pw_below_drewN | apply below_drew1) | exact HB.out))) : w.heap.size ≤ gb282)); have n3_ := Aside0.mk ((by rw [hg]; exact (below_size (by repeat (first | (with_reducible first | exact HB.out | apply below_alloc | apply pw_below_drewN | apply below_drew1) | exact HB.out))) : w.heap.size ≤ gb282)); clear HB; have HB := n0_; have BK282 := n1_; have GW282 := n2_; have GE282 := n3_; clear n0_ n1_ n2_ n3_; clear hb hbox hg))
  have n0_ := Aside0.mk (blk_drew BK282.out)
  have n1_ := Aside0.mk (below_drew1 HB.out)
  clear BK282
  clear HB
  have BK282 := n0_
  have HB := n1_
  clear n0_ n1_
  refine start_ (n := 6) (S := fun w' => w'.cell? ⟨gb282, 0, none⟩ = some (.int .u8 a0_0) ∧ w'.cell? ⟨gb282, 1, none⟩ = some (.string a0_1) ∧ w'.cell? ⟨gb282, 2, none⟩ = some (.string a0_2) ∧ w'.cell? ⟨gb282, 3, none⟩ = some (.int .u32 a0_3)) (ds := []) #[false, false, false, false, false, false] (by kernel_rfl) rfl rfl ⟨(blk_cell BK282.out 0).trans rfl, (blk_cell BK282.out 1).trans rfl, (blk_cell BK282.out 2).trans rfl, (blk_cell BK282.out 3).trans rfl⟩ (fun hHeld => ?_)
  generalize w4.drew = w5 at BK282 HB hHeld ⊢
  refine pure_ (i := 0) (N := some 5) (v := ?_) (a' := ?_) #[true, false, false, false, false, false] rfl rfl (by kernel_rfl) (fun _ _ _ h => h) (Or.inl ⟨by rfl, ?_⟩) ?_ ?_
  rotate_left
  · intro w'
    go_simp
    with_reducible rfl
  rotate_left
  · simp only [Act.put, List.setIfInBounds_toArray, List.set_cons_zero, List.set_cons_succ, i64_w, i32_w]
    rfl
  refine pure_ (i := 2) (N := some 7) (v := ?_) (a' := ?_) #[true, false, true, false, false, false] rfl rfl (by kernel_rfl) (fun _ _ _ h => h) (Or.inl ⟨by rfl, ?_⟩) ?_ ?_
  rotate_left
  · intro w'
    go_simp
    with_reducible rfl
  rotate_left
  · simp only [Act.put, List.setIfInBounds_toArray, List.set_cons_zero, List.set_cons_succ, i64_w, i32_w]
    rfl
  refine take_ (i := 1) (N := some 6) (v := ?_) (a' := ?_) #[true, true, true, false, false, false] rfl rfl (by kernel_rfl) (fun _ _ _ h => h) (Or.inl ⟨by rfl, ?_⟩) hHeld ?_ ?_
  rotate_left
  · rintro w' ⟨s0, s1, s2, s3⟩
    go_simp
    with_reducible rfl
  rotate_left
  · simp only [Act.put, List.setIfInBounds_toArray, List.set_cons_zero, List.set_cons_succ, i64_w, i32_w]
    rfl
  refine one_ (i := 3) (N := some 8) #[true, true, true, true, false, false] rfl rfl (by kernel_rfl) (by decide) (fun K hK => ?_)
  refine goes_ Tryz.func207 (by kernel_rfl) rfl #[.int .i64 a1] (by rfl) rfl rfl (by (try simp only [List.map_toArray, List.map_cons, List.map_nil]); first | done | rfl | (simp only [List.length_drop, List.length_take]; rfl)) ?_
  with_reducible refine (concordatlaw01_word.calls a1 t283 _ A3.out ?tabw_).mono ?_
  case tabw_ => exact TabOk.below HTab_.out (by repeat (first | (with_reducible first | exact HB.out | apply below_alloc | apply pw_below_drewN | apply below_drew1 | refine below_set ?_ GE282.out) | exact HB.out))
  rintro e w6 ⟨rfl, hb⟩
  refine ⟨_, rfl, ?_⟩
  have n0_ := Aside0.mk (blk_below (g := gb282) (o := .cells #[.int .u8 a0_0, .string a0_1, .string a0_2, .int .u32 a0_3] 82 (0, 0)) (by (with_reducible repeat (first | refine blk_drewN ?_ _ | refine blk_drew ?_ | refine blk_alloc ?_ _)); exact BK282.out) hb)
  have n1_ := Aside0.mk (below_step (by repeat (first | (with_reducible first | exact HB.out | apply below_alloc | apply pw_below_drewN | apply below_drew1 | refine below_set ?_ GE282.out) | exact HB.out)) hb)
  clear BK282
  clear HB
  have BK282 := n0_
  have HB := n1_
  clear n0_ n1_
  (try clear hb)
  (try clear hb2)
  (try clear hk)
  (try clear hi)
  refine hK.out _ _ ⟨(blk_cell BK282.out 0).trans rfl, (blk_cell BK282.out 1).trans rfl, (blk_cell BK282.out 2).trans rfl, (blk_cell BK282.out 3).trans rfl⟩ (fun hHeld => ?_)
  clear hK K
  refine norm_ (a' := ?_) ?_ ?_
  rotate_left
  · show Act.put _ (some 8) _ = _
    simp only [Act.put, List.setIfInBounds_toArray, List.set_cons_zero, List.set_cons_succ, i64_w, i32_w]
    rfl
  refine pure_ (i := 4) (N := some 9) (v := ?_) (a' := ?_) #[true, true, true, true, true, false] rfl rfl (by kernel_rfl) (fun _ _ _ h => h) (Or.inl ⟨by rfl, ?_⟩) ?_ ?_
  rotate_left
  · intro w'
    go_simp
    with_reducible rfl
  rotate_left
  · simp only [Act.put, List.setIfInBounds_toArray, List.set_cons_zero, List.set_cons_succ, i64_w, i32_w]
    rfl
  refine pure_ (i := 5) (N := some 4) (v := ?_) (a' := ?_) #[true, true, true, true, true, true] rfl rfl (by kernel_rfl) (fun _ _ _ h => h) (Or.inl ⟨by rfl, ?_⟩) ?_ ?_
  rotate_left
  · intro w'
    go_simp
    with_reducible rfl
  rotate_left
  · simp only [Act.put, List.setIfInBounds_toArray, List.set_cons_zero, List.set_cons_succ, i64_w, i32_w]
    rfl
  refine done_ (by kernel_rfl) ?_
  try go_wp2
  go_ret
  exact ⟨by first | rfl | (simp [errW_none, errW_some] <;> rfl) | (simp [*, errW_none, errW_some] <;> rfl), by repeat (first | (with_reducible first | exact HB.out | apply below_alloc | apply pw_below_drewN | apply below_drew1 | refine below_set ?_ GE282.out) | exact HB.out)⟩

def concordatlaw01_isResult.f (l0_0 : List (S148)) (a1 : Int) : Option (Bool) := if (l0_0.length : Int) = 1 then (if 0 < (l0_0.length : Int) then ((concordatlaw01_word.f a1).bind fun t288 => (some (((rd_T148 l0_0 0).f0).toList == t288.toList))) else (none)) else (some false)
def concordatlaw01_isResult.T1 : Bool × List (List Nat × List Nat) := (true, [([], []), ([0], [0]), ([1], [1]), ([2], [2]), ([3], [3]), ([4], [4]), ([5, 4], [4, 5]), ([6, 4], [4, 6]), ([7, 4], [4, 7]), ([8, 4], [4, 8]), ([4], [4]), ([10, 4, 4], [4, 10]), ([9, 11, 4], [4, 9, 11]), ([4, 12], [4, 12]), ([13, 11, 0, 1, 2, 3, 4, 5, 6, 7, 8, 9, 10, 11, 12, 13], [13])])
def concordatlaw01_isResult.B1 : List Nat := [0, 1, 3, 7, 15, 31, 63, 127, 255, 511, 31, 1055, 4095, 8191, 16383]
theorem concordatlaw01_isResult.tab1 : rtab .any (opsOf Tryz.f184 1) = concordatlaw01_isResult.T1 := by kernel_rfl
theorem concordatlaw01_isResult.bits1 : waitsOk concordatlaw01_isResult.T1.2 concordatlaw01_isResult.B1 = true := by kernel_rfl
set_option maxHeartbeats 8000000 in
set_option maxRecDepth 100000 in
theorem concordatlaw01_isResult.calls (A0_0 : Option Addr) (c0_0 : Nat) (l0_0 : List (S148)) (a1 : Int) (r : Bool) (w : World) (hr0_0 : Kd.C k148 w A0_0 l0_0.length l0_0) (hc0_0 : l0_0.length ≤ c0_0) (h : concordatlaw01_isResult.f l0_0 a1 = some r) (hT0_ : TabOk w) :
    Calls Tryz.prog 184 #[.agg #[.slice A0_0 l0_0.length c0_0], .int .i64 a1] w fun e w' => e = .returned (.bool r) ∧ Below w.heap.size w w' := by
  have HTab_ := Aside0.mk hT0_
  clear hT0_
  have hu145 := Tryz.underlying145
  have HR0_0 := Aside0.mk hr0_0
  have HC0_0 := Aside0.mk hc0_0
  clear hr0_0 hc0_0
  have HB := Aside0.mk (Below.refl w.heap.size w)
  have H : (if (l0_0.length : Int) = 1 then (if 0 < (l0_0.length : Int) then ((concordatlaw01_word.f a1).bind fun t288 => (some (((rd_T148 l0_0 0).f0).toList == t288.toList))) else (none)) else (some false)) = some r := h
  clear h
  by_cases c3 : (l0_0.length : Int) = 1
  · rw [if_pos c3] at H
    have c3b0 : ((l0_0.length : Int) == 1) = true := beq_iff_eq.mpr c3
    have c3b1 : ((l0_0.length : Int) != 1) = false := bne_eq_false_iff_eq.mpr c3
    clear c3
    by_cases c4 : 0 < (l0_0.length : Int)
    · rw [if_pos c4] at H
      have c4b0 : decide (0 < (l0_0.length : Int)) = true := decide_eq_true c4
      have c4b1 : decide (0 < l0_0.length) = true := decide_eq_true (by omega)
      clear c4
      replace H := Option.bind_eq_some_iff.mp H
      obtain ⟨t288, A50, H⟩ := H
      replace H : (some (((rd_T148 l0_0 0).f0).toList == t288.toList)) = some r := H
      have A5 := Aside0.mk A50
      clear A50
      obtain rfl := Option.some.inj H
      go_enter Tryz.func184, Tryz.ntmps184
      try go_wp2_with (first | ((with_reducible refine gate_dst (N := 2) rfl ?_); refine box_event ?hg (N := 2) ?hd (cs := #[.slice A0_0 l0_0.length c0_0]) (t := 145) ?hr ?_; (case hd => rfl); (case hg => rfl); (case hr => first | (go_simp; done) | (go_simp; rfl)); intro gb286 hg w6 hbox hb; have n0_ := Aside0.mk (below_step (by repeat (first | (with_reducible first | exact HB.out | apply below_alloc | apply pw_below_drewN | apply below_drew1) | exact HB.out)) hb); have n1_ := Aside0.mk (hbox); have n2_ := Aside0.mk ((by rw [hg]; exact (below_size (by repeat (first | (with_reducible first | exact HB.out | apply below_alloc | apply pw_below_drewN | apply below_drew1) | exact HB.out))) : w.heap.size ≤ gb286)); have n3_ := Aside0.mk ((by rw [hg]; exact (below_size (by repeat (first | (with_reducible first | exact HB.out | apply below_alloc | apply pw_below_drewN | apply below_drew1) | exact HB.out))) : w.heap.size ≤ gb286)); clear HB; have HB := n0_; have BK286 := n1_; have GW286 := n2_; have GE286 := n3_; clear n0_ n1_ n2_ n3_; clear hb hbox hg))
      have n0_ := Aside0.mk (blk_drew BK286.out)
      have n1_ := Aside0.mk (below_drew1 HB.out)
      clear BK286
      clear HB
      have BK286 := n0_
      have HB := n1_
      clear n0_ n1_
      have p287 : 0 ≤ (0 : Int) := (by omega)
      have q287 : 0 < (l0_0.length : Int) := of_decide_eq_true (by first | (with_reducible assumption) | assumption)
      obtain ⟨ad287, e287, hx287_0, hx287_1⟩ := at_T148 HR0_0.out 0 p287 q287
      have hw287_1 := hx287_1
      (try rw [show ((0 : Int)).toNat = 0 from rfl] at hw287_1)
      (try rw [show 0 * 2 = 0 from rfl] at hw287_1)
      (try rw [Addr.add_zero'] at hw287_1)
      have hw287_0 := hx287_0
      (try rw [show ((0 : Int)).toNat = 0 from rfl] at hw287_0)
      (try rw [show 0 * 2 = 0 from rfl] at hw287_0)
      (try rw [Addr.add_zero'] at hw287_0)
      cases e287
      have qi287 : (0 < l0_0.length) = True := eq_true (by omega)
      (try rw [show ((0 : Int)).toNat = 0 from rfl] at hx287_0)
      (try rw [show 0 * 2 = 0 from rfl] at hx287_0)
      (try rw [Addr.add_zero'] at hx287_0)
      (try rw [show ((0 : Int)).toNat = 0 from rfl] at hx287_1)
      (try rw [show 0 * 2 = 0 from rfl] at hx287_1)
      (try rw [Addr.add_zero'] at hx287_1)
      replace hx287_0 := (HB.out.cell (World.block_lt_of_cell? w _ hx287_0)).trans hx287_0
      replace hx287_1 := (HB.out.cell (World.block_lt_of_cell? w _ hx287_1)).trans hx287_1
      replace p287 := eq_true p287
      replace q287 := eq_true q287
      refine start_ (n := 15) (S := fun w' => w'.cell? ⟨gb286, 0, none⟩ = some (.slice (some ad287) l0_0.length c0_0) ∧ w'.cell? ad287 = some (.string ((rd_T148 l0_0 0).f0)) ∧ w'.cell? ⟨ad287.block, ad287.off + 1, none⟩ = some (.int .u32 ((rd_T148 l0_0 0).f1))) (ds := []) #[false, false, false, false, false, false, false, false, false, false, false, false, false, false, false] (by kernel_rfl) rfl rfl ⟨(blk_cell BK286.out 0).trans rfl, ((HB.out.cell (World.block_lt_of_cell? w _ hw287_0)).trans hw287_0), ((HB.out.cell (World.block_lt_of_cell? w _ hw287_1)).trans hw287_1)⟩ (fun hHeld => ?_); refine with_tabW concordatlaw01_isResult.tab1 concordatlaw01_isResult.bits1 (fun HT_ HW_ => ?_)
      generalize w6.drew = w7 at BK286 HB hx287_0 hx287_1 hHeld ⊢
      refine pure_ (i := 0) (N := some 5) (v := ?_) (a' := ?_) #[true, false, false, false, false, false, false, false, false, false, false, false, false, false, false] rfl rfl (any_of HT_.out (by kernel_rfl)) (fun _ _ _ h => h) (Or.inl ⟨by rfl, ?_⟩) ?_ ?_
      rotate_left
      · intro w'
        go_simp
        with_reducible rfl
      rotate_left
      · simp only [Act.put, List.setIfInBounds_toArray, List.set_cons_zero, List.set_cons_succ, i64_w, i32_w]
        rfl
      refine take_ (i := 1) (N := some 6) (v := ?_) (a' := ?_) #[true, true, false, false, false, false, false, false, false, false, false, false, false, false, false] rfl rfl (take_ofW HT_.out HW_.out (by kernel_rfl)) (fun _ _ _ h => h) (Or.inl ⟨by rfl, ?_⟩) hHeld ?_ ?_
      rotate_left
      · rintro w' ⟨s0, s1, s2⟩
        go_simp
        with_reducible rfl
      rotate_left
      · simp only [Act.put, List.setIfInBounds_toArray, List.set_cons_zero, List.set_cons_succ, i64_w, i32_w]
        rfl
      refine pure_ (i := 2) (N := some 7) (v := ?_) (a' := ?_) #[true, true, true, false, false, false, false, false, false, false, false, false, false, false, false] rfl rfl (any_of HT_.out (by kernel_rfl)) (fun _ _ _ h => h) (Or.inl ⟨by rfl, ?_⟩) ?_ ?_
      rotate_left
      · intro w'
        go_simp
        with_reducible rfl
      rotate_left
      · simp only [Act.put, List.setIfInBounds_toArray, List.set_cons_zero, List.set_cons_succ, i64_w, i32_w]
        rfl
      refine pure_ (i := 3) (N := some 8) (v := ?_) (a' := ?_) #[true, true, true, true, false, false, false, false, false, false, false, false, false, false, false] rfl rfl (any_of HT_.out (by kernel_rfl)) (fun _ _ _ h => h) (Or.inl ⟨by rfl, ?_⟩) ?_ ?_
      rotate_left
      · intro w'
        go_simp
        with_reducible rfl
      rotate_left
      · simp only [Act.put, List.setIfInBounds_toArray, List.set_cons_zero, List.set_cons_succ, i64_w, i32_w]
        rfl
      refine pure_ (i := 4) (N := some 9) (v := ?_) (a' := ?_) #[true, true, true, true, true, false, false, false, false, false, false, false, false, false, false] rfl rfl (any_of HT_.out (by kernel_rfl)) (fun _ _ _ h => h) (Or.inl ⟨by rfl, ?_⟩) ?_ ?_
      rotate_left
      · intro w'
        go_simp
        with_reducible rfl
      rotate_left
      · simp only [Act.put, List.setIfInBounds_toArray, List.set_cons_zero, List.set_cons_succ, i64_w, i32_w]
        rfl
      refine pure_ (i := 5) (N := some 10) (v := ?_) (a' := ?_) #[true, true, true, true, true, true, false, false, false, false, false, false, false, false, false] rfl rfl (any_of HT_.out (by kernel_rfl)) (fun _ _ _ h => h) (Or.inl ⟨by rfl, ?_⟩) ?_ ?_
      rotate_left
      · intro w'
        go_simp
        with_reducible rfl
      rotate_left
      · simp only [Act.put, List.setIfInBounds_toArray, List.set_cons_zero, List.set_cons_succ, i64_w, i32_w]
        rfl
      refine pure_ (i := 10) (N := some 15) (v := ?_) (a' := ?_) #[true, true, true, true, true, true, false, false, false, false, true, false, false, false, false] rfl rfl (any_of HT_.out (by kernel_rfl)) (fun _ _ _ h => h) (Or.inl ⟨by rfl, ?_⟩) ?_ ?_
      rotate_left
      · intro w'
        go_simp
        with_reducible rfl
      rotate_left
      · simp only [Act.put, List.setIfInBounds_toArray, List.set_cons_zero, List.set_cons_succ, i64_w, i32_w]
        rfl
      refine take_ (i := 6) (N := some 11) (v := ?_) (a' := ?_) #[true, true, true, true, true, true, true, false, false, false, true, false, false, false, false] rfl rfl (take_ofW HT_.out HW_.out (by kernel_rfl)) (fun _ _ _ h => h) (Or.inl ⟨by rfl, ?_⟩) hHeld ?_ ?_
      rotate_left
      · rintro w' ⟨s0, s1, s2⟩
        go_simp
        with_reducible rfl
      rotate_left
      · simp only [Act.put, List.setIfInBounds_toArray, List.set_cons_zero, List.set_cons_succ, i64_w, i32_w]
        rfl
      refine pure_ (i := 7) (N := some 12) (v := ?_) (a' := ?_) #[true, true, true, true, true, true, true, true, false, false, true, false, false, false, false] rfl rfl (any_of HT_.out (by kernel_rfl)) (fun _ _ _ h => h) (Or.inl ⟨by rfl, ?_⟩) ?_ ?_
      rotate_left
      · intro w'
        go_simp
        with_reducible rfl
      rotate_left
      · simp only [Act.put, List.setIfInBounds_toArray, List.set_cons_zero, List.set_cons_succ, i64_w, i32_w]
        rfl
      refine pure_ (i := 8) (N := some 13) (v := ?_) (a' := ?_) #[true, true, true, true, true, true, true, true, true, false, true, false, false, false, false] rfl rfl (any_of HT_.out (by kernel_rfl)) (fun _ _ _ h => h) (Or.inl ⟨by rfl, ?_⟩) ?_ ?_
      rotate_left
      · intro w'
        go_simp
        with_reducible rfl
      rotate_left
      · simp only [Act.put, List.setIfInBounds_toArray, List.set_cons_zero, List.set_cons_succ, i64_w, i32_w]
        rfl
      refine take_ (i := 9) (N := some 14) (v := ?_) (a' := ?_) #[true, true, true, true, true, true, true, true, true, true, true, false, false, false, false] rfl rfl (take_ofW HT_.out HW_.out (by kernel_rfl)) (fun _ _ _ h => h) (Or.inl ⟨by rfl, ?_⟩) hHeld ?_ ?_
      rotate_left
      · rintro w' ⟨s0, s1, s2⟩
        go_simp
        with_reducible rfl
      rotate_left
      · simp only [Act.put, List.setIfInBounds_toArray, List.set_cons_zero, List.set_cons_succ, i64_w, i32_w]
        rfl
      refine one_ (i := 11) (N := some 16) #[true, true, true, true, true, true, true, true, true, true, true, true, false, false, false] rfl rfl (one_of HT_.out (by kernel_rfl)) (by decide) (fun K hK => ?_)
      refine goes_ Tryz.func207 (by kernel_rfl) rfl #[.int .i64 a1] (by rfl) rfl rfl (by (try simp only [List.map_toArray, List.map_cons, List.map_nil]); first | done | rfl | (simp only [List.length_drop, List.length_take]; rfl)) ?_
      with_reducible refine (concordatlaw01_word.calls a1 t288 _ A5.out ?tabw_).mono ?_
      case tabw_ => exact TabOk.below HTab_.out (by repeat (first | (with_reducible first | exact HB.out | apply below_alloc | apply pw_below_drewN | apply below_drew1 | refine below_set ?_ GE286.out) | exact HB.out))
      rintro e w8 ⟨rfl, hb⟩
      refine ⟨_, rfl, ?_⟩
      have n0_ := Aside0.mk (blk_below (g := gb286) (o := .cells #[.slice (some ad287) l0_0.length c0_0] 145 (0, 0)) (by (with_reducible repeat (first | refine blk_drewN ?_ _ | refine blk_drew ?_ | refine blk_alloc ?_ _)); exact BK286.out) hb)
      have n1_ := Aside0.mk (below_step (by repeat (first | (with_reducible first | exact HB.out | apply below_alloc | apply pw_below_drewN | apply below_drew1 | refine below_set ?_ GE286.out) | exact HB.out)) hb)
      clear BK286
      clear HB
      have BK286 := n0_
      have HB := n1_
      clear n0_ n1_
      (try clear hb)
      (try clear hb2)
      (try clear hk)
      (try clear hi)
      refine hK.out _ _ ⟨(blk_cell BK286.out 0).trans rfl, ((HB.out.cell (World.block_lt_of_cell? w _ hw287_0)).trans hw287_0), ((HB.out.cell (World.block_lt_of_cell? w _ hw287_1)).trans hw287_1)⟩ (fun hHeld => ?_)
      clear hK K
      refine norm_ (a' := ?_) ?_ ?_
      rotate_left
      · show Act.put _ (some 16) _ = _
        simp only [Act.put, List.setIfInBounds_toArray, List.set_cons_zero, List.set_cons_succ, i64_w, i32_w]
        rfl
      refine pure_ (i := 12) (N := some 17) (v := ?_) (a' := ?_) #[true, true, true, true, true, true, true, true, true, true, true, true, true, false, false] rfl rfl (any_of HT_.out (by kernel_rfl)) (fun _ _ _ h => h) (Or.inl ⟨by rfl, ?_⟩) ?_ ?_
      rotate_left
      · intro w'
        go_simp
        with_reducible rfl
      rotate_left
      · simp only [Act.put, List.setIfInBounds_toArray, List.set_cons_zero, List.set_cons_succ, i64_w, i32_w]
        rfl
      refine pure_ (i := 13) (N := some 18) (v := ?_) (a' := ?_) #[true, true, true, true, true, true, true, true, true, true, true, true, true, true, false] rfl rfl (any_of HT_.out (by kernel_rfl)) (fun _ _ _ h => h) (Or.inl ⟨by rfl, ?_⟩) ?_ ?_
      rotate_left
      · intro w'
        go_simp
        with_reducible rfl
      rotate_left
      · simp only [Act.put, List.setIfInBounds_toArray, List.set_cons_zero, List.set_cons_succ, i64_w, i32_w]
        rfl
      refine pure_ (i := 14) (N := some 4) (v := ?_) (a' := ?_) #[true, true, true, true, true, true, true, true, true, true, true, true, true, true, true] rfl rfl (any_of HT_.out (by kernel_rfl)) (fun _ _ _ h => h) (Or.inl ⟨by rfl, ?_⟩) ?_ ?_
      rotate_left
      · intro w'
        go_simp
        with_reducible rfl
      rotate_left
      · simp only [Act.put, List.setIfInBounds_toArray, List.set_cons_zero, List.set_cons_succ, i64_w, i32_w]
        rfl
      refine done_ (done_of HT_.out (by kernel_rfl)) ?_
      try go_wp2
      go_ret
      exact ⟨by first | rfl | (simp [errW_none, errW_some] <;> rfl) | (simp [*, errW_none, errW_some] <;> rfl), by repeat (first | (with_reducible first | exact HB.out | apply below_alloc | apply pw_below_drewN | apply below_drew1 | refine below_set ?_ GE286.out) | exact HB.out)⟩
    · rw [if_neg c4] at H
      exact absurd H (by simp)
  · rw [if_neg c3] at H
    have c3b0 : ((l0_0.length : Int) == 1) = false := beq_eq_false_iff_ne.mpr c3
    have c3b1 : ((l0_0.length : Int) != 1) = true := bne_iff_ne.mpr c3
    obtain rfl := Option.some.inj H
    go_enter Tryz.func184, Tryz.ntmps184
    try go_wp2_with (first | ((with_reducible refine gate_dst (N := 2) rfl ?_); refine box_event ?hg (N := 2) ?hd (cs := #[.slice A0_0 l0_0.length c0_0]) (t := 145) ?hr ?_; (case hd => rfl); (case hg => rfl); (case hr => first | (go_simp; done) | (go_simp; rfl)); intro gb286 hg w9 hbox hb; have n0_ := Aside0.mk (below_step (by repeat (first | (with_reducible first | exact HB.out | apply below_alloc | apply pw_below_drewN | apply below_drew1) | exact HB.out)) hb); have n1_ := Aside0.mk (hbox); have n2_ := Aside0.mk ((by rw [hg]; exact (below_size (by repeat (first | (with_reducible first | exact HB.out | apply below_alloc | apply pw_below_drewN | apply below_drew1) | exact HB.out))) : w.heap.size ≤ gb286)); have n3_ := Aside0.mk ((by rw [hg]; exact (below_size (by repeat (first | (with_reducible first | exact HB.out | apply below_alloc | apply pw_below_drewN | apply below_drew1) | exact HB.out))) : w.heap.size ≤ gb286)); clear HB; have HB := n0_; have BK286 := n1_; have GW286 := n2_; have GE286 := n3_; clear n0_ n1_ n2_ n3_; clear hb hbox hg))
    have n0_ := Aside0.mk (blk_drew BK286.out)
    have n1_ := Aside0.mk (below_drew1 HB.out)
    clear BK286
    clear HB
    have BK286 := n0_
    have HB := n1_
    clear n0_ n1_
    refine start_ (n := 15) (S := fun w' => w'.cell? ⟨gb286, 0, none⟩ = some (.slice A0_0 l0_0.length c0_0)) (ds := []) #[false, false, false, false, false, false, false, false, false, false, false, false, false, false, false] (by kernel_rfl) rfl rfl ((blk_cell BK286.out 0).trans rfl) (fun hHeld => ?_); refine with_tabW concordatlaw01_isResult.tab1 concordatlaw01_isResult.bits1 (fun HT_ HW_ => ?_)
    generalize w9.drew = w10 at BK286 HB hHeld ⊢
    refine pure_ (i := 0) (N := some 5) (v := ?_) (a' := ?_) #[true, false, false, false, false, false, false, false, false, false, false, false, false, false, false] rfl rfl (any_of HT_.out (by kernel_rfl)) (fun _ _ _ h => h) (Or.inl ⟨by rfl, ?_⟩) ?_ ?_
    rotate_left
    · intro w'
      go_simp
      with_reducible rfl
    rotate_left
    · simp only [Act.put, List.setIfInBounds_toArray, List.set_cons_zero, List.set_cons_succ, i64_w, i32_w]
      rfl
    refine take_ (i := 1) (N := some 6) (v := ?_) (a' := ?_) #[true, true, false, false, false, false, false, false, false, false, false, false, false, false, false] rfl rfl (take_ofW HT_.out HW_.out (by kernel_rfl)) (fun _ _ _ h => h) (Or.inl ⟨by rfl, ?_⟩) hHeld ?_ ?_
    rotate_left
    · intro w' s0
      go_simp
      with_reducible rfl
    rotate_left
    · simp only [Act.put, List.setIfInBounds_toArray, List.set_cons_zero, List.set_cons_succ, i64_w, i32_w]
      rfl
    refine pure_ (i := 2) (N := some 7) (v := ?_) (a' := ?_) #[true, true, true, false, false, false, false, false, false, false, false, false, false, false, false] rfl rfl (any_of HT_.out (by kernel_rfl)) (fun _ _ _ h => h) (Or.inl ⟨by rfl, ?_⟩) ?_ ?_
    rotate_left
    · intro w'
      go_simp
      with_reducible rfl
    rotate_left
    · simp only [Act.put, List.setIfInBounds_toArray, List.set_cons_zero, List.set_cons_succ, i64_w, i32_w]
      rfl
    refine pure_ (i := 3) (N := some 8) (v := ?_) (a' := ?_) #[true, true, true, true, false, false, false, false, false, false, false, false, false, false, false] rfl rfl (any_of HT_.out (by kernel_rfl)) (fun _ _ _ h => h) (Or.inl ⟨by rfl, ?_⟩) ?_ ?_
    rotate_left
    · intro w'
      go_simp
      with_reducible rfl
    rotate_left
    · simp only [Act.put, List.setIfInBounds_toArray, List.set_cons_zero, List.set_cons_succ, i64_w, i32_w]
      rfl
    refine pure_ (i := 4) (N := some 9) (v := ?_) (a' := ?_) #[true, true, true, true, true, false, false, false, false, false, false, false, false, false, false] rfl rfl (any_of HT_.out (by kernel_rfl)) (fun _ _ _ h => h) (Or.inl ⟨by rfl, ?_⟩) ?_ ?_
    rotate_left
    · intro w'
      go_simp
      with_reducible rfl
    rotate_left
    · simp only [Act.put, List.setIfInBounds_toArray, List.set_cons_zero, List.set_cons_succ, i64_w, i32_w]
      rfl
    refine pure_ (i := 5) (N := some 10) (v := undef) (a' := ?_) #[true, true, true, true, true, true, false, false, false, false, false, false, false, false, false] rfl rfl (any_of HT_.out (by kernel_rfl)) (fun _ _ _ h => h) (Or.inr ⟨by rfl, rfl⟩) ?_ ?_
    rotate_left
    · simp only [Act.put, List.setIfInBounds_toArray, List.set_cons_zero, List.set_cons_succ, i64_w, i32_w]
      rfl
    refine pure_ (i := 6) (N := some 11) (v := undef) (a' := ?_) #[true, true, true, true, true, true, true, false, false, false, false, false, false, false, false] rfl rfl (any_of HT_.out (by kernel_rfl)) (fun _ _ _ h => h) (Or.inr ⟨by rfl, rfl⟩) ?_ ?_
    rotate_left
    · simp only [Act.put, List.setIfInBounds_toArray, List.set_cons_zero, List.set_cons_succ, i64_w, i32_w]
      rfl
    refine pure_ (i := 7) (N := some 12) (v := undef) (a' := ?_) #[true, true, true, true, true, true, true, true, false, false, false, false, false, false, false] rfl rfl (any_of HT_.out (by kernel_rfl)) (fun _ _ _ h => h) (Or.inr ⟨by rfl, rfl⟩) ?_ ?_
    rotate_left
    · simp only [Act.put, List.setIfInBounds_toArray, List.set_cons_zero, List.set_cons_succ, i64_w, i32_w]
      rfl
    refine pure_ (i := 8) (N := some 13) (v := undef) (a' := ?_) #[true, true, true, true, true, true, true, true, true, false, false, false, false, false, false] rfl rfl (any_of HT_.out (by kernel_rfl)) (fun _ _ _ h => h) (Or.inr ⟨by rfl, rfl⟩) ?_ ?_
    rotate_left
    · simp only [Act.put, List.setIfInBounds_toArray, List.set_cons_zero, List.set_cons_succ, i64_w, i32_w]
      rfl
    refine pure_ (i := 9) (N := some 14) (v := undef) (a' := ?_) #[true, true, true, true, true, true, true, true, true, true, false, false, false, false, false] rfl rfl (any_of HT_.out (by kernel_rfl)) (fun _ _ _ h => h) (Or.inr ⟨by rfl, rfl⟩) ?_ ?_
    rotate_left
    · simp only [Act.put, List.setIfInBounds_toArray, List.set_cons_zero, List.set_cons_succ, i64_w, i32_w]
      rfl
    refine pure_ (i := 10) (N := some 15) (v := undef) (a' := ?_) #[true, true, true, true, true, true, true, true, true, true, true, false, false, false, false] rfl rfl (any_of HT_.out (by kernel_rfl)) (fun _ _ _ h => h) (Or.inr ⟨by rfl, rfl⟩) ?_ ?_
    rotate_left
    · simp only [Act.put, List.setIfInBounds_toArray, List.set_cons_zero, List.set_cons_succ, i64_w, i32_w]
      rfl
    refine pure_ (i := 11) (N := some 16) (v := undef) (a' := ?_) #[true, true, true, true, true, true, true, true, true, true, true, true, false, false, false] rfl rfl (any_of HT_.out (by kernel_rfl)) (fun _ _ _ h => h) (Or.inr ⟨by rfl, rfl⟩) ?_ ?_
    rotate_left
    · simp only [Act.put, List.setIfInBounds_toArray, List.set_cons_zero, List.set_cons_succ, i64_w, i32_w]
      rfl
    refine pure_ (i := 12) (N := some 17) (v := undef) (a' := ?_) #[true, true, true, true, true, true, true, true, true, true, true, true, true, false, false] rfl rfl (any_of HT_.out (by kernel_rfl)) (fun _ _ _ h => h) (Or.inr ⟨by rfl, rfl⟩) ?_ ?_
    rotate_left
    · simp only [Act.put, List.setIfInBounds_toArray, List.set_cons_zero, List.set_cons_succ, i64_w, i32_w]
      rfl
    refine pure_ (i := 13) (N := some 18) (v := ?_) (a' := ?_) #[true, true, true, true, true, true, true, true, true, true, true, true, true, true, false] rfl rfl (any_of HT_.out (by kernel_rfl)) (fun _ _ _ h => h) (Or.inl ⟨by rfl, ?_⟩) ?_ ?_
    rotate_left
    · intro w'
      go_simp
      with_reducible rfl
    rotate_left
    · simp only [Act.put, List.setIfInBounds_toArray, List.set_cons_zero, List.set_cons_succ, i64_w, i32_w]
      rfl
    refine pure_ (i := 14) (N := some 4) (v := ?_) (a' := ?_) #[true, true, true, true, true, true, true, true, true, true, true, true, true, true, true] rfl rfl (any_of HT_.out (by kernel_rfl)) (fun _ _ _ h => h) (Or.inl ⟨by rfl, ?_⟩) ?_ ?_
    rotate_left
    · intro w'
      go_simp
      with_reducible rfl
    rotate_left
    · simp only [Act.put, List.setIfInBounds_toArray, List.set_cons_zero, List.set_cons_succ, i64_w, i32_w]
      rfl
    refine done_ (done_of HT_.out (by kernel_rfl)) ?_
    try go_wp2
    go_ret
    exact ⟨by first | rfl | (simp [errW_none, errW_some] <;> rfl) | (simp [*, errW_none, errW_some] <;> rfl), by repeat (first | (with_reducible first | exact HB.out | apply below_alloc | apply pw_below_drewN | apply below_drew1 | refine below_set ?_ GE286.out) | exact HB.out)⟩

def concordatlaw01_isMsg.f (a0_0 : Int) (a0_1 : Int) (a0_2 : Int) (a0_3 : Int) (l0_4 : List (S82)) (l0_5 : List (S145)) (a1 : Int) : Option (Bool) := if a0_0 = 200 then (some (a0_3 == ((a1) % 4294967296))) else (some false)
set_option maxHeartbeats 8000000 in
set_option maxRecDepth 100000 in
theorem concordatlaw01_isMsg.calls (a0_0 : Int) (a0_1 : Int) (a0_2 : Int) (a0_3 : Int) (A0_4 : Option Addr) (c0_4 : Nat) (l0_4 : List (S82)) (A0_5 : Option Addr) (c0_5 : Nat) (l0_5 : List (S145)) (a1 : Int) (r : Bool) (w : World) (hr0_4 : Kd.C k82 w A0_4 l0_4.length l0_4) (hc0_4 : l0_4.length ≤ c0_4) (hr0_5 : Kd.C k145 w A0_5 l0_5.length l0_5) (hc0_5 : l0_5.length ≤ c0_5) (h : concordatlaw01_isMsg.f a0_0 a0_1 a0_2 a0_3 l0_4 l0_5 a1 = some r) :
    Calls Tryz.prog 185 #[.agg #[.int .u8 a0_0, .int .u8 a0_1, .int .u8 a0_2, .int .u32 a0_3, .slice A0_4 l0_4.length c0_4, .slice A0_5 l0_5.length c0_5], .int .i64 a1] w fun e w' => e = .returned (.bool r) ∧ Below w.heap.size w w' := by
  have hu50 := Tryz.underlying50
  have HR0_4 := Aside0.mk hr0_4
  have HC0_4 := Aside0.mk hc0_4
  clear hr0_4 hc0_4
  have HR0_5 := Aside0.mk hr0_5
  have HC0_5 := Aside0.mk hc0_5
  clear hr0_5 hc0_5
  have HB := Aside0.mk (Below.refl w.heap.size w)
  have H : (if a0_0 = 200 then (some (a0_3 == ((a1) % 4294967296))) else (some false)) = some r := h
  clear h
  by_cases c3 : a0_0 = 200
  · rw [if_pos c3] at H
    have c3b0 : (a0_0 == 200) = true := beq_iff_eq.mpr c3
    have c3b1 : (a0_0 != 200) = false := bne_eq_false_iff_eq.mpr c3
    clear c3
    obtain rfl := Option.some.inj H
    go_enter Tryz.func185, Tryz.ntmps185
    go_wp2_with (first | ((with_reducible refine gate_dst (N := 2) rfl ?_); refine box_event ?hg (N := 2) ?hd (cs := #[.int .u8 a0_0, .int .u8 a0_1, .int .u8 a0_2, .int .u32 a0_3, .slice A0_4 l0_4.length c0_4, .slice A0_5 l0_5.length c0_5]) (t := 50) ?hr ?_; (case hd => rfl); (case hg => rfl); (case hr => first | (go_simp; done) | (go_simp; rfl)); intro gb289 hg w4 hbox hb; have n0_ := Aside0.mk (below_step (by repeat (first | (with_reducible first | exact HB.out | apply below_alloc | apply pw_below_drewN | apply below_drew1) | exact HB.out)) hb); have n1_ := Aside0.mk (hbox); have n2_ := Aside0.mk ((by rw [hg]; exact (below_size (by repeat (first | (with_reducible first | exact HB.out | apply below_alloc | apply pw_below_drewN | apply below_drew1) | exact HB.out))) : w.heap.size ≤ gb289)); have n3_ := Aside0.mk ((by rw [hg]; exact (below_size (by repeat (first | (with_reducible first | exact HB.out | apply below_alloc | apply pw_below_drewN | apply below_drew1) | exact HB.out))) : w.heap.size ≤ gb289)); clear HB; have HB := n0_; have BK289 := n1_; have GW289 := n2_; have GE289 := n3_; clear n0_ n1_ n2_ n3_; clear hb hbox hg; have hcz5_0 : w4.cell? ⟨gb289, 0, none⟩ = some (.int .u8 a0_0) := (blk_cell BK289.out 0).trans rfl; have hcz5_1 : w4.cell? ⟨gb289, 1, none⟩ = some (.int .u8 a0_1) := (blk_cell BK289.out 1).trans rfl; have hcz5_2 : w4.cell? ⟨gb289, 2, none⟩ = some (.int .u8 a0_2) := (blk_cell BK289.out 2).trans rfl; have hcz5_3 : w4.cell? ⟨gb289, 3, none⟩ = some (.int .u32 a0_3) := (blk_cell BK289.out 3).trans rfl; have hcz5_4 : w4.cell? ⟨gb289, 4, none⟩ = some (.slice A0_4 l0_4.length c0_4) := (blk_cell BK289.out 4).trans rfl; have hcz5_5 : w4.cell? ⟨gb289, 5, none⟩ = some (.slice A0_5 l0_5.length c0_5) := (blk_cell BK289.out 5).trans rfl; have hfz5_0 := blk_frozen BK289.out 0; have hfz5_1 := blk_frozen BK289.out 1; have hfz5_2 := blk_frozen BK289.out 2; have hfz5_3 := blk_frozen BK289.out 3; have hfz5_4 := blk_frozen BK289.out 4; have hfz5_5 := blk_frozen BK289.out 5))
    go_ret
    exact ⟨by first | rfl | (simp [errW_none, errW_some] <;> rfl) | (simp [*, errW_none, errW_some] <;> rfl), by repeat (first | (with_reducible first | exact HB.out | apply below_alloc | apply pw_below_drewN | apply below_drew1 | refine below_set ?_ GE289.out) | exact HB.out)⟩
  · rw [if_neg c3] at H
    have c3b0 : (a0_0 == 200) = false := beq_eq_false_iff_ne.mpr c3
    have c3b1 : (a0_0 != 200) = true := bne_iff_ne.mpr c3
    obtain rfl := Option.some.inj H
    go_enter Tryz.func185, Tryz.ntmps185
    go_wp2_with (first | ((with_reducible refine gate_dst (N := 2) rfl ?_); refine box_event ?hg (N := 2) ?hd (cs := #[.int .u8 a0_0, .int .u8 a0_1, .int .u8 a0_2, .int .u32 a0_3, .slice A0_4 l0_4.length c0_4, .slice A0_5 l0_5.length c0_5]) (t := 50) ?hr ?_; (case hd => rfl); (case hg => rfl); (case hr => first | (go_simp; done) | (go_simp; rfl)); intro gb289 hg w6 hbox hb; have n0_ := Aside0.mk (below_step (by repeat (first | (with_reducible first | exact HB.out | apply below_alloc | apply pw_below_drewN | apply below_drew1) | exact HB.out)) hb); have n1_ := Aside0.mk (hbox); have n2_ := Aside0.mk ((by rw [hg]; exact (below_size (by repeat (first | (with_reducible first | exact HB.out | apply below_alloc | apply pw_below_drewN | apply below_drew1) | exact HB.out))) : w.heap.size ≤ gb289)); have n3_ := Aside0.mk ((by rw [hg]; exact (below_size (by repeat (first | (with_reducible first | exact HB.out | apply below_alloc | apply pw_below_drewN | apply below_drew1) | exact HB.out))) : w.heap.size ≤ gb289)); clear HB; have HB := n0_; have BK289 := n1_; have GW289 := n2_; have GE289 := n3_; clear n0_ n1_ n2_ n3_; clear hb hbox hg; have hcz7_0 : w6.cell? ⟨gb289, 0, none⟩ = some (.int .u8 a0_0) := (blk_cell BK289.out 0).trans rfl; have hcz7_1 : w6.cell? ⟨gb289, 1, none⟩ = some (.int .u8 a0_1) := (blk_cell BK289.out 1).trans rfl; have hcz7_2 : w6.cell? ⟨gb289, 2, none⟩ = some (.int .u8 a0_2) := (blk_cell BK289.out 2).trans rfl; have hcz7_3 : w6.cell? ⟨gb289, 3, none⟩ = some (.int .u32 a0_3) := (blk_cell BK289.out 3).trans rfl; have hcz7_4 : w6.cell? ⟨gb289, 4, none⟩ = some (.slice A0_4 l0_4.length c0_4) := (blk_cell BK289.out 4).trans rfl; have hcz7_5 : w6.cell? ⟨gb289, 5, none⟩ = some (.slice A0_5 l0_5.length c0_5) := (blk_cell BK289.out 5).trans rfl; have hfz7_0 := blk_frozen BK289.out 0; have hfz7_1 := blk_frozen BK289.out 1; have hfz7_2 := blk_frozen BK289.out 2; have hfz7_3 := blk_frozen BK289.out 3; have hfz7_4 := blk_frozen BK289.out 4; have hfz7_5 := blk_frozen BK289.out 5))
    go_ret
    exact ⟨by first | rfl | (simp [errW_none, errW_some] <;> rfl) | (simp [*, errW_none, errW_some] <;> rfl), by repeat (first | (with_reducible first | exact HB.out | apply below_alloc | apply pw_below_drewN | apply below_drew1 | refine below_set ?_ GE289.out) | exact HB.out)⟩

end Go.Proofs.YtcohodkpppmaoaaGreatDoor.Q
namespace Go.Proofs.YtcohodkpppmaoaaGreatDoor.Q
open Go.RowKit Go.Proofs.YtcohodkpppmaoaaGreatDoorW.PrintWords Go.Proofs.YtcohodkpppmaoaaGreatDoorW.PrintLast Go.Proofs.YtcohodkpppmaoaaGreatDoorW.PrintMore
set_option linter.unusedVariables false

abbrev MsgT := S50
abbrev OpT' := S82
abbrev ResT' := S145
abbrev RowT' := S148
def fdOp : Fd OpT' := Fd.flat k82 (fun {w w1 x cs} h => by rw [k82_open h]; exact k82_mk w1 x)
def fdRow : Fd RowT' := Fd.flat k148 (fun {w w1 x cs} h => by rw [k148_open h]; exact k148_mk w1 x)
def fdResult : Fd ResT' where
  k := k145
  M := fun w F x cs => ∃ v, cs = [v] ∧ Fd.Row fdRow 148 w F v x.f0
  read := by
    rintro w F x cs ⟨v, rfl, h⟩
    obtain ⟨A, c, rfl, hl, hC⟩ := Fd.row_reads h
    exact k145_mk w x hl hC
  move := by
    rintro w w1 F x cs hm ⟨v, rfl, h⟩
    exact ⟨v, rfl, Fd.row_move hm h⟩
  lt := by
    rintro w F x cs ⟨v, rfl, h⟩
    exact Fd.row_lt h
def fdMsg : Fd MsgT where
  k := k50
  M := fun w F x cs => ∃ v4 v5 F4 F5, cs = [.int .u8 x.f0, .int .u8 x.f1, .int .u8 x.f2, .int .u32 x.f3, v4, v5] ∧ F = F4 ++ F5 ∧ Fd.Row fdOp 82 w F4 v4 x.f4 ∧ Fd.Row fdResult 145 w F5 v5 x.f5
  read := by
    rintro w F x cs ⟨v4, v5, F4, F5, rfl, rfl, h4, h5⟩
    obtain ⟨A4, c4, rfl, l4, g4⟩ := Fd.row_reads h4
    obtain ⟨A5, c5, rfl, l5, g5⟩ := Fd.row_reads h5
    exact k50_mk w x l4 g4 l5 g5
  move := by
    rintro w w1 F x cs hm ⟨v4, v5, F4, F5, rfl, rfl, h4, h5⟩
    exact ⟨v4, v5, F4, F5, rfl, rfl, Fd.row_move (fun b hb => hm b (List.mem_append_left _ hb)) h4, Fd.row_move (fun b hb => hm b (List.mem_append_right _ hb)) h5⟩
  lt := by
    rintro w F x cs ⟨v4, v5, F4, F5, rfl, rfl, h4, h5⟩ b hb
    rcases List.mem_append.1 hb with hb | hb
    · exact Fd.row_lt h4 b hb
    · exact Fd.row_lt h5 b hb

/-- Elements that own nothing, off a row's cells. -/
theorem els_flat {α : Type} {k : Kd α} {hk : ∀ {w w1 : World} {x cs}, k.K w x cs → k.K w1 x cs} {w w1 : World} : ∀ {xs : List α} {inner : List Value}, Reps (k.K w) k.sz xs inner → Fd.Els (Fd.flat k hk) w1 xs inner []
  | [], inner, h => ⟨List.eq_nil_of_length_eq_zero (by simpa using h.1), rfl⟩
  | x :: xs, inner, h => by
    have hl := h.1
    rw [List.length_cons, Nat.succ_mul] at hl
    refine ⟨inner.take k.sz, inner.drop k.sz, [], [], (List.take_append_drop _ _).symm, rfl, ⟨rfl, hk (w := w) ?_⟩, els_flat (hk := hk) (w := w) ⟨by rw [List.length_drop]; omega, fun j p hj => ?_⟩⟩
    · have := h.2 0 x rfl
      simpa using this
    · have := h.2 (j + 1) p (by simpa using hj)
      rwa [Nat.succ_mul, Nat.add_comm, ← List.drop_drop] at this

theorem infoOp : (Tryz.prog.info? 82).map (fun i => (i.zero, i.size, i.bytes)) = some (some (.agg #[.int .u8 0, .string ⟨#[]⟩, .string ⟨#[]⟩, .int .u32 0]), 4, 48) := by kernel_rfl
theorem infoRow : (Tryz.prog.info? 148).map (fun i => (i.zero, i.size, i.bytes)) = some (some (.agg #[.string ⟨#[]⟩, .int .u32 0]), 2, 24) := by kernel_rfl
theorem infoResult : (Tryz.prog.info? 145).map (fun i => (i.zero, i.size, i.bytes)) = some (some (.agg #[.slice none 0 0]), 1, 24) := by kernel_rfl
theorem infoMsg : (Tryz.prog.info? 50).map (fun i => (i.zero, i.size, i.bytes)) = some (some (.agg #[.int .u8 0, .int .u8 0, .int .u8 0, .int .u32 0, .slice none 0 0, .slice none 0 0]), 6, 56) := by kernel_rfl
theorem own_empty (W : World) (e : TypeId) (size : Nat) : (W.alloc (.cells #[] e)).ownsRow W.heap.size e size (.slice (some ⟨W.heap.size, 0, none⟩) 0 0) 0 [] := by
  have := World.ownsRow_made (base := W.heap.size) (e := e) (size := size) W #[] 0 (Nat.le_refl _) (Nat.zero_le _) (by simp)
  exact this

set_option maxRecDepth 100000 in
/-- slices.Clone: the row's cells as they were read, in a row of its own. -/
theorem cloneOps_calls (w0 w : World) (hw : Below w0.heap.size w0 w) (A : Option Addr) (c : Nat) (l : List (S82)) (hC : k82.C w0 A l.length l) (hc : l.length ≤ c) (hb : l.length * 48 ≤ 140737488355328) :
    Calls Tryz.prog 160 #[.slice A l.length c] w fun e w' => ∃ v inner, e = .returned v ∧ w'.ownsRow w.heap.size 82 4 v l.length inner ∧ Reps (k82.K w0) 4 l inner ∧ Below w.heap.size w w' := by
  have HB := Aside0.mk hb
  have HC := Aside0.mk hC
  clear hC hb
  cases A with
  | none =>
    have h0 : l = [] := by
      rcases Nat.eq_zero_or_pos l.length with h | h
      · exact List.eq_nil_of_length_eq_zero h
      · obtain ⟨ad, h, _⟩ := HC.out.2.2 h
        cases h
    subst h0
    have hq := fun w => Lib.run_eql_slice_nil (P := Tryz.prog) (w := w) 47 82 none 0 c 0 0 Tryz.underlying47
    go_enter Tryz.func160, Tryz.ntmps160
    go_wp2
    go_ret
    exact ⟨_, [], rfl, own_nil w _ _ _, Reps.none _ _, Below.refl _ _⟩
  | some ad =>
    have hq := fun w => Lib.run_eql_slice_nil (P := Tryz.prog) (w := w) 47 82 (some ad) l.length c 0 0 Tryz.underlying47
    go_enter Tryz.func160, Tryz.ntmps160
    have hO := (show (Kd.fixed k82 w0).R 82 (w.alloc (.cells #[] 82)) w.heap.size (fun _ => True) (.slice (some ⟨w.heap.size, 0, none⟩) 0 0) [] from ⟨fun _ _ => trivial, [], own_empty w _ _, Reps.none _ _⟩)
    have HO := Aside0.mk hO
    have hw1 := below_step hw (below_alloc (Below.refl w.heap.size w) (.cells #[] 82))
    have HR := Aside0.mk (show ReadsRow (k82.K w0) 4 (w.alloc (.cells #[] 82)) (some ad) l.length l from ⟨rfl, HC.out.2.1, fun h => by
      obtain ⟨ad', e1, e2⟩ := HC.out.2.2 h
      refine ⟨ad', e1, fun j p hj => ?_⟩
      obtain ⟨cs, g1, g2, g3⟩ := e2 j p hj
      exact ⟨cs, g1, g2, fun i u hu => cell_later hw1 (g3 i u hu)⟩⟩)
    clear hO hw1
    go_wp2_with (first | (at_builtin; go_loud (refine Kd.R_append_rows (Kd.fixed k82 w0) (w0 := w) w.heap.size rfl _ _ 47 82 (.agg #[.int .u8 0, .string ⟨#[]⟩, .string ⟨#[]⟩, .int .u32 0]) 48 rfl Tryz.underlying47 infoOp rfl (show 0 < 4 from by decide) (by decide) (.slice (some ⟨w.heap.size, 0, none⟩) 0 0) [] l (some ad) l.length c (fun _ => True) (fun k => False) rfl rfl HO.out HR.out (fun x cs h => h) (fun k hk => hk.elim) (fun _ _ => trivial) (below_alloc (Below.refl w.heap.size w) _) (by simp) (by have := HB.out; simp; omega) ?_); intro v1 w1 ho hb hg hat; have HO1 := Aside0.mk ho; have HB1 := Aside0.mk hb; clear ho hb hg hat))
    go_ret
    obtain ⟨_, inner, h1, h2⟩ := HO1.out
    exact ⟨_, inner, rfl, h1, h2, HB1.out⟩

set_option maxRecDepth 100000 in
/-- slices.Clone: the row's cells as they were read, in a row of its own. -/
theorem cloneResults_calls (w0 w : World) (hw : Below w0.heap.size w0 w) (A : Option Addr) (c : Nat) (l : List (S145)) (hC : k145.C w0 A l.length l) (hc : l.length ≤ c) (hb : l.length * 24 ≤ 140737488355328) :
    Calls Tryz.prog 161 #[.slice A l.length c] w fun e w' => ∃ v inner, e = .returned v ∧ w'.ownsRow w.heap.size 145 1 v l.length inner ∧ Reps (k145.K w0) 1 l inner ∧ Below w.heap.size w w' := by
  have HB := Aside0.mk hb
  have HC := Aside0.mk hC
  clear hC hb
  cases A with
  | none =>
    have h0 : l = [] := by
      rcases Nat.eq_zero_or_pos l.length with h | h
      · exact List.eq_nil_of_length_eq_zero h
      · obtain ⟨ad, h, _⟩ := HC.out.2.2 h
        cases h
    subst h0
    have hq := fun w => Lib.run_eql_slice_nil (P := Tryz.prog) (w := w) 48 145 none 0 c 0 0 Tryz.underlying48
    go_enter Tryz.func161, Tryz.ntmps161
    go_wp2
    go_ret
    exact ⟨_, [], rfl, own_nil w _ _ _, Reps.none _ _, Below.refl _ _⟩
  | some ad =>
    have hq := fun w => Lib.run_eql_slice_nil (P := Tryz.prog) (w := w) 48 145 (some ad) l.length c 0 0 Tryz.underlying48
    go_enter Tryz.func161, Tryz.ntmps161
    have hO := (show (Kd.fixed k145 w0).R 145 (w.alloc (.cells #[] 145)) w.heap.size (fun _ => True) (.slice (some ⟨w.heap.size, 0, none⟩) 0 0) [] from ⟨fun _ _ => trivial, [], own_empty w _ _, Reps.none _ _⟩)
    have HO := Aside0.mk hO
    have hw1 := below_step hw (below_alloc (Below.refl w.heap.size w) (.cells #[] 145))
    have HR := Aside0.mk (show ReadsRow (k145.K w0) 1 (w.alloc (.cells #[] 145)) (some ad) l.length l from ⟨rfl, HC.out.2.1, fun h => by
      obtain ⟨ad', e1, e2⟩ := HC.out.2.2 h
      refine ⟨ad', e1, fun j p hj => ?_⟩
      obtain ⟨cs, g1, g2, g3⟩ := e2 j p hj
      exact ⟨cs, g1, g2, fun i u hu => cell_later hw1 (g3 i u hu)⟩⟩)
    clear hO hw1
    go_wp2_with (first | (at_builtin; go_loud (refine Kd.R_append_rows (Kd.fixed k145 w0) (w0 := w) w.heap.size rfl _ _ 48 145 (.agg #[.slice none 0 0]) 24 rfl Tryz.underlying48 infoResult rfl (show 0 < 1 from by decide) (by decide) (.slice (some ⟨w.heap.size, 0, none⟩) 0 0) [] l (some ad) l.length c (fun _ => True) (fun k => False) rfl rfl HO.out HR.out (fun x cs h => h) (fun k hk => hk.elim) (fun _ _ => trivial) (below_alloc (Below.refl w.heap.size w) _) (by simp) (by have := HB.out; simp; omega) ?_); intro v1 w1 ho hb hg hat; have HO1 := Aside0.mk ho; have HB1 := Aside0.mk hb; clear ho hb hg hat))
    go_ret
    obtain ⟨_, inner, h1, h2⟩ := HO1.out
    exact ⟨_, inner, rfl, h1, h2, HB1.out⟩

set_option maxRecDepth 100000 in
/-- slices.Clone: the row's cells as they were read, in a row of its own. -/
theorem cloneRows_calls (w0 w : World) (hw : Below w0.heap.size w0 w) (A : Option Addr) (c : Nat) (l : List (S148)) (hC : k148.C w0 A l.length l) (hc : l.length ≤ c) (hb : l.length * 24 ≤ 140737488355328) :
    Calls Tryz.prog 162 #[.slice A l.length c] w fun e w' => ∃ v inner, e = .returned v ∧ w'.ownsRow w.heap.size 148 2 v l.length inner ∧ Reps (k148.K w0) 2 l inner ∧ Below w.heap.size w w' := by
  have HB := Aside0.mk hb
  have HC := Aside0.mk hC
  clear hC hb
  cases A with
  | none =>
    have h0 : l = [] := by
      rcases Nat.eq_zero_or_pos l.length with h | h
      · exact List.eq_nil_of_length_eq_zero h
      · obtain ⟨ad, h, _⟩ := HC.out.2.2 h
        cases h
    subst h0
    have hq := fun w => Lib.run_eql_slice_nil (P := Tryz.prog) (w := w) 143 148 none 0 c 0 0 Tryz.underlying143
    go_enter Tryz.func162, Tryz.ntmps162
    go_wp2
    go_ret
    exact ⟨_, [], rfl, own_nil w _ _ _, Reps.none _ _, Below.refl _ _⟩
  | some ad =>
    have hq := fun w => Lib.run_eql_slice_nil (P := Tryz.prog) (w := w) 143 148 (some ad) l.length c 0 0 Tryz.underlying143
    go_enter Tryz.func162, Tryz.ntmps162
    have hO := (show (Kd.fixed k148 w0).R 148 (w.alloc (.cells #[] 148)) w.heap.size (fun _ => True) (.slice (some ⟨w.heap.size, 0, none⟩) 0 0) [] from ⟨fun _ _ => trivial, [], own_empty w _ _, Reps.none _ _⟩)
    have HO := Aside0.mk hO
    have hw1 := below_step hw (below_alloc (Below.refl w.heap.size w) (.cells #[] 148))
    have HR := Aside0.mk (show ReadsRow (k148.K w0) 2 (w.alloc (.cells #[] 148)) (some ad) l.length l from ⟨rfl, HC.out.2.1, fun h => by
      obtain ⟨ad', e1, e2⟩ := HC.out.2.2 h
      refine ⟨ad', e1, fun j p hj => ?_⟩
      obtain ⟨cs, g1, g2, g3⟩ := e2 j p hj
      exact ⟨cs, g1, g2, fun i u hu => cell_later hw1 (g3 i u hu)⟩⟩)
    clear hO hw1
    go_wp2_with (first | (at_builtin; go_loud (refine Kd.R_append_rows (Kd.fixed k148 w0) (w0 := w) w.heap.size rfl _ _ 143 148 (.agg #[.string ⟨#[]⟩, .int .u32 0]) 24 rfl Tryz.underlying143 infoRow rfl (show 0 < 2 from by decide) (by decide) (.slice (some ⟨w.heap.size, 0, none⟩) 0 0) [] l (some ad) l.length c (fun _ => True) (fun k => False) rfl rfl HO.out HR.out (fun x cs h => h) (fun k hk => hk.elim) (fun _ _ => trivial) (below_alloc (Below.refl w.heap.size w) _) (by simp) (by have := HB.out; simp; omega) ?_); intro v1 w1 ho hb hg hat; have HO1 := Aside0.mk ho; have HB1 := Aside0.mk hb; clear ho hb hg hat))
    go_ret
    obtain ⟨_, inner, h1, h2⟩ := HO1.out
    exact ⟨_, inner, rfl, h1, h2, HB1.out⟩

theorem alloc_size' (w : World) (o : Obj) : (w.alloc o).heap.size = w.heap.size + 1 := by show (w.heap.push o).size = _; simp
theorem els_fdRow {w w1 : World} {xs : List RowT'} {inner : List Value} (h : Reps (k148.K w) 2 xs inner) : Fd.Els fdRow w1 xs inner [] := els_flat (w := w) (hk := fun {w w1 x cs} h => by rw [k148_open h]; exact k148_mk w1 x) h
theorem els_fdOp {w w1 : World} {xs : List OpT'} {inner : List Value} (h : Reps (k82.K w) 4 xs inner) : Fd.Els fdOp w1 xs inner [] := els_flat (w := w) (hk := fun {w w1 x cs} h => by rw [k82_open h]; exact k82_mk w1 x) h
theorem own_setInner {W : World} {base g n cap : Nat} {e : TypeId} {inner : List Value} (h : W.ownsRow base e 1 (.slice (some ⟨g, 0, none⟩) n cap) n inner) (i : Nat) (u : Value) :
    (W.setCell ⟨g, i, none⟩ u).ownsRow base e 1 (.slice (some ⟨g, 0, none⟩) n cap) n (inner.set i u) := by
  have e1 : ∀ l : List Value, encs (fun v : Value => v) l = l := fun l => List.map_id' l
  rw [← e1 inner] at h
  have h2 := (own_store_of h (i : Int) u).1
  rw [e1, Int.toNat_natCast] at h2
  exact h2
theorem own_innerCell {W : World} {base g n cap : Nat} {e : TypeId} {inner : List Value} (h : W.ownsRow base e 1 (.slice (some ⟨g, 0, none⟩) n cap) n inner) (i : Nat) (hi : i < n) (u : Value) (hu : inner[i]? = some u) :
    W.cell? ⟨g, i, none⟩ = some u ∧ W.frozen? ⟨g, i, none⟩ = false := by
  obtain ⟨cur, hc⟩ := own_typed h g rfl
  refine ⟨?_, blk_frozen hc _⟩
  have := h.cells (g := g) rfl i u hu
  rwa [add_plain] at this
theorem blk6 {w : World} {g t : Nat} {a b c d x y : Value} (h : w.heap[g]? = some (.cells #[a, b, c, d, x, y] t (0, 0))) : (w.cell? ⟨g, 0, none⟩ = some a ∧ w.cell? ⟨g, 1, none⟩ = some b ∧ w.cell? ⟨g, 2, none⟩ = some c ∧ w.cell? ⟨g, 3, none⟩ = some d ∧ w.cell? ⟨g, 4, none⟩ = some x ∧ w.cell? ⟨g, 5, none⟩ = some y) ∧ (w.frozen? ⟨g, 0, none⟩ = false ∧ w.frozen? ⟨g, 1, none⟩ = false ∧ w.frozen? ⟨g, 2, none⟩ = false ∧ w.frozen? ⟨g, 3, none⟩ = false ∧ w.frozen? ⟨g, 4, none⟩ = false ∧ w.frozen? ⟨g, 5, none⟩ = false) :=
  ⟨⟨blk_cell h 0, blk_cell h 1, blk_cell h 2, blk_cell h 3, blk_cell h 4, blk_cell h 5⟩, ⟨blk_frozen h 0, blk_frozen h 1, blk_frozen h 2, blk_frozen h 3, blk_frozen h 4, blk_frozen h 5⟩⟩
/-- How long the lists of a message may be here. -/
def msgB (m : MsgT) : Prop := m.f4.length * 48 ≤ 140737488355328 ∧ m.f5.length * 24 ≤ 140737488355328 ∧ ∀ r ∈ m.f5, r.f0.length * 24 ≤ 140737488355328
def msgCells (m : MsgT) (v4 v5 : Value) : Array Value := #[.int .u8 m.f0, .int .u8 m.f1, .int .u8 m.f2, .int .u32 m.f3, v4, v5]

/-- Where the loop over the results stands: i of them have rows of their own. -/
structure LikeAt (w wr : World) (m : MsgT) (A4 : Option Addr) (c4 : Nat) (F4 : List Nat) (A5 : Option Addr) (c5 : Nat) (i : Nat) : Prop where
  below : Below w.heap.size w wr
  box : wr.heap[w.heap.size]? = some (.cells (msgCells m (.slice A4 m.f4.length c4) (.slice A5 m.f5.length c5)) 50 (0, 0))
  res : wr.heap[w.heap.size + 1]? = some (.cells #[.int .u8 0, .int .u8 0, .int .u8 0, .int .u32 0, .slice none 0 0, .slice none 0 0] 50 (0, 0))
  ops : Fd.Row fdOp 82 wr F4 (.slice A4 m.f4.length c4) m.f4
  rows : ∃ i0 i1 G, wr.ownsRow 0 145 1 (.slice A5 m.f5.length c5) m.f5.length (i0 ++ i1) ∧ Fd.Els fdResult wr (m.f5.take i) i0 G ∧ Reps (k145.K w) 1 (m.f5.drop i) i1 ∧ ((F4 ++ ((Value.slice A5 m.f5.length c5).ownBlock.toList ++ G)).Nodup) ∧ ∀ b ∈ F4 ++ ((Value.slice A5 m.f5.length c5).ownBlock.toList ++ G), w.heap.size + 2 ≤ b

/-- The result that comes next: its cell, as it was read. -/
theorem LikeAt.next {w wr : World} {m : MsgT} {A4 : Option Addr} {c4 : Nat} {F4 : List Nat} {B5 : Option Addr} {c5 i : Nat} (h : LikeAt w wr m A4 c4 F4 B5 c5 i) (hi : i < m.f5.length) :
    ∃ g5, B5 = some ⟨g5, 0, none⟩ ∧ ∃ A c, (m.f5[i]).f0.length ≤ c ∧ k148.C w A (m.f5[i]).f0.length (m.f5[i]).f0 ∧ wr.cell? ⟨g5, i, none⟩ = some (.slice A (m.f5[i]).f0.length c) ∧ wr.frozen? ⟨g5, i, none⟩ = false ∧
      wr.cell? ⟨w.heap.size, 5, none⟩ = some (.slice (some ⟨g5, 0, none⟩) m.f5.length c5) ∧ wr.frozen? ⟨w.heap.size, 5, none⟩ = false := by
  obtain ⟨i0, i1, G, h1, h2, h3, h4, h5⟩ := h.rows
  have hbx := h.box
  obtain ⟨g5, cap, hv, _, _⟩ := h1.form (by omega)
  injection hv with hv1 _ _
  subst hv1
  have hil : i0.length = i := by
    have := Fd.els_len h2
    have hk : fdResult.k.sz = 1 := rfl
    rw [hk, Nat.mul_one, List.length_take] at this
    omega
  have h6 := h3.2 0 (m.f5[i]) (by rw [List.getElem?_drop]; simp)
  rw [Nat.zero_mul, List.drop_zero] at h6
  obtain ⟨A, c, e, hl, hC⟩ := k145_open h6
  have hu : (i0 ++ i1)[i]? = some (.slice A (m.f5[i]).f0.length c) := by
    rw [List.getElem?_append_right (by omega), hil, Nat.sub_self]
    have := congrArg (fun l => l[0]?) e
    simpa [List.getElem?_take] using this
  have h7 := own_innerCell h1 i hi _ hu
  exact ⟨g5, rfl, A, c, hl, hC, h7.1, h7.2, blk_cell hbx 5, blk_frozen hbx _⟩
/-- What a store of rows of its own into result i leaves. -/
theorem LikeAt.step {w wr w1 : World} {m : MsgT} {A4 : Option Addr} {c4 : Nat} {F4 : List Nat} {g5 c5 i : Nat} (h : LikeAt w wr m A4 c4 F4 (some ⟨g5, 0, none⟩) c5 i) (hi : i < m.f5.length) (hb : Below wr.heap.size wr w1) {v : Value} {inner : List Value}
    (ho : w1.ownsRow wr.heap.size 148 2 v (m.f5[i]).f0.length inner) (hr : Reps (k148.K w) 2 (m.f5[i]).f0 inner) : LikeAt w (w1.setCell ⟨g5, i, none⟩ v) m A4 c4 F4 (some ⟨g5, 0, none⟩) c5 (i + 1) := by
  obtain ⟨i0, i1, G, h1, h2, h3, h4, h5⟩ := h.rows
  replace h4 : (F4 ++ g5 :: G).Nodup := h4
  replace h5 : ∀ b ∈ F4 ++ g5 :: G, w.heap.size + 2 ≤ b := h5
  have hg5 : w.heap.size + 2 ≤ g5 := h5 g5 (by simp)
  have hlt5 : g5 < wr.heap.size := own_lt h1 g5 rfl
  have hsz : w.heap.size ≤ wr.heap.size := h.below.size
  have hil : i0.length = i := by
    have := Fd.els_len h2
    have hk : fdResult.k.sz = 1 := rfl
    rw [hk, Nat.mul_one, List.length_take] at this
    omega
  have hl1 : i1.length = m.f5.length - i := by
    have := h3.1
    rw [List.length_drop, Nat.mul_one] at this
    exact this
  match i1, hl1 with
  | [], hl1 => simp at hl1; omega
  | u :: i1', hl1 =>
  have K0 : Keeps [g5] wr (w1.setCell ⟨g5, i, none⟩ v) := (Keeps.of_below hb [g5]).setCell (.inl (by simp)) v
  have own1 : w1.ownsRow 0 145 1 (.slice (some ⟨g5, 0, none⟩) m.f5.length c5) m.f5.length (i0 ++ u :: i1') := pw_own_below h1 hb
  have own2 := own_setInner own1 i v
  have es : (i0 ++ u :: i1').set i v = (i0 ++ [v]) ++ i1' := by
    rw [List.set_append_right _ _ (by omega), hil, Nat.sub_self, List.set_cons_zero, List.append_assoc, List.singleton_append]
  rw [es] at own2
  have hvlt : ∀ k, v.ownBlock = some k → wr.heap.size ≤ k ∧ k < w1.heap.size := ho.lt
  have hrow : Fd.Row fdRow 148 (w1.setCell ⟨g5, i, none⟩ v) v.ownBlock.toList v (m.f5[i]).f0 := by
    refine ⟨inner, [], ?_, els_fdRow hr, by simp⟩
    refine own_setCell (own_less ho (Nat.zero_le _)) ?_ v
    intro e
    have := hvlt g5 e.symm
    omega
  have hold : ∀ b ∈ F4 ++ G, b ∉ [g5] := by
    intro b hb hx
    simp at hx
    subst hx
    have := List.nodup_append.1 h4
    rcases List.mem_append.1 hb with hb | hb
    · exact this.2.2 b hb b (by simp) rfl
    · exact (List.nodup_cons.1 this.2.1).1 hb
  have e1 : m.f5.take (i + 1) = m.f5.take i ++ [m.f5[i]] := List.take_succ_eq_append_getElem hi
  refine ⟨(h.below.trans (hb.mono hsz)).setCell (by show w.heap.size ≤ g5; omega) v, K0.blk h.box (by simp; omega), K0.blk h.res (by simp; omega), Fd.row_keeps h.ops K0 (fun b hb => hold b (List.mem_append_left _ hb)), i0 ++ [v], i1', G ++ v.ownBlock.toList, own2, ?_, ?_, ?_, ?_⟩
  · rw [e1]
    refine Fd.els_append (Fd.els_move (fun b hb => K0.block b (Fd.els_lt h2 b hb) (hold b (List.mem_append_right _ hb))) h2) (Fd.els_one ⟨v, rfl, hrow⟩)
  · refine ⟨by rw [List.length_drop]; simp at hl1; omega, fun j p hj => ?_⟩
    have := h3.2 (j + 1) p (by rw [List.getElem?_drop] at hj ⊢; rw [← hj]; congr 1; omega)
    simpa [Nat.mul_one] using this
  · show (F4 ++ g5 :: (G ++ v.ownBlock.toList)).Nodup
    rw [show F4 ++ g5 :: (G ++ v.ownBlock.toList) = (F4 ++ g5 :: G) ++ v.ownBlock.toList by simp]
    refine List.nodup_append.2 ⟨h4, by cases v.ownBlock <;> simp, ?_⟩
    intro a ha b hb e
    have h6 := hvlt b (by simpa using hb)
    have h7 : a < wr.heap.size := by
      rcases List.mem_append.1 ha with ha | ha
      · exact Fd.row_lt h.ops a ha
      · rcases List.mem_cons.1 ha with ha | ha
        · omega
        · exact Fd.els_lt h2 a ha
    omega
  · intro b hb
    replace hb : b ∈ F4 ++ g5 :: (G ++ v.ownBlock.toList) := hb
    rw [show F4 ++ g5 :: (G ++ v.ownBlock.toList) = (F4 ++ g5 :: G) ++ v.ownBlock.toList by simp] at hb
    rcases List.mem_append.1 hb with hb | hb
    · exact h5 b hb
    · have h6 := hvlt b (by simpa using hb)
      have : w.heap.size + 1 < wr.heap.size := blk_lt h.res
      omega

set_option maxHeartbeats 3200000 in
set_option maxRecDepth 100000 in
/-- bags.like: a message in memory of its own. -/
theorem like_calls (w : World) (m : MsgT) (A4 : Option Addr) (c4 : Nat) (A5 : Option Addr) (c5 : Nat) (hc4 : m.f4.length ≤ c4) (h4 : k82.C w A4 m.f4.length m.f4) (hc5 : m.f5.length ≤ c5) (h5 : k145.C w A5 m.f5.length m.f5) (hB : msgB m) :
    Calls Tryz.prog 67 #[.agg (msgCells m (.slice A4 m.f4.length c4) (.slice A5 m.f5.length c5))] w fun e w' => ∃ cs F, e = .returned (.agg cs) ∧ fdMsg.M w' F m cs.toList ∧ F.Nodup ∧ (∀ b ∈ F, w.heap.size ≤ b) ∧ Below w.heap.size w w' := by
  have hu := Tryz.underlying50
  have H4 := Aside0.mk h4
  have H5 := Aside0.mk h5
  have HB := Aside0.mk hB
  have HC5 := Aside0.mk hc5
  clear h4 h5 hB hc5
  unfold msgCells
  go_enter Tryz.func67, Tryz.ntmps67
  go_wp2_with fail
  refine (cloneOps_calls w _ (below_alloc (below_alloc (Below.refl w.heap.size w) _) _) A4 c4 m.f4 H4.out hc4 (by have := HB.out.1; omega)).mono ?_
  rintro e w3 ⟨v4, inner4, rfl, ho4, hr4, hb3⟩
  have hW2 : (World.alloc (World.alloc w (.cells #[.int .u8 m.f0, .int .u8 m.f1, .int .u8 m.f2, .int .u32 m.f3, .slice A4 m.f4.length c4, .slice A5 m.f5.length c5] 50)) (.cells #[.int .u8 0, .int .u8 0, .int .u8 0, .int .u32 0, .slice none 0 0, .slice none 0 0] 50)).heap.size = w.heap.size + 2 := by
    show ((w.heap.push _).push _).size = _
    simp
  have bB := blk_below (blk_alloc (blk_new w (.cells #[.int .u8 m.f0, .int .u8 m.f1, .int .u8 m.f2, .int .u32 m.f3, .slice A4 m.f4.length c4, .slice A5 m.f5.length c5] 50)) (.cells #[.int .u8 0, .int .u8 0, .int .u8 0, .int .u32 0, .slice none 0 0, .slice none 0 0] 50)) hb3
  have bR := blk_below (blk_new (w.alloc (.cells #[.int .u8 m.f0, .int .u8 m.f1, .int .u8 m.f2, .int .u32 m.f3, .slice A4 m.f4.length c4, .slice A5 m.f5.length c5] 50)) (.cells #[.int .u8 0, .int .u8 0, .int .u8 0, .int .u32 0, .slice none 0 0, .slice none 0 0] 50)) hb3
  rw [alloc_size'] at bR
  have b3 := Aside0.mk (below_step (below_alloc (below_alloc (Below.refl w.heap.size w) _) _) hb3)
  rw [hW2] at ho4
  have r4 : Fd.Row fdOp 82 w3 v4.ownBlock.toList v4 m.f4 := ⟨inner4, [], own_less ho4 (Nat.zero_le _), els_fdOp hr4, by simp⟩
  have l4 : ∀ k, v4.ownBlock = some k → w.heap.size + 2 ≤ k := fun k hk => (ho4.lt k hk).1
  obtain ⟨B4, d4, rfl⟩ := own_slice ho4
  clear hW2 hb3 ho4 hr4 inner4
  obtain ⟨⟨_, _, _, _, q4, q5⟩, _, _, _, _, g4, _⟩ := blk6 bB
  have BB := Aside0.mk (blk_put bB 4 (.slice B4 m.f4.length d4) (cs' := msgCells m (.slice B4 m.f4.length d4) (.slice A5 m.f5.length c5)) rfl)
  have BR := Aside0.mk (blk_far bR (p := ⟨w.heap.size, 4, none⟩) (by simp) (.slice B4 m.f4.length d4))
  have R4 := Aside0.mk (Fd.row_keeps r4 ((Keeps.refl [w.heap.size] w3).setCell (p := ⟨w.heap.size, 4, none⟩) (.inl (by simp)) (.slice B4 m.f4.length d4)) (fun b hb hx => by
    have := l4 b (by simpa using hb)
    simp at hx
    omega))
  have L4 := Aside0.mk l4
  have B3 := Aside0.mk (b3.out.setCell (p := ⟨w.heap.size, 4, none⟩) (Nat.le_refl _) (.slice B4 m.f4.length d4))
  clear bB bR r4 l4 b3
  go_wp2_with fail
  clear q4 q5 g4
  refine (cloneResults_calls w _ B3.out A5 c5 m.f5 H5.out HC5.out (by have := HB.out.2.1; omega)).mono ?_
  rintro e w4 ⟨v5, inner5, rfl, ho5, hr5, hb4⟩
  have bB := blk_below BB.out hb4
  have s3 : w.heap.size + 1 < (w3.setCell ⟨w.heap.size, 4, none⟩ (.slice B4 m.f4.length d4)).heap.size := blk_lt BR.out
  have l5 : ∀ k, v5.ownBlock = some k → w.heap.size + 2 ≤ k := fun k hk => by have := (ho5.lt k hk).1; omega
  have n5 : ∀ k, v5.ownBlock = some k → ∀ b ∈ (Value.slice B4 m.f4.length d4).ownBlock.toList, b ≠ k := fun k hk b hb e => by
    have := (ho5.lt k hk).1
    have := Fd.row_lt R4.out b hb
    omega
  have ho5' := own_less ho5 (Nat.zero_le _)
  have start : ∀ B5 d5, v5 = .slice B5 m.f5.length d5 → LikeAt w (w4.setCell ⟨w.heap.size, 5, none⟩ v5) m B4 d4 (Value.slice B4 m.f4.length d4).ownBlock.toList B5 d5 0 := by
    rintro B5 d5 rfl
    have K5 : Keeps [w.heap.size] w4 (w4.setCell ⟨w.heap.size, 5, none⟩ (.slice B5 m.f5.length d5)) := (Keeps.refl [w.heap.size] w4).setCell (p := ⟨w.heap.size, 5, none⟩) (.inl (by simp)) _
    refine ⟨(below_step B3.out hb4).setCell (p := ⟨w.heap.size, 5, none⟩) (Nat.le_refl _) _, blk_put bB 5 _ rfl, blk_far (blk_below BR.out hb4) (p := ⟨w.heap.size, 5, none⟩) (by simp) _, Fd.row_keeps (Fd.row_below R4.out hb4) K5 (fun b hb hx => ?_), [], inner5, [], ?_, ⟨rfl, rfl⟩, hr5, ?_, ?_⟩
    · have := L4.out b (by simpa using hb)
      simp at hx
      omega
    · refine own_setCell ho5' (fun e => ?_) _
      have := l5 _ e.symm
      simp at this
      omega
    · rw [List.append_nil]
      refine List.nodup_append.2 ⟨by cases (Value.slice B4 m.f4.length d4).ownBlock <;> simp, by cases (Value.slice B5 m.f5.length d5).ownBlock <;> simp, fun a ha b hb e => ?_⟩
      exact n5 b (by simpa using hb) a ha e
    · intro b hb
      rcases List.mem_append.1 hb with hb | hb
      · exact L4.out b (by simpa using hb)
      · exact l5 b (by simpa using hb)
  obtain ⟨B5, d5, rfl⟩ := own_slice ho5
  have ST := Aside0.mk (start B5 d5 rfl)
  obtain ⟨⟨_, _, _, _, _, q5⟩, _, _, _, _, _, g5⟩ := blk6 bB
  clear start l5 n5 ho5 ho5' hr5 bB inner5 hb4 s3 B3 L4 R4 BB BR
  go_wp2
  go_loopw [16] (fun i wr => ∃ k : Nat, k ≤ m.f5.length ∧ i = .int .i64 k ∧ Aside0 (LikeAt w wr m B4 d4 (Value.slice B4 m.f4.length d4).ownBlock.toList B5 d5 k)) (fun i _ => m.f5.length - (intOf i).toNat)
  case atStart => exact ⟨0, Nat.zero_le _, rfl, ST⟩
  case round =>
    obtain ⟨k, hk, rfl, HL⟩ := hrel
    clear ST q5 g5
    have hn := HB.out.2.1
    by_cases hlt : k < m.f5.length
    · have hlt' : (k : Int) < (m.f5.length : Int) := by omega
      obtain ⟨g5, hg5, A', c', hl', hC', q, f, hbx, hfx⟩ := HL.out.next hlt
      subst hg5
      have HC' := Aside0.mk hC'
      have hr5 := HB.out.2.2 (m.f5[k]) (List.getElem_mem _)
      have e1 : IntKind.i64.wrap ((k : Int) + 1) = (k : Int) + 1 := IntWalk.i64_in _ (by omega)
      have hz0 : w.heap.size < wr.heap.size := blk_lt HL.out.box
      have hz5 : g5 < wr.heap.size := World.block_lt_of_cell? wr _ q
      clear hC' hn
      go_wp2_with fail
      go_region_with (first
        | (go_at_call 162
           refine (cloneRows_calls w _ (below_drew1 (below_alloc HL.out.below _)) A' c' (m.f5[k]).f0 HC'.out hl' (by omega)).mono ?_
           rintro e w5 ⟨v, inner, rfl, ho, hr, hb⟩
           have hb5 := Aside0.mk (below_step (below_drew1 (below_alloc (Below.refl wr.heap.size wr) (.cells #[.slice A' (m.f5[k]).f0.length c'] 145))) hb)
           have HO := Aside0.mk (own_less (b := wr.heap.size + 1) (base := wr.heap.size) (by rw [show wr.heap.size + 1 = (wr.alloc (.cells #[.slice A' (m.f5[k]).f0.length c'] 145)).drew.heap.size from (alloc_size' wr _).symm]; exact ho) (Nat.le_succ _))
           have HR := Aside0.mk hr
           have q1 := cell_later hb5.out q
           have f1 := (hb5.out.frozen (p := ⟨g5, k, none⟩) (World.block_lt_of_cell? wr _ q)).trans f
           have q2 := cell_later hb5.out hbx
           clear ho hr hb
           obtain ⟨Av, cv, rfl⟩ := own_slice HO.out))
      all_goals
        go_wp2
        go_roundw
        case rel => exact ⟨k + 1, by omega, by go_num, ⟨HL.out.step hlt hb5.out HO.out HR.out⟩⟩
        case measure => simp [intOf]; omega
    · obtain ⟨i0, i1, G, h1, h2, h3, h4, h5⟩ := HL.out.rows
      have hkn : k = m.f5.length := by omega
      have bx := HL.out.box
      unfold msgCells at bx
      obtain ⟨⟨q0, q1, q2, q3, q4, q5⟩, _⟩ := blk6 bx
      have br := HL.out.res
      obtain ⟨⟨z0, z1, z2, z3, z4, z5⟩, p0, p1, p2, p3, p4, p5⟩ := blk6 br
      have fin : ∀ W, Keeps [w.heap.size + 1] wr W → fdMsg.M W ((Value.slice B4 m.f4.length d4).ownBlock.toList ++ ((Value.slice B5 m.f5.length d5).ownBlock.toList ++ G)) m (msgCells m (.slice B4 m.f4.length d4) (.slice B5 m.f5.length d5)).toList ∧ Below w.heap.size w W := by
        intro W hK
        have hfar : ∀ b ∈ (Value.slice B4 m.f4.length d4).ownBlock.toList ++ ((Value.slice B5 m.f5.length d5).ownBlock.toList ++ G), b ∉ [w.heap.size + 1] := fun b hb hx => by
          have := h5 b hb
          simp at hx
          omega
        refine ⟨⟨_, _, _, _, rfl, rfl, Fd.row_keeps HL.out.ops hK (fun b hb => hfar b (List.mem_append_left _ hb)), ?_⟩, HL.out.below.trans (hK.below (fun x hx => by simp at hx; omega) (by have := HL.out.below.size; omega))⟩
        rw [hkn, List.take_length] at h2
        rw [hkn, List.drop_length] at h3
        have h6 : i1 = [] := List.eq_nil_of_length_eq_zero (by simpa using h3.1)
        subst h6
        rw [List.append_nil] at h1
        exact Fd.row_keeps ⟨i0, G, h1, h2, rfl⟩ hK (fun b hb => hfar b (List.mem_append_right _ hb))
      have FIN := Aside0.mk fin
      have H45 := Aside0.mk (And.intro h4 h5)
      have BR := Aside0.mk br
      clear fin h1 h2 h3 h4 h5 bx br
      have hn' : ¬ ((k : Int) < (m.f5.length : Int)) := by omega
      clear hkn
      go_wp2
      try simp only [Exit.inBlock, Exit.then]
      refine bodyPost_ret (results_cell_row rfl _ _ (w.heap.size + 1) 50 (msgCells m (.slice B4 m.f4.length d4) (.slice B5 m.f5.length d5)) (0, 0) _ rfl (blk_put (cs := #[.int .u8 m.f0, .int .u8 m.f1, .int .u8 m.f2, .int .u32 m.f3, .slice B4 m.f4.length d4, .slice none 0 0]) (blk_put (cs := #[.int .u8 m.f0, .int .u8 m.f1, .int .u8 m.f2, .int .u32 m.f3, .slice none 0 0, .slice none 0 0]) (blk_put (cs := #[.int .u8 m.f0, .int .u8 m.f1, .int .u8 m.f2, .int .u32 0, .slice none 0 0, .slice none 0 0]) (blk_put (cs := #[.int .u8 m.f0, .int .u8 m.f1, .int .u8 0, .int .u32 0, .slice none 0 0, .slice none 0 0]) (blk_put (cs := #[.int .u8 m.f0, .int .u8 0, .int .u8 0, .int .u32 0, .slice none 0 0, .slice none 0 0]) (blk_put BR.out 0 _ rfl) 1 _ rfl) 2 _ rfl) 3 _ rfl) 4 _ rfl) 5 _ rfl) hu rfl (by kernel_rfl)) rfl ?_
      have hf := FIN.out _ ((((((((Keeps.refl [w.heap.size + 1] wr).setCell (p := ⟨w.heap.size + 1, 0, none⟩) (.inl (by simp)) (.int .u8 m.f0)).setCell (p := ⟨w.heap.size + 1, 1, none⟩) (.inl (by simp)) (.int .u8 m.f1)).setCell (p := ⟨w.heap.size + 1, 2, none⟩) (.inl (by simp)) (.int .u8 m.f2)).setCell (p := ⟨w.heap.size + 1, 3, none⟩) (.inl (by simp)) (.int .u32 m.f3)).setCell (p := ⟨w.heap.size + 1, 4, none⟩) (.inl (by simp)) (.slice B4 m.f4.length d4)).setCell (p := ⟨w.heap.size + 1, 5, none⟩) (.inl (by simp)) (.slice B5 m.f5.length d5)))
      exact ⟨_, rfl, _, hf.1, H45.out.1, fun b hb => by have := H45.out.2 b hb; omega, hf.2⟩

end Go.Proofs.YtcohodkpppmaoaaGreatDoor.Q
namespace Go.Proofs.YtcohodkpppmaoaaGreatDoor.Q
open Go.RowKit Go.Proofs.YtcohodkpppmaoaaGreatDoorW.PrintWords Go.Proofs.YtcohodkpppmaoaaGreatDoorW.PrintLast Go.Proofs.YtcohodkpppmaoaaGreatDoorW.PrintMore

abbrev OpT := S82
abbrev RowT := S148
abbrev ResultT := S145

def num2 (n : Int) : List Int := [n / 256 % 256, n % 256]
def num4 (n : Int) : List Int := [n / 16777216 % 256, n / 65536 % 256, n / 256 % 256, n % 256]
def textB (s : ByteArray) : List Int := ((s.size : Int) % 256) :: bytesOf s
def rowB (x : RowT) : List Int := textB x.f0 ++ num4 x.f1
def rowsB (l : List RowT) : List Int := num2 l.length ++ l.flatMap rowB
def resultB (x : ResultT) : List Int := rowsB x.f0
def mayRows (l : List RowT) : Bool := l.all (fun r => isKey r.f0)
def opB (x : OpT) : List Int := [x.f0] ++ textB x.f1 ++ textB x.f2 ++ num4 x.f3
def mayOp (x : OpT) : Bool :=
  isKey x.f1 && decide (1 ≤ x.f0) && decide (x.f0 ≤ 4) && (if x.f0 = 4 then isKey x.f2 else x.f2.size == 0) && (x.f3 == 0 || x.f0 == 2)

/-- A list, its parts put behind its count; what may not be, what is too much. -/
def putList {α : Type} (may : α → Int) (most : Nat) (one : α → List Int) (l : List α) : List Int × Int :=
  if l.any (fun x => may x == 1) then ([], 1)
  else if l.any (fun x => may x == 3) || decide (most < l.length) then ([], 3)
  else (num2 l.length ++ l.flatMap one, 0)

def opE (x : OpT) : Int := if mayOp x then 0 else 1
def resultE (x : ResultT) : Int := if mayRows x.f0 then (if x.f0.length ≤ 256 then 0 else 3) else 1

def putOps (l : List OpT) : List Int × Int := putList opE 16 opB l
def putResults (l : List ResultT) : List Int × Int := putList resultE 16 resultB l

def u32Ok (n : Int) : Prop := 0 ≤ n ∧ n ≤ 4294967295
def u8Ok (n : Int) : Prop := 0 ≤ n ∧ n ≤ 255
def rowOk (x : RowT) : Prop := u32Ok x.f1
def opOk (x : OpT) : Prop := u8Ok x.f0 ∧ u32Ok x.f3

end Go.Proofs.YtcohodkpppmaoaaGreatDoor.Q
namespace Go.Proofs.YtcohodkpppmaoaaGreatDoor.Q
open Go.RowKit Go.Proofs.YtcohodkpppmaoaaGreatDoorW.PrintWords Go.Proofs.YtcohodkpppmaoaaGreatDoorW.PrintLast Go.Proofs.YtcohodkpppmaoaaGreatDoorW.PrintMore
set_option linter.unusedVariables false
def mkRow (n : Int) : RowT' := ⟨wordOf n, 0⟩
def mkOp (n : Int) : OpT' := ⟨0, wordOf n, ⟨#[]⟩, 0⟩
def mkMsg (n : Int) : MsgT := ⟨200, 0, 0, n % 4294967296, [], []⟩
def mkResult (n : Int) : ResT' := ⟨[⟨wordOf n, 0⟩]⟩
theorem word_f {n : Int} (h0 : 0 ≤ n) (h1 : n ≤ 1000000000000000) : concordatlaw01_word.f n = some (wordOf n) := if_pos ⟨h0, h1⟩
section
variable {n : Int} {w w' : World}
theorem M_row (w : World) (n : Int) : fdRow.M w [] (mkRow n) [.string (wordOf n), .int .u32 0] := ⟨rfl, k148_mk w (mkRow n)⟩
theorem M_op (w : World) (n : Int) : fdOp.M w [] (mkOp n) [.int .u8 0, .string (wordOf n), .string ⟨#[]⟩, .int .u32 0] := ⟨rfl, k82_mk w (mkOp n)⟩
theorem M_msg (w : World) (n : Int) : fdMsg.M w [] (mkMsg n) [.int .u8 200, .int .u8 0, .int .u8 0, .int .u32 (n % 4294967296), .slice none 0 0, .slice none 0 0] :=
  ⟨_, _, [], [], rfl, rfl, Fd.row_nil _ _ _, Fd.row_nil _ _ _⟩
theorem M_result {b : Nat} (hb : w.heap[b]? = some (.cells #[.string (wordOf n), .int .u32 0] 148 (0, 0))) : fdResult.M w [b] (mkResult n) [.slice (some ⟨b, 0, none⟩) 1 1] := by
  refine ⟨_, rfl, [.string (wordOf n), .int .u32 0], [], ⟨rfl, .inr ⟨b, 1, #[.string (wordOf n), .int .u32 0], rfl, Nat.zero_le _, hb, Nat.le_refl _, by decide, rfl, rfl⟩⟩, ?_, rfl⟩
  exact Fd.els_one (F := []) ⟨rfl, k148_mk w (mkRow n)⟩
theorem row_calls (n : Int) (h0 : 0 ≤ n) (h1 : n ≤ 1000000000000000) (w : World) (hT : TabOk w) : Calls Tryz.prog 168 #[.int .i64 n] w fun e w' => e = .returned (.agg #[.string (wordOf n), .int .u32 0]) ∧ Below w.heap.size w w' :=
  concordatlaw01_markRow.calls n (wordOf n) 0 w (by unfold concordatlaw01_markRow.f; rw [word_f h0 h1]; rfl) hT
theorem op_calls (n : Int) (h0 : 0 ≤ n) (h1 : n ≤ 1000000000000000) (w : World) (hT : TabOk w) : Calls Tryz.prog 169 #[.int .i64 n] w fun e w' => e = .returned (.agg #[.int .u8 0, .string (wordOf n), .string ⟨#[]⟩, .int .u32 0]) ∧ Below w.heap.size w w' :=
  concordatlaw01_markOp.calls n 0 (wordOf n) ⟨#[]⟩ 0 w (by unfold concordatlaw01_markOp.f; rw [word_f h0 h1]; rfl) hT
set_option maxRecDepth 100000 in
theorem result_calls (n : Int) (h0 : 0 ≤ n) (h1 : n ≤ 1000000000000000) (w : World) (hT : TabOk w) : Calls Tryz.prog 172 #[.int .i64 n] w fun e w' => ∃ b, e = .returned (.agg #[.slice (some ⟨b, 0, none⟩) 1 1]) ∧ w'.heap[b]? = some (.cells #[.string (wordOf n), .int .u32 0] 148 (0, 0)) ∧ w.heap.size ≤ b ∧ Below w.heap.size w w' := by
  have hu := Tryz.underlying145
  have HT := Aside0.mk hT
  clear hT
  go_enter Tryz.func172, Tryz.ntmps172
  go_wp2_with fail
  have hb := below_alloc (Below.refl w.heap.size w) (.cells #[.slice none 0 0] 145)
  refine (word_calls n h0 h1 _ (TabOk.below HT.out hb)).mono ?_
  rintro e w1 ⟨rfl, hb1⟩
  have X1 := Aside0.mk (blk_below (blk_new w (.cells #[.slice none 0 0] 145)) hb1)
  have B1 := Aside0.mk (below_step hb hb1)
  have c0 := blk_cell X1.out 0
  have f0 := blk_frozen X1.out 0
  have hlt := blk_lt X1.out
  clear hb hb1
  go_wp2
  try simp only [Exit.inBlock, Exit.then]
  have es : (w1.setCell ⟨w.heap.size, 0, none⟩ (.slice (some ⟨w1.heap.size, 0, none⟩) 1 1)).heap.size = w1.heap.size := by simp [World.setCell]
  have X2 := blk_alloc (blk_put (cs' := #[.slice (some ⟨w1.heap.size, 0, none⟩) 1 1]) X1.out 0 (.slice (some ⟨w1.heap.size, 0, none⟩) 1 1) rfl) (.cells #[.string (wordOf n), .int .u32 0] 148)
  have X3 := blk_new (w1.setCell ⟨w.heap.size, 0, none⟩ (.slice (some ⟨w1.heap.size, 0, none⟩) 1 1)) (.cells #[.string (wordOf n), .int .u32 0] 148)
  rw [es] at X3
  refine bodyPost_ret (results_cell_row rfl _ _ w.heap.size 145 #[.slice (some ⟨w1.heap.size, 0, none⟩) 1 1] (0, 0) _ rfl X2 hu rfl (by kernel_rfl)) rfl ?_
  have hbs := B1.out.setCell (p := ⟨w.heap.size, 0, none⟩) (Nat.le_refl _) (.slice (some ⟨w1.heap.size, 0, none⟩) 1 1)
  exact ⟨w1.heap.size, rfl, X3, B1.out.size, hbs.alloc hbs.size _⟩
set_option maxRecDepth 100000 in
theorem msg_calls (n : Int) (w : World) : Calls Tryz.prog 173 #[.int .i64 n] w fun e w' => e = .returned (.agg #[.int .u8 200, .int .u8 0, .int .u8 0, .int .u32 (n % 4294967296), .slice none 0 0, .slice none 0 0]) ∧ Below w.heap.size w w' := by
  have hu := Tryz.underlying50
  have hw : IntKind.u32.wrap n = n % 4294967296 := IntKind.wrap_u32 n
  go_enter Tryz.func173, Tryz.ntmps173
  go_wp2
  try simp only [Exit.inBlock, Exit.then]
  refine bodyPost_ret (results_cell_row rfl _ _ w.heap.size 50 #[.int .u8 200, .int .u8 0, .int .u8 0, .int .u32 (n % 4294967296), .slice none 0 0, .slice none 0 0] (0, 0) _ rfl (blk_new w _) hu rfl (by kernel_rfl)) rfl ?_
  exact ⟨rfl, below_alloc (Below.refl _ _) _⟩
end
end Go.Proofs.YtcohodkpppmaoaaGreatDoor.Q
namespace Go.Proofs.YtcohodkpppmaoaaGreatDoor.Q
open Go.RowKit Go.Proofs.YtcohodkpppmaoaaGreatDoorW.PrintWords Go.Proofs.YtcohodkpppmaoaaGreatDoorW.PrintLast Go.Proofs.YtcohodkpppmaoaaGreatDoorW.PrintMore
set_option linter.unusedVariables false
set_option maxHeartbeats 6400000 in
set_option maxRecDepth 100000 in
theorem fillRow_calls (w : World) (g : Nat) (bc : Array Value) (hb : w.heap[g]? = some (.cells bc 44 (0, 0))) (V : Value) (hV : bc[5]? = some V) (E : List Ent) (F : List Nat) (HR : Fd.Row (fdA 148 2) 184 w F V E) (hnd : F.Nodup) (hg : g ∉ F)
    (hn : ∀ x ∈ E, 0 ≤ x.num ∧ x.num ≤ 1000000000000000) (w0 : World) (hT : TabOk w0) (hw0 : Below w0.heap.size w0 w) (hF : ∀ b ∈ F, w0.heap.size ≤ b) :
    Calls Tryz.prog 78 #[.pointer (some ⟨g, 0, none⟩)] w fun e w' => e = .returned (.tuple #[]) ∧ ∃ F', Fd.Row (fdB fdRow 148 mkRow) 184 w' F' V E ∧ F'.Nodup ∧ Keeps F w w' ∧ ∀ b ∈ F', b ∈ F ∨ w.heap.size ≤ b := by
  obtain ⟨A1, c1, ev, hc1, hC1⟩ := Fd.row_reads HR
  subst ev
  have hu := Tryz.underlying44
  have huh := Tryz.underlying184
  have hlE : E.length ≤ maxLen := Kd.C_max hC1
  unfold maxLen at hlE
  have HM0 := Aside0.mk (mix_start (dB := fdB fdRow 148 mkRow) (E' := E) HR rfl hnd rfl)
  have HB := Aside0.mk hb
  have HG := Aside0.mk hg
  have HN := Aside0.mk hn
  have HT := Aside0.mk hT
  have HW0 := Aside0.mk hw0
  have HF := Aside0.mk hF
  have q1 : w.cell? ⟨g, 5, none⟩ = some (.slice A1 E.length c1) := by simp [World.cell?, hb, hV]
  clear HR hnd hb hg hn hT hC1 hw0 hF
  go_enter Tryz.func78, Tryz.ntmps78
  go_wp2
  clear q1
  go_loopw [2] (fun i wr => ∃ k : Nat, k ≤ E.length ∧ i = .int .i64 k ∧ Aside0 (Mix (fdB fdRow 148 mkRow) (fdA 148 2) 184 w wr F (.slice A1 E.length c1) E E k)) (fun i _ => E.length - (intOf i).toNat)
  case atStart => exact ⟨0, Nat.zero_le _, rfl, HM0⟩
  case round =>
    clear HM0
    obtain ⟨wq, hwq⟩ : ∃ wq, wq = wr := ⟨_, rfl⟩
    subst hwq
    obtain ⟨k, hk, rfl, HM⟩ := hrel
    have hbr := HM.out.keep.blk HB.out HG.out
    have q1 : wq.cell? ⟨g, 5, none⟩ = some (.slice A1 E.length c1) := by simp [World.cell?, hbr, hV]
    have HBR := Aside0.mk hbr
    clear hbr
    by_cases hlt : k < E.length
    · have hlt' : (k : Int) < (E.length : Int) := by omega
      have hk0 : (0 : Int) ≤ (k : Int) := by omega
      obtain ⟨c0, cs, c2, G0, Gx, G1, gh, cap, ev, ho, hl0, _, hx, _⟩ := HM.out.next rfl hlt
      injection ev with ea _ ec
      subst ea ec
      obtain ⟨x, hxe⟩ : ∃ x, E[k] = x := ⟨_, rfl⟩
      rw [hxe] at hx
      obtain ⟨rfl, hlong, ⟨inner, hox⟩, rfl⟩ := hx
      have hcell : ∀ j u, (entCells x)[j]? = some u → wq.cell? ⟨gh, k * 3 + j, none⟩ = some u := by
        intro j u hu
        have h := ho.cells (g := gh) rfl (k * 3 + j) u (by rw [List.getElem?_append_right (by omega), hl0, Nat.add_sub_cancel_left, List.getElem?_append_left (by exact (List.getElem?_eq_some_iff.1 hu).1)]; exact hu)
        rwa [add_plain] at h
      obtain ⟨Ax, cx, hxv⟩ := own_slice hox
      have d0 := hcell 0 (.slice Ax x.len cx) (by rw [← hxv]; rfl)
      have d1 := hcell 1 (.slice none 0 0) (by rw [← hlong]; rfl)
      have d2 := hcell 2 (.int .i64 x.num) rfl
      rw [Nat.add_zero] at d0
      have hmx : x.len ≤ 9223372036854775807 := by
        rcases hox.2 with ⟨_, h⟩ | ⟨_, _, _, _, _, _, h, h2, _⟩
        · omega
        · unfold maxLen at h2
          omega
      have hnx := HN.out x (hxe ▸ List.getElem_mem hlt)
      obtain ⟨num, hnum⟩ : ∃ num, x.num = num := ⟨_, rfl⟩
      rw [hnum] at d2 hnx
      obtain ⟨hn0, hn1⟩ := hnx
      have HXV := Aside0.mk hxv
      have HXE := Aside0.mk hxe
      have HNU := Aside0.mk hnum
      have HOX := Aside0.mk hox
      have hghl : gh < wq.heap.size := own_lt ho gh rfl
      clear ho hl0 hcell hxe hnum hox hlong
      go_wp2_with fail
      obtain ⟨wo, hwo⟩ : ∃ wo, wo = wq.alloc (.cells #[.slice Ax x.len cx, .slice none 0 0, .int .i64 num] 184) := ⟨_, rfl⟩
      have hbo : Below wq.heap.size wq wo := by rw [hwo]; exact below_alloc (Below.refl _ _) _
      have HBX := Aside0.mk (show wo.heap[wq.heap.size]? = some (.cells #[.slice Ax x.len cx, .slice none 0 0, .int .i64 num] 184 (0, 0)) from by rw [hwo]; exact blk_new wq _)
      have MW := Aside0.mk (HM.out.below hbo)
      have HOO := Aside0.mk (pw_own_below HOX.out hbo)
      have hnb : ∀ b ∈ x.v.ownBlock.toList, b ≠ wq.heap.size := fun b hx => by have := own_lt HOX.out b (by simpa using hx); omega
      have HNB := Aside0.mk hnb
      have HBW := Aside0.mk (HW0.out.trans (MW.out.keep.below HF.out HW0.out.size))
      have HXL := Aside0.mk (show ∀ b ∈ x.v.ownBlock.toList, w0.heap.size ≤ b from fun b hx => by
        obtain ⟨_, _, _, _, Gx, _, _, _, _, _, _, _, hx', _, _, hs⟩ := HM.out.next rfl hlt
        rw [HXE.out] at hx'
        rcases hs b (by rw [hx'.2.2.2]; simp [hx]) with h | h
        · exact HF.out b h
        · exact Nat.le_trans HW0.out.size h)
      have HI0 := Aside0.mk (In.start (d := fdRow) (mk := mkRow x.num) ⟨_, HOO.out⟩)
      rw [← hwo]
      clear hbo hnb HM HOX d0 d1 d2 q1 HBR hghl
      go_loopw [4] (fun i wi => ∃ m : Nat, m ≤ x.len ∧ i = .int .i64 m ∧ Aside0 (In fdRow 148 (mkRow x.num) wo wi x m)) (fun i _ => x.len - (intOf i).toNat)
      case atStart => exact ⟨0, Nat.zero_le _, rfl, HI0⟩
      case round =>
        clear HI0
        obtain ⟨m, hm, rfl, HI⟩ := hrel
        have hbx := HI.out.keep.blk HBX.out (fun hx => HNB.out _ hx rfl)
        have hBX := Aside0.mk hbx
        have b0 := blk_cell hbx 0
        have b2 := blk_cell hbx 2
        have HBI := Aside0.mk (HBW.out.trans (HI.out.keep.below HXL.out HBW.out.size))
        by_cases hml : m < x.len
        · have hml' : (m : Int) < (x.len : Int) := by omega
          have hm0 : (0 : Int) ≤ (m : Int) := by omega
          obtain ⟨gx, capx, evx⟩ := HI.out.slice hml
          have ex := HXV.out.symm.trans evx
          injection ex with ex1 _ ex2
          subst ex1 ex2
          have hne : gx ≠ wq.heap.size := fun e => HNB.out gx (by rw [HXV.out]; simp [Value.ownBlock]) e
          obtain ⟨hgx, _⟩ := HI.out.cells HXV.out hml
          have hbxl : wq.heap.size < wr.heap.size := blk_lt hbx
          have hd1 := below_drew (Below.refl wr.heap.size wr)
          have HD1 := Aside0.mk hd1
          have HBD := Aside0.mk (HBI.out.trans (Below.mono hd1 HBI.out.size))
          have HS0 := Aside0.mk (show wr.drew.cell? ⟨wq.heap.size, 0, none⟩ = some (.slice (some ⟨gx, 0, none⟩) x.len cx) ∧ wr.drew.cell? ⟨wq.heap.size, 2, none⟩ = some (.int .i64 num) from ⟨(hd1.cell hbxl).trans (blk_cell hbx 0), (hd1.cell hbxl).trans (blk_cell hbx 2)⟩)
          clear hd1 evx
          go_wp2_with fail
          first | (go_region_held3 (fun w' : World => w'.cell? ⟨wq.heap.size, 0, none⟩ = some (.slice (some ⟨gx, 0, none⟩) x.len cx) ∧ w'.cell? ⟨wq.heap.size, 2, none⟩ = some (.int .i64 num)) (first | with_reducible exact HS0.out | with_reducible exact HS1.out | with_reducible exact HS2.out) (
            (go_at_call 168
             refine (row_calls num hn0 hn1 _ (TabOk.below HT.out HBD.out)).mono ?_
             rintro e w1 ⟨rfl, hb1⟩
             have hb2 : Below wr.heap.size wr w1 := below_step HD1.out hb1
             have HI1 := Aside0.mk (HI.out.below hb2)
             have HB2 := Aside0.mk hb2
             obtain ⟨hgx1, us, husl, hus⟩ := HI1.out.cells HXV.out hml
             rw [show (fdRow).k.sz = 2 from rfl] at husl
             obtain ⟨u0, y0⟩ : ∃ u, us[0]? = some u := ⟨_, List.getElem?_eq_getElem (by rw [husl]; decide)⟩
             have y0a : w1.cell? ⟨gx, m * 2, none⟩ = some u0 := (hus 0 u0 y0).1
             have y0b : w1.frozen? ⟨gx, m * 2, none⟩ = false := (hus 0 u0 y0).2
             obtain ⟨u1, y1⟩ : ∃ u, us[1]? = some u := ⟨_, List.getElem?_eq_getElem (by rw [husl]; decide)⟩
             have y1a : w1.cell? ⟨gx, m * 2 + 1, none⟩ = some u1 := (hus 1 u1 y1).1
             have y1b : w1.frozen? ⟨gx, m * 2 + 1, none⟩ = false := (hus 1 u1 y1).2
             have HS1 := Aside0.mk (show w1.cell? ⟨wq.heap.size, 0, none⟩ = some (.slice (some ⟨gx, 0, none⟩) x.len cx) ∧ w1.cell? ⟨wq.heap.size, 2, none⟩ = some (.int .i64 num) from ⟨(hb1.cell hbxl).trans HS0.out.1, (hb1.cell hbxl).trans HS0.out.2⟩)
             have HM1 := Aside0.mk (show fdRow.M w1 [] (mkRow x.num) [.string (wordOf num), .int .u32 0] from by rw [HNU.out]; exact M_row _ num)
             have hkc := keeps_chunk (g := gx) (F := [gx]) (by simp) [.string (wordOf num), .int .u32 0] (o := m * 2) (Keeps.refl [gx] w1)
             simp only [chunk, Nat.add_assoc, Nat.reduceAdd] at hkc
             have hx1 : wq.heap.size < w1.heap.size := Nat.lt_of_lt_of_le hbxl hb2.size
             have hh2 : (((w1).setCell ⟨gx, m * 2, none⟩ (.string (wordOf num))).setCell ⟨gx, m * 2 + 1, none⟩ (.int .u32 0)).cell? ⟨wq.heap.size, 0, none⟩ = some (.slice (some ⟨gx, 0, none⟩) x.len cx) ∧ (((w1).setCell ⟨gx, m * 2, none⟩ (.string (wordOf num))).setCell ⟨gx, m * 2 + 1, none⟩ (.int .u32 0)).cell? ⟨wq.heap.size, 2, none⟩ = some (.int .i64 num) :=
               ⟨(World.cell?_of_block (w := w1) (hkc.block _ hx1 (by simpa using hne.symm))).trans HS1.out.1, (World.cell?_of_block (w := w1) (hkc.block _ hx1 (by simpa using hne.symm))).trans HS1.out.2⟩
             have HS2 := Aside0.mk hh2
             have hi2 := HI.out.step hb2 HXV.out hml HM1.out (by simp) (fun _ h => by cases h)
             rw [show m * (fdRow).k.sz = m * 2 from rfl] at hi2
             simp only [chunk, Nat.add_assoc, Nat.reduceAdd] at hi2
             have HI2 := Aside0.mk (show In fdRow 148 (mkRow x.num) wo (((w1).setCell ⟨gx, m * 2, none⟩ (.string (wordOf num))).setCell ⟨gx, m * 2 + 1, none⟩ (.int .u32 0)) x (m + 1) from hi2)
             clear hh2 hi2
             clear hb1 hb2 hkc hx1 hus husl))) | fail "held3"
          all_goals
            go_wp2
            refine ⟨⟨m + 1, by omega, by first | rfl | simp, HI2⟩, ?_⟩
            try simp only [intOf]
            omega
        · go_wp2
          obtain rfl : m = x.len := by omega
          refine ⟨⟨k + 1, by omega, by first | rfl | simp, Aside0.mk (mix_in rfl MW.out hlt HXE.out HI.out)⟩, ?_⟩
          try simp only [intOf]
          omega
    · go_wp2
      go_end0
      obtain rfl : k = E.length := by omega
      exact ⟨rfl, mix_done HM.out rfl⟩
end Go.Proofs.YtcohodkpppmaoaaGreatDoor.Q
namespace Go.Proofs.YtcohodkpppmaoaaGreatDoor.Q
open Go.RowKit Go.Proofs.YtcohodkpppmaoaaGreatDoorW.PrintWords Go.Proofs.YtcohodkpppmaoaaGreatDoorW.PrintLast Go.Proofs.YtcohodkpppmaoaaGreatDoorW.PrintMore
set_option linter.unusedVariables false
theorem infoElRow : (Tryz.prog.info? 148).map (fun i => (i.zero, i.size, i.bytes)) = some (some (.agg #[.string ⟨#[]⟩, .int .u32 0]), 2, 24) := by kernel_rfl
set_option maxHeartbeats 6400000 in
set_option maxRecDepth 100000 in
theorem growRow_calls (w : World) (g : Nat) (bc : Array Value) (hb : w.heap[g]? = some (.cells bc 44 (0, 0))) (V : Value) (hV : bc[5]? = some V) (E : List Ent) (F : List Nat) (HR : Fd.Row (fdB fdRow 148 mkRow) 184 w F V E) (hnd : F.Nodup) (hg : g ∉ F)
    (hn : ∀ x ∈ E, (0 ≤ x.num ∧ x.num ≤ 1000000000000000) ∧ x.len ≤ 1000000000) (w0 : World) (hT : TabOk w0) (hw0 : Below w0.heap.size w0 w) (hF : ∀ b ∈ F, w0.heap.size ≤ b) :
    Calls Tryz.prog 90 #[.pointer (some ⟨g, 0, none⟩)] w fun e w' => e = .returned (.tuple #[]) ∧ ∃ F', Fd.Row (fdC fdRow.k mkRow) 184 w' F' V E ∧ F'.Nodup ∧ Keeps F w w' ∧ ∀ b ∈ F', b ∈ F ∨ w.heap.size ≤ b := by
  obtain ⟨A1, c1, ev, hc1, hC1⟩ := Fd.row_reads HR
  subst ev
  have hu := Tryz.underlying44
  have huh := Tryz.underlying184
  have hlE : E.length ≤ maxLen := Kd.C_max hC1
  unfold maxLen at hlE
  have HM0 := Aside0.mk (mix_start (dB := fdC fdRow.k mkRow) (E' := E) HR rfl hnd rfl)
  have HB := Aside0.mk hb
  have HG := Aside0.mk hg
  have HN := Aside0.mk hn
  have HT := Aside0.mk hT
  have HW0 := Aside0.mk hw0
  have HF := Aside0.mk hF
  have q1 : w.cell? ⟨g, 5, none⟩ = some (.slice A1 E.length c1) := by simp [World.cell?, hb, hV]
  clear HR hnd hb hg hn hT hC1 hw0 hF
  go_enter Tryz.func90, Tryz.ntmps90
  go_wp2
  clear q1
  go_loopw [2] (fun i wr => ∃ k : Nat, k ≤ E.length ∧ i = .int .i64 k ∧ Aside0 (Mix (fdC fdRow.k mkRow) (fdB fdRow 148 mkRow) 184 w wr F (.slice A1 E.length c1) E E k)) (fun i _ => E.length - (intOf i).toNat)
  case atStart => exact ⟨0, Nat.zero_le _, rfl, HM0⟩
  case round =>
    clear HM0
    obtain ⟨wq, hwq⟩ : ∃ wq, wq = wr := ⟨_, rfl⟩
    subst hwq
    obtain ⟨k, hk, rfl, HM⟩ := hrel
    have hbr := HM.out.keep.blk HB.out HG.out
    have q1 : wq.cell? ⟨g, 5, none⟩ = some (.slice A1 E.length c1) := by simp [World.cell?, hbr, hV]
    have HBR := Aside0.mk hbr
    clear hbr
    by_cases hlt : k < E.length
    · have hlt' : (k : Int) < (E.length : Int) := by omega
      have hk0 : (0 : Int) ≤ (k : Int) := by omega
      obtain ⟨c0, cs, c2, G0, Gx, G1, gh, cap, ev, ho, hl0, he0, hx, he1, hnd', hsb'⟩ := HM.out.next rfl hlt
      injection ev with ea _ ec
      subst ea ec
      obtain ⟨x, hxe⟩ : ∃ x, E[k] = x := ⟨_, rfl⟩
      rw [hxe] at hx
      have hxM := hx
      obtain ⟨rfl, hlong, hrx⟩ := hx
      have hcell : ∀ j u, (entCells x)[j]? = some u → wq.cell? ⟨gh, k * 3 + j, none⟩ = some u := by
        intro j u hu
        have h := ho.cells (g := gh) rfl (k * 3 + j) u (by rw [List.getElem?_append_right (by omega), hl0, Nat.add_sub_cancel_left, List.getElem?_append_left (by exact (List.getElem?_eq_some_iff.1 hu).1)]; exact hu)
        rwa [add_plain] at h
      obtain ⟨Ax, cx, hxv, _, _⟩ := Fd.row_reads hrx
      rw [List.length_replicate] at hxv
      have d0 := hcell 0 (.slice Ax x.len cx) (by rw [← hxv]; rfl)
      have d1 := hcell 1 (.slice none 0 0) (by rw [← hlong]; rfl)
      have d2 := hcell 2 (.int .i64 x.num) rfl
      rw [Nat.add_zero] at d0
      have hnx := HN.out x (hxe ▸ List.getElem_mem hlt)
      obtain ⟨num, hnum⟩ : ∃ num, x.num = num := ⟨_, rfl⟩
      rw [hnum] at d2 hnx
      obtain ⟨⟨hn0, hn1⟩, hxn⟩ := hnx
      have HXV := Aside0.mk hxv
      have HXE := Aside0.mk hxe
      have HNU := Aside0.mk hnum
      have hghl : gh < wq.heap.size := own_lt ho gh rfl
      clear hcell hxe hnum hrx hlong
      go_wp2_with fail
      obtain ⟨wo, hwo⟩ : ∃ wo, wo = wq.alloc (.cells #[.slice Ax x.len cx, .slice none 0 0, .int .i64 num] 184) := ⟨_, rfl⟩
      have hbo : Below wq.heap.size wq wo := by rw [hwo]; exact below_alloc (Below.refl _ _) _
      have HBX := Aside0.mk (show wo.heap[wq.heap.size]? = some (.cells #[.slice Ax x.len cx, .slice none 0 0, .int .i64 num] 184 (0, 0)) from by rw [hwo]; exact blk_new wq _)
      have MW := Aside0.mk (HM.out.below hbo)
      have ho' := own_move ho (fun b hb => hbo.block b (own_lt ho b hb))
      have e0' := Fd.els_move (fun b hx => hbo.block b (Fd.els_lt he0 b hx)) he0
      have e1' := Fd.els_move (fun b hx => hbo.block b (Fd.els_lt he1 b hx)) he1
      have hGx := (fdB fdRow 148 mkRow).lt hxM
      have hx' := (fdB fdRow 148 mkRow).move (fun b hx => hbo.block b (hGx b hx)) hxM
      have hndx : Gx.Nodup := (List.nodup_append.1 (List.nodup_append.1 (List.nodup_append.1 hnd').2.1).2.1).1
      have HO' := Aside0.mk ho'
      have HL' := Aside0.mk hl0
      have HE0 := Aside0.mk e0'
      have HX' := Aside0.mk hx'
      have HE1 := Aside0.mk e1'
      have HND := Aside0.mk hnd'
      have HSB := Aside0.mk hsb'
      have HBW := Aside0.mk (HW0.out.trans (MW.out.keep.below HF.out HW0.out.size))
      have HXL := Aside0.mk (show ∀ b ∈ Gx, w0.heap.size ≤ b from fun b hx => by
        rcases hsb' b (by simp [hx]) with h | h
        · exact HF.out b h
        · exact Nat.le_trans HW0.out.size h)
      have HNB := Aside0.mk (show wq.heap.size ∉ Gx from fun hx => Nat.lt_irrefl _ (hGx _ hx))
      have HI0 := Aside0.mk (Gr.start hx'.2.2 hndx)
      rw [← hwo]
      clear hbo HM d0 d1 d2 q1 HBR hghl ho hl0 ho' e0' he0 he1 hx' e1' hnd' hsb' hGx hndx hxM
      have hd0 : (0 : Nat) ≤ 40 := Nat.zero_le _
      go_loopw [4, 5] (fun l i wr => ∃ m : Nat, m ≤ 40 ∧ i = .int .i64 m ∧ Aside0 (Gr fdRow 148 (mkRow x.num) wo wr Gx x l m)) (fun l i _ => 40 - (intOf i).toNat)
      case atStart => exact ⟨0, Nat.zero_le _, rfl, by rw [← HXV.out]; exact HI0⟩
      case round =>
        clear HI0
        obtain ⟨m, hm, rfl, HI⟩ := hrel
        have hbx := HI.out.keep.blk HBX.out HNB.out
        have hBX := Aside0.mk hbx
        have b2 := blk_cell hbx 2
        clear hbx
        have HBI := Aside0.mk (HBW.out.trans (HI.out.keep.below HXL.out HBW.out.size))
        by_cases hml : m < 40
        · have hml' : (m : Int) < 40 := by omega
          have hm0 : (0 : Int) ≤ (m : Int) := by omega
          go_wp2_with fail
          refine (row_calls num hn0 hn1 _ (TabOk.below HT.out HBI.out)).mono ?_
          rintro e w1 ⟨rfl, hb1⟩
          have HM1 := Aside0.mk (show fdRow.M w1 [] (mkRow x.num) [.string (wordOf num), .int .u32 0] from by rw [HNU.out]; exact M_row _ num)
          have HB1 := Aside0.mk hb1
          clear hb1
          go_wp2_with (first | (at_builtin; refine Gr.step HI.out HB1.out rfl (.tmp 28) (.tmp 32) 143 (.agg #[.string ⟨#[]⟩, .int .u32 0]) 24 [.string (wordOf num), .int .u32 0] [] rfl Tryz.underlying143 infoElRow rfl (by decide) (by decide) (by simp [Act.eval, Act.put]) (by simp [Act.eval, Act.put]) HM1.out (by simp) (fun _ h => by cases h) (by omega) ?_; intro v1 w2 hg; have HG2 := Aside0.mk hg; clear hg))
          refine ⟨⟨m + 1, by omega, by first | rfl | simp, HG2⟩, ?_⟩
          try simp only [intOf]
          omega
        · obtain rfl : m = 40 := by omega
          obtain ⟨A2, c2', rfl⟩ := HI.out.len
          have hgGx : g ∉ Gx := fun hx => by
            rcases HSB.out g (by simp [hx]) with h | h
            · exact HG.out h
            · have := blk_lt HB.out
              omega
          have hbg := HI.out.keep.blk (MW.out.keep.blk HB.out HG.out) hgGx
          have q1 : wr.cell? ⟨g, 5, none⟩ = some (.slice (some ⟨gh, 0, none⟩) E.length c1) := by simp [World.cell?, hbg, hV]
          have hghx : gh ∉ Gx := fun hx => (List.nodup_append.1 HND.out).2.2 gh (by simp [Value.ownBlock]) gh (by simp [hx]) rfl
          have hor := own_move HO'.out (fun b hb => HI.out.keep.block b (own_lt HO'.out b hb) (fun hx => by rw [show b = gh from by simpa [Value.ownBlock] using hb.symm] at hx; exact hghx hx))
          have y1 : wr.cell? ⟨gh, k * 3 + 1, none⟩ = some x.long := by
            have h := hor.cells (g := gh) rfl (k * 3 + 1) x.long (by rw [HX'.out.1, List.getElem?_append_right (by rw [HL'.out]; omega), HL'.out, Nat.add_sub_cancel_left]; rfl)
            rwa [add_plain] at h
          obtain ⟨cur, hcur⟩ := own_typed hor gh rfl
          have y2 := blk_frozen hcur (k * 3 + 1)
          clear hor hcur hbg
          go_wp2
          refine ⟨⟨k + 1, by omega, by first | rfl | simp, Aside0.mk (mix_gr hlt HXE.out HO'.out HL'.out HE0.out HX'.out HE1.out HND.out HSB.out MW.out.keep HI.out)⟩, ?_⟩
          try simp only [intOf]
          omega
    · go_wp2
      go_end0
      obtain rfl : k = E.length := by omega
      exact ⟨rfl, mix_done HM.out rfl⟩
end Go.Proofs.YtcohodkpppmaoaaGreatDoor.Q
namespace Go.Proofs.YtcohodkpppmaoaaGreatDoor.Q
open Go.RowKit Go.Proofs.YtcohodkpppmaoaaGreatDoorW.PrintWords Go.Proofs.YtcohodkpppmaoaaGreatDoorW.PrintLast Go.Proofs.YtcohodkpppmaoaaGreatDoorW.PrintMore
set_option linter.unusedVariables false
theorem wanted_no {b : Bool} (h : b = false) : ¬ b = true := by simp [h]
section
variable {P : Program} {md : Region.Mode} {ops : Array Oper} {Q : Exit → Act → World → Prop} {S : World → Prop} {i d fuel : Nat} {o : Oper} {v : Value} {listed : Array Bool} {a : Act} {w : World}
theorem jskip (ho : ops[i]? = some o) (hd : o.dst = some d) (hw : Region.wanted o (yielded ops a.tmps) = false) (hs : Region.noSelect ops = true) (hf : Region.free md ops listed i = true) (hr : (Region.ready md ops listed).contains i = true)
    (hQ : ∀ c a w, Q (.panic c) (a.put o.dst undef) w → Q (.panic c) a w) (hS : S w) (h : wpAnyH P md ops Q S fuel (listed.setIfInBounds i true) (a.put (some d) undef) w) : wpAnyH P md ops Q S (fuel + 1) listed a w :=
  wpAnyH_take ho hs hf hr hQ (Or.inr ⟨hw, rfl⟩) hS (by rw [hd]; exact h)
theorem jrun (ho : ops[i]? = some o) (hd : o.dst = some d) (hw : Region.wanted o (yielded ops a.tmps) = true) (hs : Region.noSelect ops = true) (hf : Region.free md ops listed i = true) (hr : (Region.ready md ops listed).contains i = true)
    (hQ : ∀ c a w, Q (.panic c) (a.put o.dst v) w → Q (.panic c) a w) (hS : S w) (hy : ∀ w, S w → (execOp a.eval o).run P w = .ok (.value v) w) (h : wpAnyH P md ops Q S fuel (listed.setIfInBounds i true) (a.put (some d) v) w) : wpAnyH P md ops Q S (fuel + 1) listed a w :=
  wpAnyH_take ho hs hf hr hQ (Or.inl ⟨hw, hy⟩) hS (by rw [hd]; exact h)
end
end Go.Proofs.YtcohodkpppmaoaaGreatDoor.Q
