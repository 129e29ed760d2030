/-
  The book's lists of kind Row: one more is kept.
  The book's lists of kind Op: one more is kept.
  The book's lists of kind Change: one more is kept.
  The book's kept lists, the six kinds side by side: none has anything of another one's.
  DERIVED: THE SHELF's CONTRACTS AT THIS DUMP, IN PLAIN WORDS (tools/lay-plain.mjs out of 'YtcohodkpppmaoaaGreatDoorShelf.lean', which tools/lay-shelf.mjs wrote): THE SAME DECLARATIONS UNDER THE SAME NAMES: 'import', 'namespace', 'open', 'def', 'theorem' AND NOTHING ELSE: no command of the shelf's: FOR A HAND-IN. Each laying: the table of numbers ('.._ren') and one theorem, a field a fact of the dump's own or the kernel's comparison; each contract: ONE APPLICATION.
  strconv.FormatUint at base 10, and keys.Marker: the marker of any number; the library's table of powers of ten is laid.
  concordatlaw01.word: a mark as a text.
-/
import Derived.Test.YtcohodkpppmaoaaGreatDoorMO5
import Derived.WalkSpells
import Derived.BigRegion
import Derived.Deep.RegionLaw
import Derived.Shelf.Strings.Builder1
import Derived.Shelf.Strings.Builder2
import Derived.Shelf.Strings.OnBuilder
import Derived.Shelf.Strconv.Itoa0
import Derived.Shelf.Strconv.Itoa1
import Derived.Shelf.LaysM
import Derived.Shelf.Strconv.Itoa2
import Derived.Shelf.Strconv.Itoa3
import Derived.Test.YtcohodkpppmaoaaGreatDoorProg
import Derived.Test.YtcohodkpppmaoaaGreatDoorMO1
import Derived.Lib.ItoaMem
import Derived.Lib.ItoaLen
import Derived.WalkKit
import Derived.KernelRfl
import Derived.Lib.Hide
import Derived.Below
set_option linter.unusedSimpArgs false
set_option linter.unusedVariables false
namespace Go.Proofs.YtcohodkpppmaoaaGreatDoor.Q
open Go.RowKit Go.Proofs.YtcohodkpppmaoaaGreatDoorW.PrintWords Go.Proofs.YtcohodkpppmaoaaGreatDoorW.PrintLast Go.Proofs.YtcohodkpppmaoaaGreatDoorW.PrintMore
set_option linter.unusedVariables false
theorem infoHeldRow : (Tryz.prog.info? 184).map (fun i => (i.zero, i.size, i.bytes)) = some (some (.agg #[.slice none 0 0, .slice none 0 0, .int .i64 0]), 3, 56) := by kernel_rfl
set_option maxHeartbeats 3200000 in
set_option maxRecDepth 100000 in
theorem keepRow_calls (w : World) (g : Nat) (n : Int) (v1 v2 v3 v4 v5 v6 v7 v8 v9 v10 v11 v12 : Value) (hb : w.heap[g]? = some (.cells #[.int .i64 n, v1, v2, v3, v4, v5, v6, v7, v8, v9, v10, v11, v12] 44 (0, 0))) (E : List Ent) (F : List Nat) (HR : Fd.Row (fdA 148 2) 184 w F v5 E) (hnd : (g :: F).Nodup)
    (A : Option Addr) (len c : Nat) (inner : List Value) (ho : w.ownsRow 0 148 2 (.slice A len c) len inner) (hl : ∀ b ∈ (Value.slice A len c).ownBlock.toList, b ∉ g :: F) (hE : E.length ≤ 1000000000) (h0 : 0 ≤ n) (h1 : n ≤ 1000000000000) :
    Calls Tryz.prog 208 #[.pointer (some ⟨g, 0, none⟩), .slice A len c] w fun e w' => ∃ F' v', e = .returned (.tuple #[]) ∧ w'.heap[g]? = some (.cells #[.int .i64 (n + 1), v1, v2, v3, v4, v', v6, v7, v8, v9, v10, v11, v12] 44 (0, 0)) ∧
      Fd.Row (fdA 148 2) 184 w' F' v' (E ++ [⟨.slice A len c, len, n + 1, .slice none 0 0⟩]) ∧ (g :: F').Nodup ∧ Keeps (g :: F) w w' ∧ ∀ b ∈ F', b ∈ F ∨ b ∈ (Value.slice A len c).ownBlock.toList ∨ w.heap.size ≤ b := by
  obtain ⟨A1, c1, ev, hc1, _⟩ := Fd.row_reads HR
  subst ev
  have hu := Tryz.underlying44
  have q0 := blk_cell hb 0
  have q1 := blk_cell hb 5
  have p0 := blk_frozen hb 0
  have p1 := blk_frozen hb 5
  have hg : g < w.heap.size := blk_lt hb
  have hgF : g ∉ F := (List.nodup_cons.1 hnd).1
  have hw1 : IntKind.i64.wrap (n + 1) = n + 1 := IntWalk.i64_in _ (by omega)
  have K0 := (Keeps.refl [g] w).setCell (p := ⟨g, 0, none⟩) (.inl (by simp)) (.int .i64 (n + 1))
  have R0 := Fd.row_keeps HR K0 (fun b hbF hx => by simp at hx; subst hx; exact hgF hbF)
  have M0 : (fdA 148 2).M (w.setCell ⟨g, 0, none⟩ (.int .i64 (n + 1))) (Value.slice A len c).ownBlock.toList ⟨.slice A len c, len, n + 1, .slice none 0 0⟩ [.slice A len c, .slice none 0 0, .int .i64 (n + 1)] :=
    ⟨rfl, rfl, ⟨inner, own_move ho (fun k hk => K0.block k (own_lt ho k hk) (fun hx => by simp at hx; subst hx; exact hl k (by simp [hk]) (by simp)))⟩, rfl⟩
  have HK := Aside0.mk K0
  have HR0 := Aside0.mk R0
  have HM := Aside0.mk M0
  have HB := Aside0.mk (blk_put (cs' := #[.int .i64 (n + 1), v1, v2, v3, v4, .slice A1 E.length c1, v6, v7, v8, v9, v10, v11, v12]) hb 0 (.int .i64 (n + 1)) rfl)
  have HL := Aside0.mk hl
  have HND := Aside0.mk hnd
  have HG := Aside0.mk hgF
  clear HR K0 R0 M0 hb hl ho hnd hgF
  go_enter Tryz.func208, Tryz.ntmps208
  go_wp2_with fail
  obtain ⟨W, hW⟩ : ∃ W, W = w.setCell ⟨g, 0, none⟩ (.int .i64 (n + 1)) := ⟨_, rfl⟩
  rw [← hW] at HK HR0 HM HB ⊢
  clear hW q0 q1 p0 p1
  have q0 := blk_cell HB.out 0
  have q1 := blk_cell HB.out 5
  have p1 := blk_frozen HB.out 5
  have hlt : g < W.heap.size := blk_lt HB.out
  have hlB : ∀ b ∈ (Value.slice A len c).ownBlock.toList, b < W.heap.size := fun b hx => (fdA 148 2).lt HM.out b hx
  have HN := Aside0.mk (show (F ++ (Value.slice A len c).ownBlock.toList).Nodup from List.nodup_append.2 ⟨(List.nodup_cons.1 HND.out).2, by cases (Value.slice A len c).ownBlock <;> simp, fun a ha b hx e => HL.out b hx (by subst e; simp [ha])⟩)
  have HRD := Aside0.mk (show Fd.Row (fdA 148 2) 184 W.drew F (.slice A1 E.length c1) E from Fd.row_move (w := W) (w1 := W.drew) (fun _ _ => rfl) HR0.out)
  have HMD := Aside0.mk (show (fdA 148 2).M W.drew (Value.slice A len c).ownBlock.toList ⟨.slice A len c, len, n + 1, .slice none 0 0⟩ [.slice A len c, .slice none 0 0, .int .i64 (n + 1)] from (fdA 148 2).move (w := W) (w1 := W.drew) (fun _ _ => rfl) HM.out)
  have HBD := Aside0.mk (show W.drew.heap[g]? = some (.cells #[.int .i64 (n + 1), v1, v2, v3, v4, .slice A1 E.length c1, v6, v7, v8, v9, v10, v11, v12] 44 (0, 0)) from HB.out)
  have HKD := Aside0.mk (HK.out.drew)
  clear hlB HR0 HM
  go_region_law ((refine Fd.R_append_step (W := W.drew) (fdA 148 2) rfl (.tmp 15) (.tmp 22) 35 184 (.agg #[.slice none 0 0, .slice none 0 0, .int .i64 0]) 56 rfl Tryz.underlying35 infoHeldRow rfl (show 0 < 3 from by decide) (by decide) (.slice A1 E.length c1) E ⟨.slice A len c, len, n + 1, .slice none 0 0⟩ [.slice A len c, .slice none 0 0, .int .i64 (n + 1)] F (Value.slice A len c).ownBlock.toList (by simp [Act.eval, Act.put]) (by simp [Act.eval, Act.put]) HMD.out HRD.out HN.out (by omega) ?_; intro v' w6 F6 h1 h2 h3 h4; obtain ⟨A2, c2, ev2, _⟩ := Fd.row_reads h1; rw [List.length_append, show ([(⟨.slice A len c, len, n + 1, .slice none 0 0⟩ : Ent)] : List Ent).length = 1 from rfl] at ev2; subst ev2; have bk6 := h3.blk HBD.out HG.out; have j1 := blk_frozen bk6 5; have j0 := blk_cell bk6 5; have hlt6 := blk_lt bk6; have BK6 := Aside0.mk bk6; have R6 := Aside0.mk h1; have N6 := Aside0.mk h2; have K6 := Aside0.mk h3; have L6 := Aside0.mk h4; clear h1 h2 h3 h4 bk6))
  all_goals
    go_wp2
    go_end0
    obtain ⟨z1, z2, z3⟩ := keep_fin HND.out HL.out HK.out K6.out L6.out hg 5 (.slice A2 (E.length + 1) c2)
    exact ⟨F6, _, rfl, blk_put BK6.out 5 _ rfl, Fd.row_keeps R6.out ((Keeps.refl [g] w6).setCell (p := ⟨g, 5, none⟩) (.inl (by simp)) _) (fun b hb hx => by simp at hx; subst hx; exact z1 hb), List.nodup_cons.2 ⟨z1, N6.out⟩, z2, z3⟩
end Go.Proofs.YtcohodkpppmaoaaGreatDoor.Q
namespace Go.Proofs.YtcohodkpppmaoaaGreatDoor.Q
open Go.RowKit Go.Proofs.YtcohodkpppmaoaaGreatDoorW.PrintWords Go.Proofs.YtcohodkpppmaoaaGreatDoorW.PrintLast Go.Proofs.YtcohodkpppmaoaaGreatDoorW.PrintMore
set_option linter.unusedVariables false
theorem infoHeldOp : (Tryz.prog.info? 187).map (fun i => (i.zero, i.size, i.bytes)) = some (some (.agg #[.slice none 0 0, .slice none 0 0, .int .i64 0]), 3, 56) := by kernel_rfl
set_option maxHeartbeats 3200000 in
set_option maxRecDepth 100000 in
theorem keepOp_calls (w : World) (g : Nat) (n : Int) (v1 v2 v3 v4 v5 v6 v7 v8 v9 v10 v11 v12 : Value) (hb : w.heap[g]? = some (.cells #[.int .i64 n, v1, v2, v3, v4, v5, v6, v7, v8, v9, v10, v11, v12] 44 (0, 0))) (E : List Ent) (F : List Nat) (HR : Fd.Row (fdA 82 4) 187 w F v6 E) (hnd : (g :: F).Nodup)
    (A : Option Addr) (len c : Nat) (inner : List Value) (ho : w.ownsRow 0 82 4 (.slice A len c) len inner) (hl : ∀ b ∈ (Value.slice A len c).ownBlock.toList, b ∉ g :: F) (hE : E.length ≤ 1000000000) (h0 : 0 ≤ n) (h1 : n ≤ 1000000000000) :
    Calls Tryz.prog 137 #[.pointer (some ⟨g, 0, none⟩), .slice A len c] w fun e w' => ∃ F' v', e = .returned (.tuple #[]) ∧ w'.heap[g]? = some (.cells #[.int .i64 (n + 1), v1, v2, v3, v4, v5, v', v7, v8, v9, v10, v11, v12] 44 (0, 0)) ∧
      Fd.Row (fdA 82 4) 187 w' F' v' (E ++ [⟨.slice A len c, len, n + 1, .slice none 0 0⟩]) ∧ (g :: F').Nodup ∧ Keeps (g :: F) w w' ∧ ∀ b ∈ F', b ∈ F ∨ b ∈ (Value.slice A len c).ownBlock.toList ∨ w.heap.size ≤ b := by
  obtain ⟨A1, c1, ev, hc1, _⟩ := Fd.row_reads HR
  subst ev
  have hu := Tryz.underlying44
  have q0 := blk_cell hb 0
  have q1 := blk_cell hb 6
  have p0 := blk_frozen hb 0
  have p1 := blk_frozen hb 6
  have hg : g < w.heap.size := blk_lt hb
  have hgF : g ∉ F := (List.nodup_cons.1 hnd).1
  have hw1 : IntKind.i64.wrap (n + 1) = n + 1 := IntWalk.i64_in _ (by omega)
  have K0 := (Keeps.refl [g] w).setCell (p := ⟨g, 0, none⟩) (.inl (by simp)) (.int .i64 (n + 1))
  have R0 := Fd.row_keeps HR K0 (fun b hbF hx => by simp at hx; subst hx; exact hgF hbF)
  have M0 : (fdA 82 4).M (w.setCell ⟨g, 0, none⟩ (.int .i64 (n + 1))) (Value.slice A len c).ownBlock.toList ⟨.slice A len c, len, n + 1, .slice none 0 0⟩ [.slice A len c, .slice none 0 0, .int .i64 (n + 1)] :=
    ⟨rfl, rfl, ⟨inner, own_move ho (fun k hk => K0.block k (own_lt ho k hk) (fun hx => by simp at hx; subst hx; exact hl k (by simp [hk]) (by simp)))⟩, rfl⟩
  have HK := Aside0.mk K0
  have HR0 := Aside0.mk R0
  have HM := Aside0.mk M0
  have HB := Aside0.mk (blk_put (cs' := #[.int .i64 (n + 1), v1, v2, v3, v4, v5, .slice A1 E.length c1, v7, v8, v9, v10, v11, v12]) hb 0 (.int .i64 (n + 1)) rfl)
  have HL := Aside0.mk hl
  have HND := Aside0.mk hnd
  have HG := Aside0.mk hgF
  clear HR K0 R0 M0 hb hl ho hnd hgF
  go_enter Tryz.func137, Tryz.ntmps137
  go_wp2_with fail
  obtain ⟨W, hW⟩ : ∃ W, W = w.setCell ⟨g, 0, none⟩ (.int .i64 (n + 1)) := ⟨_, rfl⟩
  rw [← hW] at HK HR0 HM HB ⊢
  clear hW q0 q1 p0 p1
  have q0 := blk_cell HB.out 0
  have q1 := blk_cell HB.out 6
  have p1 := blk_frozen HB.out 6
  have hlt : g < W.heap.size := blk_lt HB.out
  have hlB : ∀ b ∈ (Value.slice A len c).ownBlock.toList, b < W.heap.size := fun b hx => (fdA 82 4).lt HM.out b hx
  have HN := Aside0.mk (show (F ++ (Value.slice A len c).ownBlock.toList).Nodup from List.nodup_append.2 ⟨(List.nodup_cons.1 HND.out).2, by cases (Value.slice A len c).ownBlock <;> simp, fun a ha b hx e => HL.out b hx (by subst e; simp [ha])⟩)
  have HRD := Aside0.mk (show Fd.Row (fdA 82 4) 187 W.drew F (.slice A1 E.length c1) E from Fd.row_move (w := W) (w1 := W.drew) (fun _ _ => rfl) HR0.out)
  have HMD := Aside0.mk (show (fdA 82 4).M W.drew (Value.slice A len c).ownBlock.toList ⟨.slice A len c, len, n + 1, .slice none 0 0⟩ [.slice A len c, .slice none 0 0, .int .i64 (n + 1)] from (fdA 82 4).move (w := W) (w1 := W.drew) (fun _ _ => rfl) HM.out)
  have HBD := Aside0.mk (show W.drew.heap[g]? = some (.cells #[.int .i64 (n + 1), v1, v2, v3, v4, v5, .slice A1 E.length c1, v7, v8, v9, v10, v11, v12] 44 (0, 0)) from HB.out)
  have HKD := Aside0.mk (HK.out.drew)
  clear hlB HR0 HM
  go_region_law ((refine Fd.R_append_step (W := W.drew) (fdA 82 4) rfl (.tmp 15) (.tmp 22) 36 187 (.agg #[.slice none 0 0, .slice none 0 0, .int .i64 0]) 56 rfl Tryz.underlying36 infoHeldOp rfl (show 0 < 3 from by decide) (by decide) (.slice A1 E.length c1) E ⟨.slice A len c, len, n + 1, .slice none 0 0⟩ [.slice A len c, .slice none 0 0, .int .i64 (n + 1)] F (Value.slice A len c).ownBlock.toList (by simp [Act.eval, Act.put]) (by simp [Act.eval, Act.put]) HMD.out HRD.out HN.out (by omega) ?_; intro v' w6 F6 h1 h2 h3 h4; obtain ⟨A2, c2, ev2, _⟩ := Fd.row_reads h1; rw [List.length_append, show ([(⟨.slice A len c, len, n + 1, .slice none 0 0⟩ : Ent)] : List Ent).length = 1 from rfl] at ev2; subst ev2; have bk6 := h3.blk HBD.out HG.out; have j1 := blk_frozen bk6 6; have j0 := blk_cell bk6 6; have hlt6 := blk_lt bk6; have BK6 := Aside0.mk bk6; have R6 := Aside0.mk h1; have N6 := Aside0.mk h2; have K6 := Aside0.mk h3; have L6 := Aside0.mk h4; clear h1 h2 h3 h4 bk6))
  all_goals
    go_wp2
    go_end0
    obtain ⟨z1, z2, z3⟩ := keep_fin HND.out HL.out HK.out K6.out L6.out hg 6 (.slice A2 (E.length + 1) c2)
    exact ⟨F6, _, rfl, blk_put BK6.out 6 _ rfl, Fd.row_keeps R6.out ((Keeps.refl [g] w6).setCell (p := ⟨g, 6, none⟩) (.inl (by simp)) _) (fun b hb hx => by simp at hx; subst hx; exact z1 hb), List.nodup_cons.2 ⟨z1, N6.out⟩, z2, z3⟩
end Go.Proofs.YtcohodkpppmaoaaGreatDoor.Q
namespace Go.Proofs.YtcohodkpppmaoaaGreatDoor.Q
open Go.RowKit Go.Proofs.YtcohodkpppmaoaaGreatDoorW.PrintWords Go.Proofs.YtcohodkpppmaoaaGreatDoorW.PrintLast Go.Proofs.YtcohodkpppmaoaaGreatDoorW.PrintMore
set_option linter.unusedVariables false
theorem infoHeldChange : (Tryz.prog.info? 196).map (fun i => (i.zero, i.size, i.bytes)) = some (some (.agg #[.slice none 0 0, .slice none 0 0, .int .i64 0]), 3, 56) := by kernel_rfl
set_option maxHeartbeats 3200000 in
set_option maxRecDepth 100000 in
theorem keepChange_calls (w : World) (g : Nat) (n : Int) (v1 v2 v3 v4 v5 v6 v7 v8 v9 v10 v11 v12 : Value) (hb : w.heap[g]? = some (.cells #[.int .i64 n, v1, v2, v3, v4, v5, v6, v7, v8, v9, v10, v11, v12] 44 (0, 0))) (E : List Ent) (F : List Nat) (HR : Fd.Row (fdA 116 3) 196 w F v8 E) (hnd : (g :: F).Nodup)
    (A : Option Addr) (len c : Nat) (inner : List Value) (ho : w.ownsRow 0 116 3 (.slice A len c) len inner) (hl : ∀ b ∈ (Value.slice A len c).ownBlock.toList, b ∉ g :: F) (hE : E.length ≤ 1000000000) (h0 : 0 ≤ n) (h1 : n ≤ 1000000000000) :
    Calls Tryz.prog 130 #[.pointer (some ⟨g, 0, none⟩), .slice A len c] w fun e w' => ∃ F' v', e = .returned (.tuple #[]) ∧ w'.heap[g]? = some (.cells #[.int .i64 (n + 1), v1, v2, v3, v4, v5, v6, v7, v', v9, v10, v11, v12] 44 (0, 0)) ∧
      Fd.Row (fdA 116 3) 196 w' F' v' (E ++ [⟨.slice A len c, len, n + 1, .slice none 0 0⟩]) ∧ (g :: F').Nodup ∧ Keeps (g :: F) w w' ∧ ∀ b ∈ F', b ∈ F ∨ b ∈ (Value.slice A len c).ownBlock.toList ∨ w.heap.size ≤ b := by
  obtain ⟨A1, c1, ev, hc1, _⟩ := Fd.row_reads HR
  subst ev
  have hu := Tryz.underlying44
  have q0 := blk_cell hb 0
  have q1 := blk_cell hb 8
  have p0 := blk_frozen hb 0
  have p1 := blk_frozen hb 8
  have hg : g < w.heap.size := blk_lt hb
  have hgF : g ∉ F := (List.nodup_cons.1 hnd).1
  have hw1 : IntKind.i64.wrap (n + 1) = n + 1 := IntWalk.i64_in _ (by omega)
  have K0 := (Keeps.refl [g] w).setCell (p := ⟨g, 0, none⟩) (.inl (by simp)) (.int .i64 (n + 1))
  have R0 := Fd.row_keeps HR K0 (fun b hbF hx => by simp at hx; subst hx; exact hgF hbF)
  have M0 : (fdA 116 3).M (w.setCell ⟨g, 0, none⟩ (.int .i64 (n + 1))) (Value.slice A len c).ownBlock.toList ⟨.slice A len c, len, n + 1, .slice none 0 0⟩ [.slice A len c, .slice none 0 0, .int .i64 (n + 1)] :=
    ⟨rfl, rfl, ⟨inner, own_move ho (fun k hk => K0.block k (own_lt ho k hk) (fun hx => by simp at hx; subst hx; exact hl k (by simp [hk]) (by simp)))⟩, rfl⟩
  have HK := Aside0.mk K0
  have HR0 := Aside0.mk R0
  have HM := Aside0.mk M0
  have HB := Aside0.mk (blk_put (cs' := #[.int .i64 (n + 1), v1, v2, v3, v4, v5, v6, v7, .slice A1 E.length c1, v9, v10, v11, v12]) hb 0 (.int .i64 (n + 1)) rfl)
  have HL := Aside0.mk hl
  have HND := Aside0.mk hnd
  have HG := Aside0.mk hgF
  clear HR K0 R0 M0 hb hl ho hnd hgF
  go_enter Tryz.func130, Tryz.ntmps130
  go_wp2_with fail
  obtain ⟨W, hW⟩ : ∃ W, W = w.setCell ⟨g, 0, none⟩ (.int .i64 (n + 1)) := ⟨_, rfl⟩
  rw [← hW] at HK HR0 HM HB ⊢
  clear hW q0 q1 p0 p1
  have q0 := blk_cell HB.out 0
  have q1 := blk_cell HB.out 8
  have p1 := blk_frozen HB.out 8
  have hlt : g < W.heap.size := blk_lt HB.out
  have hlB : ∀ b ∈ (Value.slice A len c).ownBlock.toList, b < W.heap.size := fun b hx => (fdA 116 3).lt HM.out b hx
  have HN := Aside0.mk (show (F ++ (Value.slice A len c).ownBlock.toList).Nodup from List.nodup_append.2 ⟨(List.nodup_cons.1 HND.out).2, by cases (Value.slice A len c).ownBlock <;> simp, fun a ha b hx e => HL.out b hx (by subst e; simp [ha])⟩)
  have HRD := Aside0.mk (show Fd.Row (fdA 116 3) 196 W.drew F (.slice A1 E.length c1) E from Fd.row_move (w := W) (w1 := W.drew) (fun _ _ => rfl) HR0.out)
  have HMD := Aside0.mk (show (fdA 116 3).M W.drew (Value.slice A len c).ownBlock.toList ⟨.slice A len c, len, n + 1, .slice none 0 0⟩ [.slice A len c, .slice none 0 0, .int .i64 (n + 1)] from (fdA 116 3).move (w := W) (w1 := W.drew) (fun _ _ => rfl) HM.out)
  have HBD := Aside0.mk (show W.drew.heap[g]? = some (.cells #[.int .i64 (n + 1), v1, v2, v3, v4, v5, v6, v7, .slice A1 E.length c1, v9, v10, v11, v12] 44 (0, 0)) from HB.out)
  have HKD := Aside0.mk (HK.out.drew)
  clear hlB HR0 HM
  go_region_law ((refine Fd.R_append_step (W := W.drew) (fdA 116 3) rfl (.tmp 15) (.tmp 22) 38 196 (.agg #[.slice none 0 0, .slice none 0 0, .int .i64 0]) 56 rfl Tryz.underlying38 infoHeldChange rfl (show 0 < 3 from by decide) (by decide) (.slice A1 E.length c1) E ⟨.slice A len c, len, n + 1, .slice none 0 0⟩ [.slice A len c, .slice none 0 0, .int .i64 (n + 1)] F (Value.slice A len c).ownBlock.toList (by simp [Act.eval, Act.put]) (by simp [Act.eval, Act.put]) HMD.out HRD.out HN.out (by omega) ?_; intro v' w6 F6 h1 h2 h3 h4; obtain ⟨A2, c2, ev2, _⟩ := Fd.row_reads h1; rw [List.length_append, show ([(⟨.slice A len c, len, n + 1, .slice none 0 0⟩ : Ent)] : List Ent).length = 1 from rfl] at ev2; subst ev2; have bk6 := h3.blk HBD.out HG.out; have j1 := blk_frozen bk6 8; have j0 := blk_cell bk6 8; have hlt6 := blk_lt bk6; have BK6 := Aside0.mk bk6; have R6 := Aside0.mk h1; have N6 := Aside0.mk h2; have K6 := Aside0.mk h3; have L6 := Aside0.mk h4; clear h1 h2 h3 h4 bk6))
  all_goals
    go_wp2
    go_end0
    obtain ⟨z1, z2, z3⟩ := keep_fin HND.out HL.out HK.out K6.out L6.out hg 8 (.slice A2 (E.length + 1) c2)
    exact ⟨F6, _, rfl, blk_put BK6.out 8 _ rfl, Fd.row_keeps R6.out ((Keeps.refl [g] w6).setCell (p := ⟨g, 8, none⟩) (.inl (by simp)) _) (fun b hb hx => by simp at hx; subst hx; exact z1 hb), List.nodup_cons.2 ⟨z1, N6.out⟩, z2, z3⟩
end Go.Proofs.YtcohodkpppmaoaaGreatDoor.Q
namespace Go.Proofs.YtcohodkpppmaoaaGreatDoor.Q
open Go.RowKit Go.Proofs.YtcohodkpppmaoaaGreatDoorW.PrintWords Go.Proofs.YtcohodkpppmaoaaGreatDoorW.PrintLast Go.Proofs.YtcohodkpppmaoaaGreatDoorW.PrintMore
set_option linter.unusedVariables false
/-- One kind's kept lists, as they stand: how they lie, their blocks, the list of them. -/
structure Kin where
  d : Fd Ent
  t : Nat
  F : List Nat
  v : Value
  E : List Ent
def allF (l : List Kin) : List Nat := l.flatMap (·.F)
structure Held (w0 w : World) (g : Nat) (bc : Array Value) (l : List Kin) : Prop where
  base : Below w0.heap.size w0 w
  cell : w.heap[g]? = some (.cells bc 44 (0, 0))
  rows : ∀ x ∈ l, Fd.Row x.d x.t w x.F x.v x.E
  nd : (g :: allF l).Nodup
  far : ∀ b ∈ g :: allF l, w0.heap.size ≤ b
section
variable {w0 w w' : World} {g : Nat} {bc bc' : Array Value} {pre post l : List Kin} {x : Kin} {d : Fd Ent} {t : Nat} {F' : List Nat} {v' : Value} {E' : List Ent}
theorem allF_mid (pre post : List Kin) (x : Kin) : allF (pre ++ x :: post) = allF pre ++ (x.F ++ allF post) := by simp [allF, List.flatMap_append]
theorem mem_allF {b : Nat} (hy : x ∈ l) (hb : b ∈ x.F) : b ∈ allF l := List.mem_flatMap.2 ⟨x, hy, hb⟩
theorem Held.nd_at (h : Held w0 w g bc (pre ++ x :: post)) : x.F.Nodup := by
  have h1 := (List.nodup_cons.1 h.nd).2
  rw [allF_mid] at h1
  exact (List.nodup_append.1 (List.nodup_append.1 h1).2.1).1
theorem Held.off_at (h : Held w0 w g bc (pre ++ x :: post)) : g ∉ x.F := fun hx => (List.nodup_cons.1 h.nd).1 (mem_allF (by simp) hx)
theorem Held.far_at (h : Held w0 w g bc (pre ++ x :: post)) : ∀ b ∈ x.F, w0.heap.size ≤ b := fun b hb => h.far b (List.mem_cons_of_mem _ (mem_allF (x := x) (by simp) hb))
theorem Held.row_at (h : Held w0 w g bc (pre ++ x :: post)) : Fd.Row x.d x.t w x.F x.v x.E := h.rows x (by simp)
/-- What one kind's step leaves, whatever of the book's own block it has written. -/
theorem Held.step0 (h : Held w0 w g bc (pre ++ x :: post)) (hc : w'.heap[g]? = some (.cells bc' 44 (0, 0))) (hr : Fd.Row d t w' F' v' E') (hn : F'.Nodup) (L : List Nat) (hk : Keeps (g :: x.F) w w') (hL : ∀ b ∈ L, b ∉ g :: allF (pre ++ x :: post)) (hLf : ∀ b ∈ L, w0.heap.size ≤ b) (hs : ∀ b ∈ F', b ∈ x.F ∨ b ∈ L ∨ w.heap.size ≤ b) (hg : g ∉ F') :
    Held w0 w' g bc' (pre ++ ⟨d, t, F', v', E'⟩ :: post) := by
  have hsz := h.base.size
  have hlt : ∀ y ∈ pre ++ x :: post, ∀ b ∈ y.F, b < w.heap.size := fun y hy b hb => Fd.row_lt (h.rows y hy) b hb
  have hnd := (List.nodup_cons.1 h.nd).2
  have hgn := (List.nodup_cons.1 h.nd).1
  have hL' : ∀ b ∈ L, b ∉ allF (pre ++ x :: post) := fun b hb hx => hL b hb (List.mem_cons_of_mem _ hx)
  rw [allF_mid] at hnd hgn hL'
  obtain ⟨n1, n2, n3⟩ := List.nodup_append.1 hnd
  obtain ⟨m1, m2, m3⟩ := List.nodup_append.1 n2
  have hoth : ∀ y, (y ∈ pre ∨ y ∈ post) → ∀ b ∈ y.F, b ∉ g :: x.F := by
    intro y hy b hb hx
    rcases List.mem_cons.1 hx with rfl | hx
    · refine hgn ?_
      rcases hy with hy | hy
      · exact List.mem_append_left _ (mem_allF hy hb)
      · exact List.mem_append_right _ (List.mem_append_right _ (mem_allF hy hb))
    · rcases hy with hy | hy
      · exact n3 b (mem_allF hy hb) b (List.mem_append_left _ hx) rfl
      · exact m3 b hx b (mem_allF hy hb) rfl
  have hnew : ∀ b ∈ F', ∀ y, (y ∈ pre ∨ y ∈ post) → b ∉ y.F := by
    intro b hb y hy hx
    rcases hs b hb with h1 | h1 | h1
    · exact hoth y hy b hx (List.mem_cons_of_mem _ h1)
    · refine hL' b h1 ?_
      rcases hy with hy | hy
      · exact List.mem_append_left _ (mem_allF hy hx)
      · exact List.mem_append_right _ (List.mem_append_right _ (mem_allF hy hx))
    · have := hlt y (by rcases hy with hy | hy <;> simp [hy]) b hx
      omega
  refine ⟨h.base.trans (hk.below (fun b hb => ?_) hsz), hc, ?_, ?_, ?_⟩
  · rcases List.mem_cons.1 hb with rfl | hb
    · exact h.far _ (by simp)
    · exact h.far_at b hb
  · intro y hy
    simp only [List.mem_append, List.mem_cons] at hy
    rcases hy with hy | rfl | hy
    · exact Fd.row_keeps (h.rows y (by simp [hy])) hk (hoth y (.inl hy))
    · exact hr
    · exact Fd.row_keeps (h.rows y (by simp [hy])) hk (hoth y (.inr hy))
  · rw [allF_mid]
    refine List.nodup_cons.2 ⟨fun hx => ?_, List.nodup_append.2 ⟨n1, List.nodup_append.2 ⟨hn, m2, ?_⟩, ?_⟩⟩
    · rcases List.mem_append.1 hx with hx | hx
      · exact hgn (List.mem_append_left _ hx)
      · rcases List.mem_append.1 hx with hx | hx
        · exact hg hx
        · exact hgn (List.mem_append_right _ (List.mem_append_right _ hx))
    · intro a ha b hb e
      subst e
      obtain ⟨y, hy, hb⟩ := List.mem_flatMap.1 hb
      exact hnew a ha y (.inr hy) hb
    · intro a ha b hb e
      subst e
      rcases List.mem_append.1 hb with hb | hb
      · obtain ⟨y, hy, ha⟩ := List.mem_flatMap.1 ha
        exact hnew a hb y (.inl hy) ha
      · exact n3 a ha a (List.mem_append_right _ hb) rfl
  · intro b hb
    rw [allF_mid] at hb
    rcases List.mem_cons.1 hb with rfl | hb
    · exact h.far _ (by simp)
    · rcases List.mem_append.1 hb with hb | hb
      · exact h.far b (List.mem_cons_of_mem _ (by rw [allF_mid]; exact List.mem_append_left _ hb))
      · rcases List.mem_append.1 hb with hb | hb
        · rcases hs b hb with h1 | h1 | h1
          · exact h.far_at b h1
          · exact hLf b h1
          · omega
        · exact h.far b (List.mem_cons_of_mem _ (by rw [allF_mid]; exact List.mem_append_right _ (List.mem_append_right _ hb)))
/-- The same with the book's own block as it was. -/
theorem Held.step (h : Held w0 w g bc (pre ++ x :: post)) (hr : Fd.Row d t w' F' v' E') (hn : F'.Nodup) (hk : Keeps x.F w w') (hs : ∀ b ∈ F', b ∈ x.F ∨ w.heap.size ≤ b) :
    Held w0 w' g bc (pre ++ ⟨d, t, F', v', E'⟩ :: post) := by
  have hg : g < w.heap.size := blk_lt h.cell
  refine h.step0 (L := []) (hk.blk h.cell h.off_at) hr hn (hk.mono (fun b hb => .inl (List.mem_cons_of_mem _ hb))) (fun _ hx => by cases hx) (fun _ hx => by cases hx) (fun b hb => (hs b hb).imp_right .inr) (fun hx => ?_)
  rcases hs g hx with h1 | h1
  · exact h.off_at h1
  · omega
/-- What the book has not. -/
theorem Held.keeps (h : Held w0 w g bc l) {G : List Nat} (hk : Keeps G w w') (hG : ∀ b ∈ G, b ∉ g :: allF l) (hGf : ∀ b ∈ G, w0.heap.size ≤ b) : Held w0 w' g bc l :=
  ⟨h.base.trans (hk.below hGf h.base.size), hk.blk h.cell (fun hx => hG g hx (by simp)), fun x hx => Fd.row_keeps (h.rows x hx) hk (fun b hb hg => hG b hg (List.mem_cons_of_mem _ (mem_allF hx hb))), h.nd, h.far⟩
theorem Held.below (h : Held w0 w g bc l) (hb : Below w.heap.size w w') : Held w0 w' g bc l := h.keeps (G := []) (Keeps.of_below hb []) (fun _ hx => by cases hx) (fun _ hx => by cases hx)
theorem Held.on1 {k1 k2 k3 k4 k5 k6 : Kin} (h : Held w0 w g bc [k1, k2, k3, k4, k5, k6]) : Fd.Row k1.d k1.t w k1.F k1.v k1.E ∧ k1.F.Nodup ∧ g ∉ k1.F ∧ ∀ b ∈ k1.F, w0.heap.size ≤ b :=
  ⟨Held.row_at (pre := []) (x := k1) (post := [k2, k3, k4, k5, k6]) h, Held.nd_at (pre := []) (x := k1) (post := [k2, k3, k4, k5, k6]) h, Held.off_at (pre := []) (x := k1) (post := [k2, k3, k4, k5, k6]) h, Held.far_at (pre := []) (x := k1) (post := [k2, k3, k4, k5, k6]) h⟩
theorem Held.step1 {k1 k2 k3 k4 k5 k6 : Kin} (h : Held w0 w g bc [k1, k2, k3, k4, k5, k6]) (hr : Fd.Row d t w' F' v' E') (hn : F'.Nodup) (hk : Keeps k1.F w w') (hs : ∀ b ∈ F', b ∈ k1.F ∨ w.heap.size ≤ b) : Held w0 w' g bc [⟨d, t, F', v', E'⟩, k2, k3, k4, k5, k6] :=
  Held.step (pre := []) (x := k1) (post := [k2, k3, k4, k5, k6]) h hr hn hk hs
theorem Held.on2 {k1 k2 k3 k4 k5 k6 : Kin} (h : Held w0 w g bc [k1, k2, k3, k4, k5, k6]) : Fd.Row k2.d k2.t w k2.F k2.v k2.E ∧ k2.F.Nodup ∧ g ∉ k2.F ∧ ∀ b ∈ k2.F, w0.heap.size ≤ b :=
  ⟨Held.row_at (pre := [k1]) (x := k2) (post := [k3, k4, k5, k6]) h, Held.nd_at (pre := [k1]) (x := k2) (post := [k3, k4, k5, k6]) h, Held.off_at (pre := [k1]) (x := k2) (post := [k3, k4, k5, k6]) h, Held.far_at (pre := [k1]) (x := k2) (post := [k3, k4, k5, k6]) h⟩
theorem Held.step2 {k1 k2 k3 k4 k5 k6 : Kin} (h : Held w0 w g bc [k1, k2, k3, k4, k5, k6]) (hr : Fd.Row d t w' F' v' E') (hn : F'.Nodup) (hk : Keeps k2.F w w') (hs : ∀ b ∈ F', b ∈ k2.F ∨ w.heap.size ≤ b) : Held w0 w' g bc [k1, ⟨d, t, F', v', E'⟩, k3, k4, k5, k6] :=
  Held.step (pre := [k1]) (x := k2) (post := [k3, k4, k5, k6]) h hr hn hk hs
theorem Held.on3 {k1 k2 k3 k4 k5 k6 : Kin} (h : Held w0 w g bc [k1, k2, k3, k4, k5, k6]) : Fd.Row k3.d k3.t w k3.F k3.v k3.E ∧ k3.F.Nodup ∧ g ∉ k3.F ∧ ∀ b ∈ k3.F, w0.heap.size ≤ b :=
  ⟨Held.row_at (pre := [k1, k2]) (x := k3) (post := [k4, k5, k6]) h, Held.nd_at (pre := [k1, k2]) (x := k3) (post := [k4, k5, k6]) h, Held.off_at (pre := [k1, k2]) (x := k3) (post := [k4, k5, k6]) h, Held.far_at (pre := [k1, k2]) (x := k3) (post := [k4, k5, k6]) h⟩
theorem Held.step3 {k1 k2 k3 k4 k5 k6 : Kin} (h : Held w0 w g bc [k1, k2, k3, k4, k5, k6]) (hr : Fd.Row d t w' F' v' E') (hn : F'.Nodup) (hk : Keeps k3.F w w') (hs : ∀ b ∈ F', b ∈ k3.F ∨ w.heap.size ≤ b) : Held w0 w' g bc [k1, k2, ⟨d, t, F', v', E'⟩, k4, k5, k6] :=
  Held.step (pre := [k1, k2]) (x := k3) (post := [k4, k5, k6]) h hr hn hk hs
theorem Held.on4 {k1 k2 k3 k4 k5 k6 : Kin} (h : Held w0 w g bc [k1, k2, k3, k4, k5, k6]) : Fd.Row k4.d k4.t w k4.F k4.v k4.E ∧ k4.F.Nodup ∧ g ∉ k4.F ∧ ∀ b ∈ k4.F, w0.heap.size ≤ b :=
  ⟨Held.row_at (pre := [k1, k2, k3]) (x := k4) (post := [k5, k6]) h, Held.nd_at (pre := [k1, k2, k3]) (x := k4) (post := [k5, k6]) h, Held.off_at (pre := [k1, k2, k3]) (x := k4) (post := [k5, k6]) h, Held.far_at (pre := [k1, k2, k3]) (x := k4) (post := [k5, k6]) h⟩
theorem Held.step4 {k1 k2 k3 k4 k5 k6 : Kin} (h : Held w0 w g bc [k1, k2, k3, k4, k5, k6]) (hr : Fd.Row d t w' F' v' E') (hn : F'.Nodup) (hk : Keeps k4.F w w') (hs : ∀ b ∈ F', b ∈ k4.F ∨ w.heap.size ≤ b) : Held w0 w' g bc [k1, k2, k3, ⟨d, t, F', v', E'⟩, k5, k6] :=
  Held.step (pre := [k1, k2, k3]) (x := k4) (post := [k5, k6]) h hr hn hk hs
theorem Held.on5 {k1 k2 k3 k4 k5 k6 : Kin} (h : Held w0 w g bc [k1, k2, k3, k4, k5, k6]) : Fd.Row k5.d k5.t w k5.F k5.v k5.E ∧ k5.F.Nodup ∧ g ∉ k5.F ∧ ∀ b ∈ k5.F, w0.heap.size ≤ b :=
  ⟨Held.row_at (pre := [k1, k2, k3, k4]) (x := k5) (post := [k6]) h, Held.nd_at (pre := [k1, k2, k3, k4]) (x := k5) (post := [k6]) h, Held.off_at (pre := [k1, k2, k3, k4]) (x := k5) (post := [k6]) h, Held.far_at (pre := [k1, k2, k3, k4]) (x := k5) (post := [k6]) h⟩
theorem Held.step5 {k1 k2 k3 k4 k5 k6 : Kin} (h : Held w0 w g bc [k1, k2, k3, k4, k5, k6]) (hr : Fd.Row d t w' F' v' E') (hn : F'.Nodup) (hk : Keeps k5.F w w') (hs : ∀ b ∈ F', b ∈ k5.F ∨ w.heap.size ≤ b) : Held w0 w' g bc [k1, k2, k3, k4, ⟨d, t, F', v', E'⟩, k6] :=
  Held.step (pre := [k1, k2, k3, k4]) (x := k5) (post := [k6]) h hr hn hk hs
theorem Held.on6 {k1 k2 k3 k4 k5 k6 : Kin} (h : Held w0 w g bc [k1, k2, k3, k4, k5, k6]) : Fd.Row k6.d k6.t w k6.F k6.v k6.E ∧ k6.F.Nodup ∧ g ∉ k6.F ∧ ∀ b ∈ k6.F, w0.heap.size ≤ b :=
  ⟨Held.row_at (pre := [k1, k2, k3, k4, k5]) (x := k6) (post := []) h, Held.nd_at (pre := [k1, k2, k3, k4, k5]) (x := k6) (post := []) h, Held.off_at (pre := [k1, k2, k3, k4, k5]) (x := k6) (post := []) h, Held.far_at (pre := [k1, k2, k3, k4, k5]) (x := k6) (post := []) h⟩
theorem Held.step6 {k1 k2 k3 k4 k5 k6 : Kin} (h : Held w0 w g bc [k1, k2, k3, k4, k5, k6]) (hr : Fd.Row d t w' F' v' E') (hn : F'.Nodup) (hk : Keeps k6.F w w') (hs : ∀ b ∈ F', b ∈ k6.F ∨ w.heap.size ≤ b) : Held w0 w' g bc [k1, k2, k3, k4, k5, ⟨d, t, F', v', E'⟩] :=
  Held.step (pre := [k1, k2, k3, k4, k5]) (x := k6) (post := []) h hr hn hk hs
end
end Go.Proofs.YtcohodkpppmaoaaGreatDoor.Q
namespace Go.Proofs
open Go.Shelf
def Tryz.laysM171_ren : Go.Shelf.Ren := ⟨fun | 171 => 215 | 243 => 223 | 246 => 226 | 283 => 209 | 284 => 210 | 285 => 211 | 286 => 212 | 129 => 217 | 317 => 216 | 318 => 218 | 319 => 219 | 320 => 220 | 337 => 224 | 338 => 225 | n => n, fun | 3 => 3 | 9 => 9 | 2 => 2 | 4 => 4 | 171 => 248 | 0 => 0 | 53 => 159 | 37 => 67 | 5 => 5 | 173 => 251 | 212 => 255 | 51 => 46 | 20 => 20 | 213 => 256 | 46 => 232 | 232 => 262 | 233 => 263 | n => n, fun | 17 => 0 | 18 => 2 | 19 => 3 | n => n⟩
theorem Tryz.laysM171 : Go.Proofs.LaysM.n171 Tryz.prog Tryz.laysM171_ren := {
  mixed := by kernel_rfl
  f129 := Tryz.func217.trans (congrArg some (by kernel_rfl))
  f171 := Tryz.func215.trans (congrArg some (by kernel_rfl))
  f243 := Tryz.func223.trans (congrArg some (by kernel_rfl))
  f246 := Tryz.func226.trans (congrArg some (by kernel_rfl))
  f283 := Tryz.func209.trans (congrArg some (by kernel_rfl))
  f284 := Tryz.func210.trans (congrArg some (by kernel_rfl))
  f285 := Tryz.func211.trans (congrArg some (by kernel_rfl))
  f286 := Tryz.func212.trans (congrArg some (by kernel_rfl))
  f317 := Tryz.func216.trans (congrArg some (by kernel_rfl))
  f318 := Tryz.func218.trans (congrArg some (by kernel_rfl))
  f319 := Tryz.func219.trans (congrArg some (by kernel_rfl))
  f320 := Tryz.func220.trans (congrArg some (by kernel_rfl))
  f337 := Tryz.func224.trans (congrArg some (by kernel_rfl))
  f338 := Tryz.func225.trans (congrArg some (by kernel_rfl))
  t0 := Tryz.underlying0
  a0 := Tryz.isAgg0
  z0 := Tryz.sizeOf0
  v0 := Tryz.zeroValue0
  t2 := Tryz.underlying2
  a2 := Tryz.isAgg2
  z2 := Tryz.sizeOf2
  v2 := Tryz.zeroValue2
  t3 := Tryz.underlying3
  a3 := Tryz.isAgg3
  z3 := Tryz.sizeOf3
  v3 := Tryz.zeroValue3
  t4 := Tryz.underlying4
  a4 := Tryz.isAgg4
  z4 := Tryz.sizeOf4
  v4 := Tryz.zeroValue4
  t5 := Tryz.underlying5
  a5 := Tryz.isAgg5
  z5 := Tryz.sizeOf5
  v5 := Tryz.zeroValue5
  t9 := Tryz.underlying9
  a9 := Tryz.isAgg9
  z9 := Tryz.sizeOf9
  v9 := Tryz.zeroValue9
  t20 := Tryz.underlying20
  a20 := Tryz.isAgg20
  z20 := Tryz.sizeOf20
  v20 := Tryz.zeroValue20
  t37 := Tryz.underlying67
  a37 := Tryz.isAgg67
  z37 := Tryz.sizeOf67
  v37 := Tryz.zeroValue67
  t46 := Tryz.underlying232
  a46 := Tryz.isAgg232
  z46 := Tryz.sizeOf232
  v46 := Tryz.zeroValue232
  t51 := Tryz.underlying46
  a51 := Tryz.isAgg46
  z51 := Tryz.sizeOf46
  v51 := Tryz.zeroValue46
  t53 := Tryz.underlying159
  a53 := Tryz.isAgg159
  z53 := Tryz.sizeOf159
  v53 := Tryz.zeroValue159
  t171 := Tryz.underlying248
  a171 := Tryz.isAgg248
  z171 := Tryz.sizeOf248
  v171 := Tryz.zeroValue248
  t173 := Tryz.underlying251
  a173 := Tryz.isAgg251
  z173 := Tryz.sizeOf251
  v173 := Tryz.zeroValue251
  t212 := Tryz.underlying255
  a212 := Tryz.isAgg255
  z212 := Tryz.sizeOf255
  v212 := Tryz.zeroValue255
  t213 := Tryz.underlying256
  a213 := Tryz.isAgg256
  z213 := Tryz.sizeOf256
  t232 := Tryz.underlying262
  a232 := Tryz.isAgg262
  z232 := Tryz.sizeOf262
  v232 := Tryz.zeroValue262
  t233 := Tryz.underlying263
  a233 := Tryz.isAgg263
  z233 := Tryz.sizeOf263
  v233 := Tryz.zeroValue263
  g17 := by kernel_rfl
  g18 := by kernel_rfl
  g19 := by kernel_rfl
  i0 := by kernel_rfl
  i2 := by kernel_rfl
  i3 := by kernel_rfl
  i4 := by kernel_rfl
  i5 := by kernel_rfl
  i9 := by kernel_rfl
  i20 := by kernel_rfl
  i37 := by kernel_rfl
  i46 := by kernel_rfl
  i51 := by kernel_rfl
  i53 := by kernel_rfl
  i171 := by kernel_rfl
  i173 := by kernel_rfl
  i212 := by kernel_rfl
  i232 := by kernel_rfl
  i233 := by kernel_rfl
  m17 := by kernel_rfl
  m18 := by kernel_rfl
  m19 := by kernel_rfl }
open Go.RowKit Go.Sort Go.Lib in
/-- strconv.Itoa: "Itoa is equivalent to FormatInt(int64(i), 10).": i's DECIMAL NUMERAL ('Lib.itoa': a '-' where i is negative, then the digits), FOR EVERY int. The world behind the call: the world before it, new blocks behind the heap (the library's 'var a [24]byte'), draws. (LAID: no walk: one application.) -/
theorem Tryz.strconv_Itoa (n : Int) (h0 : -9223372036854775808 ≤ n) (h1 : n ≤ 9223372036854775807) (w : World) (htab : Lib.TabIs Tryz.prog w "internal/strconv.uint64pow10" .u64 Lib.pow10Tab) :
    Calls Tryz.prog 215 #[.int .i64 n] w fun e w' => e = .returned (.string ⟨(Lib.itoa n).toArray⟩) ∧ ∃ k os, w' = grow (w.drewN k) os := Any.strconv_Itoa Tryz.laysM171 n h0 h1 w htab
end Go.Proofs
namespace Go.Proofs.YtcohodkpppmaoaaGreatDoor
open Go.RowKit Go.Sort Go.Lib
set_option linter.unusedVariables false

/-- The table is there. -/
def TabOk (w : World) : Prop := Lib.TabIs Tryz.prog w "internal/strconv.uint64pow10" .u64 Lib.pow10Tab
theorem TabOk.below {w w1 : World} (h : TabOk w) (hb : Below w.heap.size w w1) : TabOk w1 := by
  unfold TabOk Lib.TabIs World.var? at *
  cases hg : Tryz.prog.globalNamed "internal/strconv.uint64pow10" with
  | none => simp [hg] at h
  | some g =>
    simp only [hg, Option.bind_some] at h ⊢
    have hlt : g < w.heap.size := by
      rcases Nat.lt_or_ge g w.heap.size with h' | h'
      · exact h'
      · rw [Array.getElem?_eq_none h'] at h; simp at h
    rw [hb.block g hlt]
    exact h
theorem digits_few (u : Nat) (hu : u < 18446744073709551616) : (Lib.decDigits u).length ≤ 20 := by
  rw [Lib.decDigits_length]
  by_cases h : u = 0
  · subst h; simp [Lib.nDigits]
  · have := Lib.numDigits_eq u (by omega) hu
    split at this <;> omega
end Go.Proofs.YtcohodkpppmaoaaGreatDoor
namespace Go.Proofs.YtcohodkpppmaoaaGreatDoor.Q
open Go.RowKit
end Go.Proofs.YtcohodkpppmaoaaGreatDoor.Q
namespace Go.Proofs.YtcohodkpppmaoaaGreatDoor.Q
open Go.RowKit Go.Proofs.YtcohodkpppmaoaaGreatDoorW.PrintWords Go.Proofs.YtcohodkpppmaoaaGreatDoorW.PrintLast Go.Proofs.YtcohodkpppmaoaaGreatDoorW.PrintMore
set_option linter.unusedVariables false
theorem grow_below (w : World) (os : Array Obj) : Below w.heap.size w (Go.Sort.grow w os) := by
  refine ⟨rfl, rfl, rfl, by simp [Go.Sort.grow], fun k hk => ?_⟩
  show (w.heap ++ os)[k]? = _
  rw [Array.getElem?_append_left hk]
def wordOf (n : Int) : ByteArray := (⟨#[35]⟩ : ByteArray) ++ (⟨(Lib.itoa n).toArray⟩ : ByteArray)
def concordatlaw01_word.f (n : Int) : Option ByteArray := if 0 ≤ n ∧ n ≤ 1000000000000000 then some (wordOf n) else none
set_option maxRecDepth 100000 in
theorem word_calls (n : Int) (h0 : 0 ≤ n) (h1 : n ≤ 1000000000000000) (w : World) (htab : TabOk w) :
    Calls Tryz.prog 207 #[.int .i64 n] w fun e w' => e = .returned (.string (wordOf n)) ∧ Below w.heap.size w w' := by
  have hi : Lib.itoa n = Lib.decDigits n.toNat := if_neg (by omega)
  have hl : ¬ 9223372036854775807 < 1 + (Lib.itoa n).length := by have := digits_few n.toNat (by omega); rw [hi]; omega
  have HT := Aside0.mk htab
  clear htab hi
  go_enter Tryz.func207, Tryz.ntmps207
  go_wp2_with fail
  refine (Tryz.strconv_Itoa n (by omega) (by omega) w HT.out).mono ?_
  rintro e w' ⟨rfl, k, os, rfl⟩
  have HB := Aside0.mk (below_step (pw_below_drewN (Below.refl w.heap.size w) k) (grow_below (w.drewN k) os))
  go_wp2
  go_ret
  exact ⟨rfl, HB.out⟩
theorem concordatlaw01_word.calls (a0 : Int) (r : ByteArray) (w : World) (h : concordatlaw01_word.f a0 = some r) (hT0_ : TabOk w) : Calls Tryz.prog 207 #[.int .i64 a0] w fun e w' => e = .returned (.string r) ∧ Below w.heap.size w w' := by
  unfold concordatlaw01_word.f at h
  split at h
  case isFalse => cases h
  rename_i hb
  have hg := Option.some.inj h
  subst hg
  exact word_calls a0 hb.1 hb.2 w hT0_
end Go.Proofs.YtcohodkpppmaoaaGreatDoor.Q
