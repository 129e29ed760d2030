/-
  Contracts of layer 8 (bags): Add, slices.Delete, Take, Copy, List.
-/
import Derived.Test.YtcohodkpppmaoaaBag
import Derived.WalkLawsBesides
namespace Go.Proofs.Ytcohodkpppmaoaa.Q
open Go.RowKit Go.Proofs.YtcohodkpppmaoaaW.PrintWords Go.Proofs.YtcohodkpppmaoaaW.PrintLast Go.Proofs.YtcohodkpppmaoaaW.PrintMore
set_option linter.unusedVariables false

/-! ### Add -/
def AddedPost (w : World) (g : Nat) (most : Int) (L : List MsgT) (F : List Nat) (m : MsgT) (e : Ending) (w' : World) : Prop := ∃ F', e = .returned (.int .i64 0) ∧ BagAt w' g most (L ++ [m]) F' ∧ Keeps F w w' ∧ ∀ b ∈ F', b ∈ F ∨ w.heap.size ≤ b
set_option maxHeartbeats 3200000 in
set_option maxRecDepth 100000 in
theorem Add_yes (w : World) (g : Nat) (most : Int) (L : List MsgT) (F : List Nat) (m : MsgT) (v4 v5 : Value) (hR : BagAt w g most L F) (hne : (L.length : Int) ≠ most) (hL : L.length ≤ 65536) (hm : MsgIn w m v4 v5) (hB : msgB m) :
    Calls Try.prog 26 #[.pointer (some ⟨g, 0, none⟩), .agg (msgCells m v4 v5)] w (AddedPost w g most L F m) := by
  obtain ⟨h, G, hg, hr, rfl, hnd⟩ := hR
  have c0 := blk_cell hg 0
  have hlt : g < w.heap.size := blk_lt hg
  have HG := Aside0.mk hg
  have HR := Aside0.mk hr
  have HM := Aside0.mk hm
  have HMB := Aside0.mk hB
  have HNE := Aside0.mk hne
  have HND := Aside0.mk hnd
  obtain ⟨A4, c4, A5, c5, rfl, rfl, _⟩ := hm.read
  clear hg hr hm hB hne hnd
  unfold msgCells
  go_enter Try.func26, Try.ntmps26
  go_wp2_with fail
  refine (there_yes _ g h (cell_later (below_alloc (Below.refl w.heap.size w) _) c0)).mono ?_
  rintro e w' ⟨rfl, rfl⟩
  go_wp2_with fail
  go_region_with (first
    | (go_at_call 66
       have hbw := below_drew1 (below_alloc (Below.refl w.heap.size w) (.cells #[.int .u8 m.f0, .int .u8 m.f1, .int .u8 m.f2, .int .u32 m.f3, .slice A4 m.f4.length c4, .slice A5 m.f5.length c5] 38))
       refine (add_yes _ h most L G m _ _ (HR.out.keeps (Keeps.of_below hbw []) (fun _ _ hx => by cases hx)) (List.nodup_cons.1 HND.out).2 HNE.out hL (HM.out.below hbw) HMB.out).mono ?_
       rintro e w5 ⟨G5, rfl, r5, n5, k5, l5⟩
       have R5 := Aside0.mk r5
       have N5 := Aside0.mk n5
       have K5 := Aside0.mk ((Keeps.of_below hbw (h :: G)).trans k5 (fun x hx => .inl hx))
       have L5 := Aside0.mk (show ∀ b ∈ G5, b ∈ G ∨ w.heap.size ≤ b from fun b hb => (l5 b hb).imp id (fun h => Nat.le_trans hbw.size h))
       clear r5 n5 k5 l5 hbw))
  all_goals
    go_wp2
    go_ret
    have hgn := (List.nodup_cons.1 HND.out).1
    refine ⟨g :: h :: G5, rfl, ⟨h, G5, K5.out.blk HG.out hgn, R5.out, rfl, List.nodup_cons.2 ⟨fun hx => ?_, N5.out⟩⟩, K5.out.mono (fun x hx => .inl (by simp only [List.mem_cons] at hx ⊢; exact .inr hx)), fun b hb => ?_⟩
    · rcases List.mem_cons.1 hx with hx | hx
      · exact hgn (by simp [hx])
      · rcases L5.out g hx with h1 | h1
        · exact hgn (by simp [h1])
        · have := blk_lt HG.out
          omega
    · simp only [List.mem_cons] at hb ⊢
      rcases hb with hb | hb | hb
      · exact .inl (.inl hb)
      · exact .inl (.inr (.inl hb))
      · exact (L5.out b hb).imp (fun h1 => .inr (.inr h1)) id
set_option maxRecDepth 100000 in
theorem Add_no (w : World) (g : Nat) (most : Int) (L : List MsgT) (F : List Nat) (m : MsgT) (v4 v5 : Value) (hR : BagAt w g most L F) (hne : (L.length : Int) = most) (hm : MsgIn w m v4 v5) :
    Calls Try.prog 26 #[.pointer (some ⟨g, 0, none⟩), .agg (msgCells m v4 v5)] w fun e w' => e = .returned (.int .i64 5) ∧ Below w.heap.size w w' := by
  obtain ⟨h, G, hg, hr, rfl, hnd⟩ := hR
  have c0 := blk_cell hg 0
  have hlt : g < w.heap.size := blk_lt hg
  have HR := Aside0.mk hr
  have HNE := Aside0.mk hne
  obtain ⟨A4, c4, A5, c5, rfl, rfl, _⟩ := hm.read
  clear hg hr hm hne hnd
  unfold msgCells
  go_enter Try.func26, Try.ntmps26
  go_wp2_with fail
  refine (there_yes _ g h (cell_later (below_alloc (Below.refl w.heap.size w) _) c0)).mono ?_
  rintro e w' ⟨rfl, rfl⟩
  go_wp2_with fail
  go_region_with (first
    | (go_at_call 66
       have hbw := below_drew1 (below_alloc (Below.refl w.heap.size w) (.cells #[.int .u8 m.f0, .int .u8 m.f1, .int .u8 m.f2, .int .u32 m.f3, .slice A4 m.f4.length c4, .slice A5 m.f5.length c5] 38))
       refine (add_no _ h most L G m _ _ (HR.out.keeps (Keeps.of_below hbw []) (fun _ _ hx => by cases hx)) HNE.out).mono ?_
       rintro e w5 ⟨rfl, hb5⟩
       have B5 := Aside0.mk (below_step hbw hb5)
       clear hb5 hbw))
  all_goals
    go_wp2
    go_ret
    exact ⟨rfl, B5.out⟩
theorem Add_none (w : World) (m : MsgT) (v4 v5 : Value) (hm : MsgIn w m v4 v5) :
    Calls Try.prog 26 #[.pointer none, .agg (msgCells m v4 v5)] w fun e w' => e = .returned (.int .i64 2) ∧ Below w.heap.size w w' := by
  obtain ⟨A4, c4, A5, c5, rfl, rfl, _⟩ := hm.read
  clear hm
  unfold msgCells
  go_enter Try.func26, Try.ntmps26
  go_wp2_with fail
  refine (there_none _).mono ?_
  rintro e w' ⟨rfl, rfl⟩
  go_wp2
  go_ret
  exact ⟨rfl, below_alloc (Below.refl _ _) _⟩
theorem Add_empty (w : World) (g : Nat) (hg : w.cell? ⟨g, 0, none⟩ = some (.pointer none)) (m : MsgT) (v4 v5 : Value) (hm : MsgIn w m v4 v5) :
    Calls Try.prog 26 #[.pointer (some ⟨g, 0, none⟩), .agg (msgCells m v4 v5)] w fun e w' => e = .returned (.int .i64 2) ∧ Below w.heap.size w w' := by
  obtain ⟨A4, c4, A5, c5, rfl, rfl, _⟩ := hm.read
  have hlt : g < w.heap.size := World.block_lt_of_cell? w _ hg
  clear hm
  unfold msgCells
  go_enter Try.func26, Try.ntmps26
  go_wp2_with fail
  refine (there_empty _ g (cell_later (below_alloc (Below.refl w.heap.size w) _) hg)).mono ?_
  rintro e w' ⟨rfl, rfl⟩
  go_wp2
  go_ret
  exact ⟨rfl, below_alloc (Below.refl _ _) _⟩

/-! ### slices.Delete of one message -/
end Go.Proofs.Ytcohodkpppmaoaa.Q
