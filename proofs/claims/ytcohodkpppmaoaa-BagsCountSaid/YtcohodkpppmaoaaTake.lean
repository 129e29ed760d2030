/-
  Contracts of layer 8 (bags): Take, Copy, List.
-/
import Derived.Test.YtcohodkpppmaoaaBag2
import Derived.Test.YtcohodkpppmaoaaDel
namespace Go.Proofs.Ytcohodkpppmaoaa.Q
open Go.RowKit Go.Proofs.YtcohodkpppmaoaaW.PrintWords Go.Proofs.YtcohodkpppmaoaaW.PrintLast Go.Proofs.YtcohodkpppmaoaaW.PrintMore
set_option linter.unusedVariables false

/-- A room that holds message x at place k: the row's cells and blocks, parted there. -/
theorem RoomAt.open_ {w : World} {h : Nat} {most : Int} {L : List MsgT} {G : List Nat} (hr : RoomAt w h most L G) {k : Nat} {x : MsgT} (hk : L[k]? = some x) :
    ∃ gl c v4 v5 c0 c1 G0 Gm G1, w.heap[h]? = some (.cells #[.slice (some ⟨gl, 0, none⟩) L.length c, .int .i64 most, .func (.func 67) #[] #[]] 114 (0, 0)) ∧
      w.ownsRow 0 38 6 (.slice (some ⟨gl, 0, none⟩) L.length c) L.length (c0 ++ ((msgCells x v4 v5).toList ++ c1)) ∧ c0.length = k * 6 ∧ Fd.Els fdMsg w (L.take k) c0 G0 ∧ fdMsg.M w Gm x (msgCells x v4 v5).toList ∧ Fd.Els fdMsg w (L.drop (k + 1)) c1 G1 ∧ G = gl :: (G0 ++ (Gm ++ G1)) := by
  obtain ⟨v, hb, inner, G', ho, he, rfl⟩ := hr
  obtain ⟨hkl, hx⟩ := List.getElem?_eq_some_iff.1 hk
  obtain ⟨gl, c, rfl, _⟩ := ho.form (by omega)
  obtain ⟨c0, cm, c1, G0, Gm, G1, rfl, h0, rfl, h1, h2, h3⟩ := Fd.els_at hkl he
  rw [hx] at h2
  obtain ⟨v4, v5, hcm, _⟩ := MsgIn.of_M h2
  subst hcm
  exact ⟨gl, c, v4, v5, c0, c1, G0, Gm, G1, hb, ho, h0, h1, h2, h3, rfl⟩
theorem cells_at {w : World} {g n c k : Nat} {x : MsgT} {v4 v5 : Value} {c0 c1 : List Value} (ho : w.ownsRow 0 38 6 (.slice (some ⟨g, 0, none⟩) n c) n (c0 ++ ((msgCells x v4 v5).toList ++ c1))) (h0 : c0.length = k * 6) :
    w.cell? ⟨g, k * 6, none⟩ = some (.int .u8 x.f0) ∧ w.cell? ⟨g, k * 6 + 1, none⟩ = some (.int .u8 x.f1) ∧ w.cell? ⟨g, k * 6 + 2, none⟩ = some (.int .u8 x.f2) ∧ w.cell? ⟨g, k * 6 + 3, none⟩ = some (.int .u32 x.f3) ∧ w.cell? ⟨g, k * 6 + 4, none⟩ = some v4 ∧ w.cell? ⟨g, k * 6 + 5, none⟩ = some v5 := by
  have hc : ∀ j u, (msgCells x v4 v5).toList[j]? = some u → w.cell? ⟨g, k * 6 + j, none⟩ = some u := by
    intro j u hu
    have hj : j < 6 := by have := (List.getElem?_eq_some_iff.1 hu).1; simpa [msgCells] using this
    have := ho.cells (g := g) rfl (k * 6 + j) u (by
      rw [List.getElem?_append_right (by omega), h0, Nat.add_sub_cancel_left, List.getElem?_append_left (by simpa [msgCells] using hj)]
      exact hu)
    rwa [add_plain] at this
  exact ⟨hc 0 _ rfl, hc 1 _ rfl, hc 2 _ rfl, hc 3 _ rfl, hc 4 _ rfl, hc 5 _ rfl⟩

/-! ### Take -/
def TookPost (w : World) (g : Nat) (most : Int) (L : List MsgT) (F : List Nat) (k : Nat) (x : MsgT) (e : Ending) (w' : World) : Prop :=
  ∃ v4 v5 F' Fm, e = .returned (.tuple #[.agg (msgCells x v4 v5), .int .i64 0]) ∧ fdMsg.M w' Fm x (msgCells x v4 v5).toList ∧ BagAt w' g most (L.eraseIdx k) F' ∧ (F' ++ Fm).Nodup ∧ Keeps F w w' ∧ ∀ b ∈ F' ++ Fm, b ∈ F
theorem take_fin {w W0 w5 W : World} {g h gl n c k : Nat} {most : Int} {L : List MsgT} {x : MsgT} {v4 v5 : Value} {c0 c1 : List Value} {G0 Gm G1 : List Nat} (hg : w.heap[g]? = some (.cells #[.pointer (some ⟨h, 0, none⟩)] 42 (0, 0)))
    (hh : h < w.heap.size) (hl : gl < w.heap.size) (hn : L.length = n + 1) (hk : L[k]? = some x) (hE0 : Fd.Els fdMsg w (L.take k) c0 G0) (hM : fdMsg.M w Gm x (msgCells x v4 v5).toList) (hE1 : Fd.Els fdMsg w (L.drop (k + 1)) c1 G1) (hnd : (g :: h :: gl :: (G0 ++ (Gm ++ G1))).Nodup)
    (hW : Below w.heap.size w W0) (k5 : Keeps [gl] W0 w5) (o5 : w5.ownsRow 0 38 6 (.slice (some ⟨gl, 0, none⟩) n c) n (c0 ++ c1)) (kW : Keeps [h, w.heap.size] w5 W)
    (hb : W.heap[h]? = some (.cells #[.slice (some ⟨gl, 0, none⟩) n c, .int .i64 most, .func (.func 67) #[] #[]] 114 (0, 0))) :
    TookPost w g most L (g :: h :: gl :: (G0 ++ (Gm ++ G1))) k x (.returned (.tuple #[.agg (msgCells x v4 v5), .int .i64 0])) W := by
  have KW : Keeps [gl, h, w.heap.size] w W := ((Keeps.of_below hW [gl, h, w.heap.size]).trans k5 (fun y hy => .inl (by simp at hy; simp [hy]))).trans kW (fun y hy => .inl (by simp only [List.mem_cons, List.not_mem_nil, or_false] at hy ⊢; exact .inr hy))
  have hlt : ∀ b ∈ G0 ++ (Gm ++ G1), b < w.heap.size := fun b hb => by
    rcases List.mem_append.1 hb with hb | hb
    · exact Fd.els_lt hE0 b hb
    · rcases List.mem_append.1 hb with hb | hb
      · exact fdMsg.lt hM b hb
      · exact Fd.els_lt hE1 b hb
  obtain ⟨n1, n2⟩ := List.nodup_cons.1 hnd
  obtain ⟨n3, n4⟩ := List.nodup_cons.1 n2
  obtain ⟨n5, n6⟩ := List.nodup_cons.1 n4
  have hfar : ∀ b ∈ G0 ++ (Gm ++ G1), b ∉ [gl, h, w.heap.size] := fun b hb hx => by
    simp only [List.mem_cons, List.not_mem_nil, or_false] at hx
    rcases hx with e | e | e
    · exact n5 (e ▸ hb)
    · exact n3 (List.mem_cons_of_mem _ (e ▸ hb))
    · have := hlt _ hb
      omega
  have hgfar : g ∉ [gl, h, w.heap.size] := fun hx => by
    simp only [List.mem_cons, List.not_mem_nil, or_false] at hx
    have := blk_lt hg
    rcases hx with rfl | rfl | rfl
    · exact n1 (by simp)
    · exact n1 (by simp)
    · omega
  have hlh : gl ∉ [h, w.heap.size] := fun hx => by
    simp only [List.mem_cons, List.not_mem_nil, or_false] at hx
    rcases hx with rfl | rfl
    · exact n3 (by simp)
    · omega
  have hm : ∀ b ∈ G0 ++ (Gm ++ G1), W.heap[b]? = w.heap[b]? := fun b hb => KW.block b (hlt b hb) (hfar b hb)
  have hlen : (L.eraseIdx k).length = n := by
    rw [List.length_eraseIdx_of_lt (List.getElem?_eq_some_iff.1 hk).1]
    omega
  refine ⟨v4, v5, g :: h :: gl :: (G0 ++ G1), Gm, rfl, fdMsg.move (fun b hb => hm b (by simp [hb])) hM, ⟨h, gl :: (G0 ++ G1), KW.blk hg hgfar, ⟨_, hb, c0 ++ c1, G0 ++ G1, ?_, ?_, rfl⟩, rfl, ?_⟩, ?_, ?_, ?_⟩
  · rw [hlen]
    exact own_move o5 (fun b hb => by
      have : gl = b := by simpa [Value.ownBlock] using hb
      subst this
      exact kW.block gl (own_lt o5 gl rfl) hlh)
  · rw [List.eraseIdx_eq_take_drop_succ]
    exact Fd.els_append (Fd.els_move (fun b hb => hm b (by simp [hb])) hE0) (Fd.els_move (fun b hb => hm b (by simp [hb])) hE1)
  · refine List.Sublist.nodup ?_ hnd
    exact ((List.Sublist.append_left (List.sublist_append_right _ _) _).cons_cons _).cons_cons _ |>.cons_cons _
  · refine (List.Perm.nodup_iff ?_).1 hnd
    simp only [List.cons_append, List.append_assoc]
    exact ((List.Perm.append_left _ List.perm_append_comm).cons _).cons _ |>.cons _
  · exact KW.mono (fun y hy => by
      simp only [List.mem_cons, List.not_mem_nil, or_false] at hy ⊢
      rcases hy with rfl | rfl | rfl
      · exact .inl (.inr (.inr (.inl rfl)))
      · exact .inl (.inr (.inl rfl))
      · exact .inr (Nat.le_refl _))
  · intro b hb
    simp only [List.cons_append, List.mem_cons, List.mem_append] at hb ⊢
    rcases hb with h1 | h1 | h1 | (h1 | h1) | h1
    · exact .inl h1
    · exact .inr (.inl h1)
    · exact .inr (.inr (.inl h1))
    · exact .inr (.inr (.inr (.inl h1)))
    · exact .inr (.inr (.inr (.inr (.inr h1))))
    · exact .inr (.inr (.inr (.inr (.inl h1))))
set_option maxHeartbeats 3200000 in
set_option maxRecDepth 100000 in
theorem Take_yes (w : World) (g : Nat) (most : Int) (L : List MsgT) (F : List Nat) (k : Nat) (x : MsgT) (hR : BagAt w g most L F) (hk : L[k]? = some x) (hL : L.length ≤ 65536) :
    Calls Try.prog 25 #[.pointer (some ⟨g, 0, none⟩), .int .i64 k] w (TookPost w g most L F k x) := by
  obtain ⟨h, G, hg, hr, rfl, hnd⟩ := hR
  obtain ⟨gl, c, v4, v5, c0, c1, G0, Gm, G1, hb, ho, h0, hE0, hM, hE1, rfl⟩ := hr.open_ hk
  have hu := Try.underlying38
  have hkl : k < L.length := (List.getElem?_eq_some_iff.1 hk).1
  obtain ⟨n, hn⟩ : ∃ n, L.length = n + 1 := ⟨L.length - 1, by omega⟩
  rw [hn] at hb ho
  have q0 := blk_cell hg 0
  have p0 := blk_cell hb 0
  have hgl : g < w.heap.size := blk_lt hg
  have hhl : h < w.heap.size := blk_lt hb
  have hll : gl < w.heap.size := own_lt ho gl rfl
  have hkn : (k : Int) < (n : Int) + 1 := by omega
  have hn65 : n ≤ 65536 := by omega
  have hha : hasB (k : Int) (n + 1) = true := by unfold hasB; simp; omega
  obtain ⟨k0, k1, k2, k3, k4, k5⟩ := cells_at ho h0
  obtain ⟨⟨A4, d4, A5, d5, e4, e5, _⟩⟩ := (show MsgIn w x v4 v5 from by
    obtain ⟨a, b, e, hmi⟩ := MsgIn.of_M hM
    have e1 : msgCells x v4 v5 = msgCells x a b := Array.ext' e
    unfold msgCells at e1
    simp at e1
    rw [e1.1, e1.2]
    exact hmi)
  subst e4; subst e5
  have hs1 : IntKind.i64.wrap ((k : Int) + 1) = (k : Int) + 1 := IntWalk.i64_in _ (by omega)
  have HG := Aside0.mk hg
  have HBK := Aside0.mk hb
  have HO := Aside0.mk ho
  have H0 := Aside0.mk h0
  have HE0 := Aside0.mk hE0
  have HE1 := Aside0.mk hE1
  have HM := Aside0.mk hM
  have HND := Aside0.mk hnd
  have HN := Aside0.mk hn
  have HK := Aside0.mk hk
  have HHA := Aside0.mk hha
  clear hg hb ho h0 hE0 hE1 hM hnd hn hk hr hha
  go_enter Try.func25, Try.ntmps25
  go_wp2_with fail
  refine (ask_calls _ g h (n + 1) c (some ⟨gl, 0, none⟩) (k : Int) (cell_later (below_alloc (Below.refl w.heap.size w) _) q0) (cell_later (below_alloc (Below.refl w.heap.size w) _) p0)).mono ?_
  rintro e w' ⟨rfl, rfl⟩
  rw [HHA.out, if_pos rfl]
  go_wp2_with fail
  go_region_with (first
    | (go_at_call 64
       have hbw := below_drew1 (below_alloc (Below.refl w.heap.size w) (.cells #[.int .u8 x.f0, .int .u8 x.f1, .int .u8 x.f2, .int .u32 x.f3, .slice A4 x.f4.length d4, .slice A5 x.f5.length d5] 38))
       refine (delete_calls _ gl n c k c0 _ c1 (pw_own_below HO.out hbw) H0.out rfl (by omega) (fun u hu => Fd.els_one_cell HE1.out u hu) (by omega)).mono ?_
       rintro e w5 ⟨rfl, ho5, k5⟩
       have BW := Aside0.mk hbw
       have O5 := Aside0.mk ho5
       have K5 := Aside0.mk k5
       have hgn : g ∉ [gl] := fun hx => (List.nodup_cons.1 HND.out).1 (by simp at hx; simp [hx])
       have hhn : h ∉ [gl] := fun hx => (List.nodup_cons.1 (List.nodup_cons.1 HND.out).2).1 (by simp at hx; simp [hx])
       have bg5 := k5.blk (blk_below HG.out hbw) hgn
       have bh5 := k5.blk (blk_below HBK.out hbw) hhn
       have bb5 := k5.blk (blk_drew (blk_new w (.cells #[.int .u8 x.f0, .int .u8 x.f1, .int .u8 x.f2, .int .u32 x.f3, .slice A4 x.f4.length d4, .slice A5 x.f5.length d5] 38))) (by simp; omega)
       have q5 := blk_cell bg5 0
       have p5 := blk_cell bh5 0
       have pf5 := blk_frozen bh5 0
       obtain ⟨⟨z0, z1, z2, z3, z4, z5⟩, y0, y1, y2, y3, y4, y5⟩ := blk6 bb5
       have hhb : h ≠ w.heap.size := by omega
       have BH5 := Aside0.mk bh5
       have BB5 := Aside0.mk bb5
       clear hbw ho5 k5 hgn hhn bg5 bh5 bb5))
  all_goals
    have BH6 := Aside0.mk (blk_put BH5.out 0 (.slice (some ⟨gl, 0, none⟩) n c) (cs' := #[.slice (some ⟨gl, 0, none⟩) n c, .int .i64 most, .func (.func 67) #[] #[]]) rfl)
    have BB6 := Aside0.mk (blk_far BB5.out (p := ⟨h, 0, none⟩) (Ne.symm hhb) (.slice (some ⟨gl, 0, none⟩) n c))
    go_wp2
    try simp only [Exit.inBlock, Exit.then]
    refine bodyPost_ret (results_ct rfl _ _ w.heap.size 38 (msgCells x (.slice A4 x.f4.length d4) (.slice A5 x.f5.length d5)) (0, 0) _ rfl (blk_put (cs' := msgCells x (.slice A4 x.f4.length d4) (.slice A5 x.f5.length d5)) (blk_put (cs' := msgCells x (.slice A4 x.f4.length d4) (.slice A5 x.f5.length d5)) (blk_put (cs' := msgCells x (.slice A4 x.f4.length d4) (.slice A5 x.f5.length d5)) (blk_put (cs' := msgCells x (.slice A4 x.f4.length d4) (.slice A5 x.f5.length d5)) (blk_put (cs' := msgCells x (.slice A4 x.f4.length d4) (.slice A5 x.f5.length d5)) (blk_put (cs' := msgCells x (.slice A4 x.f4.length d4) (.slice A5 x.f5.length d5)) BB6.out 0 _ rfl) 1 _ rfl) 2 _ rfl) 3 _ rfl) 4 _ rfl) 5 _ rfl) hu rfl (by kernel_rfl)) rfl ?_
    have FIN := fun (W : World) (kW : Keeps [h, w.heap.size] w5 W) (hb : W.heap[h]? = some (.cells #[.slice (some ⟨gl, 0, none⟩) n c, .int .i64 most, .func (.func 67) #[] #[]] 114 (0, 0))) => take_fin HG.out hhl hll HN.out HK.out HE0.out HM.out HE1.out HND.out BW.out K5.out O5.out kW hb
    refine FIN _ ?_ ?_
    · exact (Keeps.setCell (Keeps.setCell (Keeps.setCell (Keeps.setCell (Keeps.setCell (Keeps.setCell (Keeps.setCell (Keeps.refl [h, w.heap.size] w5) (p := ⟨h, 0, none⟩) (.inl (by simp)) _) (p := ⟨w.heap.size, 0, none⟩) (.inl (by simp)) _) (p := ⟨w.heap.size, 1, none⟩) (.inl (by simp)) _) (p := ⟨w.heap.size, 2, none⟩) (.inl (by simp)) _) (p := ⟨w.heap.size, 3, none⟩) (.inl (by simp)) _) (p := ⟨w.heap.size, 4, none⟩) (.inl (by simp)) _) (p := ⟨w.heap.size, 5, none⟩) (.inl (by simp)) _)
    · exact (blk_far (blk_far (blk_far (blk_far (blk_far (blk_far BH6.out (p := ⟨w.heap.size, 0, none⟩) hhb _) (p := ⟨w.heap.size, 1, none⟩) hhb _) (p := ⟨w.heap.size, 2, none⟩) hhb _) (p := ⟨w.heap.size, 3, none⟩) hhb _) (p := ⟨w.heap.size, 4, none⟩) hhb _) (p := ⟨w.heap.size, 5, none⟩) hhb _)

end Go.Proofs.Ytcohodkpppmaoaa.Q
