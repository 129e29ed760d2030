/-
  Contracts of layer 8 (bags): New, Add, Take, Copy, List: what a bag holds, and in which blocks.
-/
import Derived.Test.YtcohodkpppmaoaaMsg
import Derived.Deep.RegionLaw
import Derived.Outline
namespace Go.Proofs.Ytcohodkpppmaoaa.Q
open Go.RowKit Go.Proofs.YtcohodkpppmaoaaW.PrintWords Go.Proofs.YtcohodkpppmaoaaW.PrintLast Go.Proofs.YtcohodkpppmaoaaW.PrintMore
set_option linter.unusedVariables false

/-- A room at block h: its messages L, in blocks G of its own. -/
def RoomAt (w : World) (h : Nat) (most : Int) (L : List MsgT) (G : List Nat) : Prop :=
  ∃ v, w.heap[h]? = some (.cells #[v, .int .i64 most, .func (.func 67) #[] #[]] 114 (0, 0)) ∧ Fd.Row fdMsg 38 w G v L
/-- A bag at block g, with its room; F: all their blocks. -/
def BagAt (w : World) (g : Nat) (most : Int) (L : List MsgT) (F : List Nat) : Prop :=
  ∃ h G, w.heap[g]? = some (.cells #[.pointer (some ⟨h, 0, none⟩)] 42 (0, 0)) ∧ RoomAt w h most L G ∧ F = g :: h :: G ∧ F.Nodup

theorem RoomAt.keeps {w w1 : World} {h : Nat} {most : Int} {L : List MsgT} {G F : List Nat} (hr : RoomAt w h most L G) (hk : Keeps F w w1) (hF : ∀ b ∈ h :: G, b ∉ F) : RoomAt w1 h most L G := by
  obtain ⟨v, h1, h2⟩ := hr
  exact ⟨v, hk.blk h1 (hF h (by simp)), Fd.row_keeps h2 hk (fun b hb => hF b (by simp [hb]))⟩
theorem BagAt.keeps {w w1 : World} {g : Nat} {most : Int} {L : List MsgT} {F F' : List Nat} (hr : BagAt w g most L F) (hk : Keeps F' w w1) (hF : ∀ b ∈ F, b ∉ F') : BagAt w1 g most L F := by
  obtain ⟨h, G, h1, h2, rfl, h3⟩ := hr
  exact ⟨h, G, hk.blk h1 (hF g (by simp)), h2.keeps hk (fun b hb => hF b (by simp only [List.mem_cons] at hb ⊢; exact .inr hb)), rfl, h3⟩
theorem BagAt.below {w w1 : World} {g : Nat} {most : Int} {L : List MsgT} {F : List Nat} (hr : BagAt w g most L F) (hb : Below w.heap.size w w1) : BagAt w1 g most L F := hr.keeps (Keeps.of_below hb []) (fun _ _ h => by cases h)
theorem BagAt.lt {w : World} {g : Nat} {most : Int} {L : List MsgT} {F : List Nat} (hr : BagAt w g most L F) : ∀ b ∈ F, b < w.heap.size := by
  obtain ⟨h, G, h1, ⟨v, h2, h3⟩, rfl, _⟩ := hr
  intro b hb
  simp only [List.mem_cons] at hb
  rcases hb with rfl | rfl | hb
  · exact blk_lt h1
  · exact blk_lt h2
  · exact Fd.row_lt h3 b hb
theorem BagAt.nodup {w : World} {g : Nat} {most : Int} {L : List MsgT} {F : List Nat} (hr : BagAt w g most L F) : F.Nodup := by
  obtain ⟨h, G, h1, h2, rfl, h3⟩ := hr
  exact h3

/-- Where a message that is read lies. -/
structure MsgIn (w : World) (m : MsgT) (v4 v5 : Value) : Prop where
  read : ∃ A4 c4 A5 c5, v4 = .slice A4 m.f4.length c4 ∧ v5 = .slice A5 m.f5.length c5 ∧ m.f4.length ≤ c4 ∧ k68.C w A4 m.f4.length m.f4 ∧ m.f5.length ≤ c5 ∧ k71.C w A5 m.f5.length m.f5
theorem MsgIn.below {w w1 : World} {m : MsgT} {v4 v5 : Value} (h : MsgIn w m v4 v5) (hb : Below w.heap.size w w1) : MsgIn w1 m v4 v5 := by
  obtain ⟨A4, c4, A5, c5, e4, e5, l4, h4, l5, h5⟩ := h.read
  exact ⟨A4, c4, A5, c5, e4, e5, l4, Kd.C_below h4 hb, l5, Kd.C_below h5 hb⟩
theorem MsgIn.of_M {w : World} {F : List Nat} {m : MsgT} {cs : List Value} (h : fdMsg.M w F m cs) : ∃ v4 v5, cs = (msgCells m v4 v5).toList ∧ MsgIn w m v4 v5 := by
  obtain ⟨v4, v5, F4, F5, rfl, rfl, h4, h5⟩ := h
  obtain ⟨A4, c4, rfl, l4, g4⟩ := Fd.row_reads h4
  obtain ⟨A5, c5, rfl, l5, g5⟩ := Fd.row_reads h5
  exact ⟨_, _, rfl, A4, c4, A5, c5, rfl, rfl, l4, g4, l5, g5⟩

/-- What like leaves. -/
def Liked (w : World) (m : MsgT) (e : Ending) (w' : World) : Prop := ∃ v4 v5 F, e = .returned (.agg (msgCells m v4 v5)) ∧ fdMsg.M w' F m (msgCells m v4 v5).toList ∧ F.Nodup ∧ (∀ b ∈ F, w.heap.size ≤ b) ∧ Below w.heap.size w w'
theorem liked (w : World) (m : MsgT) {v4 v5 : Value} (h : MsgIn w m v4 v5) (hB : msgB m) : Calls Try.prog 67 #[.agg (msgCells m v4 v5)] w (Liked w m) := by
  obtain ⟨A4, c4, A5, c5, rfl, rfl, l4, h4, l5, h5⟩ := h.read
  refine (like_calls w m A4 c4 A5 c5 l4 h4 l5 h5 hB).mono ?_
  rintro e w' ⟨cs, F, rfl, hM, h1, h2, h3⟩
  obtain ⟨v4, v5, hc, _⟩ := MsgIn.of_M hM
  obtain rfl : cs = msgCells m v4 v5 := Array.ext' hc
  exact ⟨v4, v5, F, rfl, hM, h1, h2, h3⟩

/-! ### there, has, ask -/
theorem there_none (w : World) : Calls Try.prog 65 #[.pointer none] w fun e w' => e = .returned (.bool false) ∧ w = w' := by
  go_enter Try.func65, Try.ntmps65
  go_wp2
  go_ret
  exact ⟨rfl, rfl⟩
theorem there_empty (w : World) (g : Nat) (hg : w.cell? ⟨g, 0, none⟩ = some (.pointer none)) : Calls Try.prog 65 #[.pointer (some ⟨g, 0, none⟩)] w fun e w' => e = .returned (.bool false) ∧ w = w' := by
  go_enter Try.func65, Try.ntmps65
  go_wp2
  go_ret
  exact ⟨rfl, rfl⟩
theorem there_yes (w : World) (g h : Nat) (hg : w.cell? ⟨g, 0, none⟩ = some (.pointer (some ⟨h, 0, none⟩))) : Calls Try.prog 65 #[.pointer (some ⟨g, 0, none⟩)] w fun e w' => e = .returned (.bool true) ∧ w = w' := by
  go_enter Try.func65, Try.ntmps65
  go_wp2
  go_ret
  exact ⟨rfl, rfl⟩
def hasB (i : Int) (n : Nat) : Bool := decide (0 ≤ i) && decide (i < (n : Int))
theorem has_calls (w : World) (h n c : Nat) (A : Option Addr) (i : Int) (hg : w.cell? ⟨h, 0, none⟩ = some (.slice A n c)) : Calls Try.prog 86 #[.pointer (some ⟨h, 0, none⟩), .int .i64 i] w fun e w' => e = .returned (.bool (hasB i n)) ∧ w = w' := by
  unfold hasB
  by_cases h0 : 0 ≤ i
  · have h0' : decide (0 ≤ i) = true := decide_eq_true h0
    rw [h0']
    go_enter Try.func86, Try.ntmps86
    go_wp2
    all_goals
      go_ret
      exact ⟨by simp, rfl⟩
  · have h0' : decide (0 ≤ i) = false := decide_eq_false h0
    rw [h0']
    go_enter Try.func86, Try.ntmps86
    go_wp2
    all_goals
      go_ret
      exact ⟨by simp, rfl⟩
theorem ask_calls (w : World) (g h n c : Nat) (A : Option Addr) (i : Int) (hg : w.cell? ⟨g, 0, none⟩ = some (.pointer (some ⟨h, 0, none⟩))) (hh : w.cell? ⟨h, 0, none⟩ = some (.slice A n c)) :
    Calls Try.prog 63 #[.pointer (some ⟨g, 0, none⟩), .int .i64 i] w fun e w' => e = .returned (.int .i64 (if hasB i n = true then 0 else 1)) ∧ w = w' := by
  have hmf : ∀ (fn : Fn) (first cap : Array Value) (w : World), (Instr.makeFunc fn first cap).run Try.prog w = .ok (.func fn first cap) w := fun _ _ _ _ => rfl
  cases hb : hasB i n with
  | true =>
    have HB := Aside0.mk hb
    clear hb
    go_enter Try.func63, Try.ntmps63
    go_wp2_with fail
    refine (there_yes w g h hg).mono ?_
    rintro e w' ⟨rfl, rfl⟩
    go_wp2_with fail
    refine (has_calls w h n c A i hh).mono ?_
    rintro e w' ⟨rfl, rfl⟩
    rw [HB.out]
    go_wp2
    go_ret
    exact ⟨rfl, rfl⟩
  | false =>
    have HB := Aside0.mk hb
    clear hb
    go_enter Try.func63, Try.ntmps63
    go_wp2_with fail
    refine (there_yes w g h hg).mono ?_
    rintro e w' ⟨rfl, rfl⟩
    go_wp2_with fail
    refine (has_calls w h n c A i hh).mono ?_
    rintro e w' ⟨rfl, rfl⟩
    rw [HB.out]
    go_wp2
    go_ret
    exact ⟨rfl, rfl⟩

/-! ### New -/
def NewPost (w : World) (most : Int) (e : Ending) (w' : World) : Prop := ∃ g F, e = .returned (.tuple #[.pointer (some ⟨g, 0, none⟩), .int .i64 0]) ∧ BagAt w' g most [] F ∧ (∀ b ∈ F, w.heap.size ≤ b) ∧ Below w.heap.size w w'
theorem new_yes (w : World) (most : Int) (h1 : 1 ≤ most) (h2 : most ≤ 256) : Calls Try.prog 31 #[.int .i64 most] w (NewPost w most) := by
  have c1 : decide (most < 1) = false := decide_eq_false (by omega)
  have c2 : decide (256 < most) = false := decide_eq_false (by omega)
  go_enter Try.func31, Try.ntmps31
  go_wp2
  go_ret2
  have b1 := blk_new w (.cells #[.slice none 0 0, .int .i64 most, .func (.func 67) #[] #[]] 114)
  refine ⟨w.heap.size + 1, [w.heap.size + 1, w.heap.size], rfl, ⟨w.heap.size, [], ?_, ⟨_, blk_alloc b1 _, Fd.row_nil _ _ _⟩, rfl, by simp⟩, ?_, below_alloc (below_alloc (Below.refl _ _) _) _⟩
  · have := blk_new (w.alloc (.cells #[.slice none 0 0, .int .i64 most, .func (.func 67) #[] #[]] 114)) (.cells #[.pointer (some ⟨w.heap.size, 0, none⟩)] 42)
    rwa [alloc_size'] at this
  · intro b hb
    simp at hb
    omega
theorem new_no (w : World) (most : Int) (h : most < 1 ∨ 256 < most) : Calls Try.prog 31 #[.int .i64 most] w fun e w' => e = .returned (.tuple #[.pointer none, .int .i64 1]) ∧ w = w' := by
  by_cases h1 : most < 1
  · have c1 : decide (most < 1) = true := decide_eq_true h1
    go_enter Try.func31, Try.ntmps31
    go_wp2
    go_ret2
    exact ⟨rfl, rfl⟩
  · have c1 : decide (most < 1) = false := decide_eq_false h1
    have c2 : decide (256 < most) = true := decide_eq_true (by omega)
    go_enter Try.func31, Try.ntmps31
    go_wp2
    go_ret2
    exact ⟨rfl, rfl⟩

/-! ### add, Add -/
def AddPost (w : World) (h : Nat) (most : Int) (L : List MsgT) (G : List Nat) (m : MsgT) (e : Ending) (w' : World) : Prop := ∃ G', e = .returned (.bool true) ∧ RoomAt w' h most (L ++ [m]) G' ∧ (h :: G').Nodup ∧ Keeps (h :: G) w w' ∧ ∀ b ∈ G', b ∈ G ∨ w.heap.size ≤ b
theorem nodup_new {G F : List Nat} {n : Nat} (hG : G.Nodup) (hF : F.Nodup) (h1 : ∀ b ∈ G, b < n) (h2 : ∀ b ∈ F, n ≤ b) : (G ++ F).Nodup :=
  List.nodup_append.2 ⟨hG, hF, fun a ha b hb e => by have := h1 a ha; have := h2 b hb; omega⟩
theorem add_fin {w w5 w6 : World} {h : Nat} {most : Int} {L : List MsgT} {G F5 F6 : List Nat} {m : MsgT} {v0 v1 : Value} (hnd : (h :: G).Nodup) (hG : ∀ b ∈ G, b < w.heap.size) (hh : h < w.heap.size) (h5 : Below w.heap.size w w5) (l5 : ∀ b ∈ F5, w.heap.size ≤ b)
    (r6 : Fd.Row fdMsg 38 w6 F6 v1 (L ++ [m])) (n6 : F6.Nodup) (k6 : Keeps G w5 w6) (l6 : ∀ b ∈ F6, b ∈ G ∨ b ∈ F5 ∨ w5.heap.size ≤ b) (b6 : w6.heap[h]? = some (.cells #[v0, .int .i64 most, .func (.func 67) #[] #[]] 114 (0, 0))) :
    AddPost w h most L G m (.returned (.bool true)) (w6.setCell ⟨h, 0, none⟩ v1) := by
  have h5s := h5.size
  have l6' : ∀ b ∈ F6, b ∈ G ∨ w.heap.size ≤ b := fun b hb => by
    rcases l6 b hb with h1 | h1 | h1
    · exact .inl h1
    · exact .inr (l5 b h1)
    · exact .inr (by omega)
  have hF6 : h ∉ F6 := fun hx => by
    rcases l6' h hx with h1 | h1
    · exact (List.nodup_cons.1 hnd).1 h1
    · omega
  refine ⟨F6, rfl, ⟨v1, blk_put b6 0 v1 rfl, Fd.row_keeps r6 ((Keeps.refl [h] w6).setCell (p := ⟨h, 0, none⟩) (.inl (by simp)) v1) (fun b hb hx => ?_)⟩, List.nodup_cons.2 ⟨hF6, n6⟩, ?_, l6'⟩
  · simp at hx
    subst hx
    exact hF6 hb
  · exact ((Keeps.of_below h5 (h :: G)).trans k6 (fun x hx => .inl (by simp [hx]))).setCell (p := ⟨h, 0, none⟩) (.inl (by simp)) v1
set_option maxHeartbeats 3200000 in
set_option maxRecDepth 100000 in
theorem add_yes (w : World) (h : Nat) (most : Int) (L : List MsgT) (G : List Nat) (m : MsgT) (v4 v5 : Value) (hR : RoomAt w h most L G) (hnd : (h :: G).Nodup) (hne : (L.length : Int) ≠ most) (hL : L.length ≤ 65536) (hm : MsgIn w m v4 v5) (hB : msgB m) :
    Calls Try.prog 66 #[.pointer (some ⟨h, 0, none⟩), .agg (msgCells m v4 v5)] w (AddPost w h most L G m) := by
  obtain ⟨v, hb, hr⟩ := hR
  obtain ⟨A, c, rfl, hlc, hC⟩ := Fd.row_reads hr
  have hu := Try.underlying38
  have c0 := blk_cell hb 0
  have c1 := blk_cell hb 1
  have c2 := blk_cell hb 2
  have f0 := blk_frozen hb 0
  have hlt : h < w.heap.size := blk_lt hb
  have hne' : ((L.length : Int) == most) = false := by simpa using hne
  have HBK := Aside0.mk hb
  have HR := Aside0.mk hr
  have HM := Aside0.mk hm
  have HMB := Aside0.mk hB
  have HND := Aside0.mk hnd
  obtain ⟨A4, c4, A5, c5, rfl, rfl, _⟩ := hm.read
  clear hb hr hm hB hnd hne hC hlc
  unfold msgCells
  go_enter Try.func66, Try.ntmps66
  go_wp2_with fail
  go_region
  go_wp2_with fail
  go_region_law (first
    | (go_simp
       go_at_call 67
       refine (liked _ m (HM.out.below (below_drew1 (below_drew1 (below_alloc (Below.refl w.heap.size w) _)))) HMB.out).mono ?_
       rintro e w5 ⟨x4, x5, F5, rfl, hM, hn5, hl5, hb5⟩
       have B5 := Aside0.mk (below_step (below_drew1 (below_drew1 (below_alloc (Below.refl w.heap.size w) _))) hb5)
       have bk5 := blk_below HBK.out B5.out
       have k0 := blk_cell bk5 0
       have k2 := blk_cell bk5 2
       have hlt5 := blk_lt bk5
       have M5 := Aside0.mk hM
       have N5 := Aside0.mk hn5
       have L5 := Aside0.mk (show ∀ b ∈ F5, w.heap.size ≤ b from fun b hb => Nat.le_trans (below_drew1 (below_drew1 (below_alloc (Below.refl w.heap.size w) _))).size (hl5 b hb))
       have BK5 := Aside0.mk bk5
       clear hM hn5 hl5 hb5 bk5
       unfold msgCells)
    | (refine Fd.R_append_step fdMsg rfl (.tmp 19) (.tmp 26) 48 38 (.agg #[.int .u8 0, .int .u8 0, .int .u8 0, .int .u32 0, .slice none 0 0, .slice none 0 0]) 56 rfl Try.underlying48 infoMsg rfl (show 0 < 6 from by decide) (by decide) (.slice A L.length c) L m [.int .u8 m.f0, .int .u8 m.f1, .int .u8 m.f2, .int .u32 m.f3, x4, x5] G F5 (by simp [Act.eval]) (by simp [Act.eval]) M5.out (Fd.row_below HR.out B5.out) (nodup_new (List.nodup_cons.1 HND.out).2 N5.out (Fd.row_lt HR.out) L5.out) (by omega) ?_
       intro v1 w6 F6 h1 h2 h3 h4
       obtain ⟨A1, d1, rfl, _⟩ := Fd.row_reads h1
       rw [show (L ++ [m]).length = L.length + 1 from by simp] at h1 ⊢
       have hh : h ∉ G := (List.nodup_cons.1 HND.out).1
       have bk6 := h3.blk BK5.out hh
       have j0 := blk_cell bk6 0
       have j1 := blk_frozen bk6 0
       have BK6 := Aside0.mk bk6
       have R6 := Aside0.mk h1
       have N6 := Aside0.mk h2
       have K6 := Aside0.mk h3
       have L6 := Aside0.mk h4
       clear h1 h2 h3 h4 bk6))
  all_goals
    go_wp2
    go_ret
    exact add_fin HND.out (Fd.row_lt HR.out) (blk_lt HBK.out) B5.out L5.out R6.out N6.out K6.out L6.out BK6.out

set_option maxRecDepth 100000 in
theorem add_no (w : World) (h : Nat) (most : Int) (L : List MsgT) (G : List Nat) (m : MsgT) (v4 v5 : Value) (hR : RoomAt w h most L G) (hne : (L.length : Int) = most) :
    Calls Try.prog 66 #[.pointer (some ⟨h, 0, none⟩), .agg (msgCells m v4 v5)] w fun e w' => e = .returned (.bool false) ∧ Below w.heap.size w w' := by
  obtain ⟨v, hb, hr⟩ := hR
  obtain ⟨A, c, rfl, hlc, hC⟩ := Fd.row_reads hr
  have c0 := blk_cell hb 0
  have c1 := blk_cell hb 1
  have hlt : h < w.heap.size := blk_lt hb
  have hne' : ((L.length : Int) == most) = true := by simpa using hne
  clear hb hr hne hC hlc
  unfold msgCells
  go_enter Try.func66, Try.ntmps66
  go_wp2_with fail
  go_region
  go_wp2
  go_ret
  exact ⟨rfl, below_drew1 (below_alloc (Below.refl _ _) _)⟩

end Go.Proofs.Ytcohodkpppmaoaa.Q
