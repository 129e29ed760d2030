/-
  The book's last word: no two of the lists that are kept share memory.
  The book as a law sees it: so many are kept, and these are its blocks; one more is kept.
  The book beside lists that are not kept yet: all of them lie below G, the book's own blocks are those that were kept, and new ones.
-/
import Derived.Test.YtcohodkpppmaoaaGreatDoorMC7
import Derived.Test.YtcohodkpppmaoaaGreatDoorMC8
import Derived.Test.YtcohodkpppmaoaaGreatDoorMC9
import Derived.Test.YtcohodkpppmaoaaGreatDoorMC10
import Derived.Test.YtcohodkpppmaoaaGreatDoorMC11
import Derived.Test.YtcohodkpppmaoaaGreatDoorMC5
import Derived.Test.YtcohodkpppmaoaaGreatDoorMC4
namespace Go.Proofs.YtcohodkpppmaoaaGreatDoor.Q
open Go.RowKit Go.Proofs.YtcohodkpppmaoaaGreatDoorW.PrintWords Go.Proofs.YtcohodkpppmaoaaGreatDoorW.PrintLast Go.Proofs.YtcohodkpppmaoaaGreatDoorW.PrintMore
set_option linter.unusedVariables false
/-- A list that is kept: its number, and how many it has. -/
def Fine (E : List Ent) : Prop := ∀ x ∈ E, (0 ≤ x.num ∧ x.num ≤ 1000000000000000) ∧ x.len ≤ 1000000000
theorem Fine.num {E : List Ent} (h : Fine E) : ∀ x ∈ E, 0 ≤ x.num ∧ x.num ≤ 1000000000000000 := fun x hx => (h x hx).1
set_option maxHeartbeats 6400000 in
set_option maxRecDepth 100000 in
theorem apart_calls (w0 w : World) (g : Nat) (n : Int) (vv1 vv2 vv3 vv4 vv5 vv6 : Value) (E1 E2 E3 E4 E5 E6 : List Ent) (F1 F2 F3 F4 F5 F6 : List Nat) (H : Held w0 w g #[.int .i64 n, vv1, .slice none 0 0, .slice none 0 0, .slice none 0 0, vv2, vv3, .slice none 0 0, vv4, vv5, vv6, .slice none 0 0, .slice none 0 0] [⟨fdA 5 1, 172, F1, vv1, E1⟩, ⟨fdA 148 2, 184, F2, vv2, E2⟩, ⟨fdA 82 4, 187, F3, vv3, E3⟩, ⟨fdA 116 3, 196, F4, vv4, E4⟩, ⟨fdA 145 1, 199, F5, vv5, E5⟩, ⟨fdA 50 6, 170, F6, vv6, E6⟩]) (hT : TabOk w0)
    (h1 : Fine E1) (h2 : Fine E2) (h3 : Fine E3) (h4 : Fine E4) (h5 : Fine E5) (h6 : Fine E6) : Calls Tryz.prog 26 #[.pointer (some ⟨g, 0, none⟩)] w fun e w' => e = .returned (.bool true) ∧ Below w0.heap.size w0 w' := by
  have HT := Aside0.mk hT
  have N1 := Aside0.mk h1
  clear h1
  have N2 := Aside0.mk h2
  clear h2
  have N3 := Aside0.mk h3
  clear h3
  have N4 := Aside0.mk h4
  clear h4
  have N5 := Aside0.mk h5
  clear h5
  have N6 := Aside0.mk h6
  clear h6
  have H0 := Aside0.mk H
  clear H hT
  go_enter Tryz.func26, Tryz.ntmps26
  go_wp2_with fail
  refine (fillByte_calls _ g _ H0.out.cell _ rfl E1 _ H0.out.on1.1 H0.out.on1.2.1 H0.out.on1.2.2.1 N1.out.num w0 HT.out H0.out.base H0.out.on1.2.2.2).mono ?_
  rintro e w1 ⟨rfl, X1, hr, hn, hk, hs⟩
  have H1 := Aside0.mk (H0.out.step1 hr hn hk hs)
  clear hr hn hk hs H0
  go_wp2_with fail
  refine (fillId_no _ g _ H1.out.cell rfl).mono ?_
  rintro e _ ⟨rfl, rfl⟩
  go_wp2_with fail
  refine (fillInt_no _ g _ H1.out.cell rfl).mono ?_
  rintro e _ ⟨rfl, rfl⟩
  go_wp2_with fail
  refine (fillText_no _ g _ H1.out.cell rfl).mono ?_
  rintro e _ ⟨rfl, rfl⟩
  go_wp2_with fail
  refine (fillRow_calls _ g _ H1.out.cell _ rfl E2 _ H1.out.on2.1 H1.out.on2.2.1 H1.out.on2.2.2.1 N2.out.num w0 HT.out H1.out.base H1.out.on2.2.2.2).mono ?_
  rintro e w5 ⟨rfl, X5, hr, hn, hk, hs⟩
  have H2 := Aside0.mk (H1.out.step2 hr hn hk hs)
  clear hr hn hk hs H1
  go_wp2_with fail
  refine (fillOp_calls _ g _ H2.out.cell _ rfl E3 _ H2.out.on3.1 H2.out.on3.2.1 H2.out.on3.2.2.1 N3.out.num w0 HT.out H2.out.base H2.out.on3.2.2.2).mono ?_
  rintro e w6 ⟨rfl, X6, hr, hn, hk, hs⟩
  have H3 := Aside0.mk (H2.out.step3 hr hn hk hs)
  clear hr hn hk hs H2
  go_wp2_with fail
  refine (fillSpan_no _ g _ H3.out.cell rfl).mono ?_
  rintro e _ ⟨rfl, rfl⟩
  go_wp2_with fail
  refine (fillChange_calls _ g _ H3.out.cell _ rfl E4 _ H3.out.on4.1 H3.out.on4.2.1 H3.out.on4.2.2.1 N4.out.num w0 HT.out H3.out.base H3.out.on4.2.2.2).mono ?_
  rintro e w8 ⟨rfl, X8, hr, hn, hk, hs⟩
  have H4 := Aside0.mk (H3.out.step4 hr hn hk hs)
  clear hr hn hk hs H3
  go_wp2_with fail
  refine (fillResult_calls _ g _ H4.out.cell _ rfl E5 _ H4.out.on5.1 H4.out.on5.2.1 H4.out.on5.2.2.1 N5.out.num w0 HT.out H4.out.base H4.out.on5.2.2.2).mono ?_
  rintro e w9 ⟨rfl, X9, hr, hn, hk, hs⟩
  have H5 := Aside0.mk (H4.out.step5 hr hn hk hs)
  clear hr hn hk hs H4
  go_wp2_with fail
  refine (fillMsg_calls _ g _ H5.out.cell _ rfl E6 _ H5.out.on6.1 H5.out.on6.2.1 H5.out.on6.2.2.1 N6.out.num w0 HT.out H5.out.base H5.out.on6.2.2.2).mono ?_
  rintro e w10 ⟨rfl, X10, hr, hn, hk, hs⟩
  have H6 := Aside0.mk (H5.out.step6 hr hn hk hs)
  clear hr hn hk hs H5
  go_wp2_with fail
  refine (fillPart_no _ g _ H6.out.cell rfl).mono ?_
  rintro e _ ⟨rfl, rfl⟩
  go_wp2_with fail
  refine (fillDeed_no _ g _ H6.out.cell rfl).mono ?_
  rintro e _ ⟨rfl, rfl⟩
  go_wp2_with fail
  refine (growByte_calls _ g _ H6.out.cell _ rfl E1 _ H6.out.on1.1 H6.out.on1.2.1 H6.out.on1.2.2.1 N1.out w0 HT.out H6.out.base H6.out.on1.2.2.2).mono ?_
  rintro e w13 ⟨rfl, X13, hr, hn, hk, hs⟩
  have H7 := Aside0.mk (H6.out.step1 hr hn hk hs)
  clear hr hn hk hs H6
  go_wp2_with fail
  refine (growId_no _ g _ H7.out.cell rfl).mono ?_
  rintro e _ ⟨rfl, rfl⟩
  go_wp2_with fail
  refine (growInt_no _ g _ H7.out.cell rfl).mono ?_
  rintro e _ ⟨rfl, rfl⟩
  go_wp2_with fail
  refine (growText_no _ g _ H7.out.cell rfl).mono ?_
  rintro e _ ⟨rfl, rfl⟩
  go_wp2_with fail
  refine (growRow_calls _ g _ H7.out.cell _ rfl E2 _ H7.out.on2.1 H7.out.on2.2.1 H7.out.on2.2.2.1 N2.out w0 HT.out H7.out.base H7.out.on2.2.2.2).mono ?_
  rintro e w17 ⟨rfl, X17, hr, hn, hk, hs⟩
  have H8 := Aside0.mk (H7.out.step2 hr hn hk hs)
  clear hr hn hk hs H7
  go_wp2_with fail
  refine (growOp_calls _ g _ H8.out.cell _ rfl E3 _ H8.out.on3.1 H8.out.on3.2.1 H8.out.on3.2.2.1 N3.out w0 HT.out H8.out.base H8.out.on3.2.2.2).mono ?_
  rintro e w18 ⟨rfl, X18, hr, hn, hk, hs⟩
  have H9 := Aside0.mk (H8.out.step3 hr hn hk hs)
  clear hr hn hk hs H8
  go_wp2_with fail
  refine (growSpan_no _ g _ H9.out.cell rfl).mono ?_
  rintro e _ ⟨rfl, rfl⟩
  go_wp2_with fail
  refine (growChange_calls _ g _ H9.out.cell _ rfl E4 _ H9.out.on4.1 H9.out.on4.2.1 H9.out.on4.2.2.1 N4.out w0 HT.out H9.out.base H9.out.on4.2.2.2).mono ?_
  rintro e w20 ⟨rfl, X20, hr, hn, hk, hs⟩
  have H10 := Aside0.mk (H9.out.step4 hr hn hk hs)
  clear hr hn hk hs H9
  go_wp2_with fail
  refine (growResult_calls _ g _ H10.out.cell _ rfl E5 _ H10.out.on5.1 H10.out.on5.2.1 H10.out.on5.2.2.1 N5.out w0 HT.out H10.out.base H10.out.on5.2.2.2).mono ?_
  rintro e w21 ⟨rfl, X21, hr, hn, hk, hs⟩
  have H11 := Aside0.mk (H10.out.step5 hr hn hk hs)
  clear hr hn hk hs H10
  go_wp2_with fail
  refine (growMsg_calls _ g _ H11.out.cell _ rfl E6 _ H11.out.on6.1 H11.out.on6.2.1 H11.out.on6.2.2.1 N6.out w0 HT.out H11.out.base H11.out.on6.2.2.2).mono ?_
  rintro e w22 ⟨rfl, X22, hr, hn, hk, hs⟩
  have H12 := Aside0.mk (H11.out.step6 hr hn hk hs)
  clear hr hn hk hs H11
  go_wp2_with fail
  refine (growPart_no _ g _ H12.out.cell rfl).mono ?_
  rintro e _ ⟨rfl, rfl⟩
  go_wp2_with fail
  refine (growDeed_no _ g _ H12.out.cell rfl).mono ?_
  rintro e _ ⟨rfl, rfl⟩
  go_wp2_with fail
  refine (lookByte_calls _ g _ H12.out.cell _ rfl E1 _ H12.out.on1.1 N1.out (TabOk.below HT.out H12.out.base)).mono ?_
  rintro e w25 ⟨rfl, hb⟩
  have H13 := Aside0.mk (H12.out.below hb)
  clear hb H12
  go_wp2_with fail
  refine (lookId_no _ g _ H13.out.cell rfl).mono ?_
  rintro e _ ⟨rfl, rfl⟩
  go_wp2_with fail
  refine (lookInt_no _ g _ H13.out.cell rfl).mono ?_
  rintro e _ ⟨rfl, rfl⟩
  go_wp2_with fail
  refine (lookText_no _ g _ H13.out.cell rfl).mono ?_
  rintro e _ ⟨rfl, rfl⟩
  go_wp2_with fail
  refine (lookRow_calls _ g _ H13.out.cell _ rfl E2 _ H13.out.on2.1 N2.out (TabOk.below HT.out H13.out.base)).mono ?_
  rintro e w29 ⟨rfl, hb⟩
  have H14 := Aside0.mk (H13.out.below hb)
  clear hb H13
  go_wp2_with fail
  refine (lookOp_calls _ g _ H14.out.cell _ rfl E3 _ H14.out.on3.1 N3.out (TabOk.below HT.out H14.out.base)).mono ?_
  rintro e w30 ⟨rfl, hb⟩
  have H15 := Aside0.mk (H14.out.below hb)
  clear hb H14
  go_wp2_with fail
  refine (lookSpan_no _ g _ H15.out.cell rfl).mono ?_
  rintro e _ ⟨rfl, rfl⟩
  go_wp2_with fail
  refine (lookChange_calls _ g _ H15.out.cell _ rfl E4 _ H15.out.on4.1 N4.out (TabOk.below HT.out H15.out.base)).mono ?_
  rintro e w32 ⟨rfl, hb⟩
  have H16 := Aside0.mk (H15.out.below hb)
  clear hb H15
  go_wp2_with fail
  refine (lookResult_calls _ g _ H16.out.cell _ rfl E5 _ H16.out.on5.1 N5.out (TabOk.below HT.out H16.out.base)).mono ?_
  rintro e w33 ⟨rfl, hb⟩
  have H17 := Aside0.mk (H16.out.below hb)
  clear hb H16
  go_wp2_with fail
  refine (lookMsg_calls _ g _ H17.out.cell _ rfl E6 _ H17.out.on6.1 N6.out (TabOk.below HT.out H17.out.base)).mono ?_
  rintro e w34 ⟨rfl, hb⟩
  have H18 := Aside0.mk (H17.out.below hb)
  clear hb H17
  go_wp2_with fail
  refine (lookPart_no _ g _ H18.out.cell rfl).mono ?_
  rintro e _ ⟨rfl, rfl⟩
  go_wp2_with fail
  refine (lookDeed_no _ g _ H18.out.cell rfl).mono ?_
  rintro e _ ⟨rfl, rfl⟩
  go_wp2
  go_ret
  exact ⟨rfl, H18.out.base⟩
end Go.Proofs.YtcohodkpppmaoaaGreatDoor.Q
namespace Go.Proofs.YtcohodkpppmaoaaGreatDoor.Q
open Go.RowKit Go.Proofs.YtcohodkpppmaoaaGreatDoorW.PrintWords Go.Proofs.YtcohodkpppmaoaaGreatDoorW.PrintLast Go.Proofs.YtcohodkpppmaoaaGreatDoorW.PrintMore
set_option linter.unusedVariables false
/-- The book at block g has n lists; its blocks are F; all were made behind w0. -/
def BookAt (w0 w : World) (g : Nat) (n : Int) (F : List Nat) : Prop :=
  ∃ vv1 vv2 vv3 vv4 vv5 vv6 E1 E2 E3 E4 E5 E6 F1 F2 F3 F4 F5 F6, Held w0 w g #[.int .i64 n, vv1, .slice none 0 0, .slice none 0 0, .slice none 0 0, vv2, vv3, .slice none 0 0, vv4, vv5, vv6, .slice none 0 0, .slice none 0 0] [⟨fdA 5 1, 172, F1, vv1, E1⟩, ⟨fdA 148 2, 184, F2, vv2, E2⟩, ⟨fdA 82 4, 187, F3, vv3, E3⟩, ⟨fdA 116 3, 196, F4, vv4, E4⟩, ⟨fdA 145 1, 199, F5, vv5, E5⟩, ⟨fdA 50 6, 170, F6, vv6, E6⟩] ∧ F = g :: allF [⟨fdA 5 1, 172, F1, vv1, E1⟩, ⟨fdA 148 2, 184, F2, vv2, E2⟩, ⟨fdA 82 4, 187, F3, vv3, E3⟩, ⟨fdA 116 3, 196, F4, vv4, E4⟩, ⟨fdA 145 1, 199, F5, vv5, E5⟩, ⟨fdA 50 6, 170, F6, vv6, E6⟩] ∧ 0 ≤ n ∧ (Fine E1 ∧ (E1.length : Int) ≤ n) ∧ (Fine E2 ∧ (E2.length : Int) ≤ n) ∧ (Fine E3 ∧ (E3.length : Int) ≤ n) ∧ (Fine E4 ∧ (E4.length : Int) ≤ n) ∧ (Fine E5 ∧ (E5.length : Int) ≤ n) ∧ (Fine E6 ∧ (E6.length : Int) ≤ n)
section
variable {w0 w w' : World} {g : Nat} {n : Int} {F G : List Nat}
theorem BookAt.keeps (h : BookAt w0 w g n F) (hk : Keeps G w w') (hG : ∀ b ∈ G, b ∉ F) (hGf : ∀ b ∈ G, w0.heap.size ≤ b) : BookAt w0 w' g n F := by
  obtain ⟨vv1, vv2, vv3, vv4, vv5, vv6, E1, E2, E3, E4, E5, E6, F1, F2, F3, F4, F5, F6, H, rfl, h⟩ := h
  exact ⟨_, _, _, _, _, _, _, _, _, _, _, _, _, _, _, _, _, _, H.keeps hk hG hGf, rfl, h⟩
theorem BookAt.below (h : BookAt w0 w g n F) (hb : Below w.heap.size w w') : BookAt w0 w' g n F := h.keeps (G := []) (Keeps.of_below hb []) (fun _ hx => by cases hx) (fun _ hx => by cases hx)
theorem BookAt.lt (h : BookAt w0 w g n F) : ∀ b ∈ F, b < w.heap.size := by
  obtain ⟨vv1, vv2, vv3, vv4, vv5, vv6, E1, E2, E3, E4, E5, E6, F1, F2, F3, F4, F5, F6, H, rfl, h⟩ := h
  intro b hb
  rcases List.mem_cons.1 hb with rfl | hb
  · exact blk_lt H.cell
  · obtain ⟨x, hx, hb⟩ := List.mem_flatMap.1 hb
    exact Fd.row_lt (H.rows x hx) b hb
theorem BookAt.far (h : BookAt w0 w g n F) : ∀ b ∈ F, w0.heap.size ≤ b := by
  obtain ⟨vv1, vv2, vv3, vv4, vv5, vv6, E1, E2, E3, E4, E5, E6, F1, F2, F3, F4, F5, F6, H, rfl, h⟩ := h
  exact H.far
theorem BookAt.base (h : BookAt w0 w g n F) : Below w0.heap.size w0 w := by
  obtain ⟨vv1, vv2, vv3, vv4, vv5, vv6, E1, E2, E3, E4, E5, E6, F1, F2, F3, F4, F5, F6, H, rfl, h⟩ := h
  exact H.base
theorem BookAt.new (hb : Below w0.heap.size w0 w) (hc : w.heap[g]? = some (.cells #[.int .i64 0, .slice none 0 0, .slice none 0 0, .slice none 0 0, .slice none 0 0, .slice none 0 0, .slice none 0 0, .slice none 0 0, .slice none 0 0, .slice none 0 0, .slice none 0 0, .slice none 0 0, .slice none 0 0] 44 (0, 0))) (hg : w0.heap.size ≤ g) : BookAt w0 w g 0 [g] := by
  refine ⟨.slice none 0 0, .slice none 0 0, .slice none 0 0, .slice none 0 0, .slice none 0 0, .slice none 0 0, [], [], [], [], [], [], [], [], [], [], [], [], ⟨hb, hc, ?_, by simp [allF], by simpa [allF] using hg⟩, by simp [allF], by decide, ⟨(fun _ hx => by cases hx), by simp⟩, ⟨(fun _ hx => by cases hx), by simp⟩, ⟨(fun _ hx => by cases hx), by simp⟩, ⟨(fun _ hx => by cases hx), by simp⟩, ⟨(fun _ hx => by cases hx), by simp⟩, ⟨(fun _ hx => by cases hx), by simp⟩⟩
  intro x hx
  simp only [List.mem_cons, List.not_mem_nil, or_false] at hx
  rcases hx with rfl | rfl | rfl | rfl | rfl | rfl <;> exact Fd.row_nil _ _ _
theorem BookAt.apart (h : BookAt w0 w g n F) (hT : TabOk w0) : Calls Tryz.prog 26 #[.pointer (some ⟨g, 0, none⟩)] w fun e w' => e = .returned (.bool true) ∧ Below w0.heap.size w0 w' := by
  obtain ⟨vv1, vv2, vv3, vv4, vv5, vv6, E1, E2, E3, E4, E5, E6, F1, F2, F3, F4, F5, F6, H, rfl, h0, f1, f2, f3, f4, f5, f6⟩ := h
  exact apart_calls w0 w g n vv1 vv2 vv3 vv4 vv5 vv6 E1 E2 E3 E4 E5 E6 F1 F2 F3 F4 F5 F6 H hT f1.1 f2.1 f3.1 f4.1 f5.1 f6.1
theorem Fine.snoc {E : List Ent} (h : Fine E) {x : Ent} (h0 : 0 ≤ x.num) (h1 : x.num ≤ 1000000000000000) (h2 : x.len ≤ 1000000000) : Fine (E ++ [x]) := by
  intro y hy
  rcases List.mem_append.1 hy with hy | hy
  · exact h y hy
  · obtain rfl : y = x := by simpa using hy
    exact ⟨⟨h0, h1⟩, h2⟩
end
theorem BookAt.keepByte {w0 w : World} {g : Nat} {n : Int} {F : List Nat} (h : BookAt w0 w g n F) (hn : n ≤ 1000000000) (A : Option Addr) (len c : Nat) (inner : List Value) (ho : w.ownsRow 0 5 1 (.slice A len c) len inner) (hl : ∀ b ∈ (Value.slice A len c).ownBlock.toList, b ∉ F ∧ w0.heap.size ≤ b) (hlen : len ≤ 1000000000) :
    Calls Tryz.prog 131 #[.pointer (some ⟨g, 0, none⟩), .slice A len c] w fun e w' => e = .returned (.tuple #[]) ∧ ∃ F', BookAt w0 w' g (n + 1) F' ∧ Keeps F w w' ∧ ∀ b ∈ F', b ∈ F ∨ b ∈ (Value.slice A len c).ownBlock.toList ∨ w.heap.size ≤ b := by
  obtain ⟨vv1, vv2, vv3, vv4, vv5, vv6, E1, E2, E3, E4, E5, E6, F1, F2, F3, F4, F5, F6, H, rfl, h0, f1, f2, f3, f4, f5, f6⟩ := h
  have hlt := fun b hb => (BookAt.lt ⟨_, _, _, _, _, _, _, _, _, _, _, _, _, _, _, _, _, _, H, rfl, h0, f1, f2, f3, f4, f5, f6⟩ : ∀ b ∈ g :: allF [⟨fdA 5 1, 172, F1, vv1, E1⟩, ⟨fdA 148 2, 184, F2, vv2, E2⟩, ⟨fdA 82 4, 187, F3, vv3, E3⟩, ⟨fdA 116 3, 196, F4, vv4, E4⟩, ⟨fdA 145 1, 199, F5, vv5, E5⟩, ⟨fdA 50 6, 170, F6, vv6, E6⟩], b < w.heap.size) b hb
  have hmem : ∀ b ∈ F1, b ∈ g :: allF [⟨fdA 5 1, 172, F1, vv1, E1⟩, ⟨fdA 148 2, 184, F2, vv2, E2⟩, ⟨fdA 82 4, 187, F3, vv3, E3⟩, ⟨fdA 116 3, 196, F4, vv4, E4⟩, ⟨fdA 145 1, 199, F5, vv5, E5⟩, ⟨fdA 50 6, 170, F6, vv6, E6⟩] := fun b hb => by simp [allF, hb]
  refine (keepByte_calls w g n vv1 (.slice none 0 0) (.slice none 0 0) (.slice none 0 0) vv2 vv3 (.slice none 0 0) vv4 vv5 vv6 (.slice none 0 0) (.slice none 0 0) H.cell E1 F1 H.on1.1 (List.nodup_cons.2 ⟨H.on1.2.2.1, H.on1.2.1⟩) A len c inner ho (fun b hb hx => (hl b hb).1 (by
    rcases List.mem_cons.1 hx with rfl | hx
    · simp
    · exact hmem b hx)) (by have := f1.2; omega) h0 (by omega)).mono ?_
  rintro e w' ⟨F', v', rfl, hc, hr, hnd, hk, hs⟩
  have H2 := Held.step0 (pre := []) (x := ⟨fdA 5 1, 172, F1, vv1, E1⟩) (post := [⟨fdA 148 2, 184, F2, vv2, E2⟩, ⟨fdA 82 4, 187, F3, vv3, E3⟩, ⟨fdA 116 3, 196, F4, vv4, E4⟩, ⟨fdA 145 1, 199, F5, vv5, E5⟩, ⟨fdA 50 6, 170, F6, vv6, E6⟩]) H hc hr (List.nodup_cons.1 hnd).2 (Value.slice A len c).ownBlock.toList hk (fun b hb => (hl b hb).1) (fun b hb => (hl b hb).2) hs (List.nodup_cons.1 hnd).1
  refine ⟨rfl, _, ⟨_, _, _, _, _, _, _, _, _, _, _, _, _, _, _, _, _, _, H2, rfl, by omega, ⟨f1.1.snoc (show 0 ≤ n + 1 by omega) (show n + 1 ≤ 1000000000000000 by omega) hlen, by have := f1.2; rw [List.length_append, List.length_singleton]; omega⟩, ⟨f2.1, by have := f2.2; omega⟩, ⟨f3.1, by have := f3.2; omega⟩, ⟨f4.1, by have := f4.2; omega⟩, ⟨f5.1, by have := f5.2; omega⟩, ⟨f6.1, by have := f6.2; omega⟩⟩, hk.mono (fun b hb => .inl ?_), fun b hb => ?_⟩
  · rcases List.mem_cons.1 hb with rfl | hb
    · simp
    · exact hmem b hb
  · have hb2 : b = g ∨ (b ∈ F' ∨ b ∈ F2 ∨ b ∈ F3 ∨ b ∈ F4 ∨ b ∈ F5 ∨ b ∈ F6) := by simpa [allF, or_assoc, or_comm, or_left_comm] using hb
    rcases hb2 with rfl | hb2 | hb2
    · exact .inl (by simp)
    · rcases hs b hb2 with h1 | h1 | h1
      · exact .inl (hmem b h1)
      · exact .inr (.inl h1)
      · exact .inr (.inr h1)
    · refine .inl ?_
      simp only [allF, List.flatMap_cons, List.flatMap_nil, List.append_nil, List.mem_cons, List.mem_append]
      rcases hb2 with hb2 | hb2 | hb2 | hb2 | hb2 <;> simp [hb2]
set_option maxHeartbeats 1600000 in
set_option maxRecDepth 100000 in
theorem BookAt.Bytes {w0 w : World} {g : Nat} {n : Int} {F : List Nat} (h : BookAt w0 w g n F) (hn : n ≤ 1000000000) (A : Option Addr) (len c : Nat) (inner : List Value) (ho : w.ownsRow 0 5 1 (.slice A len c) len inner) (hl : ∀ b ∈ (Value.slice A len c).ownBlock.toList, b ∉ F ∧ w0.heap.size ≤ b) (hlen : len ≤ 1000000000) :
    Calls Tryz.prog 39 #[.pointer (some ⟨g, 0, none⟩), .slice A len c] w fun e w' => e = .returned (.tuple #[]) ∧ ∃ F', BookAt w0 w' g (n + 1) F' ∧ Keeps F w w' ∧ ∀ b ∈ F', b ∈ F ∨ b ∈ (Value.slice A len c).ownBlock.toList ∨ w.heap.size ≤ b := by
  have H := Aside0.mk h
  have HO := Aside0.mk ho
  have HL := Aside0.mk hl
  clear h ho hl
  go_enter Tryz.func39, Tryz.ntmps39
  go_wp2_with fail
  refine (H.out.keepByte hn A len c inner HO.out HL.out hlen).mono ?_
  rintro e w' ⟨rfl, h⟩
  have HR := Aside0.mk h
  clear h
  go_wp2
  go_end0
  exact ⟨rfl, HR.out⟩
theorem BookAt.keepRow {w0 w : World} {g : Nat} {n : Int} {F : List Nat} (h : BookAt w0 w g n F) (hn : n ≤ 1000000000) (A : Option Addr) (len c : Nat) (inner : List Value) (ho : w.ownsRow 0 148 2 (.slice A len c) len inner) (hl : ∀ b ∈ (Value.slice A len c).ownBlock.toList, b ∉ F ∧ w0.heap.size ≤ b) (hlen : len ≤ 1000000000) :
    Calls Tryz.prog 208 #[.pointer (some ⟨g, 0, none⟩), .slice A len c] w fun e w' => e = .returned (.tuple #[]) ∧ ∃ F', BookAt w0 w' g (n + 1) F' ∧ Keeps F w w' ∧ ∀ b ∈ F', b ∈ F ∨ b ∈ (Value.slice A len c).ownBlock.toList ∨ w.heap.size ≤ b := by
  obtain ⟨vv1, vv2, vv3, vv4, vv5, vv6, E1, E2, E3, E4, E5, E6, F1, F2, F3, F4, F5, F6, H, rfl, h0, f1, f2, f3, f4, f5, f6⟩ := h
  have hlt := fun b hb => (BookAt.lt ⟨_, _, _, _, _, _, _, _, _, _, _, _, _, _, _, _, _, _, H, rfl, h0, f1, f2, f3, f4, f5, f6⟩ : ∀ b ∈ g :: allF [⟨fdA 5 1, 172, F1, vv1, E1⟩, ⟨fdA 148 2, 184, F2, vv2, E2⟩, ⟨fdA 82 4, 187, F3, vv3, E3⟩, ⟨fdA 116 3, 196, F4, vv4, E4⟩, ⟨fdA 145 1, 199, F5, vv5, E5⟩, ⟨fdA 50 6, 170, F6, vv6, E6⟩], b < w.heap.size) b hb
  have hmem : ∀ b ∈ F2, b ∈ g :: allF [⟨fdA 5 1, 172, F1, vv1, E1⟩, ⟨fdA 148 2, 184, F2, vv2, E2⟩, ⟨fdA 82 4, 187, F3, vv3, E3⟩, ⟨fdA 116 3, 196, F4, vv4, E4⟩, ⟨fdA 145 1, 199, F5, vv5, E5⟩, ⟨fdA 50 6, 170, F6, vv6, E6⟩] := fun b hb => by simp [allF, hb]
  refine (keepRow_calls w g n vv1 (.slice none 0 0) (.slice none 0 0) (.slice none 0 0) vv2 vv3 (.slice none 0 0) vv4 vv5 vv6 (.slice none 0 0) (.slice none 0 0) H.cell E2 F2 H.on2.1 (List.nodup_cons.2 ⟨H.on2.2.2.1, H.on2.2.1⟩) A len c inner ho (fun b hb hx => (hl b hb).1 (by
    rcases List.mem_cons.1 hx with rfl | hx
    · simp
    · exact hmem b hx)) (by have := f2.2; omega) h0 (by omega)).mono ?_
  rintro e w' ⟨F', v', rfl, hc, hr, hnd, hk, hs⟩
  have H2 := Held.step0 (pre := [⟨fdA 5 1, 172, F1, vv1, E1⟩]) (x := ⟨fdA 148 2, 184, F2, vv2, E2⟩) (post := [⟨fdA 82 4, 187, F3, vv3, E3⟩, ⟨fdA 116 3, 196, F4, vv4, E4⟩, ⟨fdA 145 1, 199, F5, vv5, E5⟩, ⟨fdA 50 6, 170, F6, vv6, E6⟩]) H hc hr (List.nodup_cons.1 hnd).2 (Value.slice A len c).ownBlock.toList hk (fun b hb => (hl b hb).1) (fun b hb => (hl b hb).2) hs (List.nodup_cons.1 hnd).1
  refine ⟨rfl, _, ⟨_, _, _, _, _, _, _, _, _, _, _, _, _, _, _, _, _, _, H2, rfl, by omega, ⟨f1.1, by have := f1.2; omega⟩, ⟨f2.1.snoc (show 0 ≤ n + 1 by omega) (show n + 1 ≤ 1000000000000000 by omega) hlen, by have := f2.2; rw [List.length_append, List.length_singleton]; omega⟩, ⟨f3.1, by have := f3.2; omega⟩, ⟨f4.1, by have := f4.2; omega⟩, ⟨f5.1, by have := f5.2; omega⟩, ⟨f6.1, by have := f6.2; omega⟩⟩, hk.mono (fun b hb => .inl ?_), fun b hb => ?_⟩
  · rcases List.mem_cons.1 hb with rfl | hb
    · simp
    · exact hmem b hb
  · have hb2 : b = g ∨ (b ∈ F' ∨ b ∈ F1 ∨ b ∈ F3 ∨ b ∈ F4 ∨ b ∈ F5 ∨ b ∈ F6) := by simpa [allF, or_assoc, or_comm, or_left_comm] using hb
    rcases hb2 with rfl | hb2 | hb2
    · exact .inl (by simp)
    · rcases hs b hb2 with h1 | h1 | h1
      · exact .inl (hmem b h1)
      · exact .inr (.inl h1)
      · exact .inr (.inr h1)
    · refine .inl ?_
      simp only [allF, List.flatMap_cons, List.flatMap_nil, List.append_nil, List.mem_cons, List.mem_append]
      rcases hb2 with hb2 | hb2 | hb2 | hb2 | hb2 <;> simp [hb2]
set_option maxHeartbeats 1600000 in
set_option maxRecDepth 100000 in
theorem BookAt.Rows {w0 w : World} {g : Nat} {n : Int} {F : List Nat} (h : BookAt w0 w g n F) (hn : n ≤ 1000000000) (A : Option Addr) (len c : Nat) (inner : List Value) (ho : w.ownsRow 0 148 2 (.slice A len c) len inner) (hl : ∀ b ∈ (Value.slice A len c).ownBlock.toList, b ∉ F ∧ w0.heap.size ≤ b) (hlen : len ≤ 1000000000) :
    Calls Tryz.prog 202 #[.pointer (some ⟨g, 0, none⟩), .slice A len c] w fun e w' => e = .returned (.tuple #[]) ∧ ∃ F', BookAt w0 w' g (n + 1) F' ∧ Keeps F w w' ∧ ∀ b ∈ F', b ∈ F ∨ b ∈ (Value.slice A len c).ownBlock.toList ∨ w.heap.size ≤ b := by
  have H := Aside0.mk h
  have HO := Aside0.mk ho
  have HL := Aside0.mk hl
  clear h ho hl
  go_enter Tryz.func202, Tryz.ntmps202
  go_wp2_with fail
  refine (H.out.keepRow hn A len c inner HO.out HL.out hlen).mono ?_
  rintro e w' ⟨rfl, h⟩
  have HR := Aside0.mk h
  clear h
  go_wp2
  go_end0
  exact ⟨rfl, HR.out⟩
theorem BookAt.keepChange {w0 w : World} {g : Nat} {n : Int} {F : List Nat} (h : BookAt w0 w g n F) (hn : n ≤ 1000000000) (A : Option Addr) (len c : Nat) (inner : List Value) (ho : w.ownsRow 0 116 3 (.slice A len c) len inner) (hl : ∀ b ∈ (Value.slice A len c).ownBlock.toList, b ∉ F ∧ w0.heap.size ≤ b) (hlen : len ≤ 1000000000) :
    Calls Tryz.prog 130 #[.pointer (some ⟨g, 0, none⟩), .slice A len c] w fun e w' => e = .returned (.tuple #[]) ∧ ∃ F', BookAt w0 w' g (n + 1) F' ∧ Keeps F w w' ∧ ∀ b ∈ F', b ∈ F ∨ b ∈ (Value.slice A len c).ownBlock.toList ∨ w.heap.size ≤ b := by
  obtain ⟨vv1, vv2, vv3, vv4, vv5, vv6, E1, E2, E3, E4, E5, E6, F1, F2, F3, F4, F5, F6, H, rfl, h0, f1, f2, f3, f4, f5, f6⟩ := h
  have hlt := fun b hb => (BookAt.lt ⟨_, _, _, _, _, _, _, _, _, _, _, _, _, _, _, _, _, _, H, rfl, h0, f1, f2, f3, f4, f5, f6⟩ : ∀ b ∈ g :: allF [⟨fdA 5 1, 172, F1, vv1, E1⟩, ⟨fdA 148 2, 184, F2, vv2, E2⟩, ⟨fdA 82 4, 187, F3, vv3, E3⟩, ⟨fdA 116 3, 196, F4, vv4, E4⟩, ⟨fdA 145 1, 199, F5, vv5, E5⟩, ⟨fdA 50 6, 170, F6, vv6, E6⟩], b < w.heap.size) b hb
  have hmem : ∀ b ∈ F4, b ∈ g :: allF [⟨fdA 5 1, 172, F1, vv1, E1⟩, ⟨fdA 148 2, 184, F2, vv2, E2⟩, ⟨fdA 82 4, 187, F3, vv3, E3⟩, ⟨fdA 116 3, 196, F4, vv4, E4⟩, ⟨fdA 145 1, 199, F5, vv5, E5⟩, ⟨fdA 50 6, 170, F6, vv6, E6⟩] := fun b hb => by simp [allF, hb]
  refine (keepChange_calls w g n vv1 (.slice none 0 0) (.slice none 0 0) (.slice none 0 0) vv2 vv3 (.slice none 0 0) vv4 vv5 vv6 (.slice none 0 0) (.slice none 0 0) H.cell E4 F4 H.on4.1 (List.nodup_cons.2 ⟨H.on4.2.2.1, H.on4.2.1⟩) A len c inner ho (fun b hb hx => (hl b hb).1 (by
    rcases List.mem_cons.1 hx with rfl | hx
    · simp
    · exact hmem b hx)) (by have := f4.2; omega) h0 (by omega)).mono ?_
  rintro e w' ⟨F', v', rfl, hc, hr, hnd, hk, hs⟩
  have H2 := Held.step0 (pre := [⟨fdA 5 1, 172, F1, vv1, E1⟩, ⟨fdA 148 2, 184, F2, vv2, E2⟩, ⟨fdA 82 4, 187, F3, vv3, E3⟩]) (x := ⟨fdA 116 3, 196, F4, vv4, E4⟩) (post := [⟨fdA 145 1, 199, F5, vv5, E5⟩, ⟨fdA 50 6, 170, F6, vv6, E6⟩]) H hc hr (List.nodup_cons.1 hnd).2 (Value.slice A len c).ownBlock.toList hk (fun b hb => (hl b hb).1) (fun b hb => (hl b hb).2) hs (List.nodup_cons.1 hnd).1
  refine ⟨rfl, _, ⟨_, _, _, _, _, _, _, _, _, _, _, _, _, _, _, _, _, _, H2, rfl, by omega, ⟨f1.1, by have := f1.2; omega⟩, ⟨f2.1, by have := f2.2; omega⟩, ⟨f3.1, by have := f3.2; omega⟩, ⟨f4.1.snoc (show 0 ≤ n + 1 by omega) (show n + 1 ≤ 1000000000000000 by omega) hlen, by have := f4.2; rw [List.length_append, List.length_singleton]; omega⟩, ⟨f5.1, by have := f5.2; omega⟩, ⟨f6.1, by have := f6.2; omega⟩⟩, hk.mono (fun b hb => .inl ?_), fun b hb => ?_⟩
  · rcases List.mem_cons.1 hb with rfl | hb
    · simp
    · exact hmem b hb
  · have hb2 : b = g ∨ (b ∈ F' ∨ b ∈ F1 ∨ b ∈ F2 ∨ b ∈ F3 ∨ b ∈ F5 ∨ b ∈ F6) := by simpa [allF, or_assoc, or_comm, or_left_comm] using hb
    rcases hb2 with rfl | hb2 | hb2
    · exact .inl (by simp)
    · rcases hs b hb2 with h1 | h1 | h1
      · exact .inl (hmem b h1)
      · exact .inr (.inl h1)
      · exact .inr (.inr h1)
    · refine .inl ?_
      simp only [allF, List.flatMap_cons, List.flatMap_nil, List.append_nil, List.mem_cons, List.mem_append]
      rcases hb2 with hb2 | hb2 | hb2 | hb2 | hb2 <;> simp [hb2]
set_option maxHeartbeats 1600000 in
set_option maxRecDepth 100000 in
theorem BookAt.Changes {w0 w : World} {g : Nat} {n : Int} {F : List Nat} (h : BookAt w0 w g n F) (hn : n ≤ 1000000000) (A : Option Addr) (len c : Nat) (inner : List Value) (ho : w.ownsRow 0 116 3 (.slice A len c) len inner) (hl : ∀ b ∈ (Value.slice A len c).ownBlock.toList, b ∉ F ∧ w0.heap.size ≤ b) (hlen : len ≤ 1000000000) :
    Calls Tryz.prog 38 #[.pointer (some ⟨g, 0, none⟩), .slice A len c] w fun e w' => e = .returned (.tuple #[]) ∧ ∃ F', BookAt w0 w' g (n + 1) F' ∧ Keeps F w w' ∧ ∀ b ∈ F', b ∈ F ∨ b ∈ (Value.slice A len c).ownBlock.toList ∨ w.heap.size ≤ b := by
  have H := Aside0.mk h
  have HO := Aside0.mk ho
  have HL := Aside0.mk hl
  clear h ho hl
  go_enter Tryz.func38, Tryz.ntmps38
  go_wp2_with fail
  refine (H.out.keepChange hn A len c inner HO.out HL.out hlen).mono ?_
  rintro e w' ⟨rfl, h⟩
  have HR := Aside0.mk h
  clear h
  go_wp2
  go_end0
  exact ⟨rfl, HR.out⟩
end Go.Proofs.YtcohodkpppmaoaaGreatDoor.Q
namespace Go.Proofs.YtcohodkpppmaoaaGreatDoor.Q
open Go.RowKit Go.Proofs.YtcohodkpppmaoaaGreatDoorW.PrintWords Go.Proofs.YtcohodkpppmaoaaGreatDoorW.PrintLast Go.Proofs.YtcohodkpppmaoaaGreatDoorW.PrintMore
set_option linter.unusedVariables false
/-- n lists are kept; their blocks are L (and what the book has made behind G). -/
def Pile (w0 w : World) (g : Nat) (n : Int) (G : Nat) (L : List Nat) : Prop := ∃ F, BookAt w0 w g n F ∧ (∀ b ∈ F, b ∈ L ∨ G ≤ b) ∧ G ≤ w.heap.size
/-- What lies below G and is not kept stays. -/
def Spared (G : Nat) (L : List Nat) (w w' : World) : Prop := ∀ b, b < G → b ∉ L → w'.heap[b]? = w.heap[b]?
section
variable {w0 w w' : World} {g G : Nat} {n : Int} {F L : List Nat}
theorem Pile.new (hb : Below w0.heap.size w0 w) (hc : w.heap[g]? = some (.cells #[.int .i64 0, .slice none 0 0, .slice none 0 0, .slice none 0 0, .slice none 0 0, .slice none 0 0, .slice none 0 0, .slice none 0 0, .slice none 0 0, .slice none 0 0, .slice none 0 0, .slice none 0 0, .slice none 0 0] 44 (0, 0))) (hg : w0.heap.size ≤ g) : Pile w0 w g 0 g [] :=
  ⟨[g], BookAt.new hb hc hg, fun b hb => .inr (by simp at hb; omega), Nat.le_of_lt (blk_lt hc)⟩
theorem Pile.apart (h : Pile w0 w g n G L) (hT : TabOk w0) : Calls Tryz.prog 26 #[.pointer (some ⟨g, 0, none⟩)] w fun e w' => e = .returned (.bool true) ∧ Below w0.heap.size w0 w' := by
  obtain ⟨F, h, _⟩ := h
  exact h.apart hT
theorem Pile.below (h : Pile w0 w g n G L) (hb : Below w.heap.size w w') : Pile w0 w' g n G L := by
  obtain ⟨F, h1, h2, h3⟩ := h
  exact ⟨F, h1.below hb, h2, Nat.le_trans h3 hb.size⟩
theorem Pile.base (h : Pile w0 w g n G L) : Below w0.heap.size w0 w := by
  obtain ⟨F, h1, _⟩ := h
  exact h1.base
theorem Spared.row {α : Type} {d : Fd α} {e : Nat} {F : List Nat} {v : Value} {xs : List α} (h : Spared G L w w') (hr : Fd.Row d e w F v xs) (hF : ∀ b ∈ F, b < G ∧ b ∉ L) : Fd.Row d e w' F v xs := Fd.row_move (fun b hb => h b (hF b hb).1 (hF b hb).2) hr
theorem Spared.own {base e size len : Nat} {v : Value} {xs : List Value} (h : Spared G L w w') (ho : w.ownsRow base e size v len xs) (hF : ∀ b ∈ v.ownBlock.toList, b < G ∧ b ∉ L) : w'.ownsRow base e size v len xs := own_move ho (fun k hk => h k (hF k (by rw [hk]; simp)).1 (hF k (by rw [hk]; simp)).2)
end
theorem Pile.keepByte {w0 w : World} {g G : Nat} {n : Int} {L : List Nat} (h : Pile w0 w g n G L) (hn : n ≤ 1000000000) (A : Option Addr) (len c : Nat) (inner : List Value) (ho : w.ownsRow 0 5 1 (.slice A len c) len inner) (hl : ∀ b ∈ (Value.slice A len c).ownBlock.toList, (b < G ∧ b ∉ L) ∧ w0.heap.size ≤ b) (hlen : len ≤ 1000000000) :
    Calls Tryz.prog 131 #[.pointer (some ⟨g, 0, none⟩), .slice A len c] w fun e w' => e = .returned (.tuple #[]) ∧ Pile w0 w' g (n + 1) G (L ++ (Value.slice A len c).ownBlock.toList) ∧ Spared G L w w' := by
  obtain ⟨F, h1, h2, h3⟩ := h
  refine (h1.keepByte hn A len c inner ho (fun b hb => ⟨fun hx => ?_, (hl b hb).2⟩) hlen).mono ?_
  · rcases h2 b hx with h | h
    · exact (hl b hb).1.2 h
    · have := (hl b hb).1.1
      omega
  · rintro e w' ⟨rfl, F', h4, hk, hs⟩
    refine ⟨rfl, ⟨F', h4, fun b hb => ?_, Nat.le_trans h3 hk.size⟩, fun b hb hx => hk.block b (Nat.lt_of_lt_of_le hb h3) (fun hf => ?_)⟩
    · rcases hs b hb with h | h | h
      · exact (h2 b h).imp_left (fun h => List.mem_append_left _ h)
      · exact .inl (List.mem_append_right _ h)
      · exact .inr (Nat.le_trans h3 h)
    · rcases h2 b hf with h | h
      · exact hx h
      · omega
theorem Pile.Bytes {w0 w : World} {g G : Nat} {n : Int} {L : List Nat} (h : Pile w0 w g n G L) (hn : n ≤ 1000000000) (A : Option Addr) (len c : Nat) (inner : List Value) (ho : w.ownsRow 0 5 1 (.slice A len c) len inner) (hl : ∀ b ∈ (Value.slice A len c).ownBlock.toList, (b < G ∧ b ∉ L) ∧ w0.heap.size ≤ b) (hlen : len ≤ 1000000000) :
    Calls Tryz.prog 39 #[.pointer (some ⟨g, 0, none⟩), .slice A len c] w fun e w' => e = .returned (.tuple #[]) ∧ Pile w0 w' g (n + 1) G (L ++ (Value.slice A len c).ownBlock.toList) ∧ Spared G L w w' := by
  obtain ⟨F, h1, h2, h3⟩ := h
  refine (h1.Bytes hn A len c inner ho (fun b hb => ⟨fun hx => ?_, (hl b hb).2⟩) hlen).mono ?_
  · rcases h2 b hx with h | h
    · exact (hl b hb).1.2 h
    · have := (hl b hb).1.1
      omega
  · rintro e w' ⟨rfl, F', h4, hk, hs⟩
    refine ⟨rfl, ⟨F', h4, fun b hb => ?_, Nat.le_trans h3 hk.size⟩, fun b hb hx => hk.block b (Nat.lt_of_lt_of_le hb h3) (fun hf => ?_)⟩
    · rcases hs b hb with h | h | h
      · exact (h2 b h).imp_left (fun h => List.mem_append_left _ h)
      · exact .inl (List.mem_append_right _ h)
      · exact .inr (Nat.le_trans h3 h)
    · rcases h2 b hf with h | h
      · exact hx h
      · omega
theorem Pile.keepRow {w0 w : World} {g G : Nat} {n : Int} {L : List Nat} (h : Pile w0 w g n G L) (hn : n ≤ 1000000000) (A : Option Addr) (len c : Nat) (inner : List Value) (ho : w.ownsRow 0 148 2 (.slice A len c) len inner) (hl : ∀ b ∈ (Value.slice A len c).ownBlock.toList, (b < G ∧ b ∉ L) ∧ w0.heap.size ≤ b) (hlen : len ≤ 1000000000) :
    Calls Tryz.prog 208 #[.pointer (some ⟨g, 0, none⟩), .slice A len c] w fun e w' => e = .returned (.tuple #[]) ∧ Pile w0 w' g (n + 1) G (L ++ (Value.slice A len c).ownBlock.toList) ∧ Spared G L w w' := by
  obtain ⟨F, h1, h2, h3⟩ := h
  refine (h1.keepRow hn A len c inner ho (fun b hb => ⟨fun hx => ?_, (hl b hb).2⟩) hlen).mono ?_
  · rcases h2 b hx with h | h
    · exact (hl b hb).1.2 h
    · have := (hl b hb).1.1
      omega
  · rintro e w' ⟨rfl, F', h4, hk, hs⟩
    refine ⟨rfl, ⟨F', h4, fun b hb => ?_, Nat.le_trans h3 hk.size⟩, fun b hb hx => hk.block b (Nat.lt_of_lt_of_le hb h3) (fun hf => ?_)⟩
    · rcases hs b hb with h | h | h
      · exact (h2 b h).imp_left (fun h => List.mem_append_left _ h)
      · exact .inl (List.mem_append_right _ h)
      · exact .inr (Nat.le_trans h3 h)
    · rcases h2 b hf with h | h
      · exact hx h
      · omega
theorem Pile.Rows {w0 w : World} {g G : Nat} {n : Int} {L : List Nat} (h : Pile w0 w g n G L) (hn : n ≤ 1000000000) (A : Option Addr) (len c : Nat) (inner : List Value) (ho : w.ownsRow 0 148 2 (.slice A len c) len inner) (hl : ∀ b ∈ (Value.slice A len c).ownBlock.toList, (b < G ∧ b ∉ L) ∧ w0.heap.size ≤ b) (hlen : len ≤ 1000000000) :
    Calls Tryz.prog 202 #[.pointer (some ⟨g, 0, none⟩), .slice A len c] w fun e w' => e = .returned (.tuple #[]) ∧ Pile w0 w' g (n + 1) G (L ++ (Value.slice A len c).ownBlock.toList) ∧ Spared G L w w' := by
  obtain ⟨F, h1, h2, h3⟩ := h
  refine (h1.Rows hn A len c inner ho (fun b hb => ⟨fun hx => ?_, (hl b hb).2⟩) hlen).mono ?_
  · rcases h2 b hx with h | h
    · exact (hl b hb).1.2 h
    · have := (hl b hb).1.1
      omega
  · rintro e w' ⟨rfl, F', h4, hk, hs⟩
    refine ⟨rfl, ⟨F', h4, fun b hb => ?_, Nat.le_trans h3 hk.size⟩, fun b hb hx => hk.block b (Nat.lt_of_lt_of_le hb h3) (fun hf => ?_)⟩
    · rcases hs b hb with h | h | h
      · exact (h2 b h).imp_left (fun h => List.mem_append_left _ h)
      · exact .inl (List.mem_append_right _ h)
      · exact .inr (Nat.le_trans h3 h)
    · rcases h2 b hf with h | h
      · exact hx h
      · omega
theorem Pile.keepChange {w0 w : World} {g G : Nat} {n : Int} {L : List Nat} (h : Pile w0 w g n G L) (hn : n ≤ 1000000000) (A : Option Addr) (len c : Nat) (inner : List Value) (ho : w.ownsRow 0 116 3 (.slice A len c) len inner) (hl : ∀ b ∈ (Value.slice A len c).ownBlock.toList, (b < G ∧ b ∉ L) ∧ w0.heap.size ≤ b) (hlen : len ≤ 1000000000) :
    Calls Tryz.prog 130 #[.pointer (some ⟨g, 0, none⟩), .slice A len c] w fun e w' => e = .returned (.tuple #[]) ∧ Pile w0 w' g (n + 1) G (L ++ (Value.slice A len c).ownBlock.toList) ∧ Spared G L w w' := by
  obtain ⟨F, h1, h2, h3⟩ := h
  refine (h1.keepChange hn A len c inner ho (fun b hb => ⟨fun hx => ?_, (hl b hb).2⟩) hlen).mono ?_
  · rcases h2 b hx with h | h
    · exact (hl b hb).1.2 h
    · have := (hl b hb).1.1
      omega
  · rintro e w' ⟨rfl, F', h4, hk, hs⟩
    refine ⟨rfl, ⟨F', h4, fun b hb => ?_, Nat.le_trans h3 hk.size⟩, fun b hb hx => hk.block b (Nat.lt_of_lt_of_le hb h3) (fun hf => ?_)⟩
    · rcases hs b hb with h | h | h
      · exact (h2 b h).imp_left (fun h => List.mem_append_left _ h)
      · exact .inl (List.mem_append_right _ h)
      · exact .inr (Nat.le_trans h3 h)
    · rcases h2 b hf with h | h
      · exact hx h
      · omega
theorem Pile.Changes {w0 w : World} {g G : Nat} {n : Int} {L : List Nat} (h : Pile w0 w g n G L) (hn : n ≤ 1000000000) (A : Option Addr) (len c : Nat) (inner : List Value) (ho : w.ownsRow 0 116 3 (.slice A len c) len inner) (hl : ∀ b ∈ (Value.slice A len c).ownBlock.toList, (b < G ∧ b ∉ L) ∧ w0.heap.size ≤ b) (hlen : len ≤ 1000000000) :
    Calls Tryz.prog 38 #[.pointer (some ⟨g, 0, none⟩), .slice A len c] w fun e w' => e = .returned (.tuple #[]) ∧ Pile w0 w' g (n + 1) G (L ++ (Value.slice A len c).ownBlock.toList) ∧ Spared G L w w' := by
  obtain ⟨F, h1, h2, h3⟩ := h
  refine (h1.Changes hn A len c inner ho (fun b hb => ⟨fun hx => ?_, (hl b hb).2⟩) hlen).mono ?_
  · rcases h2 b hx with h | h
    · exact (hl b hb).1.2 h
    · have := (hl b hb).1.1
      omega
  · rintro e w' ⟨rfl, F', h4, hk, hs⟩
    refine ⟨rfl, ⟨F', h4, fun b hb => ?_, Nat.le_trans h3 hk.size⟩, fun b hb hx => hk.block b (Nat.lt_of_lt_of_le hb h3) (fun hf => ?_)⟩
    · rcases hs b hb with h | h | h
      · exact (h2 b h).imp_left (fun h => List.mem_append_left _ h)
      · exact .inl (List.mem_append_right _ h)
      · exact .inr (Nat.le_trans h3 h)
    · rcases h2 b hf with h | h
      · exact hx h
      · omega
end Go.Proofs.YtcohodkpppmaoaaGreatDoor.Q
