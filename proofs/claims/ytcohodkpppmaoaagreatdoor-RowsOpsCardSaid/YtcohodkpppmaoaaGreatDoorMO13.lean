/-
  The book's last word: no two of the lists that are kept share memory.
  The book as a law sees it: so many are kept, and these are its blocks; one more is kept.
  The book beside lists that are not kept yet: all of them lie below G, the book's own blocks are those that were kept, and new ones.
  What the printed rows.put.. functions come to: the plain words of XSpec.
-/
import Derived.Test.YtcohodkpppmaoaaGreatDoorMO8
import Derived.Test.YtcohodkpppmaoaaGreatDoorMO9
import Derived.Test.YtcohodkpppmaoaaGreatDoorMO10
import Derived.Test.YtcohodkpppmaoaaGreatDoorMO11
import Derived.Test.YtcohodkpppmaoaaGreatDoorMO12
import Derived.Test.YtcohodkpppmaoaaGreatDoorMO6
import Derived.Test.YtcohodkpppmaoaaGreatDoorMO5
import Derived.Test.YtcohodkpppmaoaaGreatDoorMO2
import Derived.Test.YtcohodkpppmaoaaGreatDoorMO3
import Derived.Test.YtcohodkpppmaoaaGreatDoorMO1
set_option linter.unusedSimpArgs false
set_option linter.unusedVariables false
namespace Go.Proofs.YtcohodkpppmaoaaGreatDoor.Q
open Go.RowKit Go.Proofs.YtcohodkpppmaoaaGreatDoorW.PrintWords Go.Proofs.YtcohodkpppmaoaaGreatDoorW.PrintLast Go.Proofs.YtcohodkpppmaoaaGreatDoorW.PrintMore
set_option linter.unusedVariables false
/-- A list that is kept: its number, and how many it has. -/
def Fine (E : List Ent) : Prop := ∀ x ∈ E, (0 ≤ x.num ∧ x.num ≤ 1000000000000000) ∧ x.len ≤ 1000000000
theorem Fine.num {E : List Ent} (h : Fine E) : ∀ x ∈ E, 0 ≤ x.num ∧ x.num ≤ 1000000000000000 := fun x hx => (h x hx).1
set_option maxHeartbeats 6400000 in
set_option maxRecDepth 100000 in
theorem apart_calls (w0 w : World) (g : Nat) (n : Int) (vv1 vv2 vv3 vv4 vv5 vv6 : Value) (E1 E2 E3 E4 E5 E6 : List Ent) (F1 F2 F3 F4 F5 F6 : List Nat) (H : Held w0 w g #[.int .i64 n, vv1, .slice none 0 0, .slice none 0 0, .slice none 0 0, vv2, vv3, .slice none 0 0, vv4, vv5, vv6, .slice none 0 0, .slice none 0 0] [⟨fdA 5 1, 172, F1, vv1, E1⟩, ⟨fdA 148 2, 184, F2, vv2, E2⟩, ⟨fdA 82 4, 187, F3, vv3, E3⟩, ⟨fdA 116 3, 196, F4, vv4, E4⟩, ⟨fdA 145 1, 199, F5, vv5, E5⟩, ⟨fdA 50 6, 170, F6, vv6, E6⟩]) (hT : TabOk w0)
    (h1 : Fine E1) (h2 : Fine E2) (h3 : Fine E3) (h4 : Fine E4) (h5 : Fine E5) (h6 : Fine E6) : Calls Tryz.prog 26 #[.pointer (some ⟨g, 0, none⟩)] w fun e w' => e = .returned (.bool true) ∧ Below w0.heap.size w0 w' := by
  have HT := Aside0.mk hT
  have N1 := Aside0.mk h1
  clear h1
  have N2 := Aside0.mk h2
  clear h2
  have N3 := Aside0.mk h3
  clear h3
  have N4 := Aside0.mk h4
  clear h4
  have N5 := Aside0.mk h5
  clear h5
  have N6 := Aside0.mk h6
  clear h6
  have H0 := Aside0.mk H
  clear H hT
  go_enter Tryz.func26, Tryz.ntmps26
  go_wp2_with fail
  refine (fillByte_calls _ g _ H0.out.cell _ rfl E1 _ H0.out.on1.1 H0.out.on1.2.1 H0.out.on1.2.2.1 N1.out.num w0 HT.out H0.out.base H0.out.on1.2.2.2).mono ?_
  rintro e w1 ⟨rfl, X1, hr, hn, hk, hs⟩
  have H1 := Aside0.mk (H0.out.step1 hr hn hk hs)
  clear hr hn hk hs H0
  go_wp2_with fail
  refine (fillId_no _ g _ H1.out.cell rfl).mono ?_
  rintro e _ ⟨rfl, rfl⟩
  go_wp2_with fail
  refine (fillInt_no _ g _ H1.out.cell rfl).mono ?_
  rintro e _ ⟨rfl, rfl⟩
  go_wp2_with fail
  refine (fillText_no _ g _ H1.out.cell rfl).mono ?_
  rintro e _ ⟨rfl, rfl⟩
  go_wp2_with fail
  refine (fillRow_calls _ g _ H1.out.cell _ rfl E2 _ H1.out.on2.1 H1.out.on2.2.1 H1.out.on2.2.2.1 N2.out.num w0 HT.out H1.out.base H1.out.on2.2.2.2).mono ?_
  rintro e w5 ⟨rfl, X5, hr, hn, hk, hs⟩
  have H2 := Aside0.mk (H1.out.step2 hr hn hk hs)
  clear hr hn hk hs H1
  go_wp2_with fail
  refine (fillOp_calls _ g _ H2.out.cell _ rfl E3 _ H2.out.on3.1 H2.out.on3.2.1 H2.out.on3.2.2.1 N3.out.num w0 HT.out H2.out.base H2.out.on3.2.2.2).mono ?_
  rintro e w6 ⟨rfl, X6, hr, hn, hk, hs⟩
  have H3 := Aside0.mk (H2.out.step3 hr hn hk hs)
  clear hr hn hk hs H2
  go_wp2_with fail
  refine (fillSpan_no _ g _ H3.out.cell rfl).mono ?_
  rintro e _ ⟨rfl, rfl⟩
  go_wp2_with fail
  refine (fillChange_calls _ g _ H3.out.cell _ rfl E4 _ H3.out.on4.1 H3.out.on4.2.1 H3.out.on4.2.2.1 N4.out.num w0 HT.out H3.out.base H3.out.on4.2.2.2).mono ?_
  rintro e w8 ⟨rfl, X8, hr, hn, hk, hs⟩
  have H4 := Aside0.mk (H3.out.step4 hr hn hk hs)
  clear hr hn hk hs H3
  go_wp2_with fail
  refine (fillResult_calls _ g _ H4.out.cell _ rfl E5 _ H4.out.on5.1 H4.out.on5.2.1 H4.out.on5.2.2.1 N5.out.num w0 HT.out H4.out.base H4.out.on5.2.2.2).mono ?_
  rintro e w9 ⟨rfl, X9, hr, hn, hk, hs⟩
  have H5 := Aside0.mk (H4.out.step5 hr hn hk hs)
  clear hr hn hk hs H4
  go_wp2_with fail
  refine (fillMsg_calls _ g _ H5.out.cell _ rfl E6 _ H5.out.on6.1 H5.out.on6.2.1 H5.out.on6.2.2.1 N6.out.num w0 HT.out H5.out.base H5.out.on6.2.2.2).mono ?_
  rintro e w10 ⟨rfl, X10, hr, hn, hk, hs⟩
  have H6 := Aside0.mk (H5.out.step6 hr hn hk hs)
  clear hr hn hk hs H5
  go_wp2_with fail
  refine (fillPart_no _ g _ H6.out.cell rfl).mono ?_
  rintro e _ ⟨rfl, rfl⟩
  go_wp2_with fail
  refine (fillDeed_no _ g _ H6.out.cell rfl).mono ?_
  rintro e _ ⟨rfl, rfl⟩
  go_wp2_with fail
  refine (growByte_calls _ g _ H6.out.cell _ rfl E1 _ H6.out.on1.1 H6.out.on1.2.1 H6.out.on1.2.2.1 N1.out w0 HT.out H6.out.base H6.out.on1.2.2.2).mono ?_
  rintro e w13 ⟨rfl, X13, hr, hn, hk, hs⟩
  have H7 := Aside0.mk (H6.out.step1 hr hn hk hs)
  clear hr hn hk hs H6
  go_wp2_with fail
  refine (growId_no _ g _ H7.out.cell rfl).mono ?_
  rintro e _ ⟨rfl, rfl⟩
  go_wp2_with fail
  refine (growInt_no _ g _ H7.out.cell rfl).mono ?_
  rintro e _ ⟨rfl, rfl⟩
  go_wp2_with fail
  refine (growText_no _ g _ H7.out.cell rfl).mono ?_
  rintro e _ ⟨rfl, rfl⟩
  go_wp2_with fail
  refine (growRow_calls _ g _ H7.out.cell _ rfl E2 _ H7.out.on2.1 H7.out.on2.2.1 H7.out.on2.2.2.1 N2.out w0 HT.out H7.out.base H7.out.on2.2.2.2).mono ?_
  rintro e w17 ⟨rfl, X17, hr, hn, hk, hs⟩
  have H8 := Aside0.mk (H7.out.step2 hr hn hk hs)
  clear hr hn hk hs H7
  go_wp2_with fail
  refine (growOp_calls _ g _ H8.out.cell _ rfl E3 _ H8.out.on3.1 H8.out.on3.2.1 H8.out.on3.2.2.1 N3.out w0 HT.out H8.out.base H8.out.on3.2.2.2).mono ?_
  rintro e w18 ⟨rfl, X18, hr, hn, hk, hs⟩
  have H9 := Aside0.mk (H8.out.step3 hr hn hk hs)
  clear hr hn hk hs H8
  go_wp2_with fail
  refine (growSpan_no _ g _ H9.out.cell rfl).mono ?_
  rintro e _ ⟨rfl, rfl⟩
  go_wp2_with fail
  refine (growChange_calls _ g _ H9.out.cell _ rfl E4 _ H9.out.on4.1 H9.out.on4.2.1 H9.out.on4.2.2.1 N4.out w0 HT.out H9.out.base H9.out.on4.2.2.2).mono ?_
  rintro e w20 ⟨rfl, X20, hr, hn, hk, hs⟩
  have H10 := Aside0.mk (H9.out.step4 hr hn hk hs)
  clear hr hn hk hs H9
  go_wp2_with fail
  refine (growResult_calls _ g _ H10.out.cell _ rfl E5 _ H10.out.on5.1 H10.out.on5.2.1 H10.out.on5.2.2.1 N5.out w0 HT.out H10.out.base H10.out.on5.2.2.2).mono ?_
  rintro e w21 ⟨rfl, X21, hr, hn, hk, hs⟩
  have H11 := Aside0.mk (H10.out.step5 hr hn hk hs)
  clear hr hn hk hs H10
  go_wp2_with fail
  refine (growMsg_calls _ g _ H11.out.cell _ rfl E6 _ H11.out.on6.1 H11.out.on6.2.1 H11.out.on6.2.2.1 N6.out w0 HT.out H11.out.base H11.out.on6.2.2.2).mono ?_
  rintro e w22 ⟨rfl, X22, hr, hn, hk, hs⟩
  have H12 := Aside0.mk (H11.out.step6 hr hn hk hs)
  clear hr hn hk hs H11
  go_wp2_with fail
  refine (growPart_no _ g _ H12.out.cell rfl).mono ?_
  rintro e _ ⟨rfl, rfl⟩
  go_wp2_with fail
  refine (growDeed_no _ g _ H12.out.cell rfl).mono ?_
  rintro e _ ⟨rfl, rfl⟩
  go_wp2_with fail
  refine (lookByte_calls _ g _ H12.out.cell _ rfl E1 _ H12.out.on1.1 N1.out (TabOk.below HT.out H12.out.base)).mono ?_
  rintro e w25 ⟨rfl, hb⟩
  have H13 := Aside0.mk (H12.out.below hb)
  clear hb H12
  go_wp2_with fail
  refine (lookId_no _ g _ H13.out.cell rfl).mono ?_
  rintro e _ ⟨rfl, rfl⟩
  go_wp2_with fail
  refine (lookInt_no _ g _ H13.out.cell rfl).mono ?_
  rintro e _ ⟨rfl, rfl⟩
  go_wp2_with fail
  refine (lookText_no _ g _ H13.out.cell rfl).mono ?_
  rintro e _ ⟨rfl, rfl⟩
  go_wp2_with fail
  refine (lookRow_calls _ g _ H13.out.cell _ rfl E2 _ H13.out.on2.1 N2.out (TabOk.below HT.out H13.out.base)).mono ?_
  rintro e w29 ⟨rfl, hb⟩
  have H14 := Aside0.mk (H13.out.below hb)
  clear hb H13
  go_wp2_with fail
  refine (lookOp_calls _ g _ H14.out.cell _ rfl E3 _ H14.out.on3.1 N3.out (TabOk.below HT.out H14.out.base)).mono ?_
  rintro e w30 ⟨rfl, hb⟩
  have H15 := Aside0.mk (H14.out.below hb)
  clear hb H14
  go_wp2_with fail
  refine (lookSpan_no _ g _ H15.out.cell rfl).mono ?_
  rintro e _ ⟨rfl, rfl⟩
  go_wp2_with fail
  refine (lookChange_calls _ g _ H15.out.cell _ rfl E4 _ H15.out.on4.1 N4.out (TabOk.below HT.out H15.out.base)).mono ?_
  rintro e w32 ⟨rfl, hb⟩
  have H16 := Aside0.mk (H15.out.below hb)
  clear hb H15
  go_wp2_with fail
  refine (lookResult_calls _ g _ H16.out.cell _ rfl E5 _ H16.out.on5.1 N5.out (TabOk.below HT.out H16.out.base)).mono ?_
  rintro e w33 ⟨rfl, hb⟩
  have H17 := Aside0.mk (H16.out.below hb)
  clear hb H16
  go_wp2_with fail
  refine (lookMsg_calls _ g _ H17.out.cell _ rfl E6 _ H17.out.on6.1 N6.out (TabOk.below HT.out H17.out.base)).mono ?_
  rintro e w34 ⟨rfl, hb⟩
  have H18 := Aside0.mk (H17.out.below hb)
  clear hb H17
  go_wp2_with fail
  refine (lookPart_no _ g _ H18.out.cell rfl).mono ?_
  rintro e _ ⟨rfl, rfl⟩
  go_wp2_with fail
  refine (lookDeed_no _ g _ H18.out.cell rfl).mono ?_
  rintro e _ ⟨rfl, rfl⟩
  go_wp2
  go_ret
  exact ⟨rfl, H18.out.base⟩
end Go.Proofs.YtcohodkpppmaoaaGreatDoor.Q
namespace Go.Proofs.YtcohodkpppmaoaaGreatDoor.Q
open Go.RowKit Go.Proofs.YtcohodkpppmaoaaGreatDoorW.PrintWords Go.Proofs.YtcohodkpppmaoaaGreatDoorW.PrintLast Go.Proofs.YtcohodkpppmaoaaGreatDoorW.PrintMore
set_option linter.unusedVariables false
/-- The book at block g has n lists; its blocks are F; all were made behind w0. -/
def BookAt (w0 w : World) (g : Nat) (n : Int) (F : List Nat) : Prop :=
  ∃ vv1 vv2 vv3 vv4 vv5 vv6 E1 E2 E3 E4 E5 E6 F1 F2 F3 F4 F5 F6, Held w0 w g #[.int .i64 n, vv1, .slice none 0 0, .slice none 0 0, .slice none 0 0, vv2, vv3, .slice none 0 0, vv4, vv5, vv6, .slice none 0 0, .slice none 0 0] [⟨fdA 5 1, 172, F1, vv1, E1⟩, ⟨fdA 148 2, 184, F2, vv2, E2⟩, ⟨fdA 82 4, 187, F3, vv3, E3⟩, ⟨fdA 116 3, 196, F4, vv4, E4⟩, ⟨fdA 145 1, 199, F5, vv5, E5⟩, ⟨fdA 50 6, 170, F6, vv6, E6⟩] ∧ F = g :: allF [⟨fdA 5 1, 172, F1, vv1, E1⟩, ⟨fdA 148 2, 184, F2, vv2, E2⟩, ⟨fdA 82 4, 187, F3, vv3, E3⟩, ⟨fdA 116 3, 196, F4, vv4, E4⟩, ⟨fdA 145 1, 199, F5, vv5, E5⟩, ⟨fdA 50 6, 170, F6, vv6, E6⟩] ∧ 0 ≤ n ∧ (Fine E1 ∧ (E1.length : Int) ≤ n) ∧ (Fine E2 ∧ (E2.length : Int) ≤ n) ∧ (Fine E3 ∧ (E3.length : Int) ≤ n) ∧ (Fine E4 ∧ (E4.length : Int) ≤ n) ∧ (Fine E5 ∧ (E5.length : Int) ≤ n) ∧ (Fine E6 ∧ (E6.length : Int) ≤ n)
section
variable {w0 w w' : World} {g : Nat} {n : Int} {F G : List Nat}
theorem BookAt.keeps (h : BookAt w0 w g n F) (hk : Keeps G w w') (hG : ∀ b ∈ G, b ∉ F) (hGf : ∀ b ∈ G, w0.heap.size ≤ b) : BookAt w0 w' g n F := by
  obtain ⟨vv1, vv2, vv3, vv4, vv5, vv6, E1, E2, E3, E4, E5, E6, F1, F2, F3, F4, F5, F6, H, rfl, h⟩ := h
  exact ⟨_, _, _, _, _, _, _, _, _, _, _, _, _, _, _, _, _, _, H.keeps hk hG hGf, rfl, h⟩
theorem BookAt.below (h : BookAt w0 w g n F) (hb : Below w.heap.size w w') : BookAt w0 w' g n F := h.keeps (G := []) (Keeps.of_below hb []) (fun _ hx => by cases hx) (fun _ hx => by cases hx)
theorem BookAt.lt (h : BookAt w0 w g n F) : ∀ b ∈ F, b < w.heap.size := by
  obtain ⟨vv1, vv2, vv3, vv4, vv5, vv6, E1, E2, E3, E4, E5, E6, F1, F2, F3, F4, F5, F6, H, rfl, h⟩ := h
  intro b hb
  rcases List.mem_cons.1 hb with rfl | hb
  · exact blk_lt H.cell
  · obtain ⟨x, hx, hb⟩ := List.mem_flatMap.1 hb
    exact Fd.row_lt (H.rows x hx) b hb
theorem BookAt.far (h : BookAt w0 w g n F) : ∀ b ∈ F, w0.heap.size ≤ b := by
  obtain ⟨vv1, vv2, vv3, vv4, vv5, vv6, E1, E2, E3, E4, E5, E6, F1, F2, F3, F4, F5, F6, H, rfl, h⟩ := h
  exact H.far
theorem BookAt.base (h : BookAt w0 w g n F) : Below w0.heap.size w0 w := by
  obtain ⟨vv1, vv2, vv3, vv4, vv5, vv6, E1, E2, E3, E4, E5, E6, F1, F2, F3, F4, F5, F6, H, rfl, h⟩ := h
  exact H.base
theorem BookAt.new (hb : Below w0.heap.size w0 w) (hc : w.heap[g]? = some (.cells #[.int .i64 0, .slice none 0 0, .slice none 0 0, .slice none 0 0, .slice none 0 0, .slice none 0 0, .slice none 0 0, .slice none 0 0, .slice none 0 0, .slice none 0 0, .slice none 0 0, .slice none 0 0, .slice none 0 0] 44 (0, 0))) (hg : w0.heap.size ≤ g) : BookAt w0 w g 0 [g] := by
  refine ⟨.slice none 0 0, .slice none 0 0, .slice none 0 0, .slice none 0 0, .slice none 0 0, .slice none 0 0, [], [], [], [], [], [], [], [], [], [], [], [], ⟨hb, hc, ?_, by simp [allF], by simpa [allF] using hg⟩, by simp [allF], by decide, ⟨(fun _ hx => by cases hx), by simp⟩, ⟨(fun _ hx => by cases hx), by simp⟩, ⟨(fun _ hx => by cases hx), by simp⟩, ⟨(fun _ hx => by cases hx), by simp⟩, ⟨(fun _ hx => by cases hx), by simp⟩, ⟨(fun _ hx => by cases hx), by simp⟩⟩
  intro x hx
  simp only [List.mem_cons, List.not_mem_nil, or_false] at hx
  rcases hx with rfl | rfl | rfl | rfl | rfl | rfl <;> exact Fd.row_nil _ _ _
theorem BookAt.apart (h : BookAt w0 w g n F) (hT : TabOk w0) : Calls Tryz.prog 26 #[.pointer (some ⟨g, 0, none⟩)] w fun e w' => e = .returned (.bool true) ∧ Below w0.heap.size w0 w' := by
  obtain ⟨vv1, vv2, vv3, vv4, vv5, vv6, E1, E2, E3, E4, E5, E6, F1, F2, F3, F4, F5, F6, H, rfl, h0, f1, f2, f3, f4, f5, f6⟩ := h
  exact apart_calls w0 w g n vv1 vv2 vv3 vv4 vv5 vv6 E1 E2 E3 E4 E5 E6 F1 F2 F3 F4 F5 F6 H hT f1.1 f2.1 f3.1 f4.1 f5.1 f6.1
theorem Fine.snoc {E : List Ent} (h : Fine E) {x : Ent} (h0 : 0 ≤ x.num) (h1 : x.num ≤ 1000000000000000) (h2 : x.len ≤ 1000000000) : Fine (E ++ [x]) := by
  intro y hy
  rcases List.mem_append.1 hy with hy | hy
  · exact h y hy
  · obtain rfl : y = x := by simpa using hy
    exact ⟨⟨h0, h1⟩, h2⟩
end
theorem BookAt.keepByte {w0 w : World} {g : Nat} {n : Int} {F : List Nat} (h : BookAt w0 w g n F) (hn : n ≤ 1000000000) (A : Option Addr) (len c : Nat) (inner : List Value) (ho : w.ownsRow 0 5 1 (.slice A len c) len inner) (hl : ∀ b ∈ (Value.slice A len c).ownBlock.toList, b ∉ F ∧ w0.heap.size ≤ b) (hlen : len ≤ 1000000000) :
    Calls Tryz.prog 131 #[.pointer (some ⟨g, 0, none⟩), .slice A len c] w fun e w' => e = .returned (.tuple #[]) ∧ ∃ F', BookAt w0 w' g (n + 1) F' ∧ Keeps F w w' ∧ ∀ b ∈ F', b ∈ F ∨ b ∈ (Value.slice A len c).ownBlock.toList ∨ w.heap.size ≤ b := by
  obtain ⟨vv1, vv2, vv3, vv4, vv5, vv6, E1, E2, E3, E4, E5, E6, F1, F2, F3, F4, F5, F6, H, rfl, h0, f1, f2, f3, f4, f5, f6⟩ := h
  have hlt := fun b hb => (BookAt.lt ⟨_, _, _, _, _, _, _, _, _, _, _, _, _, _, _, _, _, _, H, rfl, h0, f1, f2, f3, f4, f5, f6⟩ : ∀ b ∈ g :: allF [⟨fdA 5 1, 172, F1, vv1, E1⟩, ⟨fdA 148 2, 184, F2, vv2, E2⟩, ⟨fdA 82 4, 187, F3, vv3, E3⟩, ⟨fdA 116 3, 196, F4, vv4, E4⟩, ⟨fdA 145 1, 199, F5, vv5, E5⟩, ⟨fdA 50 6, 170, F6, vv6, E6⟩], b < w.heap.size) b hb
  have hmem : ∀ b ∈ F1, b ∈ g :: allF [⟨fdA 5 1, 172, F1, vv1, E1⟩, ⟨fdA 148 2, 184, F2, vv2, E2⟩, ⟨fdA 82 4, 187, F3, vv3, E3⟩, ⟨fdA 116 3, 196, F4, vv4, E4⟩, ⟨fdA 145 1, 199, F5, vv5, E5⟩, ⟨fdA 50 6, 170, F6, vv6, E6⟩] := fun b hb => by simp [allF, hb]
  refine (keepByte_calls w g n vv1 (.slice none 0 0) (.slice none 0 0) (.slice none 0 0) vv2 vv3 (.slice none 0 0) vv4 vv5 vv6 (.slice none 0 0) (.slice none 0 0) H.cell E1 F1 H.on1.1 (List.nodup_cons.2 ⟨H.on1.2.2.1, H.on1.2.1⟩) A len c inner ho (fun b hb hx => (hl b hb).1 (by
    rcases List.mem_cons.1 hx with rfl | hx
    · simp
    · exact hmem b hx)) (by have := f1.2; omega) h0 (by omega)).mono ?_
  rintro e w' ⟨F', v', rfl, hc, hr, hnd, hk, hs⟩
  have H2 := Held.step0 (pre := []) (x := ⟨fdA 5 1, 172, F1, vv1, E1⟩) (post := [⟨fdA 148 2, 184, F2, vv2, E2⟩, ⟨fdA 82 4, 187, F3, vv3, E3⟩, ⟨fdA 116 3, 196, F4, vv4, E4⟩, ⟨fdA 145 1, 199, F5, vv5, E5⟩, ⟨fdA 50 6, 170, F6, vv6, E6⟩]) H hc hr (List.nodup_cons.1 hnd).2 (Value.slice A len c).ownBlock.toList hk (fun b hb => (hl b hb).1) (fun b hb => (hl b hb).2) hs (List.nodup_cons.1 hnd).1
  refine ⟨rfl, _, ⟨_, _, _, _, _, _, _, _, _, _, _, _, _, _, _, _, _, _, H2, rfl, by omega, ⟨f1.1.snoc (show 0 ≤ n + 1 by omega) (show n + 1 ≤ 1000000000000000 by omega) hlen, by have := f1.2; rw [List.length_append, List.length_singleton]; omega⟩, ⟨f2.1, by have := f2.2; omega⟩, ⟨f3.1, by have := f3.2; omega⟩, ⟨f4.1, by have := f4.2; omega⟩, ⟨f5.1, by have := f5.2; omega⟩, ⟨f6.1, by have := f6.2; omega⟩⟩, hk.mono (fun b hb => .inl ?_), fun b hb => ?_⟩
  · rcases List.mem_cons.1 hb with rfl | hb
    · simp
    · exact hmem b hb
  · have hb2 : b = g ∨ (b ∈ F' ∨ b ∈ F2 ∨ b ∈ F3 ∨ b ∈ F4 ∨ b ∈ F5 ∨ b ∈ F6) := by simpa [allF, or_assoc, or_comm, or_left_comm] using hb
    rcases hb2 with rfl | hb2 | hb2
    · exact .inl (by simp)
    · rcases hs b hb2 with h1 | h1 | h1
      · exact .inl (hmem b h1)
      · exact .inr (.inl h1)
      · exact .inr (.inr h1)
    · refine .inl ?_
      simp only [allF, List.flatMap_cons, List.flatMap_nil, List.append_nil, List.mem_cons, List.mem_append]
      rcases hb2 with hb2 | hb2 | hb2 | hb2 | hb2 <;> simp [hb2]
set_option maxHeartbeats 1600000 in
set_option maxRecDepth 100000 in
theorem BookAt.Bytes {w0 w : World} {g : Nat} {n : Int} {F : List Nat} (h : BookAt w0 w g n F) (hn : n ≤ 1000000000) (A : Option Addr) (len c : Nat) (inner : List Value) (ho : w.ownsRow 0 5 1 (.slice A len c) len inner) (hl : ∀ b ∈ (Value.slice A len c).ownBlock.toList, b ∉ F ∧ w0.heap.size ≤ b) (hlen : len ≤ 1000000000) :
    Calls Tryz.prog 39 #[.pointer (some ⟨g, 0, none⟩), .slice A len c] w fun e w' => e = .returned (.tuple #[]) ∧ ∃ F', BookAt w0 w' g (n + 1) F' ∧ Keeps F w w' ∧ ∀ b ∈ F', b ∈ F ∨ b ∈ (Value.slice A len c).ownBlock.toList ∨ w.heap.size ≤ b := by
  have H := Aside0.mk h
  have HO := Aside0.mk ho
  have HL := Aside0.mk hl
  clear h ho hl
  go_enter Tryz.func39, Tryz.ntmps39
  go_wp2_with fail
  refine (H.out.keepByte hn A len c inner HO.out HL.out hlen).mono ?_
  rintro e w' ⟨rfl, h⟩
  have HR := Aside0.mk h
  clear h
  go_wp2
  go_end0
  exact ⟨rfl, HR.out⟩
theorem BookAt.keepRow {w0 w : World} {g : Nat} {n : Int} {F : List Nat} (h : BookAt w0 w g n F) (hn : n ≤ 1000000000) (A : Option Addr) (len c : Nat) (inner : List Value) (ho : w.ownsRow 0 148 2 (.slice A len c) len inner) (hl : ∀ b ∈ (Value.slice A len c).ownBlock.toList, b ∉ F ∧ w0.heap.size ≤ b) (hlen : len ≤ 1000000000) :
    Calls Tryz.prog 208 #[.pointer (some ⟨g, 0, none⟩), .slice A len c] w fun e w' => e = .returned (.tuple #[]) ∧ ∃ F', BookAt w0 w' g (n + 1) F' ∧ Keeps F w w' ∧ ∀ b ∈ F', b ∈ F ∨ b ∈ (Value.slice A len c).ownBlock.toList ∨ w.heap.size ≤ b := by
  obtain ⟨vv1, vv2, vv3, vv4, vv5, vv6, E1, E2, E3, E4, E5, E6, F1, F2, F3, F4, F5, F6, H, rfl, h0, f1, f2, f3, f4, f5, f6⟩ := h
  have hlt := fun b hb => (BookAt.lt ⟨_, _, _, _, _, _, _, _, _, _, _, _, _, _, _, _, _, _, H, rfl, h0, f1, f2, f3, f4, f5, f6⟩ : ∀ b ∈ g :: allF [⟨fdA 5 1, 172, F1, vv1, E1⟩, ⟨fdA 148 2, 184, F2, vv2, E2⟩, ⟨fdA 82 4, 187, F3, vv3, E3⟩, ⟨fdA 116 3, 196, F4, vv4, E4⟩, ⟨fdA 145 1, 199, F5, vv5, E5⟩, ⟨fdA 50 6, 170, F6, vv6, E6⟩], b < w.heap.size) b hb
  have hmem : ∀ b ∈ F2, b ∈ g :: allF [⟨fdA 5 1, 172, F1, vv1, E1⟩, ⟨fdA 148 2, 184, F2, vv2, E2⟩, ⟨fdA 82 4, 187, F3, vv3, E3⟩, ⟨fdA 116 3, 196, F4, vv4, E4⟩, ⟨fdA 145 1, 199, F5, vv5, E5⟩, ⟨fdA 50 6, 170, F6, vv6, E6⟩] := fun b hb => by simp [allF, hb]
  refine (keepRow_calls w g n vv1 (.slice none 0 0) (.slice none 0 0) (.slice none 0 0) vv2 vv3 (.slice none 0 0) vv4 vv5 vv6 (.slice none 0 0) (.slice none 0 0) H.cell E2 F2 H.on2.1 (List.nodup_cons.2 ⟨H.on2.2.2.1, H.on2.2.1⟩) A len c inner ho (fun b hb hx => (hl b hb).1 (by
    rcases List.mem_cons.1 hx with rfl | hx
    · simp
    · exact hmem b hx)) (by have := f2.2; omega) h0 (by omega)).mono ?_
  rintro e w' ⟨F', v', rfl, hc, hr, hnd, hk, hs⟩
  have H2 := Held.step0 (pre := [⟨fdA 5 1, 172, F1, vv1, E1⟩]) (x := ⟨fdA 148 2, 184, F2, vv2, E2⟩) (post := [⟨fdA 82 4, 187, F3, vv3, E3⟩, ⟨fdA 116 3, 196, F4, vv4, E4⟩, ⟨fdA 145 1, 199, F5, vv5, E5⟩, ⟨fdA 50 6, 170, F6, vv6, E6⟩]) H hc hr (List.nodup_cons.1 hnd).2 (Value.slice A len c).ownBlock.toList hk (fun b hb => (hl b hb).1) (fun b hb => (hl b hb).2) hs (List.nodup_cons.1 hnd).1
  refine ⟨rfl, _, ⟨_, _, _, _, _, _, _, _, _, _, _, _, _, _, _, _, _, _, H2, rfl, by omega, ⟨f1.1, by have := f1.2; omega⟩, ⟨f2.1.snoc (show 0 ≤ n + 1 by omega) (show n + 1 ≤ 1000000000000000 by omega) hlen, by have := f2.2; rw [List.length_append, List.length_singleton]; omega⟩, ⟨f3.1, by have := f3.2; omega⟩, ⟨f4.1, by have := f4.2; omega⟩, ⟨f5.1, by have := f5.2; omega⟩, ⟨f6.1, by have := f6.2; omega⟩⟩, hk.mono (fun b hb => .inl ?_), fun b hb => ?_⟩
  · rcases List.mem_cons.1 hb with rfl | hb
    · simp
    · exact hmem b hb
  · have hb2 : b = g ∨ (b ∈ F' ∨ b ∈ F1 ∨ b ∈ F3 ∨ b ∈ F4 ∨ b ∈ F5 ∨ b ∈ F6) := by simpa [allF, or_assoc, or_comm, or_left_comm] using hb
    rcases hb2 with rfl | hb2 | hb2
    · exact .inl (by simp)
    · rcases hs b hb2 with h1 | h1 | h1
      · exact .inl (hmem b h1)
      · exact .inr (.inl h1)
      · exact .inr (.inr h1)
    · refine .inl ?_
      simp only [allF, List.flatMap_cons, List.flatMap_nil, List.append_nil, List.mem_cons, List.mem_append]
      rcases hb2 with hb2 | hb2 | hb2 | hb2 | hb2 <;> simp [hb2]
set_option maxHeartbeats 1600000 in
set_option maxRecDepth 100000 in
theorem BookAt.Rows {w0 w : World} {g : Nat} {n : Int} {F : List Nat} (h : BookAt w0 w g n F) (hn : n ≤ 1000000000) (A : Option Addr) (len c : Nat) (inner : List Value) (ho : w.ownsRow 0 148 2 (.slice A len c) len inner) (hl : ∀ b ∈ (Value.slice A len c).ownBlock.toList, b ∉ F ∧ w0.heap.size ≤ b) (hlen : len ≤ 1000000000) :
    Calls Tryz.prog 202 #[.pointer (some ⟨g, 0, none⟩), .slice A len c] w fun e w' => e = .returned (.tuple #[]) ∧ ∃ F', BookAt w0 w' g (n + 1) F' ∧ Keeps F w w' ∧ ∀ b ∈ F', b ∈ F ∨ b ∈ (Value.slice A len c).ownBlock.toList ∨ w.heap.size ≤ b := by
  have H := Aside0.mk h
  have HO := Aside0.mk ho
  have HL := Aside0.mk hl
  clear h ho hl
  go_enter Tryz.func202, Tryz.ntmps202
  go_wp2_with fail
  refine (H.out.keepRow hn A len c inner HO.out HL.out hlen).mono ?_
  rintro e w' ⟨rfl, h⟩
  have HR := Aside0.mk h
  clear h
  go_wp2
  go_end0
  exact ⟨rfl, HR.out⟩
theorem BookAt.keepOp {w0 w : World} {g : Nat} {n : Int} {F : List Nat} (h : BookAt w0 w g n F) (hn : n ≤ 1000000000) (A : Option Addr) (len c : Nat) (inner : List Value) (ho : w.ownsRow 0 82 4 (.slice A len c) len inner) (hl : ∀ b ∈ (Value.slice A len c).ownBlock.toList, b ∉ F ∧ w0.heap.size ≤ b) (hlen : len ≤ 1000000000) :
    Calls Tryz.prog 137 #[.pointer (some ⟨g, 0, none⟩), .slice A len c] w fun e w' => e = .returned (.tuple #[]) ∧ ∃ F', BookAt w0 w' g (n + 1) F' ∧ Keeps F w w' ∧ ∀ b ∈ F', b ∈ F ∨ b ∈ (Value.slice A len c).ownBlock.toList ∨ w.heap.size ≤ b := by
  obtain ⟨vv1, vv2, vv3, vv4, vv5, vv6, E1, E2, E3, E4, E5, E6, F1, F2, F3, F4, F5, F6, H, rfl, h0, f1, f2, f3, f4, f5, f6⟩ := h
  have hlt := fun b hb => (BookAt.lt ⟨_, _, _, _, _, _, _, _, _, _, _, _, _, _, _, _, _, _, H, rfl, h0, f1, f2, f3, f4, f5, f6⟩ : ∀ b ∈ g :: allF [⟨fdA 5 1, 172, F1, vv1, E1⟩, ⟨fdA 148 2, 184, F2, vv2, E2⟩, ⟨fdA 82 4, 187, F3, vv3, E3⟩, ⟨fdA 116 3, 196, F4, vv4, E4⟩, ⟨fdA 145 1, 199, F5, vv5, E5⟩, ⟨fdA 50 6, 170, F6, vv6, E6⟩], b < w.heap.size) b hb
  have hmem : ∀ b ∈ F3, b ∈ g :: allF [⟨fdA 5 1, 172, F1, vv1, E1⟩, ⟨fdA 148 2, 184, F2, vv2, E2⟩, ⟨fdA 82 4, 187, F3, vv3, E3⟩, ⟨fdA 116 3, 196, F4, vv4, E4⟩, ⟨fdA 145 1, 199, F5, vv5, E5⟩, ⟨fdA 50 6, 170, F6, vv6, E6⟩] := fun b hb => by simp [allF, hb]
  refine (keepOp_calls w g n vv1 (.slice none 0 0) (.slice none 0 0) (.slice none 0 0) vv2 vv3 (.slice none 0 0) vv4 vv5 vv6 (.slice none 0 0) (.slice none 0 0) H.cell E3 F3 H.on3.1 (List.nodup_cons.2 ⟨H.on3.2.2.1, H.on3.2.1⟩) A len c inner ho (fun b hb hx => (hl b hb).1 (by
    rcases List.mem_cons.1 hx with rfl | hx
    · simp
    · exact hmem b hx)) (by have := f3.2; omega) h0 (by omega)).mono ?_
  rintro e w' ⟨F', v', rfl, hc, hr, hnd, hk, hs⟩
  have H2 := Held.step0 (pre := [⟨fdA 5 1, 172, F1, vv1, E1⟩, ⟨fdA 148 2, 184, F2, vv2, E2⟩]) (x := ⟨fdA 82 4, 187, F3, vv3, E3⟩) (post := [⟨fdA 116 3, 196, F4, vv4, E4⟩, ⟨fdA 145 1, 199, F5, vv5, E5⟩, ⟨fdA 50 6, 170, F6, vv6, E6⟩]) H hc hr (List.nodup_cons.1 hnd).2 (Value.slice A len c).ownBlock.toList hk (fun b hb => (hl b hb).1) (fun b hb => (hl b hb).2) hs (List.nodup_cons.1 hnd).1
  refine ⟨rfl, _, ⟨_, _, _, _, _, _, _, _, _, _, _, _, _, _, _, _, _, _, H2, rfl, by omega, ⟨f1.1, by have := f1.2; omega⟩, ⟨f2.1, by have := f2.2; omega⟩, ⟨f3.1.snoc (show 0 ≤ n + 1 by omega) (show n + 1 ≤ 1000000000000000 by omega) hlen, by have := f3.2; rw [List.length_append, List.length_singleton]; omega⟩, ⟨f4.1, by have := f4.2; omega⟩, ⟨f5.1, by have := f5.2; omega⟩, ⟨f6.1, by have := f6.2; omega⟩⟩, hk.mono (fun b hb => .inl ?_), fun b hb => ?_⟩
  · rcases List.mem_cons.1 hb with rfl | hb
    · simp
    · exact hmem b hb
  · have hb2 : b = g ∨ (b ∈ F' ∨ b ∈ F1 ∨ b ∈ F2 ∨ b ∈ F4 ∨ b ∈ F5 ∨ b ∈ F6) := by simpa [allF, or_assoc, or_comm, or_left_comm] using hb
    rcases hb2 with rfl | hb2 | hb2
    · exact .inl (by simp)
    · rcases hs b hb2 with h1 | h1 | h1
      · exact .inl (hmem b h1)
      · exact .inr (.inl h1)
      · exact .inr (.inr h1)
    · refine .inl ?_
      simp only [allF, List.flatMap_cons, List.flatMap_nil, List.append_nil, List.mem_cons, List.mem_append]
      rcases hb2 with hb2 | hb2 | hb2 | hb2 | hb2 <;> simp [hb2]
set_option maxHeartbeats 1600000 in
set_option maxRecDepth 100000 in
theorem BookAt.Ops {w0 w : World} {g : Nat} {n : Int} {F : List Nat} (h : BookAt w0 w g n F) (hn : n ≤ 1000000000) (A : Option Addr) (len c : Nat) (inner : List Value) (ho : w.ownsRow 0 82 4 (.slice A len c) len inner) (hl : ∀ b ∈ (Value.slice A len c).ownBlock.toList, b ∉ F ∧ w0.heap.size ≤ b) (hlen : len ≤ 1000000000) :
    Calls Tryz.prog 50 #[.pointer (some ⟨g, 0, none⟩), .slice A len c] w fun e w' => e = .returned (.tuple #[]) ∧ ∃ F', BookAt w0 w' g (n + 1) F' ∧ Keeps F w w' ∧ ∀ b ∈ F', b ∈ F ∨ b ∈ (Value.slice A len c).ownBlock.toList ∨ w.heap.size ≤ b := by
  have H := Aside0.mk h
  have HO := Aside0.mk ho
  have HL := Aside0.mk hl
  clear h ho hl
  go_enter Tryz.func50, Tryz.ntmps50
  go_wp2_with fail
  refine (H.out.keepOp hn A len c inner HO.out HL.out hlen).mono ?_
  rintro e w' ⟨rfl, h⟩
  have HR := Aside0.mk h
  clear h
  go_wp2
  go_end0
  exact ⟨rfl, HR.out⟩
theorem BookAt.keepChange {w0 w : World} {g : Nat} {n : Int} {F : List Nat} (h : BookAt w0 w g n F) (hn : n ≤ 1000000000) (A : Option Addr) (len c : Nat) (inner : List Value) (ho : w.ownsRow 0 116 3 (.slice A len c) len inner) (hl : ∀ b ∈ (Value.slice A len c).ownBlock.toList, b ∉ F ∧ w0.heap.size ≤ b) (hlen : len ≤ 1000000000) :
    Calls Tryz.prog 130 #[.pointer (some ⟨g, 0, none⟩), .slice A len c] w fun e w' => e = .returned (.tuple #[]) ∧ ∃ F', BookAt w0 w' g (n + 1) F' ∧ Keeps F w w' ∧ ∀ b ∈ F', b ∈ F ∨ b ∈ (Value.slice A len c).ownBlock.toList ∨ w.heap.size ≤ b := by
  obtain ⟨vv1, vv2, vv3, vv4, vv5, vv6, E1, E2, E3, E4, E5, E6, F1, F2, F3, F4, F5, F6, H, rfl, h0, f1, f2, f3, f4, f5, f6⟩ := h
  have hlt := fun b hb => (BookAt.lt ⟨_, _, _, _, _, _, _, _, _, _, _, _, _, _, _, _, _, _, H, rfl, h0, f1, f2, f3, f4, f5, f6⟩ : ∀ b ∈ g :: allF [⟨fdA 5 1, 172, F1, vv1, E1⟩, ⟨fdA 148 2, 184, F2, vv2, E2⟩, ⟨fdA 82 4, 187, F3, vv3, E3⟩, ⟨fdA 116 3, 196, F4, vv4, E4⟩, ⟨fdA 145 1, 199, F5, vv5, E5⟩, ⟨fdA 50 6, 170, F6, vv6, E6⟩], b < w.heap.size) b hb
  have hmem : ∀ b ∈ F4, b ∈ g :: allF [⟨fdA 5 1, 172, F1, vv1, E1⟩, ⟨fdA 148 2, 184, F2, vv2, E2⟩, ⟨fdA 82 4, 187, F3, vv3, E3⟩, ⟨fdA 116 3, 196, F4, vv4, E4⟩, ⟨fdA 145 1, 199, F5, vv5, E5⟩, ⟨fdA 50 6, 170, F6, vv6, E6⟩] := fun b hb => by simp [allF, hb]
  refine (keepChange_calls w g n vv1 (.slice none 0 0) (.slice none 0 0) (.slice none 0 0) vv2 vv3 (.slice none 0 0) vv4 vv5 vv6 (.slice none 0 0) (.slice none 0 0) H.cell E4 F4 H.on4.1 (List.nodup_cons.2 ⟨H.on4.2.2.1, H.on4.2.1⟩) A len c inner ho (fun b hb hx => (hl b hb).1 (by
    rcases List.mem_cons.1 hx with rfl | hx
    · simp
    · exact hmem b hx)) (by have := f4.2; omega) h0 (by omega)).mono ?_
  rintro e w' ⟨F', v', rfl, hc, hr, hnd, hk, hs⟩
  have H2 := Held.step0 (pre := [⟨fdA 5 1, 172, F1, vv1, E1⟩, ⟨fdA 148 2, 184, F2, vv2, E2⟩, ⟨fdA 82 4, 187, F3, vv3, E3⟩]) (x := ⟨fdA 116 3, 196, F4, vv4, E4⟩) (post := [⟨fdA 145 1, 199, F5, vv5, E5⟩, ⟨fdA 50 6, 170, F6, vv6, E6⟩]) H hc hr (List.nodup_cons.1 hnd).2 (Value.slice A len c).ownBlock.toList hk (fun b hb => (hl b hb).1) (fun b hb => (hl b hb).2) hs (List.nodup_cons.1 hnd).1
  refine ⟨rfl, _, ⟨_, _, _, _, _, _, _, _, _, _, _, _, _, _, _, _, _, _, H2, rfl, by omega, ⟨f1.1, by have := f1.2; omega⟩, ⟨f2.1, by have := f2.2; omega⟩, ⟨f3.1, by have := f3.2; omega⟩, ⟨f4.1.snoc (show 0 ≤ n + 1 by omega) (show n + 1 ≤ 1000000000000000 by omega) hlen, by have := f4.2; rw [List.length_append, List.length_singleton]; omega⟩, ⟨f5.1, by have := f5.2; omega⟩, ⟨f6.1, by have := f6.2; omega⟩⟩, hk.mono (fun b hb => .inl ?_), fun b hb => ?_⟩
  · rcases List.mem_cons.1 hb with rfl | hb
    · simp
    · exact hmem b hb
  · have hb2 : b = g ∨ (b ∈ F' ∨ b ∈ F1 ∨ b ∈ F2 ∨ b ∈ F3 ∨ b ∈ F5 ∨ b ∈ F6) := by simpa [allF, or_assoc, or_comm, or_left_comm] using hb
    rcases hb2 with rfl | hb2 | hb2
    · exact .inl (by simp)
    · rcases hs b hb2 with h1 | h1 | h1
      · exact .inl (hmem b h1)
      · exact .inr (.inl h1)
      · exact .inr (.inr h1)
    · refine .inl ?_
      simp only [allF, List.flatMap_cons, List.flatMap_nil, List.append_nil, List.mem_cons, List.mem_append]
      rcases hb2 with hb2 | hb2 | hb2 | hb2 | hb2 <;> simp [hb2]
set_option maxHeartbeats 1600000 in
set_option maxRecDepth 100000 in
theorem BookAt.Changes {w0 w : World} {g : Nat} {n : Int} {F : List Nat} (h : BookAt w0 w g n F) (hn : n ≤ 1000000000) (A : Option Addr) (len c : Nat) (inner : List Value) (ho : w.ownsRow 0 116 3 (.slice A len c) len inner) (hl : ∀ b ∈ (Value.slice A len c).ownBlock.toList, b ∉ F ∧ w0.heap.size ≤ b) (hlen : len ≤ 1000000000) :
    Calls Tryz.prog 38 #[.pointer (some ⟨g, 0, none⟩), .slice A len c] w fun e w' => e = .returned (.tuple #[]) ∧ ∃ F', BookAt w0 w' g (n + 1) F' ∧ Keeps F w w' ∧ ∀ b ∈ F', b ∈ F ∨ b ∈ (Value.slice A len c).ownBlock.toList ∨ w.heap.size ≤ b := by
  have H := Aside0.mk h
  have HO := Aside0.mk ho
  have HL := Aside0.mk hl
  clear h ho hl
  go_enter Tryz.func38, Tryz.ntmps38
  go_wp2_with fail
  refine (H.out.keepChange hn A len c inner HO.out HL.out hlen).mono ?_
  rintro e w' ⟨rfl, h⟩
  have HR := Aside0.mk h
  clear h
  go_wp2
  go_end0
  exact ⟨rfl, HR.out⟩
end Go.Proofs.YtcohodkpppmaoaaGreatDoor.Q
namespace Go.Proofs.YtcohodkpppmaoaaGreatDoor.Q
open Go.RowKit Go.Proofs.YtcohodkpppmaoaaGreatDoorW.PrintWords Go.Proofs.YtcohodkpppmaoaaGreatDoorW.PrintLast Go.Proofs.YtcohodkpppmaoaaGreatDoorW.PrintMore
set_option linter.unusedVariables false
/-- n lists are kept; their blocks are L (and what the book has made behind G). -/
def Pile (w0 w : World) (g : Nat) (n : Int) (G : Nat) (L : List Nat) : Prop := ∃ F, BookAt w0 w g n F ∧ (∀ b ∈ F, b ∈ L ∨ G ≤ b) ∧ G ≤ w.heap.size
/-- What lies below G and is not kept stays. -/
def Spared (G : Nat) (L : List Nat) (w w' : World) : Prop := ∀ b, b < G → b ∉ L → w'.heap[b]? = w.heap[b]?
section
variable {w0 w w' : World} {g G : Nat} {n : Int} {F L : List Nat}
theorem Pile.new (hb : Below w0.heap.size w0 w) (hc : w.heap[g]? = some (.cells #[.int .i64 0, .slice none 0 0, .slice none 0 0, .slice none 0 0, .slice none 0 0, .slice none 0 0, .slice none 0 0, .slice none 0 0, .slice none 0 0, .slice none 0 0, .slice none 0 0, .slice none 0 0, .slice none 0 0] 44 (0, 0))) (hg : w0.heap.size ≤ g) : Pile w0 w g 0 g [] :=
  ⟨[g], BookAt.new hb hc hg, fun b hb => .inr (by simp at hb; omega), Nat.le_of_lt (blk_lt hc)⟩
theorem Pile.apart (h : Pile w0 w g n G L) (hT : TabOk w0) : Calls Tryz.prog 26 #[.pointer (some ⟨g, 0, none⟩)] w fun e w' => e = .returned (.bool true) ∧ Below w0.heap.size w0 w' := by
  obtain ⟨F, h, _⟩ := h
  exact h.apart hT
theorem Pile.below (h : Pile w0 w g n G L) (hb : Below w.heap.size w w') : Pile w0 w' g n G L := by
  obtain ⟨F, h1, h2, h3⟩ := h
  exact ⟨F, h1.below hb, h2, Nat.le_trans h3 hb.size⟩
theorem Pile.base (h : Pile w0 w g n G L) : Below w0.heap.size w0 w := by
  obtain ⟨F, h1, _⟩ := h
  exact h1.base
theorem Spared.row {α : Type} {d : Fd α} {e : Nat} {F : List Nat} {v : Value} {xs : List α} (h : Spared G L w w') (hr : Fd.Row d e w F v xs) (hF : ∀ b ∈ F, b < G ∧ b ∉ L) : Fd.Row d e w' F v xs := Fd.row_move (fun b hb => h b (hF b hb).1 (hF b hb).2) hr
theorem Spared.own {base e size len : Nat} {v : Value} {xs : List Value} (h : Spared G L w w') (ho : w.ownsRow base e size v len xs) (hF : ∀ b ∈ v.ownBlock.toList, b < G ∧ b ∉ L) : w'.ownsRow base e size v len xs := own_move ho (fun k hk => h k (hF k (by rw [hk]; simp)).1 (hF k (by rw [hk]; simp)).2)
end
theorem Pile.keepByte {w0 w : World} {g G : Nat} {n : Int} {L : List Nat} (h : Pile w0 w g n G L) (hn : n ≤ 1000000000) (A : Option Addr) (len c : Nat) (inner : List Value) (ho : w.ownsRow 0 5 1 (.slice A len c) len inner) (hl : ∀ b ∈ (Value.slice A len c).ownBlock.toList, (b < G ∧ b ∉ L) ∧ w0.heap.size ≤ b) (hlen : len ≤ 1000000000) :
    Calls Tryz.prog 131 #[.pointer (some ⟨g, 0, none⟩), .slice A len c] w fun e w' => e = .returned (.tuple #[]) ∧ Pile w0 w' g (n + 1) G (L ++ (Value.slice A len c).ownBlock.toList) ∧ Spared G L w w' := by
  obtain ⟨F, h1, h2, h3⟩ := h
  refine (h1.keepByte hn A len c inner ho (fun b hb => ⟨fun hx => ?_, (hl b hb).2⟩) hlen).mono ?_
  · rcases h2 b hx with h | h
    · exact (hl b hb).1.2 h
    · have := (hl b hb).1.1
      omega
  · rintro e w' ⟨rfl, F', h4, hk, hs⟩
    refine ⟨rfl, ⟨F', h4, fun b hb => ?_, Nat.le_trans h3 hk.size⟩, fun b hb hx => hk.block b (Nat.lt_of_lt_of_le hb h3) (fun hf => ?_)⟩
    · rcases hs b hb with h | h | h
      · exact (h2 b h).imp_left (fun h => List.mem_append_left _ h)
      · exact .inl (List.mem_append_right _ h)
      · exact .inr (Nat.le_trans h3 h)
    · rcases h2 b hf with h | h
      · exact hx h
      · omega
theorem Pile.Bytes {w0 w : World} {g G : Nat} {n : Int} {L : List Nat} (h : Pile w0 w g n G L) (hn : n ≤ 1000000000) (A : Option Addr) (len c : Nat) (inner : List Value) (ho : w.ownsRow 0 5 1 (.slice A len c) len inner) (hl : ∀ b ∈ (Value.slice A len c).ownBlock.toList, (b < G ∧ b ∉ L) ∧ w0.heap.size ≤ b) (hlen : len ≤ 1000000000) :
    Calls Tryz.prog 39 #[.pointer (some ⟨g, 0, none⟩), .slice A len c] w fun e w' => e = .returned (.tuple #[]) ∧ Pile w0 w' g (n + 1) G (L ++ (Value.slice A len c).ownBlock.toList) ∧ Spared G L w w' := by
  obtain ⟨F, h1, h2, h3⟩ := h
  refine (h1.Bytes hn A len c inner ho (fun b hb => ⟨fun hx => ?_, (hl b hb).2⟩) hlen).mono ?_
  · rcases h2 b hx with h | h
    · exact (hl b hb).1.2 h
    · have := (hl b hb).1.1
      omega
  · rintro e w' ⟨rfl, F', h4, hk, hs⟩
    refine ⟨rfl, ⟨F', h4, fun b hb => ?_, Nat.le_trans h3 hk.size⟩, fun b hb hx => hk.block b (Nat.lt_of_lt_of_le hb h3) (fun hf => ?_)⟩
    · rcases hs b hb with h | h | h
      · exact (h2 b h).imp_left (fun h => List.mem_append_left _ h)
      · exact .inl (List.mem_append_right _ h)
      · exact .inr (Nat.le_trans h3 h)
    · rcases h2 b hf with h | h
      · exact hx h
      · omega
theorem Pile.keepRow {w0 w : World} {g G : Nat} {n : Int} {L : List Nat} (h : Pile w0 w g n G L) (hn : n ≤ 1000000000) (A : Option Addr) (len c : Nat) (inner : List Value) (ho : w.ownsRow 0 148 2 (.slice A len c) len inner) (hl : ∀ b ∈ (Value.slice A len c).ownBlock.toList, (b < G ∧ b ∉ L) ∧ w0.heap.size ≤ b) (hlen : len ≤ 1000000000) :
    Calls Tryz.prog 208 #[.pointer (some ⟨g, 0, none⟩), .slice A len c] w fun e w' => e = .returned (.tuple #[]) ∧ Pile w0 w' g (n + 1) G (L ++ (Value.slice A len c).ownBlock.toList) ∧ Spared G L w w' := by
  obtain ⟨F, h1, h2, h3⟩ := h
  refine (h1.keepRow hn A len c inner ho (fun b hb => ⟨fun hx => ?_, (hl b hb).2⟩) hlen).mono ?_
  · rcases h2 b hx with h | h
    · exact (hl b hb).1.2 h
    · have := (hl b hb).1.1
      omega
  · rintro e w' ⟨rfl, F', h4, hk, hs⟩
    refine ⟨rfl, ⟨F', h4, fun b hb => ?_, Nat.le_trans h3 hk.size⟩, fun b hb hx => hk.block b (Nat.lt_of_lt_of_le hb h3) (fun hf => ?_)⟩
    · rcases hs b hb with h | h | h
      · exact (h2 b h).imp_left (fun h => List.mem_append_left _ h)
      · exact .inl (List.mem_append_right _ h)
      · exact .inr (Nat.le_trans h3 h)
    · rcases h2 b hf with h | h
      · exact hx h
      · omega
theorem Pile.Rows {w0 w : World} {g G : Nat} {n : Int} {L : List Nat} (h : Pile w0 w g n G L) (hn : n ≤ 1000000000) (A : Option Addr) (len c : Nat) (inner : List Value) (ho : w.ownsRow 0 148 2 (.slice A len c) len inner) (hl : ∀ b ∈ (Value.slice A len c).ownBlock.toList, (b < G ∧ b ∉ L) ∧ w0.heap.size ≤ b) (hlen : len ≤ 1000000000) :
    Calls Tryz.prog 202 #[.pointer (some ⟨g, 0, none⟩), .slice A len c] w fun e w' => e = .returned (.tuple #[]) ∧ Pile w0 w' g (n + 1) G (L ++ (Value.slice A len c).ownBlock.toList) ∧ Spared G L w w' := by
  obtain ⟨F, h1, h2, h3⟩ := h
  refine (h1.Rows hn A len c inner ho (fun b hb => ⟨fun hx => ?_, (hl b hb).2⟩) hlen).mono ?_
  · rcases h2 b hx with h | h
    · exact (hl b hb).1.2 h
    · have := (hl b hb).1.1
      omega
  · rintro e w' ⟨rfl, F', h4, hk, hs⟩
    refine ⟨rfl, ⟨F', h4, fun b hb => ?_, Nat.le_trans h3 hk.size⟩, fun b hb hx => hk.block b (Nat.lt_of_lt_of_le hb h3) (fun hf => ?_)⟩
    · rcases hs b hb with h | h | h
      · exact (h2 b h).imp_left (fun h => List.mem_append_left _ h)
      · exact .inl (List.mem_append_right _ h)
      · exact .inr (Nat.le_trans h3 h)
    · rcases h2 b hf with h | h
      · exact hx h
      · omega
theorem Pile.keepOp {w0 w : World} {g G : Nat} {n : Int} {L : List Nat} (h : Pile w0 w g n G L) (hn : n ≤ 1000000000) (A : Option Addr) (len c : Nat) (inner : List Value) (ho : w.ownsRow 0 82 4 (.slice A len c) len inner) (hl : ∀ b ∈ (Value.slice A len c).ownBlock.toList, (b < G ∧ b ∉ L) ∧ w0.heap.size ≤ b) (hlen : len ≤ 1000000000) :
    Calls Tryz.prog 137 #[.pointer (some ⟨g, 0, none⟩), .slice A len c] w fun e w' => e = .returned (.tuple #[]) ∧ Pile w0 w' g (n + 1) G (L ++ (Value.slice A len c).ownBlock.toList) ∧ Spared G L w w' := by
  obtain ⟨F, h1, h2, h3⟩ := h
  refine (h1.keepOp hn A len c inner ho (fun b hb => ⟨fun hx => ?_, (hl b hb).2⟩) hlen).mono ?_
  · rcases h2 b hx with h | h
    · exact (hl b hb).1.2 h
    · have := (hl b hb).1.1
      omega
  · rintro e w' ⟨rfl, F', h4, hk, hs⟩
    refine ⟨rfl, ⟨F', h4, fun b hb => ?_, Nat.le_trans h3 hk.size⟩, fun b hb hx => hk.block b (Nat.lt_of_lt_of_le hb h3) (fun hf => ?_)⟩
    · rcases hs b hb with h | h | h
      · exact (h2 b h).imp_left (fun h => List.mem_append_left _ h)
      · exact .inl (List.mem_append_right _ h)
      · exact .inr (Nat.le_trans h3 h)
    · rcases h2 b hf with h | h
      · exact hx h
      · omega
theorem Pile.Ops {w0 w : World} {g G : Nat} {n : Int} {L : List Nat} (h : Pile w0 w g n G L) (hn : n ≤ 1000000000) (A : Option Addr) (len c : Nat) (inner : List Value) (ho : w.ownsRow 0 82 4 (.slice A len c) len inner) (hl : ∀ b ∈ (Value.slice A len c).ownBlock.toList, (b < G ∧ b ∉ L) ∧ w0.heap.size ≤ b) (hlen : len ≤ 1000000000) :
    Calls Tryz.prog 50 #[.pointer (some ⟨g, 0, none⟩), .slice A len c] w fun e w' => e = .returned (.tuple #[]) ∧ Pile w0 w' g (n + 1) G (L ++ (Value.slice A len c).ownBlock.toList) ∧ Spared G L w w' := by
  obtain ⟨F, h1, h2, h3⟩ := h
  refine (h1.Ops hn A len c inner ho (fun b hb => ⟨fun hx => ?_, (hl b hb).2⟩) hlen).mono ?_
  · rcases h2 b hx with h | h
    · exact (hl b hb).1.2 h
    · have := (hl b hb).1.1
      omega
  · rintro e w' ⟨rfl, F', h4, hk, hs⟩
    refine ⟨rfl, ⟨F', h4, fun b hb => ?_, Nat.le_trans h3 hk.size⟩, fun b hb hx => hk.block b (Nat.lt_of_lt_of_le hb h3) (fun hf => ?_)⟩
    · rcases hs b hb with h | h | h
      · exact (h2 b h).imp_left (fun h => List.mem_append_left _ h)
      · exact .inl (List.mem_append_right _ h)
      · exact .inr (Nat.le_trans h3 h)
    · rcases h2 b hf with h | h
      · exact hx h
      · omega
theorem Pile.keepChange {w0 w : World} {g G : Nat} {n : Int} {L : List Nat} (h : Pile w0 w g n G L) (hn : n ≤ 1000000000) (A : Option Addr) (len c : Nat) (inner : List Value) (ho : w.ownsRow 0 116 3 (.slice A len c) len inner) (hl : ∀ b ∈ (Value.slice A len c).ownBlock.toList, (b < G ∧ b ∉ L) ∧ w0.heap.size ≤ b) (hlen : len ≤ 1000000000) :
    Calls Tryz.prog 130 #[.pointer (some ⟨g, 0, none⟩), .slice A len c] w fun e w' => e = .returned (.tuple #[]) ∧ Pile w0 w' g (n + 1) G (L ++ (Value.slice A len c).ownBlock.toList) ∧ Spared G L w w' := by
  obtain ⟨F, h1, h2, h3⟩ := h
  refine (h1.keepChange hn A len c inner ho (fun b hb => ⟨fun hx => ?_, (hl b hb).2⟩) hlen).mono ?_
  · rcases h2 b hx with h | h
    · exact (hl b hb).1.2 h
    · have := (hl b hb).1.1
      omega
  · rintro e w' ⟨rfl, F', h4, hk, hs⟩
    refine ⟨rfl, ⟨F', h4, fun b hb => ?_, Nat.le_trans h3 hk.size⟩, fun b hb hx => hk.block b (Nat.lt_of_lt_of_le hb h3) (fun hf => ?_)⟩
    · rcases hs b hb with h | h | h
      · exact (h2 b h).imp_left (fun h => List.mem_append_left _ h)
      · exact .inl (List.mem_append_right _ h)
      · exact .inr (Nat.le_trans h3 h)
    · rcases h2 b hf with h | h
      · exact hx h
      · omega
theorem Pile.Changes {w0 w : World} {g G : Nat} {n : Int} {L : List Nat} (h : Pile w0 w g n G L) (hn : n ≤ 1000000000) (A : Option Addr) (len c : Nat) (inner : List Value) (ho : w.ownsRow 0 116 3 (.slice A len c) len inner) (hl : ∀ b ∈ (Value.slice A len c).ownBlock.toList, (b < G ∧ b ∉ L) ∧ w0.heap.size ≤ b) (hlen : len ≤ 1000000000) :
    Calls Tryz.prog 38 #[.pointer (some ⟨g, 0, none⟩), .slice A len c] w fun e w' => e = .returned (.tuple #[]) ∧ Pile w0 w' g (n + 1) G (L ++ (Value.slice A len c).ownBlock.toList) ∧ Spared G L w w' := by
  obtain ⟨F, h1, h2, h3⟩ := h
  refine (h1.Changes hn A len c inner ho (fun b hb => ⟨fun hx => ?_, (hl b hb).2⟩) hlen).mono ?_
  · rcases h2 b hx with h | h
    · exact (hl b hb).1.2 h
    · have := (hl b hb).1.1
      omega
  · rintro e w' ⟨rfl, F', h4, hk, hs⟩
    refine ⟨rfl, ⟨F', h4, fun b hb => ?_, Nat.le_trans h3 hk.size⟩, fun b hb hx => hk.block b (Nat.lt_of_lt_of_le hb h3) (fun hf => ?_)⟩
    · rcases hs b hb with h | h | h
      · exact (h2 b h).imp_left (fun h => List.mem_append_left _ h)
      · exact .inl (List.mem_append_right _ h)
      · exact .inr (Nat.le_trans h3 h)
    · rcases h2 b hf with h | h
      · exact hx h
      · omega
end Go.Proofs.YtcohodkpppmaoaaGreatDoor.Q
namespace Go.Proofs.YtcohodkpppmaoaaGreatDoor.Q
open Go.RowKit Go.Proofs.YtcohodkpppmaoaaGreatDoorW.PrintWords Go.Proofs.YtcohodkpppmaoaaGreatDoorW.PrintLast Go.Proofs.YtcohodkpppmaoaaGreatDoorW.PrintMore

theorem wrap_id (x : Int) (h0 : -9223372036854775808 ≤ x) (h1 : x ≤ 9223372036854775807) : wrap64 x = x := by
  unfold wrap64
  omega
theorem ev_eq {α : Type} {g : Nat → Option α} {a b : α} (h : a = b) (k : Ev g a) : Ev g b := h ▸ k
theorem ev_const {α : Type} {o : Option α} {a : α} (h : o = some a) : Ev (fun _ => o) a := ⟨0, fun _ _ => h⟩

theorem number_step (k : Nat) (b : List Int) (n : Int) (j : Nat) (hj : j ≤ 3) (hb : b.length < 140737488355328) :
    rows_number.l0 (k + 1) b n (j : Int) = rows_number.l0 k (b ++ [n / 2 ^ (8 * j) % 256]) n ((j : Int) - 1) := by
  have e1 : wrap64 (8 * (j : Int)) = ((8 * j : Nat) : Int) := by rw [wrap_id _ (by omega) (by omega)]; omega
  have e2 : wrap64 ((j : Int) - 1) = (j : Int) - 1 := wrap_id _ (by omega) (by omega)
  have e3 : shr .u32 n ((8 * j : Nat) : Int) = n / 2 ^ (8 * j) := by
    unfold shr
    have : min (((8 * j : Nat) : Int).toNat) IntKind.u32.bits = 8 * j := by
      rw [Int.toNat_natCast]
      show min (8 * j) 32 = 8 * j
      omega
    rw [this]
  simp only [rows_number.l0]
  rw [if_pos (by omega), e1, if_pos (by omega), if_pos hb, e2, e3]
theorem number_end (k : Nat) (b : List Int) (n : Int) : rows_number.l0 (k + 1) b n (-1) = some b := by
  simp only [rows_number.l0]
  rw [if_neg (by omega)]
theorem ev_number4 (b : List Int) (n : Int) (hb : b.length + 4 < 140737488355328) : Ev (fun k => rows_number.f k b n 4) (b ++ num4 n) := by
  refine ⟨5, fun k hk => ?_⟩
  obtain ⟨k, rfl⟩ : ∃ m, k = m + 5 := ⟨k - 5, by omega⟩
  show rows_number.l0 (k + 5) b n (wrap64 (4 - 1)) = some (b ++ num4 n)
  rw [show wrap64 (4 - 1) = ((3 : Nat) : Int) from by unfold wrap64; omega, show k + 5 = (k + 4) + 1 from rfl, number_step _ _ _ 3 (by omega) (by omega)]
  rw [show ((3 : Nat) : Int) - 1 = ((2 : Nat) : Int) from rfl, show k + 4 = (k + 3) + 1 from rfl, number_step _ _ _ 2 (by omega) (by simp; omega)]
  rw [show ((2 : Nat) : Int) - 1 = ((1 : Nat) : Int) from rfl, show k + 3 = (k + 2) + 1 from rfl, number_step _ _ _ 1 (by omega) (by simp; omega)]
  rw [show ((1 : Nat) : Int) - 1 = ((0 : Nat) : Int) from rfl, show k + 2 = (k + 1) + 1 from rfl, number_step _ _ _ 0 (by omega) (by simp; omega)]
  rw [show ((0 : Nat) : Int) - 1 = -1 from rfl, number_end]
  simp [num4]
theorem ev_number2 (b : List Int) (n : Int) (hb : b.length + 2 < 140737488355328) : Ev (fun k => rows_number.f k b n 2) (b ++ num2 n) := by
  refine ⟨3, fun k hk => ?_⟩
  obtain ⟨k, rfl⟩ : ∃ m, k = m + 3 := ⟨k - 3, by omega⟩
  show rows_number.l0 (k + 3) b n (wrap64 (2 - 1)) = some (b ++ num2 n)
  rw [show wrap64 (2 - 1) = ((1 : Nat) : Int) from by unfold wrap64; omega, show k + 3 = (k + 2) + 1 from rfl, number_step _ _ _ 1 (by omega) (by omega)]
  rw [show ((1 : Nat) : Int) - 1 = ((0 : Nat) : Int) from rfl, show k + 2 = (k + 1) + 1 from rfl, number_step _ _ _ 0 (by omega) (by simp; omega)]
  rw [show ((0 : Nat) : Int) - 1 = -1 from rfl, number_end]
  simp [num2]
theorem num2_mod (n : Int) (h0 : 0 ≤ n) (h1 : n ≤ 4294967295) : num2 (n % 4294967296) = num2 n := by
  rw [Int.emod_eq_of_lt h0 (by omega)]
theorem text_eq (b : List Int) (s : ByteArray) (h : b.length + 1 + s.size < 140737488355328) : rows_text.f b s = some (b ++ textB s) := by
  unfold rows_text.f
  rw [if_pos h]
  simp [textB]
theorem isKey_size (s : ByteArray) (h : isKey s = true) : 1 ≤ s.size ∧ s.size ≤ 16 := by
  unfold isKey at h
  simp at h
  exact h.1

theorem opCheck_eq (x : OpT) : rows_Check.f x.f0 x.f1 x.f2 x.f3 = some (mayOp x) := by
  unfold rows_Check.f mayOp keys_Check.f
  have h2 : x.f2.toList = ([] : List UInt8) ↔ x.f2.size = 0 := ⟨toList_size _, size_toList _⟩
  simp only [Option.bind_some, h2]
  by_cases c4 : x.f0 = 4
  · simp only [if_pos c4]
    cases isKey x.f1 <;> cases isKey x.f2 <;> simp [c4]
    split <;> simp_all
  · simp only [if_neg c4]
    by_cases c1 : x.f0 ≥ 1
    · by_cases c5 : x.f0 ≤ 4
      · simp only [if_pos c1, if_pos c5]
        have c1' : 1 ≤ x.f0 := c1
        cases isKey x.f1 with
        | false => simp
        | true =>
          by_cases c6 : x.f2.size = 0
          · by_cases c7 : x.f3 = 0 <;> simp [c6, c7, c1', c5]
          · simp [c6]
      · simp only [if_pos c1, if_neg c5]
        simp [c5]
    · have c1' : ¬ 1 ≤ x.f0 := c1
      simp only [if_neg c1]
      simp [c1']
theorem op_may (x : OpT) : rows_PutOps_1.f x.f0 x.f1 x.f2 x.f3 = some (opE x) := by
  unfold rows_PutOps_1.f
  rw [opCheck_eq]
  unfold rows_asks.f opE
  cases mayOp x <;> simp
theorem op_sizes (x : OpT) (h : opE x = 0) : x.f1.size ≤ 16 ∧ x.f2.size ≤ 16 := by
  have hm : mayOp x = true := by
    unfold opE at h
    cases hx : mayOp x <;> simp_all
  unfold mayOp at hm
  simp only [Bool.and_eq_true] at hm
  obtain ⟨⟨⟨⟨h1, _⟩, _⟩, h4⟩, _⟩ := hm
  refine ⟨(isKey_size _ h1).2, ?_⟩
  by_cases c4 : x.f0 = 4
  · rw [if_pos c4] at h4
    exact (isKey_size _ h4).2
  · rw [if_neg c4] at h4
    simp at h4
    simp [h4]
theorem ev_op_one (b : List Int) (x : OpT) (hb : b.length + 64 < 140737488355328) (h : opE x = 0) : Ev (fun k => rows_PutOps_2.f k b x.f0 x.f1 x.f2 x.f3) (b ++ opB x) := by
  have hs := op_sizes x h
  unfold rows_PutOps_2.f opB
  simp only [if_pos (show b.length < 140737488355328 by omega)]
  rw [text_eq (b ++ [x.f0]) x.f1 (by simp; omega)]
  simp only [Option.bind_some]
  rw [text_eq (b ++ [x.f0] ++ textB x.f1) x.f2 (by simp [textB_length]; omega)]
  simp only [Option.bind_some]
  refine Ev.bind (ev_number4 _ _ (by simp [textB_length]; omega)) ?_
  refine ev_const ?_
  simp
theorem op_len (x : OpT) (h : opE x = 0) : (opB x).length ≤ 64 := by
  have hs := op_sizes x h
  simp [opB, textB_length, num4_length]
  omega

theorem op_scan (l : List OpT) (hl : l.length ≤ 1000000000) (most : Int) (d : Nat) : ∀ (i : Nat) (wst : Int), i ≤ l.length → l.length - i = d →
    (∀ x ∈ l.take i, opE x ≠ 1) → (wst = 0 ∨ wst = 3) → (wst = 3 ↔ (l.take i).any (fun x => opE x == 3) = true) → ∀ (r : List Int × Int),
    (l.any (fun x => opE x == 1) = true → r = ([], 1)) →
    (l.any (fun x => opE x == 1) = false → Ev (fun k => if (if l.any (fun x => opE x == 3) then (3 : Int) else 0) = 0 then rows_put_Op.j1 k l (decide ((l.length : Int) > most)) else rows_put_Op.j1 k l true) r) →
    Ev (fun k => rows_put_Op.l0 k l most wst l (l.length : Int) (i : Int)) r := by
  induction d with
  | zero =>
    intro i wst h0 h1 hp hw hw3 r hr1 hr2
    have e : l.take i = l := List.take_of_length_le (by omega)
    rw [e] at hp hw3
    have hno : l.any (fun x => opE x == 1) = false := by
      rw [List.any_eq_false]
      intro x hx
      simpa using hp x hx
    have h2 := hr2 hno
    refine Ev.step (f := fun k => if wst = 0 then rows_put_Op.j1 k l (decide ((l.length : Int) > most)) else rows_put_Op.j1 k l true) (fun k => ?_) ?_
    · simp only [rows_put_Op.l0]
      rw [if_neg (by omega)]
    · rcases hw with rfl | rfl
      · have : l.any (fun x => opE x == 3) = false := by
          rw [Bool.eq_false_iff]
          intro h
          exact absurd (hw3.2 h) (by omega)
        rw [this] at h2
        exact h2
      · have : l.any (fun x => opE x == 3) = true := hw3.1 rfl
        rw [this] at h2
        exact h2
  | succ d ih =>
    intro i wst h0 h1 hp hw hw3 r hr1 hr2
    have hi : i < l.length := by omega
    have hrd : rd_T82 l (i : Int) = l[i] := by simp [rd_T82, hi]
    have htk : l.take (i + 1) = l.take i ++ [l[i]] := List.take_succ_eq_append_getElem hi
    have hstep : ∀ t : Int, opE l[i] = t → Ev (fun k => if t = 1 then (some (([] : List Int), (1 : Int))) else (if t = 3 then (rows_put_Op.l0 k l most 3 l (l.length : Int) (wrap64 ((i : Int) + 1))) else (rows_put_Op.l0 k l most wst l (l.length : Int) (wrap64 ((i : Int) + 1))))) r := by
      intro t ht
      by_cases c1 : t = 1
      · simp only [if_pos c1]
        refine ev_const ?_
        rw [hr1 (by rw [List.any_eq_true]; exact ⟨l[i], List.getElem_mem _, by simp [ht, c1]⟩)]
      · simp only [if_neg c1]
        rw [wrap_id _ (by omega) (by omega)]
        have hp' : ∀ x ∈ l.take (i + 1), opE x ≠ 1 := by
          rw [htk]
          intro x hx
          rcases List.mem_append.1 hx with hx | hx
          · exact hp x hx
          · rw [List.mem_singleton.1 hx, ht]; exact c1
        by_cases c3 : t = 3
        · simp only [if_pos c3]
          exact ih (i + 1) 3 (by omega) (by omega) hp' (.inr rfl) (by rw [htk, List.any_append]; simp [ht, c3]) r hr1 hr2
        · simp only [if_neg c3]
          exact ih (i + 1) wst (by omega) (by omega) hp' hw (by rw [htk, hw3, List.any_append]; simp [ht, c3]) r hr1 hr2
    refine Ev.step (g := fun k => rows_put_Op.l0 k l most wst l (l.length : Int) (i : Int)) (fun k => ?_) (hstep _ rfl)
    simp only [rows_put_Op.l0]
    rw [if_pos (by omega), if_pos (by omega), if_pos (by omega), hrd, op_may]
    simp only [Option.bind_some]
theorem op_put (l : List OpT) (hl : l.length ≤ 1000000) (hok : ∀ x ∈ l, opE x = 0) (d : Nat) : ∀ (b : List Int) (i : Nat), i ≤ l.length → l.length - i = d → b.length + 64 * (l.length - i) + 64 < 140737488355328 →
    Ev (fun k => rows_put_Op.l1 k b l (l.length : Int) (i : Int)) (b ++ (l.drop i).flatMap opB, 0) := by
  induction d with
  | zero =>
    intro b i h0 h1 hb
    refine Ev.step (f := fun _ => some (b, 0)) (fun k => ?_) ?_
    · simp only [rows_put_Op.l1]
      rw [if_neg (by omega)]
    · refine ev_const ?_
      rw [List.drop_eq_nil_of_le (by omega)]
      simp
  | succ d ih =>
    intro b i h0 h1 hb
    have hi : i < l.length := by omega
    have hrd : rd_T82 l (i : Int) = l[i] := by simp [rd_T82, hi]
    have hoi := hok l[i] (List.getElem_mem _)
    refine Ev.step (f := fun k => (rows_PutOps_2.f k b l[i].f0 l[i].f1 l[i].f2 l[i].f3).bind fun t => rows_put_Op.l1 k t l (l.length : Int) (wrap64 ((i : Int) + 1))) (fun k => ?_) ?_
    · simp only [rows_put_Op.l1]
      rw [if_pos (by omega), if_pos (by omega), if_pos (by omega), hrd]
    · refine Ev.bind (ev_op_one b l[i] (by omega) hoi) ?_
      rw [wrap_id _ (by omega) (by omega)]
      have hlen := op_len l[i] hoi
      refine ev_eq ?_ (ih (b ++ opB l[i]) (i + 1) (by omega) (by omega) (by rw [List.length_append]; omega))
      rw [List.drop_eq_getElem_cons hi, List.flatMap_cons]
      simp only [List.append_assoc]
theorem ev_putOps (l : List OpT) (hl : l.length ≤ 1000000000) : Ev (fun k => rows_PutOps.f k l) (putOps l) := by
  unfold rows_PutOps.f
  refine Ev.bind (a := putOps l) ?_ (ev_const rfl)
  unfold rows_put_Op.f
  refine op_scan l hl 16 l.length 0 0 (by omega) (by omega) (by simp) (.inl rfl) (by simp) _ ?_ ?_
  · intro h
    unfold putOps putList
    rw [if_pos h]
  · intro h
    have hfail : putOps l = ([], 3) → Ev (fun k => rows_put_Op.j1 k l true) (putOps l) := by
      intro e
      rw [e]
      exact Ev.step (f := fun _ => some ([], 3)) (fun k => by simp only [rows_put_Op.j1, if_true]) (ev_const rfl)
    cases h3 : l.any (fun x => opE x == 3) with
    | true =>
      simp only [if_true, show ¬ ((3 : Int) = 0) from by omega, if_false]
      refine hfail ?_
      unfold putOps putList
      rw [h, h3]
      simp
    | false =>
      simp only [Bool.false_eq_true, if_false, if_true]
      by_cases hm : (l.length : Int) > 16
      · simp only [hm, decide_true]
        refine hfail ?_
        unfold putOps putList
        have : 16 < l.length := by omega
        rw [h, h3]
        simp [this]
      · simp only [hm, decide_false]
        have hm' : ¬ 16 < l.length := by omega
        have hok : ∀ x ∈ l, opE x = 0 := by
          intro x hx
          rw [List.any_eq_false] at h h3
          have a1 := h x hx
          have a3 := h3 x hx
          simp at a1 a3
          unfold opE at *; split at a1 <;> simp_all
        refine Ev.step (f := fun k => (rows_number.f k ([] : List Int) (((l.length : Int)) % 4294967296) 2).bind fun t => rows_put_Op.l1 k t l (l.length : Int) 0) (fun k => by simp only [rows_put_Op.j1, Bool.false_eq_true, if_false]) ?_
        refine Ev.bind (ev_number2 _ _ (by simp)) ?_
        rw [num2_mod _ (by omega) (by omega)]
        refine ev_eq ?_ (op_put l (by omega) hok l.length ([] ++ num2 l.length) 0 (by omega) (by omega) (by simp [num2_length]; omega))
        unfold putOps putList
        rw [h, h3]
        simp [hm']

theorem sameBytes_from (a b : List Int) (hab : a.length = b.length) (hl : a.length ≤ 9223372036854775807) (d : Nat) : ∀ (i : Nat), i ≤ a.length → a.length - i = d → a.take i = b.take i →
    Ev (fun k => concordatlaw01_SameBytes.l0 k a b (i : Int)) (decide (a = b)) := by
  induction d with
  | zero =>
    intro i h0 h1 hp
    rw [List.take_of_length_le (by omega), List.take_of_length_le (by omega)] at hp
    refine Ev.step (f := fun _ => some true) (fun k => ?_) (ev_const (by simp [hp]))
    simp only [concordatlaw01_SameBytes.l0]
    rw [if_neg (by omega)]
  | succ d ih =>
    intro i h0 h1 hp
    have hi : i < a.length := by omega
    have hj : i < b.length := by omega
    have ha : rd a (i : Int) = a[i] := by simp [rd, hi]
    have hb : rd b (i : Int) = b[i] := by simp [rd, hj]
    by_cases c : a[i] = b[i]
    · refine Ev.step (f := fun k => concordatlaw01_SameBytes.l0 k a b (wrap64 ((i : Int) + 1))) (fun k => ?_) ?_
      · simp only [concordatlaw01_SameBytes.l0]
        rw [if_pos (by omega), if_pos (by omega), if_pos (by omega), ha, hb, if_pos c]
      · rw [wrap_id _ (by omega) (by omega)]
        exact ih (i + 1) (by omega) (by omega) (by rw [List.take_succ_eq_append_getElem hi, List.take_succ_eq_append_getElem hj, hp, c])
    · refine Ev.step (f := fun _ => some false) (fun k => ?_) (ev_const ?_)
      · simp only [concordatlaw01_SameBytes.l0]
        rw [if_pos (by omega), if_pos (by omega), if_pos (by omega), ha, hb, if_neg c]
      · have : ¬ a = b := fun e => c (by subst e; rfl)
        simp [this]
theorem ev_SameBytes (a b : List Int) (hl : a.length ≤ 9223372036854775807) : Ev (fun k => concordatlaw01_SameBytes.f k a b) (decide (a = b)) := by
  unfold concordatlaw01_SameBytes.f
  by_cases c : (a.length : Int) = (b.length : Int)
  · simp only [if_pos c]
    exact sameBytes_from a b (by omega) hl a.length 0 (by omega) (by omega) (by simp)
  · simp only [if_neg c]
    refine ev_const ?_
    have : ¬ a = b := fun e => c (by subst e; rfl)
    simp [this]

end Go.Proofs.YtcohodkpppmaoaaGreatDoor.Q
