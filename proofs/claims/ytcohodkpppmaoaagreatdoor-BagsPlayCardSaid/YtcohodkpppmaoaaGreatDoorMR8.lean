/-
  The book's lists of kind Msg: each is written over with its marks.
  The book's lists of kind Msg: each grows by forty marks.
  The book's lists of kind Msg: all are as they were marked.
  The book's lists of the kinds that are never kept here: nothing is done.
  The book's last word: no two of the lists that are kept share memory.
  The book as a law sees it: so many are kept, and these are its blocks; one more is kept.
  The book beside lists that are not kept yet: all of them lie below G, the book's own blocks are those that were kept, and new ones.
  A copy in memory of its own, with a mark in the room behind it.
-/
import Derived.Test.YtcohodkpppmaoaaGreatDoorMR5
import Derived.Test.YtcohodkpppmaoaaGreatDoorMR6
import Derived.WalkSpells
import Derived.BigRegion
import Derived.Test.YtcohodkpppmaoaaGreatDoorMR7
set_option linter.unusedSimpArgs false
set_option linter.unusedVariables false
namespace Go.Proofs.YtcohodkpppmaoaaGreatDoor.Q
open Go.RowKit Go.Proofs.YtcohodkpppmaoaaGreatDoorW.PrintWords Go.Proofs.YtcohodkpppmaoaaGreatDoorW.PrintLast Go.Proofs.YtcohodkpppmaoaaGreatDoorW.PrintMore
set_option linter.unusedVariables false
set_option maxHeartbeats 6400000 in
set_option maxRecDepth 100000 in
theorem fillMsg_calls (w : World) (g : Nat) (bc : Array Value) (hb : w.heap[g]? = some (.cells bc 44 (0, 0))) (V : Value) (hV : bc[10]? = some V) (E : List Ent) (F : List Nat) (HR : Fd.Row (fdA 50 6) 170 w F V E) (hnd : F.Nodup) (hg : g ∉ F)
    (hn : ∀ x ∈ E, 0 ≤ x.num ∧ x.num ≤ 1000000000000000) (w0 : World) (hT : TabOk w0) (hw0 : Below w0.heap.size w0 w) (hF : ∀ b ∈ F, w0.heap.size ≤ b) :
    Calls Tryz.prog 83 #[.pointer (some ⟨g, 0, none⟩)] w fun e w' => e = .returned (.tuple #[]) ∧ ∃ F', Fd.Row (fdB fdMsg 50 mkMsg) 170 w' F' V E ∧ F'.Nodup ∧ Keeps F w w' ∧ ∀ b ∈ F', b ∈ F ∨ w.heap.size ≤ b := by
  obtain ⟨A1, c1, ev, hc1, hC1⟩ := Fd.row_reads HR
  subst ev
  have hu := Tryz.underlying44
  have huh := Tryz.underlying170
  have hlE : E.length ≤ maxLen := Kd.C_max hC1
  unfold maxLen at hlE
  have HM0 := Aside0.mk (mix_start (dB := fdB fdMsg 50 mkMsg) (E' := E) HR rfl hnd rfl)
  have HB := Aside0.mk hb
  have HG := Aside0.mk hg
  have HN := Aside0.mk hn
  have HT := Aside0.mk hT
  have HW0 := Aside0.mk hw0
  have HF := Aside0.mk hF
  have q1 : w.cell? ⟨g, 10, none⟩ = some (.slice A1 E.length c1) := by simp [World.cell?, hb, hV]
  clear HR hnd hb hg hn hT hC1 hw0 hF
  go_enter Tryz.func83, Tryz.ntmps83
  go_wp2
  clear q1
  go_loopw [2] (fun i wr => ∃ k : Nat, k ≤ E.length ∧ i = .int .i64 k ∧ Aside0 (Mix (fdB fdMsg 50 mkMsg) (fdA 50 6) 170 w wr F (.slice A1 E.length c1) E E k)) (fun i _ => E.length - (intOf i).toNat)
  case atStart => exact ⟨0, Nat.zero_le _, rfl, HM0⟩
  case round =>
    clear HM0
    obtain ⟨wq, hwq⟩ : ∃ wq, wq = wr := ⟨_, rfl⟩
    subst hwq
    obtain ⟨k, hk, rfl, HM⟩ := hrel
    have hbr := HM.out.keep.blk HB.out HG.out
    have q1 : wq.cell? ⟨g, 10, none⟩ = some (.slice A1 E.length c1) := by simp [World.cell?, hbr, hV]
    have HBR := Aside0.mk hbr
    clear hbr
    by_cases hlt : k < E.length
    · have hlt' : (k : Int) < (E.length : Int) := by omega
      have hk0 : (0 : Int) ≤ (k : Int) := by omega
      obtain ⟨c0, cs, c2, G0, Gx, G1, gh, cap, ev, ho, hl0, _, hx, _⟩ := HM.out.next rfl hlt
      injection ev with ea _ ec
      subst ea ec
      obtain ⟨x, hxe⟩ : ∃ x, E[k] = x := ⟨_, rfl⟩
      rw [hxe] at hx
      obtain ⟨rfl, hlong, ⟨inner, hox⟩, rfl⟩ := hx
      have hcell : ∀ j u, (entCells x)[j]? = some u → wq.cell? ⟨gh, k * 3 + j, none⟩ = some u := by
        intro j u hu
        have h := ho.cells (g := gh) rfl (k * 3 + j) u (by rw [List.getElem?_append_right (by omega), hl0, Nat.add_sub_cancel_left, List.getElem?_append_left (by exact (List.getElem?_eq_some_iff.1 hu).1)]; exact hu)
        rwa [add_plain] at h
      obtain ⟨Ax, cx, hxv⟩ := own_slice hox
      have d0 := hcell 0 (.slice Ax x.len cx) (by rw [← hxv]; rfl)
      have d1 := hcell 1 (.slice none 0 0) (by rw [← hlong]; rfl)
      have d2 := hcell 2 (.int .i64 x.num) rfl
      rw [Nat.add_zero] at d0
      have hmx : x.len ≤ 9223372036854775807 := by
        rcases hox.2 with ⟨_, h⟩ | ⟨_, _, _, _, _, _, h, h2, _⟩
        · omega
        · unfold maxLen at h2
          omega
      have hnx := HN.out x (hxe ▸ List.getElem_mem hlt)
      obtain ⟨num, hnum⟩ : ∃ num, x.num = num := ⟨_, rfl⟩
      rw [hnum] at d2 hnx
      obtain ⟨hn0, hn1⟩ := hnx
      have HXV := Aside0.mk hxv
      have HXE := Aside0.mk hxe
      have HNU := Aside0.mk hnum
      have HOX := Aside0.mk hox
      have hghl : gh < wq.heap.size := own_lt ho gh rfl
      clear ho hl0 hcell hxe hnum hox hlong
      go_wp2_with fail
      obtain ⟨wo, hwo⟩ : ∃ wo, wo = wq.alloc (.cells #[.slice Ax x.len cx, .slice none 0 0, .int .i64 num] 170) := ⟨_, rfl⟩
      have hbo : Below wq.heap.size wq wo := by rw [hwo]; exact below_alloc (Below.refl _ _) _
      have HBX := Aside0.mk (show wo.heap[wq.heap.size]? = some (.cells #[.slice Ax x.len cx, .slice none 0 0, .int .i64 num] 170 (0, 0)) from by rw [hwo]; exact blk_new wq _)
      have MW := Aside0.mk (HM.out.below hbo)
      have HOO := Aside0.mk (pw_own_below HOX.out hbo)
      have hnb : ∀ b ∈ x.v.ownBlock.toList, b ≠ wq.heap.size := fun b hx => by have := own_lt HOX.out b (by simpa using hx); omega
      have HNB := Aside0.mk hnb
      have HBW := Aside0.mk (HW0.out.trans (MW.out.keep.below HF.out HW0.out.size))
      have HXL := Aside0.mk (show ∀ b ∈ x.v.ownBlock.toList, w0.heap.size ≤ b from fun b hx => by
        obtain ⟨_, _, _, _, Gx, _, _, _, _, _, _, _, hx', _, _, hs⟩ := HM.out.next rfl hlt
        rw [HXE.out] at hx'
        rcases hs b (by rw [hx'.2.2.2]; simp [hx]) with h | h
        · exact HF.out b h
        · exact Nat.le_trans HW0.out.size h)
      have HI0 := Aside0.mk (In.start (d := fdMsg) (mk := mkMsg x.num) ⟨_, HOO.out⟩)
      rw [← hwo]
      clear hbo hnb HM HOX d0 d1 d2 q1 HBR hghl
      go_loopw [4] (fun i wi => ∃ m : Nat, m ≤ x.len ∧ i = .int .i64 m ∧ Aside0 (In fdMsg 50 (mkMsg x.num) wo wi x m)) (fun i _ => x.len - (intOf i).toNat)
      case atStart => exact ⟨0, Nat.zero_le _, rfl, HI0⟩
      case round =>
        clear HI0
        obtain ⟨m, hm, rfl, HI⟩ := hrel
        have hbx := HI.out.keep.blk HBX.out (fun hx => HNB.out _ hx rfl)
        have hBX := Aside0.mk hbx
        have b0 := blk_cell hbx 0
        have b2 := blk_cell hbx 2
        have HBI := Aside0.mk (HBW.out.trans (HI.out.keep.below HXL.out HBW.out.size))
        by_cases hml : m < x.len
        · have hml' : (m : Int) < (x.len : Int) := by omega
          have hm0 : (0 : Int) ≤ (m : Int) := by omega
          obtain ⟨gx, capx, evx⟩ := HI.out.slice hml
          have ex := HXV.out.symm.trans evx
          injection ex with ex1 _ ex2
          subst ex1 ex2
          have hne : gx ≠ wq.heap.size := fun e => HNB.out gx (by rw [HXV.out]; simp [Value.ownBlock]) e
          obtain ⟨hgx, _⟩ := HI.out.cells HXV.out hml
          have hbxl : wq.heap.size < wr.heap.size := blk_lt hbx
          have hd1 := below_drew (Below.refl wr.heap.size wr)
          have HD1 := Aside0.mk hd1
          have HBD := Aside0.mk (HBI.out.trans (Below.mono hd1 HBI.out.size))
          have HS0 := Aside0.mk (show wr.drew.cell? ⟨wq.heap.size, 0, none⟩ = some (.slice (some ⟨gx, 0, none⟩) x.len cx) ∧ wr.drew.cell? ⟨wq.heap.size, 2, none⟩ = some (.int .i64 num) from ⟨(hd1.cell hbxl).trans (blk_cell hbx 0), (hd1.cell hbxl).trans (blk_cell hbx 2)⟩)
          clear hd1 evx
          go_wp2_with fail
          first | (go_region_held3 (fun w' : World => w'.cell? ⟨wq.heap.size, 0, none⟩ = some (.slice (some ⟨gx, 0, none⟩) x.len cx) ∧ w'.cell? ⟨wq.heap.size, 2, none⟩ = some (.int .i64 num)) (first | with_reducible exact HS0.out | with_reducible exact HS1.out | with_reducible exact HS2.out) (
            (go_at_call 173
             refine (msg_calls num _).mono ?_
             rintro e w1 ⟨rfl, hb1⟩
             have hb2 : Below wr.heap.size wr w1 := below_step HD1.out hb1
             have HI1 := Aside0.mk (HI.out.below hb2)
             have HB2 := Aside0.mk hb2
             obtain ⟨hgx1, us, husl, hus⟩ := HI1.out.cells HXV.out hml
             rw [show (fdMsg).k.sz = 6 from rfl] at husl
             obtain ⟨u0, y0⟩ : ∃ u, us[0]? = some u := ⟨_, List.getElem?_eq_getElem (by rw [husl]; decide)⟩
             have y0a : w1.cell? ⟨gx, m * 6, none⟩ = some u0 := (hus 0 u0 y0).1
             have y0b : w1.frozen? ⟨gx, m * 6, none⟩ = false := (hus 0 u0 y0).2
             obtain ⟨u1, y1⟩ : ∃ u, us[1]? = some u := ⟨_, List.getElem?_eq_getElem (by rw [husl]; decide)⟩
             have y1a : w1.cell? ⟨gx, m * 6 + 1, none⟩ = some u1 := (hus 1 u1 y1).1
             have y1b : w1.frozen? ⟨gx, m * 6 + 1, none⟩ = false := (hus 1 u1 y1).2
             obtain ⟨u2, y2⟩ : ∃ u, us[2]? = some u := ⟨_, List.getElem?_eq_getElem (by rw [husl]; decide)⟩
             have y2a : w1.cell? ⟨gx, m * 6 + 2, none⟩ = some u2 := (hus 2 u2 y2).1
             have y2b : w1.frozen? ⟨gx, m * 6 + 2, none⟩ = false := (hus 2 u2 y2).2
             obtain ⟨u3, y3⟩ : ∃ u, us[3]? = some u := ⟨_, List.getElem?_eq_getElem (by rw [husl]; decide)⟩
             have y3a : w1.cell? ⟨gx, m * 6 + 3, none⟩ = some u3 := (hus 3 u3 y3).1
             have y3b : w1.frozen? ⟨gx, m * 6 + 3, none⟩ = false := (hus 3 u3 y3).2
             obtain ⟨u4, y4⟩ : ∃ u, us[4]? = some u := ⟨_, List.getElem?_eq_getElem (by rw [husl]; decide)⟩
             have y4a : w1.cell? ⟨gx, m * 6 + 4, none⟩ = some u4 := (hus 4 u4 y4).1
             have y4b : w1.frozen? ⟨gx, m * 6 + 4, none⟩ = false := (hus 4 u4 y4).2
             obtain ⟨u5, y5⟩ : ∃ u, us[5]? = some u := ⟨_, List.getElem?_eq_getElem (by rw [husl]; decide)⟩
             have y5a : w1.cell? ⟨gx, m * 6 + 5, none⟩ = some u5 := (hus 5 u5 y5).1
             have y5b : w1.frozen? ⟨gx, m * 6 + 5, none⟩ = false := (hus 5 u5 y5).2
             have HS1 := Aside0.mk (show w1.cell? ⟨wq.heap.size, 0, none⟩ = some (.slice (some ⟨gx, 0, none⟩) x.len cx) ∧ w1.cell? ⟨wq.heap.size, 2, none⟩ = some (.int .i64 num) from ⟨(hb1.cell hbxl).trans HS0.out.1, (hb1.cell hbxl).trans HS0.out.2⟩)
             have HM1 := Aside0.mk (show fdMsg.M w1 [] (mkMsg x.num) [.int .u8 200, .int .u8 0, .int .u8 0, .int .u32 (num % 4294967296), .slice none 0 0, .slice none 0 0] from by rw [HNU.out]; exact M_msg _ num)
             have hkc := keeps_chunk (g := gx) (F := [gx]) (by simp) [.int .u8 200, .int .u8 0, .int .u8 0, .int .u32 (num % 4294967296), .slice none 0 0, .slice none 0 0] (o := m * 6) (Keeps.refl [gx] w1)
             simp only [chunk, Nat.add_assoc, Nat.reduceAdd] at hkc
             have hx1 : wq.heap.size < w1.heap.size := Nat.lt_of_lt_of_le hbxl hb2.size
             have hh2 : (((((((w1).setCell ⟨gx, m * 6, none⟩ (.int .u8 200)).setCell ⟨gx, m * 6 + 1, none⟩ (.int .u8 0)).setCell ⟨gx, m * 6 + 2, none⟩ (.int .u8 0)).setCell ⟨gx, m * 6 + 3, none⟩ (.int .u32 (num % 4294967296))).setCell ⟨gx, m * 6 + 4, none⟩ (.slice none 0 0)).setCell ⟨gx, m * 6 + 5, none⟩ (.slice none 0 0)).cell? ⟨wq.heap.size, 0, none⟩ = some (.slice (some ⟨gx, 0, none⟩) x.len cx) ∧ (((((((w1).setCell ⟨gx, m * 6, none⟩ (.int .u8 200)).setCell ⟨gx, m * 6 + 1, none⟩ (.int .u8 0)).setCell ⟨gx, m * 6 + 2, none⟩ (.int .u8 0)).setCell ⟨gx, m * 6 + 3, none⟩ (.int .u32 (num % 4294967296))).setCell ⟨gx, m * 6 + 4, none⟩ (.slice none 0 0)).setCell ⟨gx, m * 6 + 5, none⟩ (.slice none 0 0)).cell? ⟨wq.heap.size, 2, none⟩ = some (.int .i64 num) :=
               ⟨(World.cell?_of_block (w := w1) (hkc.block _ hx1 (by simpa using hne.symm))).trans HS1.out.1, (World.cell?_of_block (w := w1) (hkc.block _ hx1 (by simpa using hne.symm))).trans HS1.out.2⟩
             have HS2 := Aside0.mk hh2
             have hi2 := HI.out.step hb2 HXV.out hml HM1.out (by simp) (fun _ h => by cases h)
             rw [show m * (fdMsg).k.sz = m * 6 from rfl] at hi2
             simp only [chunk, Nat.add_assoc, Nat.reduceAdd] at hi2
             have HI2 := Aside0.mk (show In fdMsg 50 (mkMsg x.num) wo (((((((w1).setCell ⟨gx, m * 6, none⟩ (.int .u8 200)).setCell ⟨gx, m * 6 + 1, none⟩ (.int .u8 0)).setCell ⟨gx, m * 6 + 2, none⟩ (.int .u8 0)).setCell ⟨gx, m * 6 + 3, none⟩ (.int .u32 (num % 4294967296))).setCell ⟨gx, m * 6 + 4, none⟩ (.slice none 0 0)).setCell ⟨gx, m * 6 + 5, none⟩ (.slice none 0 0)) x (m + 1) from hi2)
             clear hh2 hi2
             clear hb1 hb2 hkc hx1 hus husl))) | fail "held3"
          all_goals
            go_wp2
            refine ⟨⟨m + 1, by omega, by first | rfl | simp, HI2⟩, ?_⟩
            try simp only [intOf]
            omega
        · go_wp2
          obtain rfl : m = x.len := by omega
          refine ⟨⟨k + 1, by omega, by first | rfl | simp, Aside0.mk (mix_in rfl MW.out hlt HXE.out HI.out)⟩, ?_⟩
          try simp only [intOf]
          omega
    · go_wp2
      go_end0
      obtain rfl : k = E.length := by omega
      exact ⟨rfl, mix_done HM.out rfl⟩
end Go.Proofs.YtcohodkpppmaoaaGreatDoor.Q
namespace Go.Proofs.YtcohodkpppmaoaaGreatDoor.Q
open Go.RowKit Go.Proofs.YtcohodkpppmaoaaGreatDoorW.PrintWords Go.Proofs.YtcohodkpppmaoaaGreatDoorW.PrintLast Go.Proofs.YtcohodkpppmaoaaGreatDoorW.PrintMore
set_option linter.unusedVariables false
theorem infoElMsg : (Tryz.prog.info? 50).map (fun i => (i.zero, i.size, i.bytes)) = some (some (.agg #[.int .u8 0, .int .u8 0, .int .u8 0, .int .u32 0, .slice none 0 0, .slice none 0 0]), 6, 56) := by kernel_rfl
set_option maxHeartbeats 6400000 in
set_option maxRecDepth 100000 in
theorem growMsg_calls (w : World) (g : Nat) (bc : Array Value) (hb : w.heap[g]? = some (.cells bc 44 (0, 0))) (V : Value) (hV : bc[10]? = some V) (E : List Ent) (F : List Nat) (HR : Fd.Row (fdB fdMsg 50 mkMsg) 170 w F V E) (hnd : F.Nodup) (hg : g ∉ F)
    (hn : ∀ x ∈ E, (0 ≤ x.num ∧ x.num ≤ 1000000000000000) ∧ x.len ≤ 1000000000) (w0 : World) (hT : TabOk w0) (hw0 : Below w0.heap.size w0 w) (hF : ∀ b ∈ F, w0.heap.size ≤ b) :
    Calls Tryz.prog 95 #[.pointer (some ⟨g, 0, none⟩)] w fun e w' => e = .returned (.tuple #[]) ∧ ∃ F', Fd.Row (fdC fdMsg.k mkMsg) 170 w' F' V E ∧ F'.Nodup ∧ Keeps F w w' ∧ ∀ b ∈ F', b ∈ F ∨ w.heap.size ≤ b := by
  obtain ⟨A1, c1, ev, hc1, hC1⟩ := Fd.row_reads HR
  subst ev
  have hu := Tryz.underlying44
  have huh := Tryz.underlying170
  have hlE : E.length ≤ maxLen := Kd.C_max hC1
  unfold maxLen at hlE
  have HM0 := Aside0.mk (mix_start (dB := fdC fdMsg.k mkMsg) (E' := E) HR rfl hnd rfl)
  have HB := Aside0.mk hb
  have HG := Aside0.mk hg
  have HN := Aside0.mk hn
  have HT := Aside0.mk hT
  have HW0 := Aside0.mk hw0
  have HF := Aside0.mk hF
  have q1 : w.cell? ⟨g, 10, none⟩ = some (.slice A1 E.length c1) := by simp [World.cell?, hb, hV]
  clear HR hnd hb hg hn hT hC1 hw0 hF
  go_enter Tryz.func95, Tryz.ntmps95
  go_wp2
  clear q1
  go_loopw [2] (fun i wr => ∃ k : Nat, k ≤ E.length ∧ i = .int .i64 k ∧ Aside0 (Mix (fdC fdMsg.k mkMsg) (fdB fdMsg 50 mkMsg) 170 w wr F (.slice A1 E.length c1) E E k)) (fun i _ => E.length - (intOf i).toNat)
  case atStart => exact ⟨0, Nat.zero_le _, rfl, HM0⟩
  case round =>
    clear HM0
    obtain ⟨wq, hwq⟩ : ∃ wq, wq = wr := ⟨_, rfl⟩
    subst hwq
    obtain ⟨k, hk, rfl, HM⟩ := hrel
    have hbr := HM.out.keep.blk HB.out HG.out
    have q1 : wq.cell? ⟨g, 10, none⟩ = some (.slice A1 E.length c1) := by simp [World.cell?, hbr, hV]
    have HBR := Aside0.mk hbr
    clear hbr
    by_cases hlt : k < E.length
    · have hlt' : (k : Int) < (E.length : Int) := by omega
      have hk0 : (0 : Int) ≤ (k : Int) := by omega
      obtain ⟨c0, cs, c2, G0, Gx, G1, gh, cap, ev, ho, hl0, he0, hx, he1, hnd', hsb'⟩ := HM.out.next rfl hlt
      injection ev with ea _ ec
      subst ea ec
      obtain ⟨x, hxe⟩ : ∃ x, E[k] = x := ⟨_, rfl⟩
      rw [hxe] at hx
      have hxM := hx
      obtain ⟨rfl, hlong, hrx⟩ := hx
      have hcell : ∀ j u, (entCells x)[j]? = some u → wq.cell? ⟨gh, k * 3 + j, none⟩ = some u := by
        intro j u hu
        have h := ho.cells (g := gh) rfl (k * 3 + j) u (by rw [List.getElem?_append_right (by omega), hl0, Nat.add_sub_cancel_left, List.getElem?_append_left (by exact (List.getElem?_eq_some_iff.1 hu).1)]; exact hu)
        rwa [add_plain] at h
      obtain ⟨Ax, cx, hxv, _, _⟩ := Fd.row_reads hrx
      rw [List.length_replicate] at hxv
      have d0 := hcell 0 (.slice Ax x.len cx) (by rw [← hxv]; rfl)
      have d1 := hcell 1 (.slice none 0 0) (by rw [← hlong]; rfl)
      have d2 := hcell 2 (.int .i64 x.num) rfl
      rw [Nat.add_zero] at d0
      have hnx := HN.out x (hxe ▸ List.getElem_mem hlt)
      obtain ⟨num, hnum⟩ : ∃ num, x.num = num := ⟨_, rfl⟩
      rw [hnum] at d2 hnx
      obtain ⟨⟨hn0, hn1⟩, hxn⟩ := hnx
      have HXV := Aside0.mk hxv
      have HXE := Aside0.mk hxe
      have HNU := Aside0.mk hnum
      have hghl : gh < wq.heap.size := own_lt ho gh rfl
      clear hcell hxe hnum hrx hlong
      go_wp2_with fail
      obtain ⟨wo, hwo⟩ : ∃ wo, wo = wq.alloc (.cells #[.slice Ax x.len cx, .slice none 0 0, .int .i64 num] 170) := ⟨_, rfl⟩
      have hbo : Below wq.heap.size wq wo := by rw [hwo]; exact below_alloc (Below.refl _ _) _
      have HBX := Aside0.mk (show wo.heap[wq.heap.size]? = some (.cells #[.slice Ax x.len cx, .slice none 0 0, .int .i64 num] 170 (0, 0)) from by rw [hwo]; exact blk_new wq _)
      have MW := Aside0.mk (HM.out.below hbo)
      have ho' := own_move ho (fun b hb => hbo.block b (own_lt ho b hb))
      have e0' := Fd.els_move (fun b hx => hbo.block b (Fd.els_lt he0 b hx)) he0
      have e1' := Fd.els_move (fun b hx => hbo.block b (Fd.els_lt he1 b hx)) he1
      have hGx := (fdB fdMsg 50 mkMsg).lt hxM
      have hx' := (fdB fdMsg 50 mkMsg).move (fun b hx => hbo.block b (hGx b hx)) hxM
      have hndx : Gx.Nodup := (List.nodup_append.1 (List.nodup_append.1 (List.nodup_append.1 hnd').2.1).2.1).1
      have HO' := Aside0.mk ho'
      have HL' := Aside0.mk hl0
      have HE0 := Aside0.mk e0'
      have HX' := Aside0.mk hx'
      have HE1 := Aside0.mk e1'
      have HND := Aside0.mk hnd'
      have HSB := Aside0.mk hsb'
      have HBW := Aside0.mk (HW0.out.trans (MW.out.keep.below HF.out HW0.out.size))
      have HXL := Aside0.mk (show ∀ b ∈ Gx, w0.heap.size ≤ b from fun b hx => by
        rcases hsb' b (by simp [hx]) with h | h
        · exact HF.out b h
        · exact Nat.le_trans HW0.out.size h)
      have HNB := Aside0.mk (show wq.heap.size ∉ Gx from fun hx => Nat.lt_irrefl _ (hGx _ hx))
      have HI0 := Aside0.mk (Gr.start hx'.2.2 hndx)
      rw [← hwo]
      clear hbo HM d0 d1 d2 q1 HBR hghl ho hl0 ho' e0' he0 he1 hx' e1' hnd' hsb' hGx hndx hxM
      have hd0 : (0 : Nat) ≤ 40 := Nat.zero_le _
      go_loopw [4, 5] (fun l i wr => ∃ m : Nat, m ≤ 40 ∧ i = .int .i64 m ∧ Aside0 (Gr fdMsg 50 (mkMsg x.num) wo wr Gx x l m)) (fun l i _ => 40 - (intOf i).toNat)
      case atStart => exact ⟨0, Nat.zero_le _, rfl, by rw [← HXV.out]; exact HI0⟩
      case round =>
        clear HI0
        obtain ⟨m, hm, rfl, HI⟩ := hrel
        have hbx := HI.out.keep.blk HBX.out HNB.out
        have hBX := Aside0.mk hbx
        have b2 := blk_cell hbx 2
        clear hbx
        have HBI := Aside0.mk (HBW.out.trans (HI.out.keep.below HXL.out HBW.out.size))
        by_cases hml : m < 40
        · have hml' : (m : Int) < 40 := by omega
          have hm0 : (0 : Int) ≤ (m : Int) := by omega
          go_wp2_with fail
          refine (msg_calls num _).mono ?_
          rintro e w1 ⟨rfl, hb1⟩
          have HM1 := Aside0.mk (show fdMsg.M w1 [] (mkMsg x.num) [.int .u8 200, .int .u8 0, .int .u8 0, .int .u32 (num % 4294967296), .slice none 0 0, .slice none 0 0] from by rw [HNU.out]; exact M_msg _ num)
          have HB1 := Aside0.mk hb1
          clear hb1
          go_wp2_with (first | (at_builtin; refine Gr.step HI.out HB1.out rfl (.tmp 28) (.tmp 32) 60 (.agg #[.int .u8 0, .int .u8 0, .int .u8 0, .int .u32 0, .slice none 0 0, .slice none 0 0]) 56 [.int .u8 200, .int .u8 0, .int .u8 0, .int .u32 (num % 4294967296), .slice none 0 0, .slice none 0 0] [] rfl Tryz.underlying60 infoElMsg rfl (by decide) (by decide) (by simp [Act.eval, Act.put]) (by simp [Act.eval, Act.put]) HM1.out (by simp) (fun _ h => by cases h) (by omega) ?_; intro v1 w2 hg; have HG2 := Aside0.mk hg; clear hg))
          refine ⟨⟨m + 1, by omega, by first | rfl | simp, HG2⟩, ?_⟩
          try simp only [intOf]
          omega
        · obtain rfl : m = 40 := by omega
          obtain ⟨A2, c2', rfl⟩ := HI.out.len
          have hgGx : g ∉ Gx := fun hx => by
            rcases HSB.out g (by simp [hx]) with h | h
            · exact HG.out h
            · have := blk_lt HB.out
              omega
          have hbg := HI.out.keep.blk (MW.out.keep.blk HB.out HG.out) hgGx
          have q1 : wr.cell? ⟨g, 10, none⟩ = some (.slice (some ⟨gh, 0, none⟩) E.length c1) := by simp [World.cell?, hbg, hV]
          have hghx : gh ∉ Gx := fun hx => (List.nodup_append.1 HND.out).2.2 gh (by simp [Value.ownBlock]) gh (by simp [hx]) rfl
          have hor := own_move HO'.out (fun b hb => HI.out.keep.block b (own_lt HO'.out b hb) (fun hx => by rw [show b = gh from by simpa [Value.ownBlock] using hb.symm] at hx; exact hghx hx))
          have y1 : wr.cell? ⟨gh, k * 3 + 1, none⟩ = some x.long := by
            have h := hor.cells (g := gh) rfl (k * 3 + 1) x.long (by rw [HX'.out.1, List.getElem?_append_right (by rw [HL'.out]; omega), HL'.out, Nat.add_sub_cancel_left]; rfl)
            rwa [add_plain] at h
          obtain ⟨cur, hcur⟩ := own_typed hor gh rfl
          have y2 := blk_frozen hcur (k * 3 + 1)
          clear hor hcur hbg
          go_wp2
          refine ⟨⟨k + 1, by omega, by first | rfl | simp, Aside0.mk (mix_gr hlt HXE.out HO'.out HL'.out HE0.out HX'.out HE1.out HND.out HSB.out MW.out.keep HI.out)⟩, ?_⟩
          try simp only [intOf]
          omega
    · go_wp2
      go_end0
      obtain rfl : k = E.length := by omega
      exact ⟨rfl, mix_done HM.out rfl⟩
end Go.Proofs.YtcohodkpppmaoaaGreatDoor.Q
namespace Go.Proofs.YtcohodkpppmaoaaGreatDoor.Q
open Go.RowKit Go.Proofs.YtcohodkpppmaoaaGreatDoorW.PrintWords Go.Proofs.YtcohodkpppmaoaaGreatDoorW.PrintLast Go.Proofs.YtcohodkpppmaoaaGreatDoorW.PrintMore
set_option linter.unusedVariables false
theorem isMsg_below (A4 : Option Addr) (c4 : Nat) (A5 : Option Addr) (c5 : Nat) (n : Int) (w : World) (h4 : k82.C w A4 0 []) (h5 : k145.C w A5 0 []) : Calls Tryz.prog 185 #[.agg #[.int .u8 200, .int .u8 0, .int .u8 0, .int .u32 (n % 4294967296), .slice A4 0 c4, .slice A5 0 c5], .int .i64 n] w fun e w' => e = .returned (.bool true) ∧ Below w.heap.size w w' :=
  concordatlaw01_isMsg.calls 200 0 0 (n % 4294967296) A4 c4 [] A5 c5 [] n true w h4 (Nat.zero_le _) h5 (Nat.zero_le _) (by simp [concordatlaw01_isMsg.f])
set_option maxHeartbeats 6400000 in
set_option maxRecDepth 100000 in
theorem lookMsg_calls (w : World) (g : Nat) (bc : Array Value) (hb : w.heap[g]? = some (.cells bc 44 (0, 0))) (V : Value) (hV : bc[10]? = some V) (E : List Ent) (F : List Nat) (HR : Fd.Row (fdC fdMsg.k mkMsg) 170 w F V E)
    (hn : ∀ x ∈ E, (0 ≤ x.num ∧ x.num ≤ 1000000000000000) ∧ x.len ≤ 1000000000) (hT : TabOk w) :
    Calls Tryz.prog 107 #[.pointer (some ⟨g, 0, none⟩)] w fun e w' => e = .returned (.bool true) ∧ Below w.heap.size w w' := by
  obtain ⟨A1, c1, ev, hc1, hC1⟩ := Fd.row_reads HR
  subst ev
  have hu := Tryz.underlying44
  have huh := Tryz.underlying170
  have hlE : E.length ≤ maxLen := Kd.C_max hC1
  unfold maxLen at hlE
  have HB := Aside0.mk hb
  have HN := Aside0.mk hn
  have HT := Aside0.mk hT
  have HR0 := Aside0.mk HR
  have HB0 := Aside0.mk (Below.refl w.heap.size w)
  have q1 : w.cell? ⟨g, 10, none⟩ = some (.slice A1 E.length c1) := by simp [World.cell?, hb, hV]
  clear HR hb hn hT hC1
  go_enter Tryz.func107, Tryz.ntmps107
  go_wp2
  clear q1
  go_loopw [3] (fun i wr => ∃ k : Nat, k ≤ E.length ∧ i = .int .i64 k ∧ Aside0 (Below w.heap.size w wr)) (fun i _ => E.length - (intOf i).toNat)
  case atStart => exact ⟨0, Nat.zero_le _, rfl, HB0⟩
  case round =>
    clear HB0
    obtain ⟨wq, hwq⟩ : ∃ wq, wq = wr := ⟨_, rfl⟩
    subst hwq
    obtain ⟨k, hk, rfl, HBQ⟩ := hrel
    have hbr := blk_below HB.out HBQ.out
    have q1 : wq.cell? ⟨g, 10, none⟩ = some (.slice A1 E.length c1) := by simp [World.cell?, hbr, hV]
    clear hbr
    by_cases hlt : k < E.length
    · have hlt' : (k : Int) < (E.length : Int) := by omega
      have hk0 : (0 : Int) ≤ (k : Int) := by omega
      obtain ⟨inner, G, ho, he, rfl⟩ := Fd.row_below HR0.out HBQ.out
      obtain ⟨c0, c, c2, F0, F', F1, rfl, hl0, rfl, _, hM, _⟩ := Fd.els_at hlt he
      obtain ⟨x, hxe⟩ : ∃ x, E[k] = x := ⟨_, rfl⟩
      rw [hxe] at hM
      obtain ⟨gh, cap, ev, _, _⟩ := ho.form (by omega)
      injection ev with ea _ ec
      subst ea ec
      obtain ⟨L, rfl, hS⟩ := hM
      obtain ⟨Av, cv, Al, cl, hAv, ⟨gl, rfl⟩, hxv, rfl, _, _, _, _⟩ := hS.2 wq (fun _ _ => rfl)
      have hl0' : c0.length = k * 3 := hl0
      have hcell : ∀ j u, [x.v, .slice (some ⟨gl, 0, none⟩) (x.len + 40) cl, .int .i64 x.num][j]? = some u → wq.cell? ⟨gh, k * 3 + j, none⟩ = some u := by
        intro j u hu
        have h := ho.cells (g := gh) rfl (k * 3 + j) u (by rw [List.getElem?_append_right (by omega), hl0', Nat.add_sub_cancel_left, List.getElem?_append_left (by exact (List.getElem?_eq_some_iff.1 hu).1)]; exact hu)
        rwa [add_plain] at h
      have d0 := hcell 0 (.slice Av x.len cv) (by rw [← hxv]; rfl)
      have d1 := hcell 1 (.slice (some ⟨gl, 0, none⟩) (x.len + 40) cl) rfl
      have d2 := hcell 2 (.int .i64 x.num) rfl
      rw [Nat.add_zero] at d0
      obtain ⟨⟨hn0, hn1⟩, hxn⟩ := HN.out x (hxe ▸ List.getElem_mem hlt)
      obtain ⟨num, hnum⟩ : ∃ num, x.num = num := ⟨_, rfl⟩
      rw [hnum] at d2 hn0 hn1
      have HS := Aside0.mk hS
      have HNU := Aside0.mk hnum
      have HXV := Aside0.mk hxv
      have hw40 : IntKind.i64.wrap ((x.len : Int) + 40) = (x.len : Int) + 40 := IntWalk.i64_in _ (by omega)
      have hc40 : (((x.len + 40 : Nat) : Int)) = (x.len : Int) + 40 := by omega
      clear hcell hnum hxe ho he hl0 hl0' hS
      go_wp2_with fail
      obtain ⟨wo, hwo⟩ : ∃ wo, wo = wq.alloc (.cells #[.slice Av x.len cv, .slice (some ⟨gl, 0, none⟩) (x.len + 40) cl, .int .i64 num] 170) := ⟨_, rfl⟩
      have hbo : Below wq.heap.size wq wo := by rw [hwo]; exact below_alloc (Below.refl _ _) _
      have HBX := Aside0.mk (show wo.heap[wq.heap.size]? = some (.cells #[.slice Av x.len cv, .slice (some ⟨gl, 0, none⟩) (x.len + 40) cl, .int .i64 num] 170 (0, 0)) from by rw [hwo]; exact blk_new wq _)
      have HWO := Aside0.mk hbo
      have HBO := Aside0.mk (below_step HBQ.out hbo)
      rw [← hwo]
      clear hbo d0 d1 d2 q1
      go_loopw [5] (fun i wr => ∃ m : Nat, m ≤ x.len + 40 ∧ i = .int .i64 m ∧ Aside0 (Below wo.heap.size wo wr)) (fun i _ => x.len + 40 - (intOf i).toNat)
      case atStart => exact ⟨0, Nat.zero_le _, rfl, Aside0.mk (Below.refl _ _)⟩
      case round =>
        obtain ⟨m, hm, rfl, HI⟩ := hrel
        have hbx := blk_below HBX.out HI.out
        have hBX := Aside0.mk hbx
        have b0 := blk_cell hbx 0
        have b1 := blk_cell hbx 1
        have b2 := blk_cell hbx 2
        have HBR := Aside0.mk (below_step HBO.out HI.out)
        have hqr := below_step HWO.out HI.out
        have hbl := blk_lt hbx
        by_cases hml : m < x.len + 40
        · have hml' : (m : Int) < (x.len : Int) + 40 := by omega
          have hm0 : (0 : Int) ≤ (m : Int) := by omega
          obtain ⟨Av', cv', Al', cl', hAv', _, hxv', hL', _, _, hCv, hCl⟩ := HS.out.2 wr (fun b hb => hqr.block b (HS.out.1 b hb))
          have ex := HXV.out.symm.trans hxv'
          injection ex with ex1 _ ex2
          subst ex1 ex2
          injection hL' with ex1 _ ex2
          subst ex1 ex2
          rw [HNU.out] at hCv hCl
          obtain ⟨cc, hK, hcc⟩ := marks_at hCl m hml
          obtain ⟨Aol, col, Arl, crl, rfl, lol, gol, lrl, grl⟩ : ∃ A4 c4 A5 c5, cc = [.int .u8 200, .int .u8 0, .int .u8 0, .int .u32 (num % 4294967296), .slice A4 0 c4, .slice A5 0 c5] ∧ 0 ≤ c4 ∧ k82.C wr A4 0 [] ∧ 0 ≤ c5 ∧ k145.C wr A5 0 [] := k50_open hK
          have hd1 := below_drew (Below.refl wr.heap.size wr)
          have HD1 := Aside0.mk hd1
          have hcc0 : wr.cell? ⟨gl, m * 6, none⟩ = some (.int .u8 200) := hcc 0 _ rfl
          have hcc1 : wr.cell? ⟨gl, m * 6 + 1, none⟩ = some (.int .u8 0) := hcc 1 _ rfl
          have hcc2 : wr.cell? ⟨gl, m * 6 + 2, none⟩ = some (.int .u8 0) := hcc 2 _ rfl
          have hcc3 : wr.cell? ⟨gl, m * 6 + 3, none⟩ = some (.int .u32 (num % 4294967296)) := hcc 3 _ rfl
          have hcc4 : wr.cell? ⟨gl, m * 6 + 4, none⟩ = some (.slice Aol 0 col) := hcc 4 _ rfl
          have hcc5 : wr.cell? ⟨gl, m * 6 + 5, none⟩ = some (.slice Arl 0 crl) := hcc 5 _ rfl
          by_cases hml2 : m < x.len
          · have hml2' : (m : Int) < (x.len : Int) := by omega
            obtain ⟨gv, rfl⟩ : ∃ gv, Av = some ⟨gv, 0, none⟩ := by
              rcases hAv with h | h
              · omega
              · exact h
            obtain ⟨cc', hK', hcc'⟩ := marks_at hCv m hml2
            obtain ⟨Aov, cov, Arv, crv, rfl, lov, gov, lrv, grv⟩ : ∃ A4 c4 A5 c5, cc' = [.int .u8 200, .int .u8 0, .int .u8 0, .int .u32 (num % 4294967296), .slice A4 0 c4, .slice A5 0 c5] ∧ 0 ≤ c4 ∧ k82.C wr A4 0 [] ∧ 0 ≤ c5 ∧ k145.C wr A5 0 [] := k50_open hK'
            have hcc'0 : wr.cell? ⟨gv, m * 6, none⟩ = some (.int .u8 200) := hcc' 0 _ rfl
            have hcc'1 : wr.cell? ⟨gv, m * 6 + 1, none⟩ = some (.int .u8 0) := hcc' 1 _ rfl
            have hcc'2 : wr.cell? ⟨gv, m * 6 + 2, none⟩ = some (.int .u8 0) := hcc' 2 _ rfl
            have hcc'3 : wr.cell? ⟨gv, m * 6 + 3, none⟩ = some (.int .u32 (num % 4294967296)) := hcc' 3 _ rfl
            have hcc'4 : wr.cell? ⟨gv, m * 6 + 4, none⟩ = some (.slice Aov 0 cov) := hcc' 4 _ rfl
            have hcc'5 : wr.cell? ⟨gv, m * 6 + 5, none⟩ = some (.slice Arv 0 crv) := hcc' 5 _ rfl
            go_wp2_with fail
            have HS0 := Aside0.mk (show wr.drew.cell? ⟨wq.heap.size, 0, none⟩ = some (.slice (some ⟨gv, 0, none⟩) x.len cv) ∧ wr.drew.cell? ⟨wq.heap.size, 1, none⟩ = some (.slice (some ⟨gl, 0, none⟩) (x.len + 40) cl) ∧ wr.drew.cell? ⟨wq.heap.size, 2, none⟩ = some (.int .i64 num) ∧ wr.drew.cell? ⟨gl, m * 6, none⟩ = some (.int .u8 200) ∧ wr.drew.cell? ⟨gl, m * 6 + 1, none⟩ = some (.int .u8 0) ∧ wr.drew.cell? ⟨gl, m * 6 + 2, none⟩ = some (.int .u8 0) ∧ wr.drew.cell? ⟨gl, m * 6 + 3, none⟩ = some (.int .u32 (num % 4294967296)) ∧ wr.drew.cell? ⟨gl, m * 6 + 4, none⟩ = some (.slice Aol 0 col) ∧ wr.drew.cell? ⟨gl, m * 6 + 5, none⟩ = some (.slice Arl 0 crl) ∧ wr.drew.cell? ⟨gv, m * 6, none⟩ = some (.int .u8 200) ∧ wr.drew.cell? ⟨gv, m * 6 + 1, none⟩ = some (.int .u8 0) ∧ wr.drew.cell? ⟨gv, m * 6 + 2, none⟩ = some (.int .u8 0) ∧ wr.drew.cell? ⟨gv, m * 6 + 3, none⟩ = some (.int .u32 (num % 4294967296)) ∧ wr.drew.cell? ⟨gv, m * 6 + 4, none⟩ = some (.slice Aov 0 cov) ∧ wr.drew.cell? ⟨gv, m * 6 + 5, none⟩ = some (.slice Arv 0 crv) from ⟨cell_on hd1 b0, cell_on hd1 b1, cell_on hd1 b2, cell_on hd1 hcc0, cell_on hd1 hcc1, cell_on hd1 hcc2, cell_on hd1 hcc3, cell_on hd1 hcc4, cell_on hd1 hcc5, cell_on hd1 hcc'0, cell_on hd1 hcc'1, cell_on hd1 hcc'2, cell_on hd1 hcc'3, cell_on hd1 hcc'4, cell_on hd1 hcc'5⟩)
            have HF := Aside0.mk (show wr.cell? ⟨wq.heap.size, 0, none⟩ = some (.slice (some ⟨gv, 0, none⟩) x.len cv) ∧ wr.cell? ⟨wq.heap.size, 1, none⟩ = some (.slice (some ⟨gl, 0, none⟩) (x.len + 40) cl) ∧ wr.cell? ⟨wq.heap.size, 2, none⟩ = some (.int .i64 num) ∧ wr.cell? ⟨gl, m * 6, none⟩ = some (.int .u8 200) ∧ wr.cell? ⟨gl, m * 6 + 1, none⟩ = some (.int .u8 0) ∧ wr.cell? ⟨gl, m * 6 + 2, none⟩ = some (.int .u8 0) ∧ wr.cell? ⟨gl, m * 6 + 3, none⟩ = some (.int .u32 (num % 4294967296)) ∧ wr.cell? ⟨gl, m * 6 + 4, none⟩ = some (.slice Aol 0 col) ∧ wr.cell? ⟨gl, m * 6 + 5, none⟩ = some (.slice Arl 0 crl) ∧ wr.cell? ⟨gv, m * 6, none⟩ = some (.int .u8 200) ∧ wr.cell? ⟨gv, m * 6 + 1, none⟩ = some (.int .u8 0) ∧ wr.cell? ⟨gv, m * 6 + 2, none⟩ = some (.int .u8 0) ∧ wr.cell? ⟨gv, m * 6 + 3, none⟩ = some (.int .u32 (num % 4294967296)) ∧ wr.cell? ⟨gv, m * 6 + 4, none⟩ = some (.slice Aov 0 cov) ∧ wr.cell? ⟨gv, m * 6 + 5, none⟩ = some (.slice Arv 0 crv) from ⟨b0, b1, b2, hcc0, hcc1, hcc2, hcc3, hcc4, hcc5, hcc'0, hcc'1, hcc'2, hcc'3, hcc'4, hcc'5⟩)
            have C1 := Aside0.mk (isMsg_below Aol col Arl crl num wr.drew (Kd.C_below gol HD1.out) (Kd.C_below grl HD1.out))
            first | (go_region_held3 (fun w' : World => w'.cell? ⟨wq.heap.size, 0, none⟩ = some (.slice (some ⟨gv, 0, none⟩) x.len cv) ∧ w'.cell? ⟨wq.heap.size, 1, none⟩ = some (.slice (some ⟨gl, 0, none⟩) (x.len + 40) cl) ∧ w'.cell? ⟨wq.heap.size, 2, none⟩ = some (.int .i64 num) ∧ w'.cell? ⟨gl, m * 6, none⟩ = some (.int .u8 200) ∧ w'.cell? ⟨gl, m * 6 + 1, none⟩ = some (.int .u8 0) ∧ w'.cell? ⟨gl, m * 6 + 2, none⟩ = some (.int .u8 0) ∧ w'.cell? ⟨gl, m * 6 + 3, none⟩ = some (.int .u32 (num % 4294967296)) ∧ w'.cell? ⟨gl, m * 6 + 4, none⟩ = some (.slice Aol 0 col) ∧ w'.cell? ⟨gl, m * 6 + 5, none⟩ = some (.slice Arl 0 crl) ∧ w'.cell? ⟨gv, m * 6, none⟩ = some (.int .u8 200) ∧ w'.cell? ⟨gv, m * 6 + 1, none⟩ = some (.int .u8 0) ∧ w'.cell? ⟨gv, m * 6 + 2, none⟩ = some (.int .u8 0) ∧ w'.cell? ⟨gv, m * 6 + 3, none⟩ = some (.int .u32 (num % 4294967296)) ∧ w'.cell? ⟨gv, m * 6 + 4, none⟩ = some (.slice Aov 0 cov) ∧ w'.cell? ⟨gv, m * 6 + 5, none⟩ = some (.slice Arv 0 crv)) (first | with_reducible exact HS0.out | with_reducible exact HS1.out | with_reducible exact HS2.out) (first
              | (go_at_call 185
                 with_reducible refine C1.out.mono ?_
                 rintro e w1 ⟨rfl, hb1⟩
                 have HB1 := Aside0.mk (below_step HD1.out hb1)
                 have C2 := Aside0.mk (isMsg_below Aov cov Arv crv num w1 (Kd.C_below gov HB1.out) (Kd.C_below grv HB1.out))
                 have HS1 := Aside0.mk (show w1.cell? ⟨wq.heap.size, 0, none⟩ = some (.slice (some ⟨gv, 0, none⟩) x.len cv) ∧ w1.cell? ⟨wq.heap.size, 1, none⟩ = some (.slice (some ⟨gl, 0, none⟩) (x.len + 40) cl) ∧ w1.cell? ⟨wq.heap.size, 2, none⟩ = some (.int .i64 num) ∧ w1.cell? ⟨gl, m * 6, none⟩ = some (.int .u8 200) ∧ w1.cell? ⟨gl, m * 6 + 1, none⟩ = some (.int .u8 0) ∧ w1.cell? ⟨gl, m * 6 + 2, none⟩ = some (.int .u8 0) ∧ w1.cell? ⟨gl, m * 6 + 3, none⟩ = some (.int .u32 (num % 4294967296)) ∧ w1.cell? ⟨gl, m * 6 + 4, none⟩ = some (.slice Aol 0 col) ∧ w1.cell? ⟨gl, m * 6 + 5, none⟩ = some (.slice Arl 0 crl) ∧ w1.cell? ⟨gv, m * 6, none⟩ = some (.int .u8 200) ∧ w1.cell? ⟨gv, m * 6 + 1, none⟩ = some (.int .u8 0) ∧ w1.cell? ⟨gv, m * 6 + 2, none⟩ = some (.int .u8 0) ∧ w1.cell? ⟨gv, m * 6 + 3, none⟩ = some (.int .u32 (num % 4294967296)) ∧ w1.cell? ⟨gv, m * 6 + 4, none⟩ = some (.slice Aov 0 cov) ∧ w1.cell? ⟨gv, m * 6 + 5, none⟩ = some (.slice Arv 0 crv) from ⟨cell_on hb1 (HS0.out.1), cell_on hb1 (HS0.out.2.1), cell_on hb1 (HS0.out.2.2.1), cell_on hb1 (HS0.out.2.2.2.1), cell_on hb1 (HS0.out.2.2.2.2.1), cell_on hb1 (HS0.out.2.2.2.2.2.1), cell_on hb1 (HS0.out.2.2.2.2.2.2.1), cell_on hb1 (HS0.out.2.2.2.2.2.2.2.1), cell_on hb1 (HS0.out.2.2.2.2.2.2.2.2.1), cell_on hb1 (HS0.out.2.2.2.2.2.2.2.2.2.1), cell_on hb1 (HS0.out.2.2.2.2.2.2.2.2.2.2.1), cell_on hb1 (HS0.out.2.2.2.2.2.2.2.2.2.2.2.1), cell_on hb1 (HS0.out.2.2.2.2.2.2.2.2.2.2.2.2.1), cell_on hb1 (HS0.out.2.2.2.2.2.2.2.2.2.2.2.2.2.1), cell_on hb1 (HS0.out.2.2.2.2.2.2.2.2.2.2.2.2.2.2)⟩)
                 clear hb1)
              | (go_at_call 185
                 with_reducible refine C2.out.mono ?_
                 rintro e w2 ⟨rfl, hb2⟩
                 have HB2 := Aside0.mk (below_step HB1.out hb2)
                 have HS2 := Aside0.mk (show w2.cell? ⟨wq.heap.size, 0, none⟩ = some (.slice (some ⟨gv, 0, none⟩) x.len cv) ∧ w2.cell? ⟨wq.heap.size, 1, none⟩ = some (.slice (some ⟨gl, 0, none⟩) (x.len + 40) cl) ∧ w2.cell? ⟨wq.heap.size, 2, none⟩ = some (.int .i64 num) ∧ w2.cell? ⟨gl, m * 6, none⟩ = some (.int .u8 200) ∧ w2.cell? ⟨gl, m * 6 + 1, none⟩ = some (.int .u8 0) ∧ w2.cell? ⟨gl, m * 6 + 2, none⟩ = some (.int .u8 0) ∧ w2.cell? ⟨gl, m * 6 + 3, none⟩ = some (.int .u32 (num % 4294967296)) ∧ w2.cell? ⟨gl, m * 6 + 4, none⟩ = some (.slice Aol 0 col) ∧ w2.cell? ⟨gl, m * 6 + 5, none⟩ = some (.slice Arl 0 crl) ∧ w2.cell? ⟨gv, m * 6, none⟩ = some (.int .u8 200) ∧ w2.cell? ⟨gv, m * 6 + 1, none⟩ = some (.int .u8 0) ∧ w2.cell? ⟨gv, m * 6 + 2, none⟩ = some (.int .u8 0) ∧ w2.cell? ⟨gv, m * 6 + 3, none⟩ = some (.int .u32 (num % 4294967296)) ∧ w2.cell? ⟨gv, m * 6 + 4, none⟩ = some (.slice Aov 0 cov) ∧ w2.cell? ⟨gv, m * 6 + 5, none⟩ = some (.slice Arv 0 crv) from ⟨cell_on hb2 (HS1.out.1), cell_on hb2 (HS1.out.2.1), cell_on hb2 (HS1.out.2.2.1), cell_on hb2 (HS1.out.2.2.2.1), cell_on hb2 (HS1.out.2.2.2.2.1), cell_on hb2 (HS1.out.2.2.2.2.2.1), cell_on hb2 (HS1.out.2.2.2.2.2.2.1), cell_on hb2 (HS1.out.2.2.2.2.2.2.2.1), cell_on hb2 (HS1.out.2.2.2.2.2.2.2.2.1), cell_on hb2 (HS1.out.2.2.2.2.2.2.2.2.2.1), cell_on hb2 (HS1.out.2.2.2.2.2.2.2.2.2.2.1), cell_on hb2 (HS1.out.2.2.2.2.2.2.2.2.2.2.2.1), cell_on hb2 (HS1.out.2.2.2.2.2.2.2.2.2.2.2.2.1), cell_on hb2 (HS1.out.2.2.2.2.2.2.2.2.2.2.2.2.2.1), cell_on hb2 (HS1.out.2.2.2.2.2.2.2.2.2.2.2.2.2.2)⟩)
                 clear hb2))) | fail "held3"
            all_goals
              go_wp2
              refine ⟨⟨m + 1, by omega, by first | rfl | simp, Aside0.mk (below_step HI.out HB2.out)⟩, ?_⟩
              try simp only [intOf]
              omega
          · have hml2' : ¬ ((m : Int) < (x.len : Int)) := by omega
            go_wp2_with fail
            have HS0 := Aside0.mk (show wr.drew.cell? ⟨wq.heap.size, 0, none⟩ = some (.slice Av x.len cv) ∧ wr.drew.cell? ⟨wq.heap.size, 1, none⟩ = some (.slice (some ⟨gl, 0, none⟩) (x.len + 40) cl) ∧ wr.drew.cell? ⟨wq.heap.size, 2, none⟩ = some (.int .i64 num) ∧ wr.drew.cell? ⟨gl, m * 6, none⟩ = some (.int .u8 200) ∧ wr.drew.cell? ⟨gl, m * 6 + 1, none⟩ = some (.int .u8 0) ∧ wr.drew.cell? ⟨gl, m * 6 + 2, none⟩ = some (.int .u8 0) ∧ wr.drew.cell? ⟨gl, m * 6 + 3, none⟩ = some (.int .u32 (num % 4294967296)) ∧ wr.drew.cell? ⟨gl, m * 6 + 4, none⟩ = some (.slice Aol 0 col) ∧ wr.drew.cell? ⟨gl, m * 6 + 5, none⟩ = some (.slice Arl 0 crl) from ⟨cell_on hd1 b0, cell_on hd1 b1, cell_on hd1 b2, cell_on hd1 hcc0, cell_on hd1 hcc1, cell_on hd1 hcc2, cell_on hd1 hcc3, cell_on hd1 hcc4, cell_on hd1 hcc5⟩)
            refine wp_region_held_drew (S := fun w' : World => w'.cell? ⟨wq.heap.size, 0, none⟩ = some (.slice Av x.len cv) ∧ w'.cell? ⟨wq.heap.size, 1, none⟩ = some (.slice (some ⟨gl, 0, none⟩) (x.len + 40) cl) ∧ w'.cell? ⟨wq.heap.size, 2, none⟩ = some (.int .i64 num) ∧ w'.cell? ⟨gl, m * 6, none⟩ = some (.int .u8 200) ∧ w'.cell? ⟨gl, m * 6 + 1, none⟩ = some (.int .u8 0) ∧ w'.cell? ⟨gl, m * 6 + 2, none⟩ = some (.int .u8 0) ∧ w'.cell? ⟨gl, m * 6 + 3, none⟩ = some (.int .u32 (num % 4294967296)) ∧ w'.cell? ⟨gl, m * 6 + 4, none⟩ = some (.slice Aol 0 col) ∧ w'.cell? ⟨gl, m * 6 + 5, none⟩ = some (.slice Arl 0 crl)) (by kernel_rfl) HS0.out (fun _ => ?_)
            refine jrun (i := 0) (v := ?_) rfl rfl (by kernel_rfl) (by kernel_rfl) (by kernel_rfl) (by kernel_rfl) (fun _ _ _ h => h) HS0.out ?_ ?_
            rotate_left
            · rintro W' ⟨s0, s1, s2, s3, s4, s5, s6, s7, s8⟩; simp only [List.getElem_toArray, List.getElem_cons_succ, List.getElem_cons_zero]; go_simp; try with_reducible rfl
            (try simp only [Act.put, List.setIfInBounds_toArray, List.set_cons_zero, List.set_cons_succ])
            refine jrun (i := 1) (v := ?_) rfl rfl (by kernel_rfl) (by kernel_rfl) (by kernel_rfl) (by kernel_rfl) (fun _ _ _ h => h) HS0.out ?_ ?_
            rotate_left
            · rintro W' ⟨s0, s1, s2, s3, s4, s5, s6, s7, s8⟩; simp only [List.getElem_toArray, List.getElem_cons_succ, List.getElem_cons_zero]; go_simp; try with_reducible rfl
            (try simp only [Act.put, List.setIfInBounds_toArray, List.set_cons_zero, List.set_cons_succ])
            refine jrun (i := 2) (v := ?_) rfl rfl (by kernel_rfl) (by kernel_rfl) (by kernel_rfl) (by kernel_rfl) (fun _ _ _ h => h) HS0.out ?_ ?_
            rotate_left
            · rintro W' ⟨s0, s1, s2, s3, s4, s5, s6, s7, s8⟩; simp only [List.getElem_toArray, List.getElem_cons_succ, List.getElem_cons_zero]; go_simp; try with_reducible rfl
            (try simp only [Act.put, List.setIfInBounds_toArray, List.set_cons_zero, List.set_cons_succ])
            refine jrun (i := 3) (v := ?_) rfl rfl (by kernel_rfl) (by kernel_rfl) (by kernel_rfl) (by kernel_rfl) (fun _ _ _ h => h) HS0.out ?_ ?_
            rotate_left
            · rintro W' ⟨s0, s1, s2, s3, s4, s5, s6, s7, s8⟩; simp only [List.getElem_toArray, List.getElem_cons_succ, List.getElem_cons_zero]; go_simp; try with_reducible rfl
            (try simp only [Act.put, List.setIfInBounds_toArray, List.set_cons_zero, List.set_cons_succ])
            refine jrun (i := 4) (v := ?_) rfl rfl (by kernel_rfl) (by kernel_rfl) (by kernel_rfl) (by kernel_rfl) (fun _ _ _ h => h) HS0.out ?_ ?_
            rotate_left
            · rintro W' ⟨s0, s1, s2, s3, s4, s5, s6, s7, s8⟩; simp only [List.getElem_toArray, List.getElem_cons_succ, List.getElem_cons_zero]; go_simp; try with_reducible rfl
            (try simp only [Act.put, List.setIfInBounds_toArray, List.set_cons_zero, List.set_cons_succ])
            refine jrun (i := 5) (v := ?_) rfl rfl (by kernel_rfl) (by kernel_rfl) (by kernel_rfl) (by kernel_rfl) (fun _ _ _ h => h) HS0.out ?_ ?_
            rotate_left
            · rintro W' ⟨s0, s1, s2, s3, s4, s5, s6, s7, s8⟩; simp only [List.getElem_toArray, List.getElem_cons_succ, List.getElem_cons_zero]; go_simp; try with_reducible rfl
            (try simp only [Act.put, List.setIfInBounds_toArray, List.set_cons_zero, List.set_cons_succ])
            refine jrun (i := 6) (v := ?_) rfl rfl (by kernel_rfl) (by kernel_rfl) (by kernel_rfl) (by kernel_rfl) (fun _ _ _ h => h) HS0.out ?_ ?_
            rotate_left
            · rintro W' ⟨s0, s1, s2, s3, s4, s5, s6, s7, s8⟩; simp only [List.getElem_toArray, List.getElem_cons_succ, List.getElem_cons_zero]; go_simp; try with_reducible rfl
            (try simp only [Act.put, List.setIfInBounds_toArray, List.set_cons_zero, List.set_cons_succ])
            refine wpAnyH_ready (rs := [7]) (by kernel_rfl) (by simp) ?_
            refine AllReadyH.cons rfl (fun K hK => ?_) AllReadyH.nil
            rw [if_pos (by kernel_rfl)]
            simp only [List.getElem_toArray, List.getElem_cons_succ, List.getElem_cons_zero]
            go_simp
            (go_at_call 185; refine (isMsg_below Aol col Arl crl num wr.drew (Kd.C_below gol HD1.out) (Kd.C_below grl HD1.out)).mono ?_; rintro e w1 ⟨rfl, hb1⟩; have HB1 := Aside0.mk (below_step HD1.out hb1); have HS1 := Aside0.mk (show w1.cell? ⟨wq.heap.size, 0, none⟩ = some (.slice Av x.len cv) ∧ w1.cell? ⟨wq.heap.size, 1, none⟩ = some (.slice (some ⟨gl, 0, none⟩) (x.len + 40) cl) ∧ w1.cell? ⟨wq.heap.size, 2, none⟩ = some (.int .i64 num) ∧ w1.cell? ⟨gl, m * 6, none⟩ = some (.int .u8 200) ∧ w1.cell? ⟨gl, m * 6 + 1, none⟩ = some (.int .u8 0) ∧ w1.cell? ⟨gl, m * 6 + 2, none⟩ = some (.int .u8 0) ∧ w1.cell? ⟨gl, m * 6 + 3, none⟩ = some (.int .u32 (num % 4294967296)) ∧ w1.cell? ⟨gl, m * 6 + 4, none⟩ = some (.slice Aol 0 col) ∧ w1.cell? ⟨gl, m * 6 + 5, none⟩ = some (.slice Arl 0 crl) from ⟨cell_on hb1 (HS0.out.1), cell_on hb1 (HS0.out.2.1), cell_on hb1 (HS0.out.2.2.1), cell_on hb1 (HS0.out.2.2.2.1), cell_on hb1 (HS0.out.2.2.2.2.1), cell_on hb1 (HS0.out.2.2.2.2.2.1), cell_on hb1 (HS0.out.2.2.2.2.2.2.1), cell_on hb1 (HS0.out.2.2.2.2.2.2.2.1), cell_on hb1 (HS0.out.2.2.2.2.2.2.2.2)⟩); clear hb1)
            refine hK.out _ _ HS1.out (fun _ => ?_)
            clear hK K
            (try simp only [Act.put, List.setIfInBounds_toArray, List.set_cons_zero, List.set_cons_succ])
            refine jrun (i := 8) (v := ?_) rfl rfl (by kernel_rfl) (by kernel_rfl) (by kernel_rfl) (by kernel_rfl) (fun _ _ _ h => h) HS1.out ?_ ?_
            rotate_left
            · rintro W' ⟨s0, s1, s2, s3, s4, s5, s6, s7, s8⟩; simp only [List.getElem_toArray, List.getElem_cons_succ, List.getElem_cons_zero]; go_simp; try with_reducible rfl
            (try simp only [Act.put, List.setIfInBounds_toArray, List.set_cons_zero, List.set_cons_succ])
            refine jrun (i := 9) (v := ?_) rfl rfl (by kernel_rfl) (by kernel_rfl) (by kernel_rfl) (by kernel_rfl) (fun _ _ _ h => h) HS1.out ?_ ?_
            rotate_left
            · rintro W' ⟨s0, s1, s2, s3, s4, s5, s6, s7, s8⟩; simp only [List.getElem_toArray, List.getElem_cons_succ, List.getElem_cons_zero]; go_simp; try with_reducible rfl
            (try simp only [Act.put, List.setIfInBounds_toArray, List.set_cons_zero, List.set_cons_succ])
            refine jrun (i := 10) (v := ?_) rfl rfl (by kernel_rfl) (by kernel_rfl) (by kernel_rfl) (by kernel_rfl) (fun _ _ _ h => h) HS1.out ?_ ?_
            rotate_left
            · rintro W' ⟨s0, s1, s2, s3, s4, s5, s6, s7, s8⟩; simp only [List.getElem_toArray, List.getElem_cons_succ, List.getElem_cons_zero]; go_simp; try with_reducible rfl
            (try simp only [Act.put, List.setIfInBounds_toArray, List.set_cons_zero, List.set_cons_succ])
            refine jrun (i := 11) (v := ?_) rfl rfl (by kernel_rfl) (by kernel_rfl) (by kernel_rfl) (by kernel_rfl) (fun _ _ _ h => h) HS1.out ?_ ?_
            rotate_left
            · rintro W' ⟨s0, s1, s2, s3, s4, s5, s6, s7, s8⟩; simp only [List.getElem_toArray, List.getElem_cons_succ, List.getElem_cons_zero]; go_simp; try with_reducible rfl
            (try simp only [Act.put, List.setIfInBounds_toArray, List.set_cons_zero, List.set_cons_succ])
            refine jrun (i := 12) (v := ?_) rfl rfl (by kernel_rfl) (by kernel_rfl) (by kernel_rfl) (by kernel_rfl) (fun _ _ _ h => h) HS1.out ?_ ?_
            rotate_left
            · rintro W' ⟨s0, s1, s2, s3, s4, s5, s6, s7, s8⟩; simp only [List.getElem_toArray, List.getElem_cons_succ, List.getElem_cons_zero]; go_simp; try with_reducible rfl
            (try simp only [Act.put, List.setIfInBounds_toArray, List.set_cons_zero, List.set_cons_succ])
            refine jrun (i := 13) (v := ?_) rfl rfl (by kernel_rfl) (by kernel_rfl) (by kernel_rfl) (by kernel_rfl) (fun _ _ _ h => h) HS1.out ?_ ?_
            rotate_left
            · rintro W' ⟨s0, s1, s2, s3, s4, s5, s6, s7, s8⟩; simp only [List.getElem_toArray, List.getElem_cons_succ, List.getElem_cons_zero]; go_simp; try with_reducible rfl
            (try simp only [Act.put, List.setIfInBounds_toArray, List.set_cons_zero, List.set_cons_succ])
            refine jrun (i := 14) (v := ?_) rfl rfl (by kernel_rfl) (by kernel_rfl) (by kernel_rfl) (by kernel_rfl) (fun _ _ _ h => h) HS1.out ?_ ?_
            rotate_left
            · rintro W' ⟨s0, s1, s2, s3, s4, s5, s6, s7, s8⟩; simp only [List.getElem_toArray, List.getElem_cons_succ, List.getElem_cons_zero]; go_simp; try with_reducible rfl
            (try simp only [Act.put, List.setIfInBounds_toArray, List.set_cons_zero, List.set_cons_succ])
            refine jrun (i := 15) (v := ?_) rfl rfl (by kernel_rfl) (by kernel_rfl) (by kernel_rfl) (by kernel_rfl) (fun _ _ _ h => h) HS1.out ?_ ?_
            rotate_left
            · rintro W' ⟨s0, s1, s2, s3, s4, s5, s6, s7, s8⟩; simp only [List.getElem_toArray, List.getElem_cons_succ, List.getElem_cons_zero]; go_simp; try with_reducible rfl
            (try simp only [Act.put, List.setIfInBounds_toArray, List.set_cons_zero, List.set_cons_succ])
            refine jskip (i := 16) rfl rfl (by kernel_rfl) (by kernel_rfl) (by kernel_rfl) (by kernel_rfl) (fun _ _ _ h => h) HS1.out ?_
            (try simp only [Act.put, List.setIfInBounds_toArray, List.set_cons_zero, List.set_cons_succ])
            refine jskip (i := 17) rfl rfl (by kernel_rfl) (by kernel_rfl) (by kernel_rfl) (by kernel_rfl) (fun _ _ _ h => h) HS1.out ?_
            (try simp only [Act.put, List.setIfInBounds_toArray, List.set_cons_zero, List.set_cons_succ])
            refine jskip (i := 18) rfl rfl (by kernel_rfl) (by kernel_rfl) (by kernel_rfl) (by kernel_rfl) (fun _ _ _ h => h) HS1.out ?_
            (try simp only [Act.put, List.setIfInBounds_toArray, List.set_cons_zero, List.set_cons_succ])
            refine jskip (i := 19) rfl rfl (by kernel_rfl) (by kernel_rfl) (by kernel_rfl) (by kernel_rfl) (fun _ _ _ h => h) HS1.out ?_
            (try simp only [Act.put, List.setIfInBounds_toArray, List.set_cons_zero, List.set_cons_succ])
            refine jskip (i := 20) rfl rfl (by kernel_rfl) (by kernel_rfl) (by kernel_rfl) (by kernel_rfl) (fun _ _ _ h => h) HS1.out ?_
            (try simp only [Act.put, List.setIfInBounds_toArray, List.set_cons_zero, List.set_cons_succ])
            refine jskip (i := 21) rfl rfl (by kernel_rfl) (by kernel_rfl) (by kernel_rfl) (by kernel_rfl) (fun _ _ _ h => h) HS1.out ?_
            (try simp only [Act.put, List.setIfInBounds_toArray, List.set_cons_zero, List.set_cons_succ])
            refine jskip (i := 22) rfl rfl (by kernel_rfl) (by kernel_rfl) (by kernel_rfl) (by kernel_rfl) (fun _ _ _ h => h) HS1.out ?_
            (try simp only [Act.put, List.setIfInBounds_toArray, List.set_cons_zero, List.set_cons_succ])
            refine wpAnyH_ready (rs := [23]) (by kernel_rfl) (by simp) ?_
            refine AllReadyH.cons rfl (fun K hK => ?_) AllReadyH.nil
            rw [if_neg (wanted_no (by kernel_rfl))]
            refine hK.out _ _ HS1.out (fun _ => ?_)
            clear hK K
            (try simp only [Act.put, List.setIfInBounds_toArray, List.set_cons_zero, List.set_cons_succ])
            refine jskip (i := 24) rfl rfl (by kernel_rfl) (by kernel_rfl) (by kernel_rfl) (by kernel_rfl) (fun _ _ _ h => h) HS1.out ?_
            (try simp only [Act.put, List.setIfInBounds_toArray, List.set_cons_zero, List.set_cons_succ])
            refine jrun (i := 25) (v := ?_) rfl rfl (by kernel_rfl) (by kernel_rfl) (by kernel_rfl) (by kernel_rfl) (fun _ _ _ h => h) HS1.out ?_ ?_
            rotate_left
            · rintro W' ⟨s0, s1, s2, s3, s4, s5, s6, s7, s8⟩; simp only [List.getElem_toArray, List.getElem_cons_succ, List.getElem_cons_zero]; go_simp; try with_reducible rfl
            (try simp only [Act.put, List.setIfInBounds_toArray, List.set_cons_zero, List.set_cons_succ])
            refine jrun (i := 26) (v := ?_) rfl rfl (by kernel_rfl) (by kernel_rfl) (by kernel_rfl) (by kernel_rfl) (fun _ _ _ h => h) HS1.out ?_ ?_
            rotate_left
            · rintro W' ⟨s0, s1, s2, s3, s4, s5, s6, s7, s8⟩; simp only [List.getElem_toArray, List.getElem_cons_succ, List.getElem_cons_zero]; go_simp; try with_reducible rfl
            (try simp only [Act.put, List.setIfInBounds_toArray, List.set_cons_zero, List.set_cons_succ])
            refine wpAnyH_done (by kernel_rfl) ?_ _
            go_wp2
            refine ⟨⟨m + 1, by omega, by first | rfl | simp, Aside0.mk (below_step HI.out HB1.out)⟩, ?_⟩
            try simp only [intOf]
            omega
        · go_wp2
          refine ⟨⟨k + 1, by omega, by first | rfl | simp, HBR⟩, ?_⟩
          try simp only [intOf]
          omega
    · go_wp2
      go_ret
      exact ⟨rfl, HBQ.out⟩
end Go.Proofs.YtcohodkpppmaoaaGreatDoor.Q
namespace Go.Proofs.YtcohodkpppmaoaaGreatDoor.Q
open Go.RowKit Go.Proofs.YtcohodkpppmaoaaGreatDoorW.PrintWords Go.Proofs.YtcohodkpppmaoaaGreatDoorW.PrintLast Go.Proofs.YtcohodkpppmaoaaGreatDoorW.PrintMore
set_option linter.unusedVariables false
set_option maxHeartbeats 1600000 in
set_option maxRecDepth 100000 in
theorem fillByte_no (w : World) (g : Nat) (bc : Array Value) (hb : w.heap[g]? = some (.cells bc 44 (0, 0))) (hV : bc[1]? = some (.slice none 0 0)) :
    Calls Tryz.prog 74 #[.pointer (some ⟨g, 0, none⟩)] w fun e w' => e = .returned (.tuple #[]) ∧ w' = w := by
  have hu := Tryz.underlying44
  have q1 : w.cell? ⟨g, 1, none⟩ = some (.slice none 0 0) := by simp [World.cell?, hb, hV]
  clear hb hV
  go_enter Tryz.func74, Tryz.ntmps74
  go_wp2
  go_loopw [2] (fun i wr => i = .int .i64 0 ∧ wr = w) (fun _ _ => 0)
  case atStart => exact ⟨rfl, rfl⟩
  case round =>
    obtain ⟨rfl, rfl⟩ := hrel
    go_wp2
    go_end0
    exact ⟨rfl, rfl⟩
set_option maxHeartbeats 1600000 in
set_option maxRecDepth 100000 in
theorem growByte_no (w : World) (g : Nat) (bc : Array Value) (hb : w.heap[g]? = some (.cells bc 44 (0, 0))) (hV : bc[1]? = some (.slice none 0 0)) :
    Calls Tryz.prog 86 #[.pointer (some ⟨g, 0, none⟩)] w fun e w' => e = .returned (.tuple #[]) ∧ w' = w := by
  have hu := Tryz.underlying44
  have q1 : w.cell? ⟨g, 1, none⟩ = some (.slice none 0 0) := by simp [World.cell?, hb, hV]
  clear hb hV
  go_enter Tryz.func86, Tryz.ntmps86
  go_wp2
  go_loopw [2] (fun i wr => i = .int .i64 0 ∧ wr = w) (fun _ _ => 0)
  case atStart => exact ⟨rfl, rfl⟩
  case round =>
    obtain ⟨rfl, rfl⟩ := hrel
    go_wp2
    go_end0
    exact ⟨rfl, rfl⟩
set_option maxHeartbeats 1600000 in
set_option maxRecDepth 100000 in
theorem lookByte_no (w : World) (g : Nat) (bc : Array Value) (hb : w.heap[g]? = some (.cells bc 44 (0, 0))) (hV : bc[1]? = some (.slice none 0 0)) :
    Calls Tryz.prog 98 #[.pointer (some ⟨g, 0, none⟩)] w fun e w' => e = .returned (.bool true) ∧ w' = w := by
  have hu := Tryz.underlying44
  have q1 : w.cell? ⟨g, 1, none⟩ = some (.slice none 0 0) := by simp [World.cell?, hb, hV]
  clear hb hV
  go_enter Tryz.func98, Tryz.ntmps98
  go_wp2
  go_loopw [3] (fun i wr => i = .int .i64 0 ∧ wr = w) (fun _ _ => 0)
  case atStart => exact ⟨rfl, rfl⟩
  case round =>
    obtain ⟨rfl, rfl⟩ := hrel
    go_wp2
    go_ret
    exact ⟨rfl, rfl⟩
set_option maxHeartbeats 1600000 in
set_option maxRecDepth 100000 in
theorem fillId_no (w : World) (g : Nat) (bc : Array Value) (hb : w.heap[g]? = some (.cells bc 44 (0, 0))) (hV : bc[2]? = some (.slice none 0 0)) :
    Calls Tryz.prog 75 #[.pointer (some ⟨g, 0, none⟩)] w fun e w' => e = .returned (.tuple #[]) ∧ w' = w := by
  have hu := Tryz.underlying44
  have q1 : w.cell? ⟨g, 2, none⟩ = some (.slice none 0 0) := by simp [World.cell?, hb, hV]
  clear hb hV
  go_enter Tryz.func75, Tryz.ntmps75
  go_wp2
  go_loopw [2] (fun i wr => i = .int .i64 0 ∧ wr = w) (fun _ _ => 0)
  case atStart => exact ⟨rfl, rfl⟩
  case round =>
    obtain ⟨rfl, rfl⟩ := hrel
    go_wp2
    go_end0
    exact ⟨rfl, rfl⟩
set_option maxHeartbeats 1600000 in
set_option maxRecDepth 100000 in
theorem growId_no (w : World) (g : Nat) (bc : Array Value) (hb : w.heap[g]? = some (.cells bc 44 (0, 0))) (hV : bc[2]? = some (.slice none 0 0)) :
    Calls Tryz.prog 87 #[.pointer (some ⟨g, 0, none⟩)] w fun e w' => e = .returned (.tuple #[]) ∧ w' = w := by
  have hu := Tryz.underlying44
  have q1 : w.cell? ⟨g, 2, none⟩ = some (.slice none 0 0) := by simp [World.cell?, hb, hV]
  clear hb hV
  go_enter Tryz.func87, Tryz.ntmps87
  go_wp2
  go_loopw [2] (fun i wr => i = .int .i64 0 ∧ wr = w) (fun _ _ => 0)
  case atStart => exact ⟨rfl, rfl⟩
  case round =>
    obtain ⟨rfl, rfl⟩ := hrel
    go_wp2
    go_end0
    exact ⟨rfl, rfl⟩
set_option maxHeartbeats 1600000 in
set_option maxRecDepth 100000 in
theorem lookId_no (w : World) (g : Nat) (bc : Array Value) (hb : w.heap[g]? = some (.cells bc 44 (0, 0))) (hV : bc[2]? = some (.slice none 0 0)) :
    Calls Tryz.prog 99 #[.pointer (some ⟨g, 0, none⟩)] w fun e w' => e = .returned (.bool true) ∧ w' = w := by
  have hu := Tryz.underlying44
  have q1 : w.cell? ⟨g, 2, none⟩ = some (.slice none 0 0) := by simp [World.cell?, hb, hV]
  clear hb hV
  go_enter Tryz.func99, Tryz.ntmps99
  go_wp2
  go_loopw [3] (fun i wr => i = .int .i64 0 ∧ wr = w) (fun _ _ => 0)
  case atStart => exact ⟨rfl, rfl⟩
  case round =>
    obtain ⟨rfl, rfl⟩ := hrel
    go_wp2
    go_ret
    exact ⟨rfl, rfl⟩
set_option maxHeartbeats 1600000 in
set_option maxRecDepth 100000 in
theorem fillInt_no (w : World) (g : Nat) (bc : Array Value) (hb : w.heap[g]? = some (.cells bc 44 (0, 0))) (hV : bc[3]? = some (.slice none 0 0)) :
    Calls Tryz.prog 76 #[.pointer (some ⟨g, 0, none⟩)] w fun e w' => e = .returned (.tuple #[]) ∧ w' = w := by
  have hu := Tryz.underlying44
  have q1 : w.cell? ⟨g, 3, none⟩ = some (.slice none 0 0) := by simp [World.cell?, hb, hV]
  clear hb hV
  go_enter Tryz.func76, Tryz.ntmps76
  go_wp2
  go_loopw [2] (fun i wr => i = .int .i64 0 ∧ wr = w) (fun _ _ => 0)
  case atStart => exact ⟨rfl, rfl⟩
  case round =>
    obtain ⟨rfl, rfl⟩ := hrel
    go_wp2
    go_end0
    exact ⟨rfl, rfl⟩
set_option maxHeartbeats 1600000 in
set_option maxRecDepth 100000 in
theorem growInt_no (w : World) (g : Nat) (bc : Array Value) (hb : w.heap[g]? = some (.cells bc 44 (0, 0))) (hV : bc[3]? = some (.slice none 0 0)) :
    Calls Tryz.prog 88 #[.pointer (some ⟨g, 0, none⟩)] w fun e w' => e = .returned (.tuple #[]) ∧ w' = w := by
  have hu := Tryz.underlying44
  have q1 : w.cell? ⟨g, 3, none⟩ = some (.slice none 0 0) := by simp [World.cell?, hb, hV]
  clear hb hV
  go_enter Tryz.func88, Tryz.ntmps88
  go_wp2
  go_loopw [2] (fun i wr => i = .int .i64 0 ∧ wr = w) (fun _ _ => 0)
  case atStart => exact ⟨rfl, rfl⟩
  case round =>
    obtain ⟨rfl, rfl⟩ := hrel
    go_wp2
    go_end0
    exact ⟨rfl, rfl⟩
set_option maxHeartbeats 1600000 in
set_option maxRecDepth 100000 in
theorem lookInt_no (w : World) (g : Nat) (bc : Array Value) (hb : w.heap[g]? = some (.cells bc 44 (0, 0))) (hV : bc[3]? = some (.slice none 0 0)) :
    Calls Tryz.prog 100 #[.pointer (some ⟨g, 0, none⟩)] w fun e w' => e = .returned (.bool true) ∧ w' = w := by
  have hu := Tryz.underlying44
  have q1 : w.cell? ⟨g, 3, none⟩ = some (.slice none 0 0) := by simp [World.cell?, hb, hV]
  clear hb hV
  go_enter Tryz.func100, Tryz.ntmps100
  go_wp2
  go_loopw [3] (fun i wr => i = .int .i64 0 ∧ wr = w) (fun _ _ => 0)
  case atStart => exact ⟨rfl, rfl⟩
  case round =>
    obtain ⟨rfl, rfl⟩ := hrel
    go_wp2
    go_ret
    exact ⟨rfl, rfl⟩
set_option maxHeartbeats 1600000 in
set_option maxRecDepth 100000 in
theorem fillText_no (w : World) (g : Nat) (bc : Array Value) (hb : w.heap[g]? = some (.cells bc 44 (0, 0))) (hV : bc[4]? = some (.slice none 0 0)) :
    Calls Tryz.prog 77 #[.pointer (some ⟨g, 0, none⟩)] w fun e w' => e = .returned (.tuple #[]) ∧ w' = w := by
  have hu := Tryz.underlying44
  have q1 : w.cell? ⟨g, 4, none⟩ = some (.slice none 0 0) := by simp [World.cell?, hb, hV]
  clear hb hV
  go_enter Tryz.func77, Tryz.ntmps77
  go_wp2
  go_loopw [2] (fun i wr => i = .int .i64 0 ∧ wr = w) (fun _ _ => 0)
  case atStart => exact ⟨rfl, rfl⟩
  case round =>
    obtain ⟨rfl, rfl⟩ := hrel
    go_wp2
    go_end0
    exact ⟨rfl, rfl⟩
set_option maxHeartbeats 1600000 in
set_option maxRecDepth 100000 in
theorem growText_no (w : World) (g : Nat) (bc : Array Value) (hb : w.heap[g]? = some (.cells bc 44 (0, 0))) (hV : bc[4]? = some (.slice none 0 0)) :
    Calls Tryz.prog 89 #[.pointer (some ⟨g, 0, none⟩)] w fun e w' => e = .returned (.tuple #[]) ∧ w' = w := by
  have hu := Tryz.underlying44
  have q1 : w.cell? ⟨g, 4, none⟩ = some (.slice none 0 0) := by simp [World.cell?, hb, hV]
  clear hb hV
  go_enter Tryz.func89, Tryz.ntmps89
  go_wp2
  go_loopw [2] (fun i wr => i = .int .i64 0 ∧ wr = w) (fun _ _ => 0)
  case atStart => exact ⟨rfl, rfl⟩
  case round =>
    obtain ⟨rfl, rfl⟩ := hrel
    go_wp2
    go_end0
    exact ⟨rfl, rfl⟩
set_option maxHeartbeats 1600000 in
set_option maxRecDepth 100000 in
theorem lookText_no (w : World) (g : Nat) (bc : Array Value) (hb : w.heap[g]? = some (.cells bc 44 (0, 0))) (hV : bc[4]? = some (.slice none 0 0)) :
    Calls Tryz.prog 101 #[.pointer (some ⟨g, 0, none⟩)] w fun e w' => e = .returned (.bool true) ∧ w' = w := by
  have hu := Tryz.underlying44
  have q1 : w.cell? ⟨g, 4, none⟩ = some (.slice none 0 0) := by simp [World.cell?, hb, hV]
  clear hb hV
  go_enter Tryz.func101, Tryz.ntmps101
  go_wp2
  go_loopw [3] (fun i wr => i = .int .i64 0 ∧ wr = w) (fun _ _ => 0)
  case atStart => exact ⟨rfl, rfl⟩
  case round =>
    obtain ⟨rfl, rfl⟩ := hrel
    go_wp2
    go_ret
    exact ⟨rfl, rfl⟩
set_option maxHeartbeats 1600000 in
set_option maxRecDepth 100000 in
theorem fillSpan_no (w : World) (g : Nat) (bc : Array Value) (hb : w.heap[g]? = some (.cells bc 44 (0, 0))) (hV : bc[7]? = some (.slice none 0 0)) :
    Calls Tryz.prog 80 #[.pointer (some ⟨g, 0, none⟩)] w fun e w' => e = .returned (.tuple #[]) ∧ w' = w := by
  have hu := Tryz.underlying44
  have q1 : w.cell? ⟨g, 7, none⟩ = some (.slice none 0 0) := by simp [World.cell?, hb, hV]
  clear hb hV
  go_enter Tryz.func80, Tryz.ntmps80
  go_wp2
  go_loopw [2] (fun i wr => i = .int .i64 0 ∧ wr = w) (fun _ _ => 0)
  case atStart => exact ⟨rfl, rfl⟩
  case round =>
    obtain ⟨rfl, rfl⟩ := hrel
    go_wp2
    go_end0
    exact ⟨rfl, rfl⟩
set_option maxHeartbeats 1600000 in
set_option maxRecDepth 100000 in
theorem growSpan_no (w : World) (g : Nat) (bc : Array Value) (hb : w.heap[g]? = some (.cells bc 44 (0, 0))) (hV : bc[7]? = some (.slice none 0 0)) :
    Calls Tryz.prog 92 #[.pointer (some ⟨g, 0, none⟩)] w fun e w' => e = .returned (.tuple #[]) ∧ w' = w := by
  have hu := Tryz.underlying44
  have q1 : w.cell? ⟨g, 7, none⟩ = some (.slice none 0 0) := by simp [World.cell?, hb, hV]
  clear hb hV
  go_enter Tryz.func92, Tryz.ntmps92
  go_wp2
  go_loopw [2] (fun i wr => i = .int .i64 0 ∧ wr = w) (fun _ _ => 0)
  case atStart => exact ⟨rfl, rfl⟩
  case round =>
    obtain ⟨rfl, rfl⟩ := hrel
    go_wp2
    go_end0
    exact ⟨rfl, rfl⟩
set_option maxHeartbeats 1600000 in
set_option maxRecDepth 100000 in
theorem lookSpan_no (w : World) (g : Nat) (bc : Array Value) (hb : w.heap[g]? = some (.cells bc 44 (0, 0))) (hV : bc[7]? = some (.slice none 0 0)) :
    Calls Tryz.prog 104 #[.pointer (some ⟨g, 0, none⟩)] w fun e w' => e = .returned (.bool true) ∧ w' = w := by
  have hu := Tryz.underlying44
  have q1 : w.cell? ⟨g, 7, none⟩ = some (.slice none 0 0) := by simp [World.cell?, hb, hV]
  clear hb hV
  go_enter Tryz.func104, Tryz.ntmps104
  go_wp2
  go_loopw [3] (fun i wr => i = .int .i64 0 ∧ wr = w) (fun _ _ => 0)
  case atStart => exact ⟨rfl, rfl⟩
  case round =>
    obtain ⟨rfl, rfl⟩ := hrel
    go_wp2
    go_ret
    exact ⟨rfl, rfl⟩
set_option maxHeartbeats 1600000 in
set_option maxRecDepth 100000 in
theorem fillChange_no (w : World) (g : Nat) (bc : Array Value) (hb : w.heap[g]? = some (.cells bc 44 (0, 0))) (hV : bc[8]? = some (.slice none 0 0)) :
    Calls Tryz.prog 81 #[.pointer (some ⟨g, 0, none⟩)] w fun e w' => e = .returned (.tuple #[]) ∧ w' = w := by
  have hu := Tryz.underlying44
  have q1 : w.cell? ⟨g, 8, none⟩ = some (.slice none 0 0) := by simp [World.cell?, hb, hV]
  clear hb hV
  go_enter Tryz.func81, Tryz.ntmps81
  go_wp2
  go_loopw [2] (fun i wr => i = .int .i64 0 ∧ wr = w) (fun _ _ => 0)
  case atStart => exact ⟨rfl, rfl⟩
  case round =>
    obtain ⟨rfl, rfl⟩ := hrel
    go_wp2
    go_end0
    exact ⟨rfl, rfl⟩
set_option maxHeartbeats 1600000 in
set_option maxRecDepth 100000 in
theorem growChange_no (w : World) (g : Nat) (bc : Array Value) (hb : w.heap[g]? = some (.cells bc 44 (0, 0))) (hV : bc[8]? = some (.slice none 0 0)) :
    Calls Tryz.prog 93 #[.pointer (some ⟨g, 0, none⟩)] w fun e w' => e = .returned (.tuple #[]) ∧ w' = w := by
  have hu := Tryz.underlying44
  have q1 : w.cell? ⟨g, 8, none⟩ = some (.slice none 0 0) := by simp [World.cell?, hb, hV]
  clear hb hV
  go_enter Tryz.func93, Tryz.ntmps93
  go_wp2
  go_loopw [2] (fun i wr => i = .int .i64 0 ∧ wr = w) (fun _ _ => 0)
  case atStart => exact ⟨rfl, rfl⟩
  case round =>
    obtain ⟨rfl, rfl⟩ := hrel
    go_wp2
    go_end0
    exact ⟨rfl, rfl⟩
set_option maxHeartbeats 1600000 in
set_option maxRecDepth 100000 in
theorem lookChange_no (w : World) (g : Nat) (bc : Array Value) (hb : w.heap[g]? = some (.cells bc 44 (0, 0))) (hV : bc[8]? = some (.slice none 0 0)) :
    Calls Tryz.prog 105 #[.pointer (some ⟨g, 0, none⟩)] w fun e w' => e = .returned (.bool true) ∧ w' = w := by
  have hu := Tryz.underlying44
  have q1 : w.cell? ⟨g, 8, none⟩ = some (.slice none 0 0) := by simp [World.cell?, hb, hV]
  clear hb hV
  go_enter Tryz.func105, Tryz.ntmps105
  go_wp2
  go_loopw [3] (fun i wr => i = .int .i64 0 ∧ wr = w) (fun _ _ => 0)
  case atStart => exact ⟨rfl, rfl⟩
  case round =>
    obtain ⟨rfl, rfl⟩ := hrel
    go_wp2
    go_ret
    exact ⟨rfl, rfl⟩
set_option maxHeartbeats 1600000 in
set_option maxRecDepth 100000 in
theorem fillPart_no (w : World) (g : Nat) (bc : Array Value) (hb : w.heap[g]? = some (.cells bc 44 (0, 0))) (hV : bc[11]? = some (.slice none 0 0)) :
    Calls Tryz.prog 84 #[.pointer (some ⟨g, 0, none⟩)] w fun e w' => e = .returned (.tuple #[]) ∧ w' = w := by
  have hu := Tryz.underlying44
  have q1 : w.cell? ⟨g, 11, none⟩ = some (.slice none 0 0) := by simp [World.cell?, hb, hV]
  clear hb hV
  go_enter Tryz.func84, Tryz.ntmps84
  go_wp2
  go_loopw [2] (fun i wr => i = .int .i64 0 ∧ wr = w) (fun _ _ => 0)
  case atStart => exact ⟨rfl, rfl⟩
  case round =>
    obtain ⟨rfl, rfl⟩ := hrel
    go_wp2
    go_end0
    exact ⟨rfl, rfl⟩
set_option maxHeartbeats 1600000 in
set_option maxRecDepth 100000 in
theorem growPart_no (w : World) (g : Nat) (bc : Array Value) (hb : w.heap[g]? = some (.cells bc 44 (0, 0))) (hV : bc[11]? = some (.slice none 0 0)) :
    Calls Tryz.prog 96 #[.pointer (some ⟨g, 0, none⟩)] w fun e w' => e = .returned (.tuple #[]) ∧ w' = w := by
  have hu := Tryz.underlying44
  have q1 : w.cell? ⟨g, 11, none⟩ = some (.slice none 0 0) := by simp [World.cell?, hb, hV]
  clear hb hV
  go_enter Tryz.func96, Tryz.ntmps96
  go_wp2
  go_loopw [2] (fun i wr => i = .int .i64 0 ∧ wr = w) (fun _ _ => 0)
  case atStart => exact ⟨rfl, rfl⟩
  case round =>
    obtain ⟨rfl, rfl⟩ := hrel
    go_wp2
    go_end0
    exact ⟨rfl, rfl⟩
set_option maxHeartbeats 1600000 in
set_option maxRecDepth 100000 in
theorem lookPart_no (w : World) (g : Nat) (bc : Array Value) (hb : w.heap[g]? = some (.cells bc 44 (0, 0))) (hV : bc[11]? = some (.slice none 0 0)) :
    Calls Tryz.prog 108 #[.pointer (some ⟨g, 0, none⟩)] w fun e w' => e = .returned (.bool true) ∧ w' = w := by
  have hu := Tryz.underlying44
  have q1 : w.cell? ⟨g, 11, none⟩ = some (.slice none 0 0) := by simp [World.cell?, hb, hV]
  clear hb hV
  go_enter Tryz.func108, Tryz.ntmps108
  go_wp2
  go_loopw [3] (fun i wr => i = .int .i64 0 ∧ wr = w) (fun _ _ => 0)
  case atStart => exact ⟨rfl, rfl⟩
  case round =>
    obtain ⟨rfl, rfl⟩ := hrel
    go_wp2
    go_ret
    exact ⟨rfl, rfl⟩
set_option maxHeartbeats 1600000 in
set_option maxRecDepth 100000 in
theorem fillDeed_no (w : World) (g : Nat) (bc : Array Value) (hb : w.heap[g]? = some (.cells bc 44 (0, 0))) (hV : bc[12]? = some (.slice none 0 0)) :
    Calls Tryz.prog 85 #[.pointer (some ⟨g, 0, none⟩)] w fun e w' => e = .returned (.tuple #[]) ∧ w' = w := by
  have hu := Tryz.underlying44
  have q1 : w.cell? ⟨g, 12, none⟩ = some (.slice none 0 0) := by simp [World.cell?, hb, hV]
  clear hb hV
  go_enter Tryz.func85, Tryz.ntmps85
  go_wp2
  go_loopw [2] (fun i wr => i = .int .i64 0 ∧ wr = w) (fun _ _ => 0)
  case atStart => exact ⟨rfl, rfl⟩
  case round =>
    obtain ⟨rfl, rfl⟩ := hrel
    go_wp2
    go_end0
    exact ⟨rfl, rfl⟩
set_option maxHeartbeats 1600000 in
set_option maxRecDepth 100000 in
theorem growDeed_no (w : World) (g : Nat) (bc : Array Value) (hb : w.heap[g]? = some (.cells bc 44 (0, 0))) (hV : bc[12]? = some (.slice none 0 0)) :
    Calls Tryz.prog 97 #[.pointer (some ⟨g, 0, none⟩)] w fun e w' => e = .returned (.tuple #[]) ∧ w' = w := by
  have hu := Tryz.underlying44
  have q1 : w.cell? ⟨g, 12, none⟩ = some (.slice none 0 0) := by simp [World.cell?, hb, hV]
  clear hb hV
  go_enter Tryz.func97, Tryz.ntmps97
  go_wp2
  go_loopw [2] (fun i wr => i = .int .i64 0 ∧ wr = w) (fun _ _ => 0)
  case atStart => exact ⟨rfl, rfl⟩
  case round =>
    obtain ⟨rfl, rfl⟩ := hrel
    go_wp2
    go_end0
    exact ⟨rfl, rfl⟩
set_option maxHeartbeats 1600000 in
set_option maxRecDepth 100000 in
theorem lookDeed_no (w : World) (g : Nat) (bc : Array Value) (hb : w.heap[g]? = some (.cells bc 44 (0, 0))) (hV : bc[12]? = some (.slice none 0 0)) :
    Calls Tryz.prog 109 #[.pointer (some ⟨g, 0, none⟩)] w fun e w' => e = .returned (.bool true) ∧ w' = w := by
  have hu := Tryz.underlying44
  have q1 : w.cell? ⟨g, 12, none⟩ = some (.slice none 0 0) := by simp [World.cell?, hb, hV]
  clear hb hV
  go_enter Tryz.func109, Tryz.ntmps109
  go_wp2
  go_loopw [3] (fun i wr => i = .int .i64 0 ∧ wr = w) (fun _ _ => 0)
  case atStart => exact ⟨rfl, rfl⟩
  case round =>
    obtain ⟨rfl, rfl⟩ := hrel
    go_wp2
    go_ret
    exact ⟨rfl, rfl⟩
end Go.Proofs.YtcohodkpppmaoaaGreatDoor.Q
namespace Go.Proofs.YtcohodkpppmaoaaGreatDoor.Q
open Go.RowKit Go.Proofs.YtcohodkpppmaoaaGreatDoorW.PrintWords Go.Proofs.YtcohodkpppmaoaaGreatDoorW.PrintLast Go.Proofs.YtcohodkpppmaoaaGreatDoorW.PrintMore
set_option linter.unusedVariables false
/-- A list that is kept: its number, and how many it has. -/
def Fine (E : List Ent) : Prop := ∀ x ∈ E, (0 ≤ x.num ∧ x.num ≤ 1000000000000000) ∧ x.len ≤ 1000000000
theorem Fine.num {E : List Ent} (h : Fine E) : ∀ x ∈ E, 0 ≤ x.num ∧ x.num ≤ 1000000000000000 := fun x hx => (h x hx).1
set_option maxHeartbeats 6400000 in
set_option maxRecDepth 100000 in
theorem apart_calls (w0 w : World) (g : Nat) (n : Int) (vv1 vv2 vv3 vv4 : Value) (E1 E2 E3 E4 : List Ent) (F1 F2 F3 F4 : List Nat) (H : Held w0 w g #[.int .i64 n, .slice none 0 0, .slice none 0 0, .slice none 0 0, .slice none 0 0, vv1, vv2, .slice none 0 0, .slice none 0 0, vv3, vv4, .slice none 0 0, .slice none 0 0] [⟨fdA 148 2, 184, F1, vv1, E1⟩, ⟨fdA 82 4, 187, F2, vv2, E2⟩, ⟨fdA 145 1, 199, F3, vv3, E3⟩, ⟨fdA 50 6, 170, F4, vv4, E4⟩]) (hT : TabOk w0)
    (h1 : Fine E1) (h2 : Fine E2) (h3 : Fine E3) (h4 : Fine E4) : Calls Tryz.prog 26 #[.pointer (some ⟨g, 0, none⟩)] w fun e w' => e = .returned (.bool true) ∧ Below w0.heap.size w0 w' := by
  have HT := Aside0.mk hT
  have N1 := Aside0.mk h1
  clear h1
  have N2 := Aside0.mk h2
  clear h2
  have N3 := Aside0.mk h3
  clear h3
  have N4 := Aside0.mk h4
  clear h4
  have H0 := Aside0.mk H
  clear H hT
  go_enter Tryz.func26, Tryz.ntmps26
  go_wp2_with fail
  refine (fillByte_no _ g _ H0.out.cell rfl).mono ?_
  rintro e _ ⟨rfl, rfl⟩
  go_wp2_with fail
  refine (fillId_no _ g _ H0.out.cell rfl).mono ?_
  rintro e _ ⟨rfl, rfl⟩
  go_wp2_with fail
  refine (fillInt_no _ g _ H0.out.cell rfl).mono ?_
  rintro e _ ⟨rfl, rfl⟩
  go_wp2_with fail
  refine (fillText_no _ g _ H0.out.cell rfl).mono ?_
  rintro e _ ⟨rfl, rfl⟩
  go_wp2_with fail
  refine (fillRow_calls _ g _ H0.out.cell _ rfl E1 _ H0.out.on1.1 H0.out.on1.2.1 H0.out.on1.2.2.1 N1.out.num w0 HT.out H0.out.base H0.out.on1.2.2.2).mono ?_
  rintro e w5 ⟨rfl, X5, hr, hn, hk, hs⟩
  have H1 := Aside0.mk (H0.out.step1 hr hn hk hs)
  clear hr hn hk hs H0
  go_wp2_with fail
  refine (fillOp_calls _ g _ H1.out.cell _ rfl E2 _ H1.out.on2.1 H1.out.on2.2.1 H1.out.on2.2.2.1 N2.out.num w0 HT.out H1.out.base H1.out.on2.2.2.2).mono ?_
  rintro e w6 ⟨rfl, X6, hr, hn, hk, hs⟩
  have H2 := Aside0.mk (H1.out.step2 hr hn hk hs)
  clear hr hn hk hs H1
  go_wp2_with fail
  refine (fillSpan_no _ g _ H2.out.cell rfl).mono ?_
  rintro e _ ⟨rfl, rfl⟩
  go_wp2_with fail
  refine (fillChange_no _ g _ H2.out.cell rfl).mono ?_
  rintro e _ ⟨rfl, rfl⟩
  go_wp2_with fail
  refine (fillResult_calls _ g _ H2.out.cell _ rfl E3 _ H2.out.on3.1 H2.out.on3.2.1 H2.out.on3.2.2.1 N3.out.num w0 HT.out H2.out.base H2.out.on3.2.2.2).mono ?_
  rintro e w9 ⟨rfl, X9, hr, hn, hk, hs⟩
  have H3 := Aside0.mk (H2.out.step3 hr hn hk hs)
  clear hr hn hk hs H2
  go_wp2_with fail
  refine (fillMsg_calls _ g _ H3.out.cell _ rfl E4 _ H3.out.on4.1 H3.out.on4.2.1 H3.out.on4.2.2.1 N4.out.num w0 HT.out H3.out.base H3.out.on4.2.2.2).mono ?_
  rintro e w10 ⟨rfl, X10, hr, hn, hk, hs⟩
  have H4 := Aside0.mk (H3.out.step4 hr hn hk hs)
  clear hr hn hk hs H3
  go_wp2_with fail
  refine (fillPart_no _ g _ H4.out.cell rfl).mono ?_
  rintro e _ ⟨rfl, rfl⟩
  go_wp2_with fail
  refine (fillDeed_no _ g _ H4.out.cell rfl).mono ?_
  rintro e _ ⟨rfl, rfl⟩
  go_wp2_with fail
  refine (growByte_no _ g _ H4.out.cell rfl).mono ?_
  rintro e _ ⟨rfl, rfl⟩
  go_wp2_with fail
  refine (growId_no _ g _ H4.out.cell rfl).mono ?_
  rintro e _ ⟨rfl, rfl⟩
  go_wp2_with fail
  refine (growInt_no _ g _ H4.out.cell rfl).mono ?_
  rintro e _ ⟨rfl, rfl⟩
  go_wp2_with fail
  refine (growText_no _ g _ H4.out.cell rfl).mono ?_
  rintro e _ ⟨rfl, rfl⟩
  go_wp2_with fail
  refine (growRow_calls _ g _ H4.out.cell _ rfl E1 _ H4.out.on1.1 H4.out.on1.2.1 H4.out.on1.2.2.1 N1.out w0 HT.out H4.out.base H4.out.on1.2.2.2).mono ?_
  rintro e w17 ⟨rfl, X17, hr, hn, hk, hs⟩
  have H5 := Aside0.mk (H4.out.step1 hr hn hk hs)
  clear hr hn hk hs H4
  go_wp2_with fail
  refine (growOp_calls _ g _ H5.out.cell _ rfl E2 _ H5.out.on2.1 H5.out.on2.2.1 H5.out.on2.2.2.1 N2.out w0 HT.out H5.out.base H5.out.on2.2.2.2).mono ?_
  rintro e w18 ⟨rfl, X18, hr, hn, hk, hs⟩
  have H6 := Aside0.mk (H5.out.step2 hr hn hk hs)
  clear hr hn hk hs H5
  go_wp2_with fail
  refine (growSpan_no _ g _ H6.out.cell rfl).mono ?_
  rintro e _ ⟨rfl, rfl⟩
  go_wp2_with fail
  refine (growChange_no _ g _ H6.out.cell rfl).mono ?_
  rintro e _ ⟨rfl, rfl⟩
  go_wp2_with fail
  refine (growResult_calls _ g _ H6.out.cell _ rfl E3 _ H6.out.on3.1 H6.out.on3.2.1 H6.out.on3.2.2.1 N3.out w0 HT.out H6.out.base H6.out.on3.2.2.2).mono ?_
  rintro e w21 ⟨rfl, X21, hr, hn, hk, hs⟩
  have H7 := Aside0.mk (H6.out.step3 hr hn hk hs)
  clear hr hn hk hs H6
  go_wp2_with fail
  refine (growMsg_calls _ g _ H7.out.cell _ rfl E4 _ H7.out.on4.1 H7.out.on4.2.1 H7.out.on4.2.2.1 N4.out w0 HT.out H7.out.base H7.out.on4.2.2.2).mono ?_
  rintro e w22 ⟨rfl, X22, hr, hn, hk, hs⟩
  have H8 := Aside0.mk (H7.out.step4 hr hn hk hs)
  clear hr hn hk hs H7
  go_wp2_with fail
  refine (growPart_no _ g _ H8.out.cell rfl).mono ?_
  rintro e _ ⟨rfl, rfl⟩
  go_wp2_with fail
  refine (growDeed_no _ g _ H8.out.cell rfl).mono ?_
  rintro e _ ⟨rfl, rfl⟩
  go_wp2_with fail
  refine (lookByte_no _ g _ H8.out.cell rfl).mono ?_
  rintro e _ ⟨rfl, rfl⟩
  go_wp2_with fail
  refine (lookId_no _ g _ H8.out.cell rfl).mono ?_
  rintro e _ ⟨rfl, rfl⟩
  go_wp2_with fail
  refine (lookInt_no _ g _ H8.out.cell rfl).mono ?_
  rintro e _ ⟨rfl, rfl⟩
  go_wp2_with fail
  refine (lookText_no _ g _ H8.out.cell rfl).mono ?_
  rintro e _ ⟨rfl, rfl⟩
  go_wp2_with fail
  refine (lookRow_calls _ g _ H8.out.cell _ rfl E1 _ H8.out.on1.1 N1.out (TabOk.below HT.out H8.out.base)).mono ?_
  rintro e w29 ⟨rfl, hb⟩
  have H9 := Aside0.mk (H8.out.below hb)
  clear hb H8
  go_wp2_with fail
  refine (lookOp_calls _ g _ H9.out.cell _ rfl E2 _ H9.out.on2.1 N2.out (TabOk.below HT.out H9.out.base)).mono ?_
  rintro e w30 ⟨rfl, hb⟩
  have H10 := Aside0.mk (H9.out.below hb)
  clear hb H9
  go_wp2_with fail
  refine (lookSpan_no _ g _ H10.out.cell rfl).mono ?_
  rintro e _ ⟨rfl, rfl⟩
  go_wp2_with fail
  refine (lookChange_no _ g _ H10.out.cell rfl).mono ?_
  rintro e _ ⟨rfl, rfl⟩
  go_wp2_with fail
  refine (lookResult_calls _ g _ H10.out.cell _ rfl E3 _ H10.out.on3.1 N3.out (TabOk.below HT.out H10.out.base)).mono ?_
  rintro e w33 ⟨rfl, hb⟩
  have H11 := Aside0.mk (H10.out.below hb)
  clear hb H10
  go_wp2_with fail
  refine (lookMsg_calls _ g _ H11.out.cell _ rfl E4 _ H11.out.on4.1 N4.out (TabOk.below HT.out H11.out.base)).mono ?_
  rintro e w34 ⟨rfl, hb⟩
  have H12 := Aside0.mk (H11.out.below hb)
  clear hb H11
  go_wp2_with fail
  refine (lookPart_no _ g _ H12.out.cell rfl).mono ?_
  rintro e _ ⟨rfl, rfl⟩
  go_wp2_with fail
  refine (lookDeed_no _ g _ H12.out.cell rfl).mono ?_
  rintro e _ ⟨rfl, rfl⟩
  go_wp2
  go_ret
  exact ⟨rfl, H12.out.base⟩
end Go.Proofs.YtcohodkpppmaoaaGreatDoor.Q
namespace Go.Proofs.YtcohodkpppmaoaaGreatDoor.Q
open Go.RowKit Go.Proofs.YtcohodkpppmaoaaGreatDoorW.PrintWords Go.Proofs.YtcohodkpppmaoaaGreatDoorW.PrintLast Go.Proofs.YtcohodkpppmaoaaGreatDoorW.PrintMore
set_option linter.unusedVariables false
/-- The book at block g has n lists; its blocks are F; all were made behind w0. -/
def BookAt (w0 w : World) (g : Nat) (n : Int) (F OB : List Nat) : Prop :=
  ∃ vv1 vv2 vv3 vv4 E1 E2 E3 E4 F1 F2 F3 F4, Held w0 w g #[.int .i64 n, .slice none 0 0, .slice none 0 0, .slice none 0 0, .slice none 0 0, vv1, vv2, .slice none 0 0, .slice none 0 0, vv3, vv4, .slice none 0 0, .slice none 0 0] [⟨fdA 148 2, 184, F1, vv1, E1⟩, ⟨fdA 82 4, 187, F2, vv2, E2⟩, ⟨fdA 145 1, 199, F3, vv3, E3⟩, ⟨fdA 50 6, 170, F4, vv4, E4⟩] ∧ F = g :: allF [⟨fdA 148 2, 184, F1, vv1, E1⟩, ⟨fdA 82 4, 187, F2, vv2, E2⟩, ⟨fdA 145 1, 199, F3, vv3, E3⟩, ⟨fdA 50 6, 170, F4, vv4, E4⟩] ∧ 0 ≤ n ∧ (Fine E1 ∧ (E1.length : Int) ≤ n) ∧ (Fine E2 ∧ (E2.length : Int) ≤ n) ∧ (Fine E3 ∧ (E3.length : Int) ≤ n) ∧ (Fine E4 ∧ (E4.length : Int) ≤ n) ∧ OB = g :: (vv1.ownBlock.toList ++ (vv2.ownBlock.toList ++ (vv3.ownBlock.toList ++ (vv4.ownBlock.toList))))
section
variable {w0 w w' : World} {g : Nat} {n : Int} {F G OB : List Nat}
theorem BookAt.keeps (h : BookAt w0 w g n F OB) (hk : Keeps G w w') (hG : ∀ b ∈ G, b ∉ F) (hGf : ∀ b ∈ G, w0.heap.size ≤ b) : BookAt w0 w' g n F OB := by
  obtain ⟨vv1, vv2, vv3, vv4, E1, E2, E3, E4, F1, F2, F3, F4, H, rfl, h⟩ := h
  exact ⟨_, _, _, _, _, _, _, _, _, _, _, _, H.keeps hk hG hGf, rfl, h⟩
theorem BookAt.below (h : BookAt w0 w g n F OB) (hb : Below w.heap.size w w') : BookAt w0 w' g n F OB := h.keeps (G := []) (Keeps.of_below hb []) (fun _ hx => by cases hx) (fun _ hx => by cases hx)
theorem BookAt.lt (h : BookAt w0 w g n F OB) : ∀ b ∈ F, b < w.heap.size := by
  obtain ⟨vv1, vv2, vv3, vv4, E1, E2, E3, E4, F1, F2, F3, F4, H, rfl, h⟩ := h
  intro b hb
  rcases List.mem_cons.1 hb with rfl | hb
  · exact blk_lt H.cell
  · obtain ⟨x, hx, hb⟩ := List.mem_flatMap.1 hb
    exact Fd.row_lt (H.rows x hx) b hb
theorem BookAt.sub (h : BookAt w0 w g n F OB) : ∀ b ∈ OB, b ∈ F := by
  obtain ⟨vv1, vv2, vv3, vv4, E1, E2, E3, E4, F1, F2, F3, F4, H, rfl, h0, f1, f2, f3, f4, rfl⟩ := h
  intro b hb
  simp only [List.mem_cons, List.mem_append] at hb
  simp only [allF, List.flatMap_cons, List.flatMap_nil, List.append_nil, List.mem_cons, List.mem_append]
  rcases hb with h | h | h | h | h
  · exact .inl h
  · exact .inr (.inl (Fd.row_own H.on1.1 b h))
  · exact .inr (.inr (.inl (Fd.row_own H.on2.1 b h)))
  · exact .inr (.inr (.inr (.inl (Fd.row_own H.on3.1 b h))))
  · exact .inr (.inr (.inr (.inr (Fd.row_own H.on4.1 b h))))
theorem BookAt.far (h : BookAt w0 w g n F OB) : ∀ b ∈ F, w0.heap.size ≤ b := by
  obtain ⟨vv1, vv2, vv3, vv4, E1, E2, E3, E4, F1, F2, F3, F4, H, rfl, h⟩ := h
  exact H.far
theorem BookAt.base (h : BookAt w0 w g n F OB) : Below w0.heap.size w0 w := by
  obtain ⟨vv1, vv2, vv3, vv4, E1, E2, E3, E4, F1, F2, F3, F4, H, rfl, h⟩ := h
  exact H.base
theorem BookAt.new (hb : Below w0.heap.size w0 w) (hc : w.heap[g]? = some (.cells #[.int .i64 0, .slice none 0 0, .slice none 0 0, .slice none 0 0, .slice none 0 0, .slice none 0 0, .slice none 0 0, .slice none 0 0, .slice none 0 0, .slice none 0 0, .slice none 0 0, .slice none 0 0, .slice none 0 0] 44 (0, 0))) (hg : w0.heap.size ≤ g) : BookAt w0 w g 0 [g] [g] := by
  refine ⟨.slice none 0 0, .slice none 0 0, .slice none 0 0, .slice none 0 0, [], [], [], [], [], [], [], [], ⟨hb, hc, ?_, by simp [allF], by simpa [allF] using hg⟩, by simp [allF], by decide, ⟨(fun _ hx => by cases hx), by simp⟩, ⟨(fun _ hx => by cases hx), by simp⟩, ⟨(fun _ hx => by cases hx), by simp⟩, ⟨(fun _ hx => by cases hx), by simp⟩, by simp [Value.ownBlock]⟩
  intro x hx
  simp only [List.mem_cons, List.not_mem_nil, or_false] at hx
  rcases hx with rfl | rfl | rfl | rfl <;> exact Fd.row_nil _ _ _
theorem BookAt.apart (h : BookAt w0 w g n F OB) (hT : TabOk w0) : Calls Tryz.prog 26 #[.pointer (some ⟨g, 0, none⟩)] w fun e w' => e = .returned (.bool true) ∧ Below w0.heap.size w0 w' := by
  obtain ⟨vv1, vv2, vv3, vv4, E1, E2, E3, E4, F1, F2, F3, F4, H, rfl, h0, f1, f2, f3, f4, ho⟩ := h
  exact apart_calls w0 w g n vv1 vv2 vv3 vv4 E1 E2 E3 E4 F1 F2 F3 F4 H hT f1.1 f2.1 f3.1 f4.1
theorem Fine.snoc {E : List Ent} (h : Fine E) {x : Ent} (h0 : 0 ≤ x.num) (h1 : x.num ≤ 1000000000000000) (h2 : x.len ≤ 1000000000) : Fine (E ++ [x]) := by
  intro y hy
  rcases List.mem_append.1 hy with hy | hy
  · exact h y hy
  · obtain rfl : y = x := by simpa using hy
    exact ⟨⟨h0, h1⟩, h2⟩
end
theorem BookAt.keepRow {w0 w : World} {g : Nat} {n : Int} {F OB : List Nat} (h : BookAt w0 w g n F OB) (hn : n ≤ 1000000000) (A : Option Addr) (len c : Nat) (inner : List Value) (ho : w.ownsRow 0 148 2 (.slice A len c) len inner) (hl : ∀ b ∈ (Value.slice A len c).ownBlock.toList, b ∉ F ∧ w0.heap.size ≤ b) (hlen : len ≤ 1000000000) :
    Calls Tryz.prog 208 #[.pointer (some ⟨g, 0, none⟩), .slice A len c] w fun e w' => e = .returned (.tuple #[]) ∧ ∃ F' OB', BookAt w0 w' g (n + 1) F' OB' ∧ Keeps OB w w' ∧ (∀ b ∈ F', b ∈ F ∨ b ∈ (Value.slice A len c).ownBlock.toList ∨ w.heap.size ≤ b) ∧ ∀ b ∈ OB', b ∈ OB ∨ w.heap.size ≤ b := by
  obtain ⟨vv1, vv2, vv3, vv4, E1, E2, E3, E4, F1, F2, F3, F4, H, rfl, h0, f1, f2, f3, f4, ho'⟩ := h
  have hlt := fun b hb => (BookAt.lt ⟨_, _, _, _, _, _, _, _, _, _, _, _, H, rfl, h0, f1, f2, f3, f4, rfl⟩ : ∀ b ∈ g :: allF [⟨fdA 148 2, 184, F1, vv1, E1⟩, ⟨fdA 82 4, 187, F2, vv2, E2⟩, ⟨fdA 145 1, 199, F3, vv3, E3⟩, ⟨fdA 50 6, 170, F4, vv4, E4⟩], b < w.heap.size) b hb
  have hmem : ∀ b ∈ F1, b ∈ g :: allF [⟨fdA 148 2, 184, F1, vv1, E1⟩, ⟨fdA 82 4, 187, F2, vv2, E2⟩, ⟨fdA 145 1, 199, F3, vv3, E3⟩, ⟨fdA 50 6, 170, F4, vv4, E4⟩] := fun b hb => by simp [allF, hb]
  refine (keepRow_callsH w g n (.slice none 0 0) (.slice none 0 0) (.slice none 0 0) (.slice none 0 0) vv1 vv2 (.slice none 0 0) (.slice none 0 0) vv3 vv4 (.slice none 0 0) (.slice none 0 0) H.cell E1 F1 H.on1.1 (List.nodup_cons.2 ⟨H.on1.2.2.1, H.on1.2.1⟩) A len c inner ho (fun b hb hx => (hl b hb).1 (by
    rcases List.mem_cons.1 hx with rfl | hx
    · simp
    · exact hmem b hx)) (by have := f1.2; omega) h0 (by omega)).mono ?_
  rintro e w' ⟨F', v', rfl, hc, hr, hnd, hk, hs, hv⟩
  have hown := Fd.row_own H.on1.1
  subst ho'
  have H2 := Held.step0 (pre := []) (x := ⟨fdA 148 2, 184, F1, vv1, E1⟩) (post := [⟨fdA 82 4, 187, F2, vv2, E2⟩, ⟨fdA 145 1, 199, F3, vv3, E3⟩, ⟨fdA 50 6, 170, F4, vv4, E4⟩]) H hc hr (List.nodup_cons.1 hnd).2 (Value.slice A len c).ownBlock.toList (hk.mono (fun b hb => .inl (by rcases List.mem_cons.1 hb with h | h; (rw [h]; simp); exact List.mem_cons_of_mem _ (hown b h)))) (fun b hb => (hl b hb).1) (fun b hb => (hl b hb).2) hs (List.nodup_cons.1 hnd).1
  refine ⟨rfl, _, _, ⟨_, _, _, _, _, _, _, _, _, _, _, _, H2, rfl, by omega, ⟨f1.1.snoc (show 0 ≤ n + 1 by omega) (show n + 1 ≤ 1000000000000000 by omega) hlen, by have := f1.2; rw [List.length_append, List.length_singleton]; omega⟩, ⟨f2.1, by have := f2.2; omega⟩, ⟨f3.1, by have := f3.2; omega⟩, ⟨f4.1, by have := f4.2; omega⟩, rfl⟩, hk.mono (fun b hb => .inl ?_), fun b hb => ?_, fun b hb => ?_⟩
  · simp only [List.mem_cons, List.mem_append] at hb ⊢
    rcases hb with h | h <;> simp [h]
  · have hb2 : b = g ∨ (b ∈ F' ∨ b ∈ F2 ∨ b ∈ F3 ∨ b ∈ F4) := by simpa [allF, or_assoc, or_comm, or_left_comm] using hb
    rcases hb2 with rfl | hb2 | hb2
    · exact .inl (by simp)
    · rcases hs b hb2 with h1 | h1 | h1
      · exact .inl (hmem b h1)
      · exact .inr (.inl h1)
      · exact .inr (.inr h1)
    · refine .inl ?_
      simp only [allF, List.flatMap_cons, List.flatMap_nil, List.append_nil, List.mem_cons, List.mem_append]
      rcases hb2 with hb2 | hb2 | hb2 <;> simp [hb2]
  · simp only [List.mem_cons, List.mem_append] at hb ⊢
    rcases hb with h | h | h | h | h
    · simp [h]
    · rcases hv b h with h | h
      · simp [h]
      · exact .inr h
    · simp [h]
    · simp [h]
    · simp [h]
set_option maxHeartbeats 1600000 in
set_option maxRecDepth 100000 in
theorem BookAt.Rows {w0 w : World} {g : Nat} {n : Int} {F OB : List Nat} (h : BookAt w0 w g n F OB) (hn : n ≤ 1000000000) (A : Option Addr) (len c : Nat) (inner : List Value) (ho : w.ownsRow 0 148 2 (.slice A len c) len inner) (hl : ∀ b ∈ (Value.slice A len c).ownBlock.toList, b ∉ F ∧ w0.heap.size ≤ b) (hlen : len ≤ 1000000000) :
    Calls Tryz.prog 202 #[.pointer (some ⟨g, 0, none⟩), .slice A len c] w fun e w' => e = .returned (.tuple #[]) ∧ ∃ F' OB', BookAt w0 w' g (n + 1) F' OB' ∧ Keeps OB w w' ∧ (∀ b ∈ F', b ∈ F ∨ b ∈ (Value.slice A len c).ownBlock.toList ∨ w.heap.size ≤ b) ∧ ∀ b ∈ OB', b ∈ OB ∨ w.heap.size ≤ b := by
  have H := Aside0.mk h
  have HO := Aside0.mk ho
  have HL := Aside0.mk hl
  clear h ho hl
  go_enter Tryz.func202, Tryz.ntmps202
  go_wp2_with fail
  refine (H.out.keepRow hn A len c inner HO.out HL.out hlen).mono ?_
  rintro e w' ⟨rfl, h⟩
  have HR := Aside0.mk h
  clear h
  go_wp2
  go_end0
  exact ⟨rfl, HR.out⟩
theorem BookAt.keepOp {w0 w : World} {g : Nat} {n : Int} {F OB : List Nat} (h : BookAt w0 w g n F OB) (hn : n ≤ 1000000000) (A : Option Addr) (len c : Nat) (inner : List Value) (ho : w.ownsRow 0 82 4 (.slice A len c) len inner) (hl : ∀ b ∈ (Value.slice A len c).ownBlock.toList, b ∉ F ∧ w0.heap.size ≤ b) (hlen : len ≤ 1000000000) :
    Calls Tryz.prog 137 #[.pointer (some ⟨g, 0, none⟩), .slice A len c] w fun e w' => e = .returned (.tuple #[]) ∧ ∃ F' OB', BookAt w0 w' g (n + 1) F' OB' ∧ Keeps OB w w' ∧ (∀ b ∈ F', b ∈ F ∨ b ∈ (Value.slice A len c).ownBlock.toList ∨ w.heap.size ≤ b) ∧ ∀ b ∈ OB', b ∈ OB ∨ w.heap.size ≤ b := by
  obtain ⟨vv1, vv2, vv3, vv4, E1, E2, E3, E4, F1, F2, F3, F4, H, rfl, h0, f1, f2, f3, f4, ho'⟩ := h
  have hlt := fun b hb => (BookAt.lt ⟨_, _, _, _, _, _, _, _, _, _, _, _, H, rfl, h0, f1, f2, f3, f4, rfl⟩ : ∀ b ∈ g :: allF [⟨fdA 148 2, 184, F1, vv1, E1⟩, ⟨fdA 82 4, 187, F2, vv2, E2⟩, ⟨fdA 145 1, 199, F3, vv3, E3⟩, ⟨fdA 50 6, 170, F4, vv4, E4⟩], b < w.heap.size) b hb
  have hmem : ∀ b ∈ F2, b ∈ g :: allF [⟨fdA 148 2, 184, F1, vv1, E1⟩, ⟨fdA 82 4, 187, F2, vv2, E2⟩, ⟨fdA 145 1, 199, F3, vv3, E3⟩, ⟨fdA 50 6, 170, F4, vv4, E4⟩] := fun b hb => by simp [allF, hb]
  refine (keepOp_callsH w g n (.slice none 0 0) (.slice none 0 0) (.slice none 0 0) (.slice none 0 0) vv1 vv2 (.slice none 0 0) (.slice none 0 0) vv3 vv4 (.slice none 0 0) (.slice none 0 0) H.cell E2 F2 H.on2.1 (List.nodup_cons.2 ⟨H.on2.2.2.1, H.on2.2.1⟩) A len c inner ho (fun b hb hx => (hl b hb).1 (by
    rcases List.mem_cons.1 hx with rfl | hx
    · simp
    · exact hmem b hx)) (by have := f2.2; omega) h0 (by omega)).mono ?_
  rintro e w' ⟨F', v', rfl, hc, hr, hnd, hk, hs, hv⟩
  have hown := Fd.row_own H.on2.1
  subst ho'
  have H2 := Held.step0 (pre := [⟨fdA 148 2, 184, F1, vv1, E1⟩]) (x := ⟨fdA 82 4, 187, F2, vv2, E2⟩) (post := [⟨fdA 145 1, 199, F3, vv3, E3⟩, ⟨fdA 50 6, 170, F4, vv4, E4⟩]) H hc hr (List.nodup_cons.1 hnd).2 (Value.slice A len c).ownBlock.toList (hk.mono (fun b hb => .inl (by rcases List.mem_cons.1 hb with h | h; (rw [h]; simp); exact List.mem_cons_of_mem _ (hown b h)))) (fun b hb => (hl b hb).1) (fun b hb => (hl b hb).2) hs (List.nodup_cons.1 hnd).1
  refine ⟨rfl, _, _, ⟨_, _, _, _, _, _, _, _, _, _, _, _, H2, rfl, by omega, ⟨f1.1, by have := f1.2; omega⟩, ⟨f2.1.snoc (show 0 ≤ n + 1 by omega) (show n + 1 ≤ 1000000000000000 by omega) hlen, by have := f2.2; rw [List.length_append, List.length_singleton]; omega⟩, ⟨f3.1, by have := f3.2; omega⟩, ⟨f4.1, by have := f4.2; omega⟩, rfl⟩, hk.mono (fun b hb => .inl ?_), fun b hb => ?_, fun b hb => ?_⟩
  · simp only [List.mem_cons, List.mem_append] at hb ⊢
    rcases hb with h | h <;> simp [h]
  · have hb2 : b = g ∨ (b ∈ F' ∨ b ∈ F1 ∨ b ∈ F3 ∨ b ∈ F4) := by simpa [allF, or_assoc, or_comm, or_left_comm] using hb
    rcases hb2 with rfl | hb2 | hb2
    · exact .inl (by simp)
    · rcases hs b hb2 with h1 | h1 | h1
      · exact .inl (hmem b h1)
      · exact .inr (.inl h1)
      · exact .inr (.inr h1)
    · refine .inl ?_
      simp only [allF, List.flatMap_cons, List.flatMap_nil, List.append_nil, List.mem_cons, List.mem_append]
      rcases hb2 with hb2 | hb2 | hb2 <;> simp [hb2]
  · simp only [List.mem_cons, List.mem_append] at hb ⊢
    rcases hb with h | h | h | h | h
    · simp [h]
    · simp [h]
    · rcases hv b h with h | h
      · simp [h]
      · exact .inr h
    · simp [h]
    · simp [h]
set_option maxHeartbeats 1600000 in
set_option maxRecDepth 100000 in
theorem BookAt.Ops {w0 w : World} {g : Nat} {n : Int} {F OB : List Nat} (h : BookAt w0 w g n F OB) (hn : n ≤ 1000000000) (A : Option Addr) (len c : Nat) (inner : List Value) (ho : w.ownsRow 0 82 4 (.slice A len c) len inner) (hl : ∀ b ∈ (Value.slice A len c).ownBlock.toList, b ∉ F ∧ w0.heap.size ≤ b) (hlen : len ≤ 1000000000) :
    Calls Tryz.prog 50 #[.pointer (some ⟨g, 0, none⟩), .slice A len c] w fun e w' => e = .returned (.tuple #[]) ∧ ∃ F' OB', BookAt w0 w' g (n + 1) F' OB' ∧ Keeps OB w w' ∧ (∀ b ∈ F', b ∈ F ∨ b ∈ (Value.slice A len c).ownBlock.toList ∨ w.heap.size ≤ b) ∧ ∀ b ∈ OB', b ∈ OB ∨ w.heap.size ≤ b := by
  have H := Aside0.mk h
  have HO := Aside0.mk ho
  have HL := Aside0.mk hl
  clear h ho hl
  go_enter Tryz.func50, Tryz.ntmps50
  go_wp2_with fail
  refine (H.out.keepOp hn A len c inner HO.out HL.out hlen).mono ?_
  rintro e w' ⟨rfl, h⟩
  have HR := Aside0.mk h
  clear h
  go_wp2
  go_end0
  exact ⟨rfl, HR.out⟩
theorem BookAt.keepResult {w0 w : World} {g : Nat} {n : Int} {F OB : List Nat} (h : BookAt w0 w g n F OB) (hn : n ≤ 1000000000) (A : Option Addr) (len c : Nat) (inner : List Value) (ho : w.ownsRow 0 145 1 (.slice A len c) len inner) (hl : ∀ b ∈ (Value.slice A len c).ownBlock.toList, b ∉ F ∧ w0.heap.size ≤ b) (hlen : len ≤ 1000000000) :
    Calls Tryz.prog 150 #[.pointer (some ⟨g, 0, none⟩), .slice A len c] w fun e w' => e = .returned (.tuple #[]) ∧ ∃ F' OB', BookAt w0 w' g (n + 1) F' OB' ∧ Keeps OB w w' ∧ (∀ b ∈ F', b ∈ F ∨ b ∈ (Value.slice A len c).ownBlock.toList ∨ w.heap.size ≤ b) ∧ ∀ b ∈ OB', b ∈ OB ∨ w.heap.size ≤ b := by
  obtain ⟨vv1, vv2, vv3, vv4, E1, E2, E3, E4, F1, F2, F3, F4, H, rfl, h0, f1, f2, f3, f4, ho'⟩ := h
  have hlt := fun b hb => (BookAt.lt ⟨_, _, _, _, _, _, _, _, _, _, _, _, H, rfl, h0, f1, f2, f3, f4, rfl⟩ : ∀ b ∈ g :: allF [⟨fdA 148 2, 184, F1, vv1, E1⟩, ⟨fdA 82 4, 187, F2, vv2, E2⟩, ⟨fdA 145 1, 199, F3, vv3, E3⟩, ⟨fdA 50 6, 170, F4, vv4, E4⟩], b < w.heap.size) b hb
  have hmem : ∀ b ∈ F3, b ∈ g :: allF [⟨fdA 148 2, 184, F1, vv1, E1⟩, ⟨fdA 82 4, 187, F2, vv2, E2⟩, ⟨fdA 145 1, 199, F3, vv3, E3⟩, ⟨fdA 50 6, 170, F4, vv4, E4⟩] := fun b hb => by simp [allF, hb]
  refine (keepResult_callsH w g n (.slice none 0 0) (.slice none 0 0) (.slice none 0 0) (.slice none 0 0) vv1 vv2 (.slice none 0 0) (.slice none 0 0) vv3 vv4 (.slice none 0 0) (.slice none 0 0) H.cell E3 F3 H.on3.1 (List.nodup_cons.2 ⟨H.on3.2.2.1, H.on3.2.1⟩) A len c inner ho (fun b hb hx => (hl b hb).1 (by
    rcases List.mem_cons.1 hx with rfl | hx
    · simp
    · exact hmem b hx)) (by have := f3.2; omega) h0 (by omega)).mono ?_
  rintro e w' ⟨F', v', rfl, hc, hr, hnd, hk, hs, hv⟩
  have hown := Fd.row_own H.on3.1
  subst ho'
  have H2 := Held.step0 (pre := [⟨fdA 148 2, 184, F1, vv1, E1⟩, ⟨fdA 82 4, 187, F2, vv2, E2⟩]) (x := ⟨fdA 145 1, 199, F3, vv3, E3⟩) (post := [⟨fdA 50 6, 170, F4, vv4, E4⟩]) H hc hr (List.nodup_cons.1 hnd).2 (Value.slice A len c).ownBlock.toList (hk.mono (fun b hb => .inl (by rcases List.mem_cons.1 hb with h | h; (rw [h]; simp); exact List.mem_cons_of_mem _ (hown b h)))) (fun b hb => (hl b hb).1) (fun b hb => (hl b hb).2) hs (List.nodup_cons.1 hnd).1
  refine ⟨rfl, _, _, ⟨_, _, _, _, _, _, _, _, _, _, _, _, H2, rfl, by omega, ⟨f1.1, by have := f1.2; omega⟩, ⟨f2.1, by have := f2.2; omega⟩, ⟨f3.1.snoc (show 0 ≤ n + 1 by omega) (show n + 1 ≤ 1000000000000000 by omega) hlen, by have := f3.2; rw [List.length_append, List.length_singleton]; omega⟩, ⟨f4.1, by have := f4.2; omega⟩, rfl⟩, hk.mono (fun b hb => .inl ?_), fun b hb => ?_, fun b hb => ?_⟩
  · simp only [List.mem_cons, List.mem_append] at hb ⊢
    rcases hb with h | h <;> simp [h]
  · have hb2 : b = g ∨ (b ∈ F' ∨ b ∈ F1 ∨ b ∈ F2 ∨ b ∈ F4) := by simpa [allF, or_assoc, or_comm, or_left_comm] using hb
    rcases hb2 with rfl | hb2 | hb2
    · exact .inl (by simp)
    · rcases hs b hb2 with h1 | h1 | h1
      · exact .inl (hmem b h1)
      · exact .inr (.inl h1)
      · exact .inr (.inr h1)
    · refine .inl ?_
      simp only [allF, List.flatMap_cons, List.flatMap_nil, List.append_nil, List.mem_cons, List.mem_append]
      rcases hb2 with hb2 | hb2 | hb2 <;> simp [hb2]
  · simp only [List.mem_cons, List.mem_append] at hb ⊢
    rcases hb with h | h | h | h | h
    · simp [h]
    · simp [h]
    · simp [h]
    · rcases hv b h with h | h
      · simp [h]
      · exact .inr h
    · simp [h]
theorem BookAt.keepMsg {w0 w : World} {g : Nat} {n : Int} {F OB : List Nat} (h : BookAt w0 w g n F OB) (hn : n ≤ 1000000000) (A : Option Addr) (len c : Nat) (inner : List Value) (ho : w.ownsRow 0 50 6 (.slice A len c) len inner) (hl : ∀ b ∈ (Value.slice A len c).ownBlock.toList, b ∉ F ∧ w0.heap.size ≤ b) (hlen : len ≤ 1000000000) :
    Calls Tryz.prog 73 #[.pointer (some ⟨g, 0, none⟩), .slice A len c] w fun e w' => e = .returned (.tuple #[]) ∧ ∃ F' OB', BookAt w0 w' g (n + 1) F' OB' ∧ Keeps OB w w' ∧ (∀ b ∈ F', b ∈ F ∨ b ∈ (Value.slice A len c).ownBlock.toList ∨ w.heap.size ≤ b) ∧ ∀ b ∈ OB', b ∈ OB ∨ w.heap.size ≤ b := by
  obtain ⟨vv1, vv2, vv3, vv4, E1, E2, E3, E4, F1, F2, F3, F4, H, rfl, h0, f1, f2, f3, f4, ho'⟩ := h
  have hlt := fun b hb => (BookAt.lt ⟨_, _, _, _, _, _, _, _, _, _, _, _, H, rfl, h0, f1, f2, f3, f4, rfl⟩ : ∀ b ∈ g :: allF [⟨fdA 148 2, 184, F1, vv1, E1⟩, ⟨fdA 82 4, 187, F2, vv2, E2⟩, ⟨fdA 145 1, 199, F3, vv3, E3⟩, ⟨fdA 50 6, 170, F4, vv4, E4⟩], b < w.heap.size) b hb
  have hmem : ∀ b ∈ F4, b ∈ g :: allF [⟨fdA 148 2, 184, F1, vv1, E1⟩, ⟨fdA 82 4, 187, F2, vv2, E2⟩, ⟨fdA 145 1, 199, F3, vv3, E3⟩, ⟨fdA 50 6, 170, F4, vv4, E4⟩] := fun b hb => by simp [allF, hb]
  refine (keepMsg_callsH w g n (.slice none 0 0) (.slice none 0 0) (.slice none 0 0) (.slice none 0 0) vv1 vv2 (.slice none 0 0) (.slice none 0 0) vv3 vv4 (.slice none 0 0) (.slice none 0 0) H.cell E4 F4 H.on4.1 (List.nodup_cons.2 ⟨H.on4.2.2.1, H.on4.2.1⟩) A len c inner ho (fun b hb hx => (hl b hb).1 (by
    rcases List.mem_cons.1 hx with rfl | hx
    · simp
    · exact hmem b hx)) (by have := f4.2; omega) h0 (by omega)).mono ?_
  rintro e w' ⟨F', v', rfl, hc, hr, hnd, hk, hs, hv⟩
  have hown := Fd.row_own H.on4.1
  subst ho'
  have H2 := Held.step0 (pre := [⟨fdA 148 2, 184, F1, vv1, E1⟩, ⟨fdA 82 4, 187, F2, vv2, E2⟩, ⟨fdA 145 1, 199, F3, vv3, E3⟩]) (x := ⟨fdA 50 6, 170, F4, vv4, E4⟩) (post := []) H hc hr (List.nodup_cons.1 hnd).2 (Value.slice A len c).ownBlock.toList (hk.mono (fun b hb => .inl (by rcases List.mem_cons.1 hb with h | h; (rw [h]; simp); exact List.mem_cons_of_mem _ (hown b h)))) (fun b hb => (hl b hb).1) (fun b hb => (hl b hb).2) hs (List.nodup_cons.1 hnd).1
  refine ⟨rfl, _, _, ⟨_, _, _, _, _, _, _, _, _, _, _, _, H2, rfl, by omega, ⟨f1.1, by have := f1.2; omega⟩, ⟨f2.1, by have := f2.2; omega⟩, ⟨f3.1, by have := f3.2; omega⟩, ⟨f4.1.snoc (show 0 ≤ n + 1 by omega) (show n + 1 ≤ 1000000000000000 by omega) hlen, by have := f4.2; rw [List.length_append, List.length_singleton]; omega⟩, rfl⟩, hk.mono (fun b hb => .inl ?_), fun b hb => ?_, fun b hb => ?_⟩
  · simp only [List.mem_cons, List.mem_append] at hb ⊢
    rcases hb with h | h <;> simp [h]
  · have hb2 : b = g ∨ (b ∈ F' ∨ b ∈ F1 ∨ b ∈ F2 ∨ b ∈ F3) := by simpa [allF, or_assoc, or_comm, or_left_comm] using hb
    rcases hb2 with rfl | hb2 | hb2
    · exact .inl (by simp)
    · rcases hs b hb2 with h1 | h1 | h1
      · exact .inl (hmem b h1)
      · exact .inr (.inl h1)
      · exact .inr (.inr h1)
    · refine .inl ?_
      simp only [allF, List.flatMap_cons, List.flatMap_nil, List.append_nil, List.mem_cons, List.mem_append]
      rcases hb2 with hb2 | hb2 | hb2 <;> simp [hb2]
  · simp only [List.mem_cons, List.mem_append] at hb ⊢
    rcases hb with h | h | h | h | h
    · simp [h]
    · simp [h]
    · simp [h]
    · simp [h]
    · rcases hv b h with h | h
      · simp [h]
      · exact .inr h
end Go.Proofs.YtcohodkpppmaoaaGreatDoor.Q
namespace Go.Proofs.YtcohodkpppmaoaaGreatDoor.Q
open Go.RowKit Go.Proofs.YtcohodkpppmaoaaGreatDoorW.PrintWords Go.Proofs.YtcohodkpppmaoaaGreatDoorW.PrintLast Go.Proofs.YtcohodkpppmaoaaGreatDoorW.PrintMore
set_option linter.unusedVariables false
/-- n lists are kept; their blocks are L (and what the book has made behind G). -/
def Pile (w0 w : World) (g : Nat) (n : Int) (G : Nat) (L O : List Nat) : Prop := ∃ F OB, BookAt w0 w g n F OB ∧ (∀ b ∈ F, b ∈ L ∨ G ≤ b) ∧ G ≤ w.heap.size ∧ (∀ b ∈ OB, b ∈ O ∨ G ≤ b) ∧ ∀ b ∈ O, b ∈ L ∨ G ≤ b
/-- What lies below G and is not kept stays. -/
def Spared (G : Nat) (L : List Nat) (w w' : World) : Prop := ∀ b, b < G → b ∉ L → w'.heap[b]? = w.heap[b]?
section
variable {w0 w w' : World} {g G : Nat} {n : Int} {F L O : List Nat}
theorem Pile.new (hb : Below w0.heap.size w0 w) (hc : w.heap[g]? = some (.cells #[.int .i64 0, .slice none 0 0, .slice none 0 0, .slice none 0 0, .slice none 0 0, .slice none 0 0, .slice none 0 0, .slice none 0 0, .slice none 0 0, .slice none 0 0, .slice none 0 0, .slice none 0 0, .slice none 0 0] 44 (0, 0))) (hg : w0.heap.size ≤ g) : Pile w0 w g 0 g [] [] :=
  ⟨[g], [g], BookAt.new hb hc hg, fun b hb => .inr (by simp at hb; omega), Nat.le_of_lt (blk_lt hc), fun b hb => .inr (by simp at hb; omega), fun _ hb => by cases hb⟩
theorem Pile.apart (h : Pile w0 w g n G L O) (hT : TabOk w0) : Calls Tryz.prog 26 #[.pointer (some ⟨g, 0, none⟩)] w fun e w' => e = .returned (.bool true) ∧ Below w0.heap.size w0 w' := by
  obtain ⟨F, OB, h, _⟩ := h
  exact h.apart hT
theorem Pile.below (h : Pile w0 w g n G L O) (hb : Below w.heap.size w w') : Pile w0 w' g n G L O := by
  obtain ⟨F, OB, h1, h2, h3, h4⟩ := h
  exact ⟨F, OB, h1.below hb, h2, Nat.le_trans h3 hb.size, h4⟩
theorem Pile.base (h : Pile w0 w g n G L O) : Below w0.heap.size w0 w := by
  obtain ⟨F, OB, h1, _⟩ := h
  exact h1.base
theorem Spared.row {α : Type} {d : Fd α} {e : Nat} {F : List Nat} {v : Value} {xs : List α} (h : Spared G L w w') (hr : Fd.Row d e w F v xs) (hF : ∀ b ∈ F, b < G ∧ b ∉ L) : Fd.Row d e w' F v xs := Fd.row_move (fun b hb => h b (hF b hb).1 (hF b hb).2) hr
theorem Spared.own {base e size len : Nat} {v : Value} {xs : List Value} (h : Spared G L w w') (ho : w.ownsRow base e size v len xs) (hF : ∀ b ∈ v.ownBlock.toList, b < G ∧ b ∉ L) : w'.ownsRow base e size v len xs := own_move ho (fun k hk => h k (hF k (by rw [hk]; simp)).1 (hF k (by rw [hk]; simp)).2)
end
theorem Pile.keepRow {w0 w : World} {g G : Nat} {n : Int} {L O : List Nat} (h : Pile w0 w g n G L O) (hn : n ≤ 1000000000) (A : Option Addr) (len c : Nat) (inner : List Value) (ho : w.ownsRow 0 148 2 (.slice A len c) len inner) (hl : ∀ b ∈ (Value.slice A len c).ownBlock.toList, (b < G ∧ b ∉ L) ∧ w0.heap.size ≤ b) (hlen : len ≤ 1000000000) :
    Calls Tryz.prog 208 #[.pointer (some ⟨g, 0, none⟩), .slice A len c] w fun e w' => e = .returned (.tuple #[]) ∧ Pile w0 w' g (n + 1) G (L ++ (Value.slice A len c).ownBlock.toList) O ∧ Spared G O w w' := by
  obtain ⟨F, OB, h1, h2, h3, h5, h6⟩ := h
  refine (h1.keepRow hn A len c inner ho (fun b hb => ⟨fun hx => ?_, (hl b hb).2⟩) hlen).mono ?_
  · rcases h2 b hx with h | h
    · exact (hl b hb).1.2 h
    · have := (hl b hb).1.1
      omega
  · rintro e w' ⟨rfl, F', OB', h4, hk, hs, ht⟩
    refine ⟨rfl, ⟨F', OB', h4, fun b hb => ?_, Nat.le_trans h3 hk.size, fun b hb => (ht b hb).elim (h5 b) (fun h => .inr (Nat.le_trans h3 h)), fun b hb => (h6 b hb).imp_left (fun h => List.mem_append_left _ h)⟩, fun b hb hx => hk.block b (Nat.lt_of_lt_of_le hb h3) (fun hf => ?_)⟩
    · rcases hs b hb with h | h | h
      · exact (h2 b h).imp_left (fun h => List.mem_append_left _ h)
      · exact .inl (List.mem_append_right _ h)
      · exact .inr (Nat.le_trans h3 h)
    · rcases h5 b hf with h | h
      · exact hx h
      · omega
theorem Pile.Rows {w0 w : World} {g G : Nat} {n : Int} {L O : List Nat} (h : Pile w0 w g n G L O) (hn : n ≤ 1000000000) (A : Option Addr) (len c : Nat) (inner : List Value) (ho : w.ownsRow 0 148 2 (.slice A len c) len inner) (hl : ∀ b ∈ (Value.slice A len c).ownBlock.toList, (b < G ∧ b ∉ L) ∧ w0.heap.size ≤ b) (hlen : len ≤ 1000000000) :
    Calls Tryz.prog 202 #[.pointer (some ⟨g, 0, none⟩), .slice A len c] w fun e w' => e = .returned (.tuple #[]) ∧ Pile w0 w' g (n + 1) G (L ++ (Value.slice A len c).ownBlock.toList) O ∧ Spared G O w w' := by
  obtain ⟨F, OB, h1, h2, h3, h5, h6⟩ := h
  refine (h1.Rows hn A len c inner ho (fun b hb => ⟨fun hx => ?_, (hl b hb).2⟩) hlen).mono ?_
  · rcases h2 b hx with h | h
    · exact (hl b hb).1.2 h
    · have := (hl b hb).1.1
      omega
  · rintro e w' ⟨rfl, F', OB', h4, hk, hs, ht⟩
    refine ⟨rfl, ⟨F', OB', h4, fun b hb => ?_, Nat.le_trans h3 hk.size, fun b hb => (ht b hb).elim (h5 b) (fun h => .inr (Nat.le_trans h3 h)), fun b hb => (h6 b hb).imp_left (fun h => List.mem_append_left _ h)⟩, fun b hb hx => hk.block b (Nat.lt_of_lt_of_le hb h3) (fun hf => ?_)⟩
    · rcases hs b hb with h | h | h
      · exact (h2 b h).imp_left (fun h => List.mem_append_left _ h)
      · exact .inl (List.mem_append_right _ h)
      · exact .inr (Nat.le_trans h3 h)
    · rcases h5 b hf with h | h
      · exact hx h
      · omega
theorem Pile.keepOp {w0 w : World} {g G : Nat} {n : Int} {L O : List Nat} (h : Pile w0 w g n G L O) (hn : n ≤ 1000000000) (A : Option Addr) (len c : Nat) (inner : List Value) (ho : w.ownsRow 0 82 4 (.slice A len c) len inner) (hl : ∀ b ∈ (Value.slice A len c).ownBlock.toList, (b < G ∧ b ∉ L) ∧ w0.heap.size ≤ b) (hlen : len ≤ 1000000000) :
    Calls Tryz.prog 137 #[.pointer (some ⟨g, 0, none⟩), .slice A len c] w fun e w' => e = .returned (.tuple #[]) ∧ Pile w0 w' g (n + 1) G (L ++ (Value.slice A len c).ownBlock.toList) O ∧ Spared G O w w' := by
  obtain ⟨F, OB, h1, h2, h3, h5, h6⟩ := h
  refine (h1.keepOp hn A len c inner ho (fun b hb => ⟨fun hx => ?_, (hl b hb).2⟩) hlen).mono ?_
  · rcases h2 b hx with h | h
    · exact (hl b hb).1.2 h
    · have := (hl b hb).1.1
      omega
  · rintro e w' ⟨rfl, F', OB', h4, hk, hs, ht⟩
    refine ⟨rfl, ⟨F', OB', h4, fun b hb => ?_, Nat.le_trans h3 hk.size, fun b hb => (ht b hb).elim (h5 b) (fun h => .inr (Nat.le_trans h3 h)), fun b hb => (h6 b hb).imp_left (fun h => List.mem_append_left _ h)⟩, fun b hb hx => hk.block b (Nat.lt_of_lt_of_le hb h3) (fun hf => ?_)⟩
    · rcases hs b hb with h | h | h
      · exact (h2 b h).imp_left (fun h => List.mem_append_left _ h)
      · exact .inl (List.mem_append_right _ h)
      · exact .inr (Nat.le_trans h3 h)
    · rcases h5 b hf with h | h
      · exact hx h
      · omega
theorem Pile.Ops {w0 w : World} {g G : Nat} {n : Int} {L O : List Nat} (h : Pile w0 w g n G L O) (hn : n ≤ 1000000000) (A : Option Addr) (len c : Nat) (inner : List Value) (ho : w.ownsRow 0 82 4 (.slice A len c) len inner) (hl : ∀ b ∈ (Value.slice A len c).ownBlock.toList, (b < G ∧ b ∉ L) ∧ w0.heap.size ≤ b) (hlen : len ≤ 1000000000) :
    Calls Tryz.prog 50 #[.pointer (some ⟨g, 0, none⟩), .slice A len c] w fun e w' => e = .returned (.tuple #[]) ∧ Pile w0 w' g (n + 1) G (L ++ (Value.slice A len c).ownBlock.toList) O ∧ Spared G O w w' := by
  obtain ⟨F, OB, h1, h2, h3, h5, h6⟩ := h
  refine (h1.Ops hn A len c inner ho (fun b hb => ⟨fun hx => ?_, (hl b hb).2⟩) hlen).mono ?_
  · rcases h2 b hx with h | h
    · exact (hl b hb).1.2 h
    · have := (hl b hb).1.1
      omega
  · rintro e w' ⟨rfl, F', OB', h4, hk, hs, ht⟩
    refine ⟨rfl, ⟨F', OB', h4, fun b hb => ?_, Nat.le_trans h3 hk.size, fun b hb => (ht b hb).elim (h5 b) (fun h => .inr (Nat.le_trans h3 h)), fun b hb => (h6 b hb).imp_left (fun h => List.mem_append_left _ h)⟩, fun b hb hx => hk.block b (Nat.lt_of_lt_of_le hb h3) (fun hf => ?_)⟩
    · rcases hs b hb with h | h | h
      · exact (h2 b h).imp_left (fun h => List.mem_append_left _ h)
      · exact .inl (List.mem_append_right _ h)
      · exact .inr (Nat.le_trans h3 h)
    · rcases h5 b hf with h | h
      · exact hx h
      · omega
theorem Pile.keepResult {w0 w : World} {g G : Nat} {n : Int} {L O : List Nat} (h : Pile w0 w g n G L O) (hn : n ≤ 1000000000) (A : Option Addr) (len c : Nat) (inner : List Value) (ho : w.ownsRow 0 145 1 (.slice A len c) len inner) (hl : ∀ b ∈ (Value.slice A len c).ownBlock.toList, (b < G ∧ b ∉ L) ∧ w0.heap.size ≤ b) (hlen : len ≤ 1000000000) :
    Calls Tryz.prog 150 #[.pointer (some ⟨g, 0, none⟩), .slice A len c] w fun e w' => e = .returned (.tuple #[]) ∧ Pile w0 w' g (n + 1) G (L ++ (Value.slice A len c).ownBlock.toList) O ∧ Spared G O w w' := by
  obtain ⟨F, OB, h1, h2, h3, h5, h6⟩ := h
  refine (h1.keepResult hn A len c inner ho (fun b hb => ⟨fun hx => ?_, (hl b hb).2⟩) hlen).mono ?_
  · rcases h2 b hx with h | h
    · exact (hl b hb).1.2 h
    · have := (hl b hb).1.1
      omega
  · rintro e w' ⟨rfl, F', OB', h4, hk, hs, ht⟩
    refine ⟨rfl, ⟨F', OB', h4, fun b hb => ?_, Nat.le_trans h3 hk.size, fun b hb => (ht b hb).elim (h5 b) (fun h => .inr (Nat.le_trans h3 h)), fun b hb => (h6 b hb).imp_left (fun h => List.mem_append_left _ h)⟩, fun b hb hx => hk.block b (Nat.lt_of_lt_of_le hb h3) (fun hf => ?_)⟩
    · rcases hs b hb with h | h | h
      · exact (h2 b h).imp_left (fun h => List.mem_append_left _ h)
      · exact .inl (List.mem_append_right _ h)
      · exact .inr (Nat.le_trans h3 h)
    · rcases h5 b hf with h | h
      · exact hx h
      · omega
theorem Pile.keepMsg {w0 w : World} {g G : Nat} {n : Int} {L O : List Nat} (h : Pile w0 w g n G L O) (hn : n ≤ 1000000000) (A : Option Addr) (len c : Nat) (inner : List Value) (ho : w.ownsRow 0 50 6 (.slice A len c) len inner) (hl : ∀ b ∈ (Value.slice A len c).ownBlock.toList, (b < G ∧ b ∉ L) ∧ w0.heap.size ≤ b) (hlen : len ≤ 1000000000) :
    Calls Tryz.prog 73 #[.pointer (some ⟨g, 0, none⟩), .slice A len c] w fun e w' => e = .returned (.tuple #[]) ∧ Pile w0 w' g (n + 1) G (L ++ (Value.slice A len c).ownBlock.toList) O ∧ Spared G O w w' := by
  obtain ⟨F, OB, h1, h2, h3, h5, h6⟩ := h
  refine (h1.keepMsg hn A len c inner ho (fun b hb => ⟨fun hx => ?_, (hl b hb).2⟩) hlen).mono ?_
  · rcases h2 b hx with h | h
    · exact (hl b hb).1.2 h
    · have := (hl b hb).1.1
      omega
  · rintro e w' ⟨rfl, F', OB', h4, hk, hs, ht⟩
    refine ⟨rfl, ⟨F', OB', h4, fun b hb => ?_, Nat.le_trans h3 hk.size, fun b hb => (ht b hb).elim (h5 b) (fun h => .inr (Nat.le_trans h3 h)), fun b hb => (h6 b hb).imp_left (fun h => List.mem_append_left _ h)⟩, fun b hb hx => hk.block b (Nat.lt_of_lt_of_le hb h3) (fun hf => ?_)⟩
    · rcases hs b hb with h | h | h
      · exact (h2 b h).imp_left (fun h => List.mem_append_left _ h)
      · exact .inl (List.mem_append_right _ h)
      · exact .inr (Nat.le_trans h3 h)
    · rcases h5 b hf with h | h
      · exact hx h
      · omega
end Go.Proofs.YtcohodkpppmaoaaGreatDoor.Q
namespace Go.Proofs.YtcohodkpppmaoaaGreatDoor.Q
open Go.RowKit Go.Proofs.YtcohodkpppmaoaaGreatDoorW.PrintWords Go.Proofs.YtcohodkpppmaoaaGreatDoorW.PrintLast Go.Proofs.YtcohodkpppmaoaaGreatDoorW.PrintMore
set_option linter.unusedVariables false
def spareKey : ByteArray := ⟨#[115, 112, 97, 114, 101]⟩
/-- The list's value, and behind it, in the same row, a mark. -/
def Twin {α : Type} (d : Fd α) (e : Nat) (w : World) (F : List Nat) (v : Value) (xs : List α) (sp : α) : Prop :=
  ∃ A c, v = .slice A xs.length c ∧ xs.length + 1 ≤ c ∧ Fd.Row d e w F (.slice A (xs.length + 1) c) (xs ++ [sp])
section
variable {α : Type} {d : Fd α} {e : Nat} {w w1 : World} {F G : List Nat} {v : Value} {xs : List α} {sp : α}
theorem Twin.keeps (h : Twin d e w F v xs sp) (hk : Keeps G w w1) (hd : ∀ b ∈ F, b ∉ G) : Twin d e w1 F v xs sp := by
  obtain ⟨A, c, h1, h2, h3⟩ := h
  exact ⟨A, c, h1, h2, Fd.row_keeps h3 hk hd⟩
theorem Twin.below (h : Twin d e w F v xs sp) (hb : Below w.heap.size w w1) : Twin d e w1 F v xs sp := h.keeps (Keeps.of_below hb []) (fun _ _ hx => by cases hx)
theorem Twin.lt (h : Twin d e w F v xs sp) : ∀ b ∈ F, b < w.heap.size := by
  obtain ⟨A, c, h1, h2, h3⟩ := h
  exact Fd.row_lt h3
theorem C_front {k : Kd α} {A : Option Addr} {n : Nat} {ys : List α} (h : k.C w A n (xs ++ ys)) : k.C w A xs.length xs := by
  obtain rfl : (xs ++ ys).length = n := h.1
  have h1 := Kd.C_take (xs := xs ++ ys) h (m := xs.length) (by rw [List.length_append]; omega)
  rwa [List.take_left' rfl] at h1
/-- As it is read. -/
theorem Twin.reads (h : Twin d e w F v xs sp) : ∃ A c, v = .slice A xs.length c ∧ xs.length + 1 ≤ c ∧ d.k.C w A xs.length xs ∧ d.k.C w A (xs.length + 1) (xs ++ [sp]) := by
  obtain ⟨A, c, rfl, h2, h3⟩ := h
  obtain ⟨A', c', ev, hc, hC⟩ := Fd.row_reads h3
  injection ev with e1 _ e3
  subst e1
  rw [List.length_append, List.length_singleton] at hC
  exact ⟨A, c, rfl, h2, C_front hC, hC⟩
theorem Twin.c {A : Option Addr} {n c : Nat} (h : Twin d e w F (.slice A n c) xs sp) : d.k.C w A xs.length xs ∧ d.k.C w A (xs.length + 1) (xs ++ [sp]) ∧ xs.length + 1 ≤ c := by
  obtain ⟨A', c', ev, h1, h2, h3⟩ := h.reads
  injection ev with e1 _ e3
  subst e1 e3
  exact ⟨h2, h3, h1⟩
theorem Twin.owns {A : Option Addr} {n c : Nat} (h : Twin d e w F (.slice A n c) xs sp) : ∃ inner, w.ownsRow 0 e d.k.sz (.slice A xs.length c) xs.length inner := by
  obtain ⟨A', c', ev, h2, inner, G, ho, he, rfl⟩ := h
  injection ev with e1 _ e3
  subst e1 e3
  rw [List.length_append, List.length_singleton] at ho
  exact ⟨_, own_take ho (Nat.le_succ _)⟩
theorem Twin.blk {A : Option Addr} {n c : Nat} (h : Twin d e w F (.slice A n c) xs sp) : ∀ b ∈ (Value.slice A n c).ownBlock.toList, b ∈ F := by
  obtain ⟨A', c', ev, h2, inner, G, ho, he, rfl⟩ := h
  injection ev with e1 _ e3
  subst e1 e3
  exact fun b hb => List.mem_append_left _ (by cases A <;> simp [Value.ownBlock] at hb ⊢ <;> exact hb)
/-- Its row, as the book keeps it. -/
theorem Twin.own (h : Twin d e w F v xs sp) : ∃ A c inner, v = .slice A xs.length c ∧ w.ownsRow 0 e d.k.sz (.slice A xs.length c) xs.length inner ∧ ∀ b ∈ (Value.slice A xs.length c).ownBlock.toList, b ∈ F := by
  obtain ⟨A, c, rfl, h2, inner, G, ho, he, rfl⟩ := h
  rw [List.length_append, List.length_singleton] at ho
  exact ⟨A, c, _, rfl, own_take ho (Nat.le_succ _), fun b hb => List.mem_append_left _ (by cases A <;> simp [Value.ownBlock] at hb ⊢ <;> exact hb)⟩
end
section
variable {P : Program}
theorem cut_up (t e : TypeId) (kh : IntKind) (ht : P.underlying t = some (.slice e)) {z : Option Value} {size bytes : Nat} (hinfo : (P.info? e).map (fun i => (i.zero, i.size, i.bytes)) = some (z, size, bytes)) (A : Option Addr) (n c : Nat) (j : Int) (h0 : 0 ≤ j) (hm : j ≤ c) :
    ∀ W : World, (Instr.slice t (.slice A n c) none (some (.int kh j)) none).run P W = .ok (.slice A j.toNat c) W := by
  intro W
  obtain ⟨i, hi, _⟩ := Option.map_eq_some_iff.1 hinfo
  have hel : P.elem t = e := by simp [Program.elem, ht]
  have hu : P.underlying t = some (.slice (P.elem t)) := by rw [hel]; exact ht
  have ha : (A.map fun x => x.add 0) = A := by cases A <;> simp [Addr.add]
  rw [run_slice_h W t A n c hu kh j h0 (by omega), hel]
  simp [sizeOf, typeInfo, hi, sliced, Result.andThen, ha]
theorem run_make0 (t e : TypeId) (z : Value) (size bytes : Nat) (ht : P.underlying t = some (.slice e)) (hinfo : (P.info? e).map (fun i => (i.zero, i.size, i.bytes)) = some (some z, size, bytes)) (hb0 : 0 < bytes) (m : Nat) (hl : m * bytes ≤ 281474976710656) :
    ∀ W : World, (Instr.makeSlice t (.int .i64 0) (.int .i64 (m : Int))).run P W = .ok (.slice (some ⟨W.heap.size, 0, none⟩) 0 m) (W.alloc (.cells (madeCells z.cells (m * size)) e)) := by
  intro W
  obtain ⟨i0, hi, hzz⟩ := Option.map_eq_some_iff.1 hinfo
  simp only [Prod.mk.injEq] at hzz
  obtain ⟨hz0, hz1, hz2⟩ := hzz
  have hm : m ≤ 281474976710656 := Nat.le_trans (Nat.le_mul_of_pos_right _ hb0) hl
  have hr := run_make (P := P) W t e i0 z ht hi hz0 .i64 .i64 0 (m : Int) (by omega) (by omega)
    (by
      have h3 : ((i0.bytes * m : Nat) : Int) ≤ 281474976710656 := by rw [hz2, Nat.mul_comm]; omega
      rwa [Int.natCast_mul] at h3) (by omega)
  simp only [Int.toNat_natCast] at hr
  rw [hz1] at hr
  exact hr
theorem made0_row {α : Type} (d : Fd α) (e : Nat) (W : World) (cs : Array Value) (m : Nat) (hm : m ≤ 281474976710656) (hs : cs.size = m * d.k.sz) : Fd.Row d e (W.alloc (.cells cs e)) [W.heap.size] (.slice (some ⟨W.heap.size, 0, none⟩) 0 m) [] := by
  have h := World.ownsRow_lit (base := 0) (e := e) (size := d.k.sz) W cs m (Nat.zero_le _) (by unfold maxLen; omega) hs
  have h2 := own_take h (Nat.zero_le m)
  rw [Nat.zero_mul, List.take_zero] at h2
  exact ⟨[], [], h2, ⟨rfl, rfl⟩, rfl⟩
theorem madeCells_size (z : Array Value) (n : Nat) : (madeCells z n).size = n := by simp [madeCells]
end
end Go.Proofs.YtcohodkpppmaoaaGreatDoor.Q
