/-
  concordatlaw01.KeysIn, walked: it answers true for every text, every two texts and every number.
-/
import Derived.Test.YtcohodkpppmaoaaDoorLawJoined
import Derived.Test.YtcohodkpppmaoaaDoorRef2
namespace Go.Proofs.YtcohodkpppmaoaaDoor.Q
open Go.RowKit Go.Proofs.YtcohodkpppmaoaaDoorW.PrintWords Go.Proofs.YtcohodkpppmaoaaDoorW.PrintLast Go.Proofs.YtcohodkpppmaoaaDoorW.PrintMore
set_option linter.unusedVariables false
theorem beyondS (w : World) (n : Nat) (hn : n ≤ 1000000000000000000) (g c : Nat) (hC : (Kd.int .i64).C w (some ⟨g, 0, none⟩) 1 [(n : Int)]) (hc : 1 ≤ c) :
    Calls Tryd.prog 20 #[.slice (some ⟨g, 0, none⟩) 1 c] w fun e w' => e = .returned (.bool (decide ((1048576 : Int) < n))) ∧ Below w.heap.size w w' := by
  obtain ⟨K, hK⟩ := (ev_Beyond1 (n : Int) (by omega) (by omega)).rounds
  refine (concordatlaw01_Beyond.calls K (some ⟨g, 0, none⟩) c [(n : Int)] _ w hC hc hK).mono ?_
  rintro e w' ⟨rfl, hd⟩
  exact ⟨rfl, hd.below⟩
set_option maxHeartbeats 1600000 in
set_option maxRecDepth 100000 in
theorem KeysIn_calls (w : World) (k f t : ByteArray) (g : Int) (hk : k.size ≤ 140737488351232) (hf : f.size ≤ 140737488351232) (ht : t.size ≤ 140737488351232) (h0 : 0 ≤ g) (h1 : g ≤ 4294967295) (hT : TabOk w) :
    Calls Tryd.prog 5 #[.string k, .agg #[.string f, .string t], .int .u32 g] w fun e w' => e = .returned (.bool true) ∧ Below w.heap.size w w' := by
  have HT := Aside0.mk hT
  clear hT
  obtain ⟨n, hn⟩ : ∃ n : Nat, (k.size : Int) + (f.size : Int) + (t.size : Int) = (n : Int) := ⟨k.size + f.size + t.size, by omega⟩
  have hnb : n ≤ 1000000000000000000 := by omega
  obtain ⟨c, hc⟩ : ∃ c, (sle f k && sle k t) = c := ⟨_, rfl⟩
  have HC := Aside0.mk hc
  have HK := Aside0.mk (And.intro hk (And.intro hf ht))
  have HG := Aside0.mk (And.intro h0 h1)
  have HNB := Aside0.mk hnb
  clear hc hnb
  go_enter Tryd.func5, Tryd.ntmps5
  go_wp2_with fail
  have hsz : (w.alloc (.cells #[.string f, .string t] 37)).heap.size = w.heap.size + 1 := by show (w.heap.push _).size = _; simp
  have bb := blk_new (w.alloc (.cells #[.string f, .string t] 37)) (.cells #[.int .i64 (n : Int)] 3)
  rw [hsz] at bb
  have hbw := below_alloc (below_alloc (Below.refl w.heap.size w) (.cells #[.string f, .string t] 37)) (.cells #[.int .i64 (n : Int)] 3)
  have ba := blk_alloc (blk_new w (.cells #[.string f, .string t] 37)) (.cells #[.int .i64 (n : Int)] 3)
  refine (beyondS _ n HNB.out (w.heap.size + 1) 1 (c_lit .i64 [(n : Int)] bb rfl (by simp)) (by decide)).mono ?_
  rintro e w2 ⟨rfl, hb2⟩
  have B2 := Aside0.mk (below_step hbw hb2)
  replace ba := blk_below ba hb2
  have p0 := blk_cell ba 0
  have p1 := blk_cell ba 1
  clear hb2 hbw hsz bb ba
  obtain ⟨d, hd⟩ : ∃ d, decide ((1048576 : Int) < n) = d := ⟨_, rfl⟩
  rw [hd]
  clear hd hn hk hf ht h0 h1
  cases d with
  | true =>
    go_wp2
    go_ret
    exact ⟨rfl, B2.out⟩
  | false =>
    go_wp2_with fail
    have BB := Aside0.mk (below_drew1 B2.out)
    have HS := Aside0.mk (show (fun w' : World => w'.cell? ⟨w.heap.size, 0, none⟩ = some (.string f) ∧ w'.cell? ⟨w.heap.size, 1, none⟩ = some (.string t)) w2.drew from ⟨p0, p1⟩)
    clear p0 p1
    first | (go_region_held3 (fun w' : World => w'.cell? ⟨w.heap.size, 0, none⟩ = some (.string f) ∧ w'.cell? ⟨w.heap.size, 1, none⟩ = some (.string t)) (exact HS.out) (first
        | (go_at_call 21; refine (in_calls _ _ _ _).mono ?_; rintro e w' ⟨rfl, hb⟩; rw [HC.out]; have HS' := Aside0.mk (And.intro (cell_later hb HS.out.1) (cell_later hb HS.out.2)); clear HS; have HS := HS'; have BB' := Aside0.mk (below_step BB.out hb); clear hb BB HS'; have BB := BB'; clear BB')
        | (go_at_call 22; refine (refIn_calls _ _ _ HK.out.1 HK.out.2.1 HK.out.2.2 _).mono ?_; rintro e w' ⟨rfl, hb⟩; rw [HC.out]; have HS' := Aside0.mk (And.intro (cell_later hb HS.out.1) (cell_later hb HS.out.2)); clear HS; have HS := HS'; have BB' := Aside0.mk (below_step BB.out hb); clear hb BB HS'; have BB := BB'; clear BB')
        | (go_at_call 23; refine (marker_calls g HG.out.1 HG.out.2 _ (HT.out.below BB.out)).mono ?_; rintro e w' ⟨rfl, hb⟩; have HS' := Aside0.mk (And.intro (cell_later hb HS.out.1) (cell_later hb HS.out.2)); clear HS; have HS := HS'; have BB' := Aside0.mk (below_step BB.out hb); clear hb BB HS'; have BB := BB'; clear BB')
        | (go_at_call 24; refine (refMarker_calls g HG.out.1 HG.out.2 _).mono ?_; rintro e w' ⟨rfl, hb⟩; have HS' := Aside0.mk (And.intro (cell_later hb HS.out.1) (cell_later hb HS.out.2)); clear HS; have HS := HS'; have BB' := Aside0.mk (below_step BB.out hb); clear hb BB HS'; have BB := BB'; clear BB'))) | fail "held3"
    all_goals
      go_wp2
      go_ret
      exact ⟨by simp, BB.out⟩
end Go.Proofs.YtcohodkpppmaoaaDoor.Q
