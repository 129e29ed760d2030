
/-
  As many as their count tells: ops, changes, rows, results.
-/
import Derived.Test.YtcohodkpppmaoaaDoorOne
namespace Go.Proofs.YtcohodkpppmaoaaDoor.Q
open Go.RowKit Go.Proofs.YtcohodkpppmaoaaDoorW.PrintWords Go.Proofs.YtcohodkpppmaoaaDoorW.PrintLast Go.Proofs.YtcohodkpppmaoaaDoorW.PrintMore
set_option linter.unusedVariables false

/-! ### plain -/
def sevN {α : Type} (r : RdS → α) (st : RdS → RdS) : Nat → RdS → List α
  | 0, _ => []
  | n + 1, s => if s.2 then [] else r s :: sevN r st n (st s)
def sevNS {α : Type} (r : RdS → α) (st : RdS → RdS) : Nat → RdS → RdS
  | 0, s => s
  | n + 1, s => if s.2 then s else sevNS r st n (st s)
def sevR {α : Type} (r : RdS → α) (st : RdS → RdS) (s : RdS) : List α := sevN r st (numR s 2).toNat (takeS s 2)
def sevS {α : Type} (r : RdS → α) (st : RdS → RdS) (s : RdS) : RdS := sevNS r st (numR s 2).toNat (takeS s 2)

/-- What is new, and not the reader's block, is not touched by the reader. -/
theorem R_rd {α : Type} {d : Kd α} {e base g : Nat} {w w1 : World} {v : Value} {xs : List α} (h : d.R e w base (fun k => k ≠ g) v xs) (hK : KeepBut w w1 g none) : d.R e w1 base (fun k => k ≠ g) v xs := Kd.R_keep h hK (fun _ hk => hk)
theorem keep_grown {w W w1 : World} {g : Nat} {row : Option Nat} (h : KeepBut w W g none) (hg : W.grownBy w1 row) (hr : ∀ k, row = some k → w.heap.size ≤ k) : KeepBut w w1 g none :=
  h.trans (KeepBut.of_grown hg g) (by
    cases row with
    | none => exact .inl rfl
    | some k => exact .inr ⟨k, rfl, hr k rfl⟩)
theorem Rd.grownBy {w0 w w1 : World} {g : Nat} {s : RdS} (h : Rd w0 w g s) (hb : Below w0.heap.size w0 w1) {row : Option Nat} (hg : w.grownBy w1 row) (hr : ∀ k, row = some k → k ≠ g) : Rd w0 w1 g s := by
  obtain ⟨A, c, hr0, h1, h2, h3⟩ := h.row
  exact ⟨hb, h.far, ⟨A, c, blk_grown hr0 hg (by intro e; exact hr g e.symm rfl), h1, h2, h3⟩, h.bytes⟩

set_option maxHeartbeats 1600000 in
set_option maxRecDepth 100000 in
theorem getOneOp_calls (w0 w : World) (g bo br : Nat) (s : RdS) (h : Rd w0 w g s) (hbo : w.heap[bo]? = some (.cells #[.func (.func 65) #[] #[]] 109 (0, 0))) (hbr : w.heap[br]? = some (.cells #[.pointer (some ⟨g, 0, none⟩)] 107 (0, 0))) :
    Calls Tryd.prog 81 #[.pointer (some ⟨bo, 0, none⟩), .pointer (some ⟨br, 0, none⟩)] w fun e w' => e = .returned (.agg #[.int .u8 (opR s).f0, .string (opR s).f1, .string (opR s).f2, .int .u32 (opR s).f3]) ∧ Rd w0 w' g (opS s) ∧ KeepBut w w' g none := by
  obtain ⟨x, hx⟩ : ∃ x, x = opR s := ⟨_, rfl⟩
  rw [← hx]
  have HX := Aside0.mk hx
  clear hx
  have hu := Tryd.underlying62
  have H := Aside0.mk h
  have hlt : g < w.heap.size := h.lt
  have h0 : w0.heap.size ≤ w.heap.size := h.below.size
  have hgb : g ≠ w.heap.size := by omega
  have co : w.cell? ⟨bo, 0, none⟩ = some (.func (.func 65) #[] #[]) := blk_cell hbo 0
  have cr : w.cell? ⟨br, 0, none⟩ = some (.pointer (some ⟨g, 0, none⟩)) := blk_cell hbr 0
  have lo : bo < w.heap.size := blk_lt hbo
  have lr : br < w.heap.size := blk_lt hbr
  clear h hbo hbr
  go_enter Tryd.func81, Tryd.ntmps81
  go_wp2_with fail
  refine (oneOp_calls w0 _ g s (H.out.alloc _)).mono ?_
  rintro e w1 ⟨rfl, hR, hK⟩
  rw [← HX.out]
  have B1 := keep_cells (blk_new w (.cells #[.int .u8 0, .string ⟨#[]⟩, .string ⟨#[]⟩, .int .u32 0] 62)) (Ne.symm hgb) hK
  have K1 := Aside0.mk (keep_then (KeepBut.of_below (below_alloc (Below.refl w.heap.size w) (.cells #[.int .u8 0, .string ⟨#[]⟩, .string ⟨#[]⟩, .int .u32 0] 62)) g none) hK)
  have R1 := Aside0.mk hR
  clear hR hK
  obtain ⟨⟨c0, c1, c2, c3⟩, f0, f1, f2, f3⟩ := blk4 B1
  have B1' := Aside0.mk B1
  clear B1
  go_wp2
  try simp only [Exit.inBlock, Exit.then]
  refine bodyPost_ret (results_cell_row rfl _ _ w.heap.size 62 _ (0, 0) _ rfl (blk_put (cs' := #[.int .u8 x.f0, .string x.f1, .string x.f2, .int .u32 x.f3]) (blk_put (cs' := #[.int .u8 x.f0, .string x.f1, .string x.f2, .int .u32 0]) (blk_put (cs' := #[.int .u8 x.f0, .string x.f1, .string ⟨#[]⟩, .int .u32 0]) (blk_put (cs' := #[.int .u8 x.f0, .string ⟨#[]⟩, .string ⟨#[]⟩, .int .u32 0]) B1'.out 0 _ rfl) 1 _ rfl) 2 _ rfl) 3 _ rfl) hu rfl (by kernel_rfl)) rfl ?_
  refine ⟨rfl, ?_, ?_⟩
  · repeat (first | exact R1.out | refine Rd.set ?_ hgb h0 _ _)
  · repeat (first | exact K1.out | refine keep_new ?_ (Nat.le_refl _) _ _)

set_option maxHeartbeats 1600000 in
set_option maxRecDepth 100000 in
theorem severalOp_calls (w0 w : World) (g : Nat) (bo br : Nat) (s : RdS) (h : Rd w0 w g s) (hbo : w.heap[bo]? = some (.cells #[.func (.func 65) #[] #[]] 109 (0, 0))) (hbr : w.heap[br]? = some (.cells #[.pointer (some ⟨g, 0, none⟩)] 107 (0, 0))) (ho : bo ≠ g) (hr : br ≠ g) :
    Calls Tryd.prog 80 #[.pointer (some ⟨g, 0, none⟩), .func (.func 81) #[] #[.pointer (some ⟨bo, 0, none⟩), .pointer (some ⟨br, 0, none⟩)]] w fun e w' => ∃ v, e = .returned v ∧ Kd.R k62 62 w' w.heap.size (fun _ => True) v (sevR opR opS s) ∧ Rd w0 w' g (sevS opR opS s) ∧ KeepBut w w' g none := by
  have hu := Tryd.underlying62
  have H := Aside0.mk h
  have hlt : g < w.heap.size := h.lt
  have h0 : w0.heap.size ≤ w.heap.size := h.below.size
  have hn := numR_two h.bytes
  obtain ⟨m, hm⟩ : ∃ m : Nat, numR s 2 = m := ⟨(numR s 2).toNat, by omega⟩
  have hm' : m < 65536 := by omega
  have HM := Aside0.mk hm
  have HBO := Aside0.mk hbo
  have HBR := Aside0.mk hbr
  have e1 : sevR opR opS s = sevN opR opS m (takeS s 2) := by unfold sevR; rw [hm]; rfl
  have e2 : sevS opR opS s = sevNS opR opS m (takeS s 2) := by unfold sevS; rw [hm]; rfl
  rw [e1, e2]
  clear h hn hm hbo hbr e1 e2
  go_enter Tryd.func80, Tryd.ntmps80
  go_wp2_with fail
  refine (number_calls w0 _ g s 2 (by omega) H.out).mono ?_
  rintro e w1 ⟨rfl, hR, hK⟩
  rw [HM.out]
  have R1 := Aside0.mk hR
  have K1 := Aside0.mk hK
  clear hR hK
  go_wp2
  go_loopw [4, 5] (fun v n wr => ∃ (j : Nat) (sj : RdS) (xs : List S62), n = .int .u32 j ∧ j ≤ m ∧ Aside0 (xs.length + j ≤ m) ∧ Aside0 (sevN opR opS m (takeS s 2) = xs ++ sevN opR opS j sj) ∧ Aside0 (sevNS opR opS m (takeS s 2) = sevNS opR opS j sj) ∧ Aside0 (Kd.R k62 62 wr w.heap.size (fun k => k ≠ g) v xs) ∧ Aside0 (Rd w0 wr g sj) ∧ Aside0 (KeepBut w wr g none)) (fun _ n _ => (intOf n).toNat)
  case atStart => exact ⟨m, _, [], rfl, Nat.le_refl _, ⟨by simp⟩, ⟨rfl⟩, ⟨rfl⟩, ⟨Kd.R_nil _ _ _ _ _⟩, R1, K1⟩
  case round =>
    obtain ⟨j, sj, xs, rfl, hj, HL, E1, E2, HO, HR, HK⟩ := hrel
    cases j with
    | zero =>
      go_wp2
      go_ret
      rw [E1.out, E2.out]
      exact ⟨_, rfl, by rw [show sevN opR opS 0 sj = [] from rfl, List.append_nil]; exact Kd.R_mono HO.out (fun _ _ => trivial), HR.out, HK.out⟩
    | succ i =>
      obtain ⟨A, c, hrow, _⟩ := HR.out.row
      have cs : wr.cell? ⟨g, 1, none⟩ = some (.bool sj.2) := blk_cell hrow 1
      clear hrow
      cases hsh : sj.2 with
      | true =>
        rw [hsh] at cs
        go_wp2
        go_ret
        rw [E1.out, E2.out]
        have q1 : sevN opR opS (i + 1) sj = [] := by unfold sevN; rw [if_pos hsh]
        have q2 : sevNS opR opS (i + 1) sj = sj := by unfold sevNS; rw [if_pos hsh]
        rw [q1, q2]
        exact ⟨_, rfl, by rw [List.append_nil]; exact Kd.R_mono HO.out (fun _ _ => trivial), HR.out, HK.out⟩
      | false =>
        rw [hsh] at cs
        have q1 : sevN opR opS (i + 1) sj = opR sj :: sevN opR opS i (opS sj) := by rw [sevN, if_neg (by rw [hsh]; decide)]
        have q2 : sevNS opR opS (i + 1) sj = sevNS opR opS i (opS sj) := by rw [sevNS, if_neg (by rw [hsh]; decide)]
        rw [q1] at E1
        rw [q2] at E2
        clear q1 q2
        obtain ⟨Av, cv, rfl, hcv, _⟩ := Kd.R_reads HO.out
        have hjp : (0 : Int) < ((i + 1 : Nat) : Int) := by omega
        have hszw : w.heap.size ≤ wr.heap.size := HK.out.1
        have BO1 := Aside0.mk (HK.out.blk HBO.out ho (by simp))
        have BR1 := Aside0.mk (HK.out.blk HBR.out hr (by simp))
        go_wp2_with fail
        refine (getOneOp_calls w0 wr g bo br sj HR.out BO1.out BR1.out).mono ?_
        rintro e w2 ⟨rfl, hR, hK⟩
        obtain ⟨x, hx⟩ : ∃ x, x = opR sj := ⟨_, rfl⟩
        rw [← hx]
        have HX := Aside0.mk hx
        have HO2 := Aside0.mk (R_rd HO.out hK)
        have HK2 := Aside0.mk (keep_then HK.out hK)
        have HR2 := Aside0.mk hR
        have hs2 : w.heap.size ≤ w2.heap.size := HK2.out.1
        clear hx hR hK cs
        go_wp2_with (first | (at_builtin; refine Kd.R_append k62 (w0 := w2) w.heap.size rfl (.tmp 19) (.tmp 22) 24 62 (.agg #[.int .u8 0, .string ⟨#[]⟩, .string ⟨#[]⟩, .int .u32 0]) 48 rfl Tryd.underlying24 (by kernel_rfl) rfl (by decide) (by decide) (.slice Av xs.length cv) xs x [.int .u8 x.f0, .string x.f1, .string x.f2, .int .u32 x.f3] (fun k => k ≠ g) (fun _ => False) rfl rfl (k62_mkM _ _ _ _) (fun _ hk => hk.elim) (fun k hk => by omega) HO2.out (Below.refl _ _) hs2 (by have := HL.out; omega) ?_; intro v1 w3 hO hB hG hat; have HO3 := Aside0.mk hO; have HB3 := Aside0.mk hB; have HG3 := Aside0.mk hG; clear hO hB hG hat))
        go_roundw
        case rel =>
          have hown : ∀ k, (Value.slice Av xs.length cv).ownBlock = some k → w.heap.size ≤ k := fun k hk => Kd.R_base HO2.out k hk
          refine ⟨i, opS sj, xs ++ [x], by go_num, by omega, ⟨by have := HL.out; rw [List.length_append]; simp; omega⟩, ⟨by rw [E1.out, HX.out, List.append_assoc]; rfl⟩, E2, HO3, ⟨?_⟩, ⟨?_⟩⟩
          · exact HR2.out.grownBy (HR2.out.below.trans (HB3.out.mono h0)) HG3.out (fun k hk => by have := hown k hk; omega)
          · exact keep_grown HK2.out HG3.out hown
        case measure => simp [intOf]

set_option maxHeartbeats 1600000 in
set_option maxRecDepth 100000 in
theorem severalRow_calls (w0 w : World) (g : Nat) (br : Nat) (s : RdS) (h : Rd w0 w g s) (hbr : w.heap[br]? = some (.cells #[.pointer (some ⟨g, 0, none⟩)] 107 (0, 0))) (hr : br ≠ g) :
    Calls Tryd.prog 70 #[.pointer (some ⟨g, 0, none⟩), .func (.func 71) #[] #[.pointer (some ⟨br, 0, none⟩)]] w fun e w' => ∃ v, e = .returned v ∧ Kd.R k93 93 w' w.heap.size (fun _ => True) v (sevR rowR rowS s) ∧ Rd w0 w' g (sevS rowR rowS s) ∧ KeepBut w w' g none := by
  have hu := Tryd.underlying93
  have H := Aside0.mk h
  have hlt : g < w.heap.size := h.lt
  have h0 : w0.heap.size ≤ w.heap.size := h.below.size
  have hn := numR_two h.bytes
  obtain ⟨m, hm⟩ : ∃ m : Nat, numR s 2 = m := ⟨(numR s 2).toNat, by omega⟩
  have hm' : m < 65536 := by omega
  have HM := Aside0.mk hm
  have HBR := Aside0.mk hbr
  have e1 : sevR rowR rowS s = sevN rowR rowS m (takeS s 2) := by unfold sevR; rw [hm]; rfl
  have e2 : sevS rowR rowS s = sevNS rowR rowS m (takeS s 2) := by unfold sevS; rw [hm]; rfl
  rw [e1, e2]
  clear h hn hm hbr e1 e2
  go_enter Tryd.func70, Tryd.ntmps70
  go_wp2_with fail
  refine (number_calls w0 _ g s 2 (by omega) H.out).mono ?_
  rintro e w1 ⟨rfl, hR, hK⟩
  rw [HM.out]
  have R1 := Aside0.mk hR
  have K1 := Aside0.mk hK
  clear hR hK
  go_wp2
  go_loopw [4, 5] (fun v n wr => ∃ (j : Nat) (sj : RdS) (xs : List S93), n = .int .u32 j ∧ j ≤ m ∧ Aside0 (xs.length + j ≤ m) ∧ Aside0 (sevN rowR rowS m (takeS s 2) = xs ++ sevN rowR rowS j sj) ∧ Aside0 (sevNS rowR rowS m (takeS s 2) = sevNS rowR rowS j sj) ∧ Aside0 (Kd.R k93 93 wr w.heap.size (fun k => k ≠ g) v xs) ∧ Aside0 (Rd w0 wr g sj) ∧ Aside0 (KeepBut w wr g none)) (fun _ n _ => (intOf n).toNat)
  case atStart => exact ⟨m, _, [], rfl, Nat.le_refl _, ⟨by simp⟩, ⟨rfl⟩, ⟨rfl⟩, ⟨Kd.R_nil _ _ _ _ _⟩, R1, K1⟩
  case round =>
    obtain ⟨j, sj, xs, rfl, hj, HL, E1, E2, HO, HR, HK⟩ := hrel
    cases j with
    | zero =>
      go_wp2
      go_ret
      rw [E1.out, E2.out]
      exact ⟨_, rfl, by rw [show sevN rowR rowS 0 sj = [] from rfl, List.append_nil]; exact Kd.R_mono HO.out (fun _ _ => trivial), HR.out, HK.out⟩
    | succ i =>
      obtain ⟨A, c, hrow, _⟩ := HR.out.row
      have cs : wr.cell? ⟨g, 1, none⟩ = some (.bool sj.2) := blk_cell hrow 1
      clear hrow
      cases hsh : sj.2 with
      | true =>
        rw [hsh] at cs
        go_wp2
        go_ret
        rw [E1.out, E2.out]
        have q1 : sevN rowR rowS (i + 1) sj = [] := by unfold sevN; rw [if_pos hsh]
        have q2 : sevNS rowR rowS (i + 1) sj = sj := by unfold sevNS; rw [if_pos hsh]
        rw [q1, q2]
        exact ⟨_, rfl, by rw [List.append_nil]; exact Kd.R_mono HO.out (fun _ _ => trivial), HR.out, HK.out⟩
      | false =>
        rw [hsh] at cs
        have q1 : sevN rowR rowS (i + 1) sj = rowR sj :: sevN rowR rowS i (rowS sj) := by rw [sevN, if_neg (by rw [hsh]; decide)]
        have q2 : sevNS rowR rowS (i + 1) sj = sevNS rowR rowS i (rowS sj) := by rw [sevNS, if_neg (by rw [hsh]; decide)]
        rw [q1] at E1
        rw [q2] at E2
        clear q1 q2
        obtain ⟨Av, cv, rfl, hcv, _⟩ := Kd.R_reads HO.out
        have hjp : (0 : Int) < ((i + 1 : Nat) : Int) := by omega
        have hszw : w.heap.size ≤ wr.heap.size := HK.out.1
        have BR1 := Aside0.mk (HK.out.blk HBR.out hr (by simp))
        go_wp2_with fail
        refine (oneRow_calls w0 wr g br sj HR.out BR1.out hr).mono ?_
        rintro e w2 ⟨rfl, hR, hK⟩
        obtain ⟨x, hx⟩ : ∃ x, x = rowR sj := ⟨_, rfl⟩
        rw [← hx]
        have HX := Aside0.mk hx
        have HO2 := Aside0.mk (R_rd HO.out hK)
        have HK2 := Aside0.mk (keep_then HK.out hK)
        have HR2 := Aside0.mk hR
        have hs2 : w.heap.size ≤ w2.heap.size := HK2.out.1
        clear hx hR hK cs
        go_wp2_with (first | (at_builtin; refine Kd.R_append k93 (w0 := w2) w.heap.size rfl (.tmp 19) (.tmp 22) 57 93 (.agg #[.string ⟨#[]⟩, .int .u32 0]) 24 rfl Tryd.underlying57 (by kernel_rfl) rfl (by decide) (by decide) (.slice Av xs.length cv) xs x [.string x.f0, .int .u32 x.f1] (fun k => k ≠ g) (fun _ => False) rfl rfl (k93_mkM _ _ _ _) (fun _ hk => hk.elim) (fun k hk => by omega) HO2.out (Below.refl _ _) hs2 (by have := HL.out; omega) ?_; intro v1 w3 hO hB hG hat; have HO3 := Aside0.mk hO; have HB3 := Aside0.mk hB; have HG3 := Aside0.mk hG; clear hO hB hG hat))
        go_roundw
        case rel =>
          have hown : ∀ k, (Value.slice Av xs.length cv).ownBlock = some k → w.heap.size ≤ k := fun k hk => Kd.R_base HO2.out k hk
          refine ⟨i, rowS sj, xs ++ [x], by go_num, by omega, ⟨by have := HL.out; rw [List.length_append]; simp; omega⟩, ⟨by rw [E1.out, HX.out, List.append_assoc]; rfl⟩, E2, HO3, ⟨?_⟩, ⟨?_⟩⟩
          · exact HR2.out.grownBy (HR2.out.below.trans (HB3.out.mono h0)) HG3.out (fun k hk => by have := hown k hk; omega)
          · exact keep_grown HK2.out HG3.out hown
        case measure => simp [intOf]

def resR (s : RdS) : S59 := ⟨sevR rowR rowS s⟩
def resS (s : RdS) : RdS := sevS rowR rowS s

theorem R_from {α : Type} {d : Kd α} {e base : Nat} {ok : Nat → Prop} {w : World} {v : Value} {xs : List α} (h : d.R e w base ok v xs) : d.R e w base (fun k => base ≤ k) v xs := Kd.R_mono (Kd.R_bound h) (fun _ hk => hk.2.1)
theorem blk1 {w : World} {g t : Nat} {a : Value} (h : w.heap[g]? = some (.cells #[a] t (0, 0))) : w.cell? ⟨g, 0, none⟩ = some a ∧ w.frozen? ⟨g, 0, none⟩ = false := ⟨blk_cell h 0, blk_frozen h 0⟩

/-- The two blocks that one result needs. -/
def resWorld (w : World) (g : Nat) : World := (w.alloc (.cells #[.pointer (some ⟨g, 0, none⟩)] 107)).alloc (.cells #[.slice none 0 0] 59)
theorem resWorld_facts (w : World) (g : Nat) : Below w.heap.size w (resWorld w g) ∧ (resWorld w g).heap.size = w.heap.size + 1 + 1 ∧ (resWorld w g).heap[w.heap.size]? = some (.cells #[.pointer (some ⟨g, 0, none⟩)] 107 (0, 0)) ∧
    (resWorld w g).heap[w.heap.size + 1]? = some (.cells #[.slice none 0 0] 59 (0, 0)) := by
  have s1 : (w.alloc (.cells #[.pointer (some ⟨g, 0, none⟩)] 107)).heap.size = w.heap.size + 1 := by show (w.heap.push _).size = _; simp
  unfold resWorld
  refine ⟨((Below.refl w.heap.size w).alloc (Nat.le_refl _) _).alloc (by omega) _, ?_, ?_, ?_⟩
  · show ((w.alloc (.cells #[.pointer (some ⟨g, 0, none⟩)] 107)).heap.push _).size = _
    rw [Array.size_push, s1]
  · exact blk_alloc (blk_new w _) _
  · have := blk_new (w.alloc (.cells #[.pointer (some ⟨g, 0, none⟩)] 107)) (.cells #[.slice none 0 0] 59)
    rwa [s1] at this

set_option maxHeartbeats 1600000 in
set_option maxRecDepth 100000 in
theorem oneResult_calls (w0 w : World) (g : Nat) (s : RdS) (h : Rd w0 w g s) :
    Calls Tryd.prog 69 #[.pointer (some ⟨g, 0, none⟩)] w fun e w' => ∃ v, e = .returned (.agg #[v]) ∧ Kd.R k93 93 w' w.heap.size (fun k => w.heap.size ≤ k) v (resR s).f0 ∧ Rd w0 w' g (resS s) ∧ KeepBut w w' g none := by
  unfold resR resS
  dsimp only
  have hu := Tryd.underlying59
  have H := Aside0.mk h
  have hlt : g < w.heap.size := h.lt
  have h0 : w0.heap.size ≤ w.heap.size := h.below.size
  have hmf : ∀ (fn : Fn) (first cap : Array Value) (w : World), (Instr.makeFunc fn first cap).run Tryd.prog w = .ok (.func fn first cap) w := fun _ _ _ _ => rfl
  have HF := Aside0.mk (resWorld_facts w g)
  clear h
  go_enter Tryd.func69, Tryd.ntmps69
  go_wp2_with fail
  change Calls Tryd.prog 70 _ (resWorld w g) _
  obtain ⟨W, hW⟩ : ∃ W, W = resWorld w g := ⟨_, rfl⟩
  rw [← hW] at HF ⊢
  clear hW
  refine (severalRow_calls w0 W g w.heap.size s (H.out.grown HF.out.1) HF.out.2.2.1 (by omega)).mono ?_
  rintro e w1 ⟨v, rfl, hO, hR, hK⟩
  have B1 := keep_cells HF.out.2.2.2 (show w.heap.size + 1 ≠ g by omega) hK
  have HW : W.heap.size = w.heap.size + 1 + 1 := HF.out.2.1
  have HO := Aside0.mk (R_from hO)
  have HR := Aside0.mk hR
  have HK := Aside0.mk (keep_then (KeepBut.of_below HF.out.1 g none) hK)
  clear hO hR hK
  obtain ⟨cB, fB⟩ := blk1 B1
  have B1' := Aside0.mk B1
  clear B1
  obtain ⟨Av, cv, rfl, hcv, _⟩ := Kd.R_reads HO.out
  go_wp2
  try simp only [Exit.inBlock, Exit.then]
  refine bodyPost_ret (results_cell_row rfl _ _ (w.heap.size + 1) 59 _ (0, 0) _ rfl (blk_put (cs' := #[.slice Av (sevR rowR rowS s).length cv]) B1'.out 0 _ rfl) hu rfl (by kernel_rfl)) rfl ?_
  refine ⟨_, rfl, ?_, HR.out.set (by omega) (by omega) _ _, keep_new HK.out (Nat.le_succ _) _ _⟩
  exact Kd.R_mono (Kd.R_lower (Kd.R_far HO.out (p := ⟨w.heap.size + 1, 0, none⟩) (fun k hk => by show k ≠ w.heap.size + 1; omega) _) (by omega)) (fun k hk => by omega)

set_option maxHeartbeats 1600000 in
set_option maxRecDepth 100000 in
theorem getOneResult_calls (w0 w : World) (g bo br : Nat) (s : RdS) (h : Rd w0 w g s) (hbo : w.heap[bo]? = some (.cells #[.func (.func 69) #[] #[]] 113 (0, 0))) (hbr : w.heap[br]? = some (.cells #[.pointer (some ⟨g, 0, none⟩)] 107 (0, 0))) :
    Calls Tryd.prog 85 #[.pointer (some ⟨bo, 0, none⟩), .pointer (some ⟨br, 0, none⟩)] w fun e w' => ∃ v, e = .returned (.agg #[v]) ∧ Kd.R k93 93 w' w.heap.size (fun k => w.heap.size ≤ k) v (resR s).f0 ∧ Rd w0 w' g (resS s) ∧ KeepBut w w' g none := by
  obtain ⟨x, hx⟩ : ∃ x, x = resR s := ⟨_, rfl⟩
  rw [← hx]
  have HX := Aside0.mk hx
  clear hx
  have hu := Tryd.underlying59
  have H := Aside0.mk h
  have hlt : g < w.heap.size := h.lt
  have h0 : w0.heap.size ≤ w.heap.size := h.below.size
  have hgb : g ≠ w.heap.size := by omega
  have co : w.cell? ⟨bo, 0, none⟩ = some (.func (.func 69) #[] #[]) := blk_cell hbo 0
  have cr : w.cell? ⟨br, 0, none⟩ = some (.pointer (some ⟨g, 0, none⟩)) := blk_cell hbr 0
  have lo : bo < w.heap.size := blk_lt hbo
  have lr : br < w.heap.size := blk_lt hbr
  clear h hbo hbr
  go_enter Tryd.func85, Tryd.ntmps85
  go_wp2_with fail
  refine (oneResult_calls w0 _ g s (H.out.alloc _)).mono ?_
  rintro e w1 ⟨v, rfl, hO, hR, hK⟩
  rw [← HX.out] at hO
  rw [show (w.alloc (.cells #[.slice none 0 0] 59)).heap.size = w.heap.size + 1 from Array.size_push _] at hO
  have B1 := keep_cells (blk_new w (.cells #[.slice none 0 0] 59)) (Ne.symm hgb) hK
  have K1 := Aside0.mk (keep_then (KeepBut.of_below (below_alloc (Below.refl w.heap.size w) (.cells #[.slice none 0 0] 59)) g none) hK)
  have R1 := Aside0.mk hR
  have HO := Aside0.mk hO
  clear hR hK hO
  obtain ⟨Av, cv, rfl, hcv, _⟩ := Kd.R_reads HO.out
  obtain ⟨cB, fB⟩ := blk1 B1
  have B1' := Aside0.mk B1
  clear B1
  go_wp2
  try simp only [Exit.inBlock, Exit.then]
  refine bodyPost_ret (results_cell_row rfl _ _ w.heap.size 59 _ (0, 0) _ rfl (blk_put (cs' := #[.slice Av x.f0.length cv]) B1'.out 0 _ rfl) hu rfl (by kernel_rfl)) rfl ?_
  refine ⟨_, rfl, ?_, R1.out.set hgb h0 _ _, keep_new K1.out (Nat.le_refl _) _ _⟩
  exact Kd.R_mono (Kd.R_lower (Kd.R_far HO.out (p := ⟨w.heap.size, 0, none⟩) (fun k hk => by show k ≠ w.heap.size; omega) _) (by omega)) (fun k hk => by omega)

set_option maxHeartbeats 1600000 in
set_option maxRecDepth 100000 in
theorem severalResult_calls (w0 w : World) (g : Nat) (bo br : Nat) (s : RdS) (h : Rd w0 w g s) (hbo : w.heap[bo]? = some (.cells #[.func (.func 69) #[] #[]] 113 (0, 0))) (hbr : w.heap[br]? = some (.cells #[.pointer (some ⟨g, 0, none⟩)] 107 (0, 0))) (ho : bo ≠ g) (hr : br ≠ g) :
    Calls Tryd.prog 84 #[.pointer (some ⟨g, 0, none⟩), .func (.func 85) #[] #[.pointer (some ⟨bo, 0, none⟩), .pointer (some ⟨br, 0, none⟩)]] w fun e w' => ∃ v, e = .returned v ∧ Kd.S k59 59 w' w.heap.size (fun _ => True) v (sevR resR resS s) ∧ Rd w0 w' g (sevS resR resS s) ∧ KeepBut w w' g none := by
  have hu := Tryd.underlying59
  have H := Aside0.mk h
  have hlt : g < w.heap.size := h.lt
  have h0 : w0.heap.size ≤ w.heap.size := h.below.size
  have hn := numR_two h.bytes
  obtain ⟨m, hm⟩ : ∃ m : Nat, numR s 2 = m := ⟨(numR s 2).toNat, by omega⟩
  have hm' : m < 65536 := by omega
  have HM := Aside0.mk hm
  have HBO := Aside0.mk hbo
  have HBR := Aside0.mk hbr
  have e1 : sevR resR resS s = sevN resR resS m (takeS s 2) := by unfold sevR; rw [hm]; rfl
  have e2 : sevS resR resS s = sevNS resR resS m (takeS s 2) := by unfold sevS; rw [hm]; rfl
  rw [e1, e2]
  clear h hn hm hbo hbr e1 e2
  go_enter Tryd.func84, Tryd.ntmps84
  go_wp2_with fail
  refine (number_calls w0 _ g s 2 (by omega) H.out).mono ?_
  rintro e w1 ⟨rfl, hR, hK⟩
  rw [HM.out]
  have R1 := Aside0.mk hR
  have K1 := Aside0.mk hK
  clear hR hK
  go_wp2
  go_loopw [4, 5] (fun v n wr => ∃ (j : Nat) (sj : RdS) (xs : List S59), n = .int .u32 j ∧ j ≤ m ∧ Aside0 (xs.length + j ≤ m) ∧ Aside0 (sevN resR resS m (takeS s 2) = xs ++ sevN resR resS j sj) ∧ Aside0 (sevNS resR resS m (takeS s 2) = sevNS resR resS j sj) ∧ Aside0 (Kd.S k59 59 wr w.heap.size (fun k => k ≠ g) v xs) ∧ Aside0 (Rd w0 wr g sj) ∧ Aside0 (KeepBut w wr g none)) (fun _ n _ => (intOf n).toNat)
  case atStart => exact ⟨m, _, [], rfl, Nat.le_refl _, ⟨by simp⟩, ⟨rfl⟩, ⟨rfl⟩, ⟨Kd.S_nil _ _ _ _ _⟩, R1, K1⟩
  case round =>
    obtain ⟨j, sj, xs, rfl, hj, HL, E1, E2, HO, HR, HK⟩ := hrel
    cases j with
    | zero =>
      go_wp2
      go_ret
      rw [E1.out, E2.out]
      exact ⟨_, rfl, by rw [show sevN resR resS 0 sj = [] from rfl, List.append_nil]; exact Kd.S_mono HO.out (fun _ _ => trivial), HR.out, HK.out⟩
    | succ i =>
      obtain ⟨A, c, hrow, _⟩ := HR.out.row
      have cs : wr.cell? ⟨g, 1, none⟩ = some (.bool sj.2) := blk_cell hrow 1
      clear hrow
      cases hsh : sj.2 with
      | true =>
        rw [hsh] at cs
        go_wp2
        go_ret
        rw [E1.out, E2.out]
        have q1 : sevN resR resS (i + 1) sj = [] := by unfold sevN; rw [if_pos hsh]
        have q2 : sevNS resR resS (i + 1) sj = sj := by unfold sevNS; rw [if_pos hsh]
        rw [q1, q2]
        exact ⟨_, rfl, by rw [List.append_nil]; exact Kd.S_mono HO.out (fun _ _ => trivial), HR.out, HK.out⟩
      | false =>
        rw [hsh] at cs
        have q1 : sevN resR resS (i + 1) sj = resR sj :: sevN resR resS i (resS sj) := by rw [sevN, if_neg (by rw [hsh]; decide)]
        have q2 : sevNS resR resS (i + 1) sj = sevNS resR resS i (resS sj) := by rw [sevNS, if_neg (by rw [hsh]; decide)]
        rw [q1] at E1
        rw [q2] at E2
        clear q1 q2
        obtain ⟨Av, cv, rfl, hcv, _⟩ := Kd.S_reads HO.out
        have hjp : (0 : Int) < ((i + 1 : Nat) : Int) := by omega
        have hszw : w.heap.size ≤ wr.heap.size := HK.out.1
        have BO1 := Aside0.mk (HK.out.blk HBO.out ho (by simp))
        have BR1 := Aside0.mk (HK.out.blk HBR.out hr (by simp))
        go_wp2_with fail
        refine (getOneResult_calls w0 wr g bo br sj HR.out BO1.out BR1.out).mono ?_
        rintro e w2 ⟨vx, rfl, hX, hR, hK⟩
        obtain ⟨x, hx⟩ : ∃ x, x = resR sj := ⟨_, rfl⟩
        rw [← hx] at hX
        have HX := Aside0.mk hx
        have HXR := Aside0.mk hX
        have HO2 := Aside0.mk (Kd.S_keep (Kd.S_mono (Kd.S_bound HO.out) (fun k hk => (⟨hk.1, Nat.not_le.2 hk.2.2.1⟩ : k ≠ g ∧ ¬ wr.heap.size ≤ k))) hK (fun k hk => hk.1))
        have HK2 := Aside0.mk (keep_then HK.out hK)
        have HR2 := Aside0.mk hR
        have HLT := Aside0.mk (fun k hk => Kd.S_lt HO.out k hk)
        have hs2 : w.heap.size ≤ w2.heap.size := HK2.out.1
        have hs3 : wr.heap.size ≤ w2.heap.size := hK.1
        clear hx hR hK cs hX
        obtain ⟨Ax, cx, rfl, hcx, _⟩ := Kd.R_reads HXR.out
        go_wp2_with (first | (at_builtin; refine Kd.S_append k59 (w0 := w2) w.heap.size rfl (.tmp 19) (.tmp 22) 25 59 (.agg #[.slice none 0 0]) 24 rfl Tryd.underlying25 (by kernel_rfl) rfl (by decide) (by decide) (.slice Av xs.length cv) xs x [.slice Ax x.f0.length cx] (fun k => k ≠ g) (fun k => wr.heap.size ≤ k) rfl rfl (k59_mkM _ _ _ _ (Kd.R_lower HXR.out hszw)) (fun k hk => ⟨by omega, fun he => by have := HLT.out k he.symm; omega⟩) (fun k hk => by omega) HO2.out (Below.refl _ _) hs2 (by have := HL.out; omega) ?_; intro v1 w3 hO hB hG hat; have HO3 := Aside0.mk hO; have HB3 := Aside0.mk hB; have HG3 := Aside0.mk hG; clear hO hB hG hat))
        go_roundw
        case rel =>
          have hown : ∀ k, (Value.slice Av xs.length cv).ownBlock = some k → w.heap.size ≤ k := fun k hk => Kd.S_base HO2.out k hk
          refine ⟨i, resS sj, xs ++ [x], by go_num, by omega, ⟨by have := HL.out; rw [List.length_append]; simp; omega⟩, ⟨by rw [E1.out, HX.out, List.append_assoc]; rfl⟩, E2, HO3, ⟨?_⟩, ⟨?_⟩⟩
          · exact HR2.out.grownBy (HR2.out.below.trans (HB3.out.mono h0)) HG3.out (fun k hk => by have := hown k hk; omega)
          · exact keep_grown HK2.out HG3.out hown
        case measure => simp [intOf]

/-! ### every result has few rows -/
def Bts (s : RdS) : Prop := ∀ x ∈ s.1, 0 ≤ x ∧ x < 256
theorem Bts.take {s : RdS} (hs : Bts s) (n : Nat) : Bts (takeS s n) := by
  unfold takeS
  split
  · exact hs
  · exact fun x hx => hs x (List.mem_of_mem_drop hx)
theorem Bts.text {s : RdS} (hs : Bts s) : Bts (textS s) := (hs.take 1).take _
theorem Bts.row {s : RdS} (hs : Bts s) : Bts (rowS s) := hs.text.take 4
theorem Bts.op {s : RdS} (hs : Bts s) : Bts (opS s) := (hs.take 1).text.text.take 4
theorem Bts.sevN {α : Type} {r : RdS → α} {st : RdS → RdS} (hst : ∀ s, Bts s → Bts (st s)) : ∀ (n : Nat) (s : RdS), Bts s → Bts (sevNS r st n s)
  | 0, _, h => h
  | n + 1, s, h => by
    unfold sevNS
    split
    · exact h
    · exact Bts.sevN hst n _ (hst s h)
theorem Bts.sev {α : Type} {r : RdS → α} {st : RdS → RdS} (hst : ∀ s, Bts s → Bts (st s)) {s : RdS} (h : Bts s) : Bts (sevS r st s) := Bts.sevN hst _ _ (h.take 2)
theorem Bts.res {s : RdS} (hs : Bts s) : Bts (resS s) := Bts.sev (fun _ h => h.row) hs
theorem sevN_all {α : Type} {r : RdS → α} {st : RdS → RdS} {p : α → Prop} (hst : ∀ s, Bts s → Bts (st s)) (hp : ∀ s, Bts s → p (r s)) : ∀ (n : Nat) (s : RdS), Bts s → ∀ x ∈ sevN r st n s, p x
  | 0, _, _, x, hx => by simp [sevN] at hx
  | n + 1, s, h, x, hx => by
    unfold sevN at hx
    split at hx
    · cases hx
    · rcases List.mem_cons.1 hx with rfl | hx
      · exact hp s h
      · exact sevN_all hst hp n _ (hst s h) x hx
theorem sevN_short {α : Type} (r : RdS → α) (st : RdS → RdS) : ∀ (n : Nat) (s : RdS), (sevN r st n s).length ≤ n
  | 0, _ => Nat.le_refl _
  | n + 1, s => by
    unfold sevN
    split
    · simp
    · have := sevN_short r st n (st s)
      simp
      omega
theorem sevRes_rows (s : RdS) (h : ∀ x ∈ s.1, 0 ≤ x ∧ x < 256) : ∀ x ∈ sevR resR resS s, x.f0.length ≤ 9223372036854775807 := by
  refine sevN_all (p := fun x : S59 => x.f0.length ≤ 9223372036854775807) (fun _ h => h.res) (fun s hs => ?_) _ _ (Bts.take (show Bts s from h) 2)
  have h1 := sevN_short rowR rowS (numR s 2).toNat (takeS s 2)
  have h2 := numR_two hs
  show (sevR rowR rowS s).length ≤ _
  unfold sevR
  omega

end Go.Proofs.YtcohodkpppmaoaaDoor.Q
