/-
  packets.from and packets.Get: the message of some bytes, or why there is none.
-/
import Derived.Test.YtcohodkpppmaoaaDoorQB1
import Derived.Test.YtcohodkpppmaoaaDoorGet
namespace Go.Proofs.YtcohodkpppmaoaaDoor.Q
open Go.RowKit Go.Proofs.YtcohodkpppmaoaaDoorW.PrintWords Go.Proofs.YtcohodkpppmaoaaDoorW.PrintLast Go.Proofs.YtcohodkpppmaoaaDoorW.PrintMore
set_option linter.unusedVariables false

/-! ### plain -/
def mayH (s f t : Int) : Bool := decide (1 ≤ s) && decide (s ≤ 7) && decide (f < 4) && decide (t < 4)
abbrev MsgR := Int × Int × Int × Int × List (S62) × List (S59) × Int
def noMsg (e : Int) : MsgR := (0, 0, 0, 0, [], [], e)
def lenP (l : List Int) : Int := foldN ((l.drop 7).take 4)
def opsP (l : List Int) : List (S62) × Int := getR opR opS putOps ((l.drop 11).take (lenP l).toNat)
def resP (l : List Int) : List (S59) × Int := getR resR resS putResults ((l.drop 11).drop (lenP l).toNat)
def getP (l : List Int) : MsgR :=
  if l.length < 11 then noMsg 4
  else if (mayH (l.getD 0 0) (l.getD 1 0) (l.getD 2 0) && decide (lenP l ≤ (l.length : Int) - 11)) = true then
    if (opsP l).2 = 0 then
      if (resP l).2 = 0 then (l.getD 0 0, l.getD 1 0, l.getD 2 0, foldN ((l.drop 3).take 4), (opsP l).1, (resP l).1, 0)
      else noMsg (resP l).2
    else noMsg (opsP l).2
  else noMsg 4
theorem mayH_f (s f t g : Int) (x : List (S62)) (y : List (S59)) : packets_may.f s f t g x y = some (mayH s f t) := by
  unfold packets_may.f mayH
  by_cases h1 : s ≥ 1
  · by_cases h2 : s ≤ 7
    · by_cases h3 : f < 4
      · simp [h1, h2, h3]
      · simp [h1, h2, h3]
    · simp [h1, h2]
  · simp [h1]

set_option maxHeartbeats 1600000 in
set_option maxRecDepth 100000 in
theorem from_calls (A : Option Addr) (c : Nat) (b : List Int) (w : World) (hC : Kd.C (Kd.int .u8) w A b.length b) (hc : b.length ≤ c) (h4 : 4 ≤ b.length) (hb : ∀ x ∈ b, 0 ≤ x ∧ x < 256) :
    Calls Tryd.prog 45 #[.slice A b.length c] w fun e w' => e = .returned (.int .u32 (foldN (b.take 4))) ∧ w = w' := by
  obtain ⟨l, hle⟩ : ∃ l, l = b.take 4 := ⟨_, rfl⟩
  have hln : l.length = 4 := by rw [hle, List.length_take]; omega
  have hC4 := Kd.C_take hC (m := 4) h4
  rw [← hle, hln] at hC4
  have hby : ∀ x ∈ l, 0 ≤ x ∧ x < 256 := fun x hx => hb x (List.mem_of_mem_take (hle ▸ hx))
  rw [← hle]
  have HC := Aside0.mk hC4
  have HBY := Aside0.mk hby
  clear hC hb hle hC4 hby
  obtain ⟨iu, hiu, hsz⟩ := rd_uint8
  have hs1 := cut_to (P := Tryd.prog) 32 5 .i64 Tryd.underlying32 hiu A b.length c (4 : Int) (by omega) (by omega) hc
  rw [show (4 : Int).toNat = 4 from rfl] at hs1
  go_enter Tryd.func45, Tryd.ntmps45
  go_wp2
  go_loop [2, 8] (fun x i => ∃ k : Nat, k ≤ 4 ∧ x = .int .u32 (foldN (l.take k)) ∧ i = .int .i64 k) (fun _ i => 4 - (intOf i).toNat)
  case atStart => exact ⟨0, Nat.zero_le _, rfl, rfl⟩
  case round =>
    obtain ⟨k, hk, rfl, rfl⟩ := hrel
    by_cases hlt : k < 4
    · have hlt' : (k : Int) < 4 := by omega
      obtain ⟨ad, cs, rfl, hcl, hKc, hcell⟩ := Kd.C_get HC.out 0 (k : Int) (by omega) (by omega)
      have e1 : cs = [.int .u8 (l.getD k 0)] := hKc
      subst e1
      have hx := hcell 0 (.int .u8 (l.getD k 0)) rfl
      simp only [Int.toNat_natCast, Nat.mul_one, Nat.add_zero, show (Kd.int .u8).sz = 1 from rfl] at hx
      have hg : l.getD k 0 = l[k]'(by omega) := by rw [List.getD_eq_getElem?_getD, List.getElem?_eq_getElem (by omega)]; rfl
      have hb := HBY.out (l[k]'(by omega)) (List.getElem_mem _)
      rw [← hg] at hb
      generalize l.getD k 0 = b at *
      have HG := Aside0.mk hg
      clear hg
      go_wp2
      go_round
      case rel =>
        refine ⟨k + 1, by omega, ?_, by go_num⟩
        rw [u32_join _ _ hb.1 hb.2, List.take_succ_eq_append_getElem (by omega), ← HG.out]
        unfold foldN
        rw [List.foldl_append]
        rfl
      case measure => simp [intOf]; omega
    · go_wp2
      have e2 : l.take k = l := List.take_of_length_le (by omega)
      rw [e2]
      go_ret
      exact ⟨rfl, rfl⟩

def packets_Get.f (l0 : List Int) : Option MsgR := if ∀ x ∈ l0, 0 ≤ x ∧ x < 256 then some (getP l0) else none
def GotP (w : World) (r : MsgR) (e : Ending) (w' : World) : Prop :=
  ∃ v4 v5 : Value, e = .returned (.tuple #[.agg #[.int .u8 r.1, .int .u8 r.2.1, .int .u8 r.2.2.1, .int .u32 r.2.2.2.1, v4, v5], .int .i64 r.2.2.2.2.2.2]) ∧ Kd.R k62 62 w' w.heap.size (fun _ => True) v4 r.2.2.2.2.1 ∧ Kd.S k59 59 w' w.heap.size (fun _ => True) v5 r.2.2.2.2.2.1 ∧ Below w.heap.size w w'
theorem gotP_no (w w' : World) (c : Int) (hb : Below w.heap.size w w') : GotP w (noMsg c) (.returned (.tuple #[.agg #[.int .u8 0, .int .u8 0, .int .u8 0, .int .u32 0, .slice none 0 0, .slice none 0 0], .int .i64 c])) w' :=
  ⟨_, _, rfl, Kd.R_nil _ _ _ _ _, Kd.S_nil _ _ _ _ _, hb⟩
set_option maxHeartbeats 1600000 in
set_option maxRecDepth 100000 in
theorem Get_short (A : Option Addr) (c : Nat) (l : List Int) (w : World) (h : l.length < 11) :
    Calls Tryd.prog 28 #[.slice A l.length c] w (GotP w (noMsg 4)) := by
  have hu := Tryd.underlying27
  have h' : (l.length : Int) < 11 := by omega
  go_enter Tryd.func28, Tryd.ntmps28
  go_wp2
  try simp only [Exit.inBlock, Exit.then]
  refine bodyPost_ret (results_ct rfl _ _ w.heap.size 27 #[.int .u8 0, .int .u8 0, .int .u8 0, .int .u32 0, .slice none 0 0, .slice none 0 0] (0, 0) _ rfl (blk_new w _) hu rfl (by kernel_rfl)) rfl ?_
  exact gotP_no w _ 4 (below_alloc (Below.refl _ _) _)

theorem blk6p {w : World} {g t : Nat} {a b c d x y : Value} (h : w.heap[g]? = some (.cells #[a, b, c, d, x, y] t (0, 0))) : (w.cell? ⟨g, 0, none⟩ = some a ∧ w.cell? ⟨g, 1, none⟩ = some b ∧ w.cell? ⟨g, 2, none⟩ = some c ∧ w.cell? ⟨g, 3, none⟩ = some d ∧ w.cell? ⟨g, 4, none⟩ = some x ∧ w.cell? ⟨g, 5, none⟩ = some y) ∧ (w.frozen? ⟨g, 0, none⟩ = false ∧ w.frozen? ⟨g, 1, none⟩ = false ∧ w.frozen? ⟨g, 2, none⟩ = false ∧ w.frozen? ⟨g, 3, none⟩ = false ∧ w.frozen? ⟨g, 4, none⟩ = false ∧ w.frozen? ⟨g, 5, none⟩ = false) :=
  ⟨⟨blk_cell h 0, blk_cell h 1, blk_cell h 2, blk_cell h 3, blk_cell h 4, blk_cell h 5⟩, ⟨blk_frozen h 0, blk_frozen h 1, blk_frozen h 2, blk_frozen h 3, blk_frozen h 4, blk_frozen h 5⟩⟩
theorem put6 {w : World} {g t : Nat} {a0 a1 a2 a3 a4 a5 : Value} (h : w.heap[g]? = some (.cells #[a0, a1, a2, a3, a4, a5] t (0, 0))) (b0 b1 b2 b3 b4 b5 : Value) :
    ((((((w.setCell ⟨g, 0, none⟩ b0).setCell ⟨g, 1, none⟩ b1).setCell ⟨g, 2, none⟩ b2).setCell ⟨g, 3, none⟩ b3).setCell ⟨g, 4, none⟩ b4).setCell ⟨g, 5, none⟩ b5).heap[g]? = some (.cells #[b0, b1, b2, b3, b4, b5] t (0, 0)) :=
  blk_put (cs' := #[b0, b1, b2, b3, b4, b5]) (blk_put (cs' := #[b0, b1, b2, b3, b4, a5]) (blk_put (cs' := #[b0, b1, b2, b3, a4, a5]) (blk_put (cs' := #[b0, b1, b2, a3, a4, a5]) (blk_put (cs' := #[b0, b1, a2, a3, a4, a5]) (blk_put (cs' := #[b0, a1, a2, a3, a4, a5]) h 0 _ rfl) 1 _ rfl) 2 _ rfl) 3 _ rfl) 4 _ rfl) 5 _ rfl
theorem below6 {w W : World} {B g : Nat} (h : Below B w W) (hg : B ≤ g) (b0 b1 b2 b3 b4 b5 : Value) : Below B w ((((((W.setCell ⟨g, 0, none⟩ b0).setCell ⟨g, 1, none⟩ b1).setCell ⟨g, 2, none⟩ b2).setCell ⟨g, 3, none⟩ b3).setCell ⟨g, 4, none⟩ b4).setCell ⟨g, 5, none⟩ b5) :=
  (((((h.setCell hg _).setCell hg _).setCell hg _).setCell hg _).setCell hg _).setCell hg _
theorem far6 {W : World} {g k : Nat} (hk : k ≠ g) (b0 b1 b2 b3 b4 b5 : Value) : ((((((W.setCell ⟨g, 0, none⟩ b0).setCell ⟨g, 1, none⟩ b1).setCell ⟨g, 2, none⟩ b2).setCell ⟨g, 3, none⟩ b3).setCell ⟨g, 4, none⟩ b4).setCell ⟨g, 5, none⟩ b5).heap[k]? = W.heap[k]? :=
  (Below.heap_setCell _ _ _ _ hk).trans ((Below.heap_setCell _ _ _ _ hk).trans ((Below.heap_setCell _ _ _ _ hk).trans ((Below.heap_setCell _ _ _ _ hk).trans ((Below.heap_setCell _ _ _ _ hk).trans (Below.heap_setCell _ _ _ _ hk)))))
theorem get_cell {w : World} {A : Option Addr} {l : List Int} (hC : Kd.C (Kd.int .u8) w A l.length l) {k : Nat} (hk : k < l.length) : ∃ ad, A = some ad ∧ w.cell? (ad.add k) = some (.int .u8 (l.getD k 0)) := by
  obtain ⟨ad, cs, e, hcl, hKc, hcell⟩ := Kd.C_get hC 0 (k : Int) (by omega) (by omega)
  have e1 : cs = [.int .u8 (l.getD k 0)] := hKc
  subst e1
  have hx := hcell 0 (.int .u8 (l.getD k 0)) rfl
  simp only [Int.toNat_natCast, Nat.mul_one, Nat.add_zero, show (Kd.int .u8).sz = 1 from rfl] at hx
  exact ⟨ad, e, hx⟩
theorem cell_add (w : World) (ad : Addr) (k : Nat) (hk : 0 < k) : w.cell? ⟨ad.block, ad.off + k, none⟩ = w.cell? (ad.add k) := by
  unfold Addr.add
  rw [if_neg (by omega)]
theorem cell_add0 (w : World) (ad : Addr) : w.cell? ad = w.cell? (ad.add 0) := rfl
set_option maxHeartbeats 6400000 in
set_option maxRecDepth 100000 in
theorem Get_long (A : Option Addr) (c : Nat) (l : List Int) (w : World) (hC : Kd.C (Kd.int .u8) w A l.length l) (hc : l.length ≤ c) (hby : ∀ x ∈ l, 0 ≤ x ∧ x < 256) (h : 11 ≤ l.length) :
    Calls Tryd.prog 28 #[.slice A l.length c] w (GotP w (getP l)) := by
  have hu := Tryd.underlying27
  have h' : ¬ (l.length : Int) < 11 := by omega
  have h3 : (3 : Int) ≤ (l.length : Int) := by omega
  have h0 : (0 : Int) < (l.length : Int) := by omega
  have h1 : (1 : Int) < (l.length : Int) := by omega
  have h2 : (2 : Int) < (l.length : Int) := by omega
  obtain ⟨ad, rfl, q0⟩ := get_cell hC (k := 0) (by omega)
  obtain ⟨ad1, e1, q1⟩ := get_cell hC (k := 1) (by omega)
  obtain ⟨ad2, e2, q2⟩ := get_cell hC (k := 2) (by omega)
  cases e1
  cases e2
  obtain ⟨iu, hiu, hsz⟩ := rd_uint8
  have s3 := cut_from (P := Tryd.prog) 32 5 .i64 Tryd.underlying32 hiu 1 hsz (some ad) l.length c (3 : Int) (by omega) (by omega)
  have s7 := cut_from (P := Tryd.prog) 32 5 .i64 Tryd.underlying32 hiu 1 hsz (some ad) l.length c (7 : Int) (by omega) (by omega)
  have s11 := cut_from (P := Tryd.prog) 32 5 .i64 Tryd.underlying32 hiu 1 hsz (some ad) l.length c (11 : Int) (by omega) (by omega)
  simp only [show (3 : Int).toNat = 3 from rfl, show (7 : Int).toNat = 7 from rfl, show (11 : Int).toNat = 11 from rfl, Nat.mul_one] at s3 s7 s11
  have C3 := Kd.C_drop hC (m := 3) (by omega) hc
  have C7 := Kd.C_drop hC (m := 7) (by omega) hc
  have C11 := Kd.C_drop hC (m := 11) (by omega) hc
  simp only [show (Kd.int .u8).sz = 1 from rfl, Nat.mul_one] at C3 C7 C11
  obtain ⟨A3, hA3⟩ : ∃ A3, A3 = if c = 3 then some ad else Option.map (fun x => x.add 3) (some ad) := ⟨_, rfl⟩
  obtain ⟨A7, hA7⟩ : ∃ A7, A7 = if c = 7 then some ad else Option.map (fun x => x.add 7) (some ad) := ⟨_, rfl⟩
  obtain ⟨A11, hA11⟩ : ∃ A11, A11 = if c = 11 then some ad else Option.map (fun x => x.add 11) (some ad) := ⟨_, rfl⟩
  rw [← hA3] at s3 C3
  rw [← hA7] at s7 C7
  rw [← hA11] at s11 C11
  clear hA3 hA7 hA11
  have F3 : ∀ W, Below w.heap.size w W → Calls Tryd.prog 45 #[.slice A3 (l.length - 3) (c - 3)] W fun e w' => e = .returned (.int .u32 (foldN ((l.drop 3).take 4))) ∧ W = w' := fun W hb => by
    have h := from_calls A3 (c - 3) (l.drop 3) W (Kd.C_below C3 hb) (by rw [List.length_drop]; omega) (by rw [List.length_drop]; omega) (fun x hx => hby x (List.mem_of_mem_drop hx))
    rwa [List.length_drop] at h
  have F7 : ∀ W, Below w.heap.size w W → Calls Tryd.prog 45 #[.slice A7 (l.length - 7) (c - 7)] W fun e w' => e = .returned (.int .u32 (lenP l)) ∧ W = w' := fun W hb => by
    have h := from_calls A7 (c - 7) (l.drop 7) W (Kd.C_below C7 hb) (by rw [List.length_drop]; omega) (by rw [List.length_drop]; omega) (fun x hx => hby x (List.mem_of_mem_drop hx))
    rwa [List.length_drop] at h
  have hm : mayH (l.getD 0 0) (l.getD 1 0) (l.getD 2 0) = mayH (l.getD 0 0) (l.getD 1 0) (l.getD 2 0) := rfl
  have H3 := Aside0.mk F3
  have H7 := Aside0.mk F7
  have HC11 := Aside0.mk C11
  have HBY := Aside0.mk hby
  have HC := Aside0.mk hC
  have hS := And.intro q0 (And.intro q1 q2)
  have HS := Aside0.mk hS
  have hnr := foldN_range ((l.drop 7).take 4)
  have HN := Aside0.mk (show 0 ≤ lenP l ∧ lenP l < 4294967296 from hnr)
  clear hnr F3 F7 C3 C7 C11 hby hC hS q0 q1 q2 hm
  obtain ⟨b0, hb0⟩ : ∃ b0, l.getD 0 0 = b0 := ⟨_, rfl⟩
  obtain ⟨b1, hb1⟩ : ∃ b1, l.getD 1 0 = b1 := ⟨_, rfl⟩
  obtain ⟨b2, hb2⟩ : ∃ b2, l.getD 2 0 = b2 := ⟨_, rfl⟩
  rw [hb0, hb1, hb2] at HS
  have HB := Aside0.mk (And.intro hb0 (And.intro hb1 hb2))
  clear hb0 hb1 hb2
  have h0n : 0 < l.length := by omega
  have HS' : (fun w' : World => w'.cell? ad = some (.int .u8 b0) ∧ w'.cell? ⟨ad.block, ad.off + 1, none⟩ = some (.int .u8 b1) ∧ w'.cell? ⟨ad.block, ad.off + 2, none⟩ = some (.int .u8 b2)) w := ⟨(cell_add0 w ad).trans HS.out.1, (cell_add w ad 1 (by decide)).trans HS.out.2.1, (cell_add w ad 2 (by decide)).trans HS.out.2.2⟩
  obtain ⟨q0, q1, q2⟩ := HS'
  go_enter Tryd.func28, Tryd.ntmps28
  go_wp2_with fail
  first | (go_region_held3 (fun w' : World => w'.cell? ad = some (.int .u8 b0) ∧ w'.cell? ⟨ad.block, ad.off + 1, none⟩ = some (.int .u8 b1) ∧ w'.cell? ⟨ad.block, ad.off + 2, none⟩ = some (.int .u8 b2)) (go_keep) ((go_at_call 45; refine (H3.out _ (below_drew (below_alloc (Below.refl _ _) _))).mono ?_; rintro e w' ⟨rfl, rfl⟩))) | fail "held3"
  obtain ⟨n, hn⟩ : ∃ n, lenP l = n := ⟨_, rfl⟩
  obtain ⟨g, hg⟩ : ∃ g, foldN ((l.drop 3).take 4) = g := ⟨_, rfl⟩
  rw [hn] at H7 HN
  rw [hg]
  obtain ⟨W, hW⟩ : ∃ W, W = (w.alloc (.cells #[.int .u8 b0, .int .u8 b1, .int .u8 b2, .int .u32 g, .slice none 0 0, .slice none 0 0] 27)).drew := ⟨_, rfl⟩
  have hb : Below w.heap.size w W := by rw [hW]; exact below_drew (below_alloc (Below.refl _ _) _)
  have hx : W.heap[w.heap.size]? = some (.cells #[.int .u8 b0, .int .u8 b1, .int .u8 b2, .int .u32 g, .slice none 0 0, .slice none 0 0] 27 (0, 0)) := by rw [hW]; exact blk_new w _
  rw [← hW]
  have B1 := Aside0.mk hb
  have X1 := Aside0.mk hx
  have EN := Aside0.mk (And.intro hn hg)
  have hn0 := HN.out.1
  have hn1 := HN.out.2
  clear hb hx hW hn hg q0 q1 q2 H3 s3 h0n
  obtain ⟨⟨x0, x1, x2, x3, x4, x5⟩, ⟨y0, y1, y2, y3, y4, y5⟩⟩ := blk6p X1.out
  have hlt : w.heap.size < W.heap.size := World.block_lt_of_cell? W _ x0
  go_wp2_with fail
  refine (H7.out _ B1.out).mono ?_
  rintro e w' ⟨rfl, rfl⟩
  clear H7 s7
  go_wp2_with fail
  have hmay : Calls Tryd.prog 35 #[.agg #[.int .u8 b0, .int .u8 b1, .int .u8 b2, .int .u32 g, .slice none 0 0, .slice none 0 0]] W fun e w' => e = .returned (.bool (mayH b0 b1 b2)) ∧ Below W.heap.size W w' := packets_may.calls b0 b1 b2 g none 0 [] none 0 [] _ W (Kd.C_nil _ _) (Nat.le_refl _) (Kd.C_nil _ _) (Nat.le_refl _) (mayH_f b0 b1 b2 g [] [])
  refine hmay.mono ?_
  clear hmay
  obtain ⟨m, hm⟩ : ∃ m, mayH b0 b1 b2 = m := ⟨_, rfl⟩
  rw [hm]
  rintro e W2 ⟨rfl, hb2⟩
  have B2 := Aside0.mk (below_step B1.out hb2)
  have X2 := Aside0.mk (blk_below X1.out hb2)
  have EM := Aside0.mk hm
  clear hm hb2 x0 x1 x2 x3 x4 x5 y0 y1 y2 y3 y4 y5 hlt X1 B1
  obtain ⟨⟨x0, x1, x2, x3, x4, x5⟩, ⟨y0, y1, y2, y3, y4, y5⟩⟩ := blk6p X2.out
  have hlt : w.heap.size < W2.heap.size := World.block_lt_of_cell? W2 _ x0
  have hwu : IntKind.u64.wrap ((l.length - 11 : Nat) : Int) = ((l.length - 11 : Nat) : Int) := by
    have hm := Kd.C_max HC.out
    unfold maxLen at hm
    rw [IntKind.wrap_u64]
    omega
  cases m with
  | false =>
    go_wp2
    try simp only [Exit.inBlock, Exit.then]
    refine bodyPost_ret (results_ct rfl _ _ w.heap.size 27 #[.int .u8 0, .int .u8 0, .int .u8 0, .int .u32 0, .slice none 0 0, .slice none 0 0] (0, 0) _ rfl (put6 X2.out _ _ _ _ _ _) hu rfl (by kernel_rfl)) rfl ?_
    have e : getP l = noMsg 4 := by
      unfold getP
      rw [if_neg (by omega), HB.out.1, HB.out.2.1, HB.out.2.2, EN.out.1, EM.out]
      rfl
    rw [e]
    exact gotP_no w _ _ (below6 B2.out (Nat.le_refl _) _ _ _ _ _ _)
  | true =>
    by_cases hle : n ≤ (l.length : Int) - 11
    · have s8 := cut_to (P := Tryd.prog) 32 5 .u64 Tryd.underlying32 hiu A11 (l.length - 11) (c - 11) n hn0 (by omega) (by omega)
      have s9 := cut_from (P := Tryd.prog) 32 5 .u64 Tryd.underlying32 hiu 1 hsz A11 (l.length - 11) (c - 11) n hn0 (by omega)
      simp only [Nat.mul_one] at s9
      obtain ⟨A12, hA12⟩ : ∃ A12, A12 = if c - 11 = n.toNat then A11 else Option.map (fun x => x.add n.toNat) A11 := ⟨_, rfl⟩
      rw [← hA12] at s9
      have hl11 : (l.drop 11).length = l.length - 11 := List.length_drop
      have C8 := Kd.C_take HC11.out (m := n.toNat) (by omega)
      have C9 := Kd.C_drop HC11.out (m := n.toNat) (c := c - 11) (by omega) (by omega)
      rw [show n.toNat * (Kd.int .u8).sz = n.toNat from Nat.mul_one _, ← hA12] at C9
      have hl8 : ((l.drop 11).take n.toNat).length = n.toNat := by rw [List.length_take]; omega
      have hl9 : ((l.drop 11).drop n.toNat).length = l.length - 11 - n.toNat := by rw [List.length_drop]; omega
      have by8 : ∀ x ∈ (l.drop 11).take n.toNat, 0 ≤ x ∧ x < 256 := fun x hx => HBY.out x (List.mem_of_mem_drop (List.mem_of_mem_take hx))
      have by9 : ∀ x ∈ (l.drop 11).drop n.toNat, 0 ≤ x ∧ x < 256 := fun x hx => HBY.out x (List.mem_of_mem_drop (List.mem_of_mem_drop hx))
      obtain ⟨o1, o2, ho⟩ : ∃ o1 o2, opsP l = (o1, o2) := ⟨_, _, rfl⟩
      obtain ⟨r1, r2, hr⟩ : ∃ r1 r2, resP l = (r1, r2) := ⟨_, _, rfl⟩
      have ho' : getR opR opS putOps ((l.drop 11).take n.toNat) = (o1, o2) := by rw [← ho]; unfold opsP; rw [EN.out.1]
      have hr' : getR resR resS putResults ((l.drop 11).drop n.toNat) = (r1, r2) := by rw [← hr]; unfold resP; rw [EN.out.1]
      have F8 : ∀ W, Below w.heap.size w W → Calls Tryd.prog 46 #[.slice A11 n.toNat (c - 11)] W fun e w' => ∃ v0_ : Value, e = .returned (.tuple #[v0_, .int .i64 o2]) ∧ Kd.R k62 62 w' W.heap.size (fun _ => True) v0_ o1 ∧ Below W.heap.size W w' := fun W hb => by
        have h := rows_GetOps.calls A11 (c - 11) ((l.drop 11).take n.toNat) o1 o2 W (Kd.C_below C8 hb) (by omega) (by unfold rows_GetOps.f; rw [if_pos by8, ho'])
        rwa [hl8] at h
      have F9 : ∀ W, Below w.heap.size w W → Calls Tryd.prog 47 #[.slice A12 (l.length - 11 - n.toNat) (c - 11 - n.toNat)] W fun e w' => ∃ v0_ : Value, e = .returned (.tuple #[v0_, .int .i64 r2]) ∧ Kd.S k59 59 w' W.heap.size (fun _ => True) v0_ r1 ∧ Below W.heap.size W w' := fun W hb => by
        have h := rows_GetResults.calls A12 (c - 11 - n.toNat) ((l.drop 11).drop n.toNat) r1 r2 W (Kd.C_below C9 hb) (by omega) (by unfold rows_GetResults.f; rw [if_pos by9, hr'])
        rwa [hl9] at h
      have H8 := Aside0.mk F8
      have H9 := Aside0.mk F9
      have EO := Aside0.mk ho
      have ER := Aside0.mk hr
      have hle' : ¬ ((l.length - 11 : Nat) : Int) < n := by omega
      clear F8 F9 ho hr ho' hr' C8 C9 hl8 hl9 by8 by9 hA12 hl11
      go_wp2_with fail
      refine (H8.out _ B2.out).mono ?_
      rintro e W3 ⟨v, rfl, hO, hb3⟩
      obtain ⟨A4, c4, rfl, _⟩ := Kd.R_reads hO
      have B3 := Aside0.mk (below_step B2.out hb3)
      have X3 := Aside0.mk (blk_below X2.out hb3)
      have O3 := Aside0.mk (show Kd.R k62 62 W3 w.heap.size (fun k => w.heap.size < k) (.slice A4 o1.length c4) o1 from Kd.R_lower (Kd.R_mono (Kd.R_bound hO) (fun k hk => by have := hk.2.1; omega)) B2.out.size)
      clear hO hb3 H8 s8 x0 x1 x2 x3 x4 x5 y0 y1 y2 y3 y4 y5 hlt X2
      obtain ⟨⟨x0, x1, x2, x3, x4, x5⟩, ⟨y0, y1, y2, y3, y4, y5⟩⟩ := blk6p X3.out
      have hlt : w.heap.size < W3.heap.size := World.block_lt_of_cell? W3 _ x0
      have X4 := Aside0.mk (blk_put (cs' := #[.int .u8 b0, .int .u8 b1, .int .u8 b2, .int .u32 g, .slice A4 o1.length c4, .slice none 0 0]) X3.out 4 (.slice A4 o1.length c4) rfl)
      have B4 := Aside0.mk (B3.out.setCell (p := ⟨w.heap.size, 4, none⟩) (Nat.le_refl _) (.slice A4 o1.length c4))
      by_cases ho2 : o2 = 0
      · subst ho2
        go_wp2_with fail
        refine (H9.out _ B4.out).mono ?_
        rintro e W5 ⟨v, rfl, hO, hb5⟩
        obtain ⟨A5, c5, rfl, _⟩ := Kd.R_reads (Kd.S_R hO)
        have B5 := Aside0.mk (below_step B4.out hb5)
        have X5 := Aside0.mk (blk_below X4.out hb5)
        have O4 := Aside0.mk (Kd.R_below (Kd.R_step O3.out (fun k hk hlt => Below.heap_setCell W3 ⟨w.heap.size, 4, none⟩ (.slice A4 o1.length c4) k (by show k ≠ w.heap.size; omega))) hb5)
        have hs4 : w.heap.size < (W3.setCell ⟨w.heap.size, 4, none⟩ (.slice A4 o1.length c4)).heap.size := (Array.getElem?_eq_some_iff.1 X4.out).1
        have O5 := Aside0.mk (show Kd.S k59 59 W5 w.heap.size (fun k => w.heap.size < k) (.slice A5 r1.length c5) r1 from Kd.S_lower (Kd.S_mono (Kd.S_bound hO) (fun k hk => by have := hk.2.1; omega)) B4.out.size)
        clear hO hb5 hs4 H9 s9 x0 x1 x2 x3 x4 x5 y0 y1 y2 y3 y4 y5 hlt X3 X4 B3 B4 O3
        obtain ⟨⟨x0, x1, x2, x3, x4, x5⟩, ⟨y0, y1, y2, y3, y4, y5⟩⟩ := blk6p X5.out
        have hlt : w.heap.size < W5.heap.size := World.block_lt_of_cell? W5 _ x0
        have X6 := Aside0.mk (blk_put (cs' := #[.int .u8 b0, .int .u8 b1, .int .u8 b2, .int .u32 g, .slice A4 o1.length c4, .slice A5 r1.length c5]) X5.out 5 (.slice A5 r1.length c5) rfl)
        have B6 := Aside0.mk (B5.out.setCell (p := ⟨w.heap.size, 5, none⟩) (Nat.le_refl _) (.slice A5 r1.length c5))
        by_cases hr2 : r2 = 0
        · subst hr2
          go_wp2
          try simp only [Exit.inBlock, Exit.then]
          refine bodyPost_ret (results_ct rfl _ _ w.heap.size 27 #[.int .u8 b0, .int .u8 b1, .int .u8 b2, .int .u32 g, .slice A4 o1.length c4, .slice A5 r1.length c5] (0, 0) _ rfl (put6 X6.out _ _ _ _ _ _) hu rfl (by kernel_rfl)) rfl ?_
          have e : getP l = (b0, b1, b2, g, o1, r1, 0) := by
            unfold getP
            rw [if_neg (by omega), HB.out.1, HB.out.2.1, HB.out.2.2, EN.out.1, EN.out.2, EM.out, if_pos (by simp; omega), EO.out, if_pos rfl, ER.out, if_pos rfl]
          rw [e]
          exact ⟨_, _, rfl, Kd.R_mono (Kd.R_step O4.out (fun k hk hlt => (far6 (by omega) _ _ _ _ _ _).trans (Below.heap_setCell W5 ⟨w.heap.size, 5, none⟩ _ k (by show k ≠ w.heap.size; omega)))) (fun _ _ => trivial), Kd.S_mono (Kd.S_step O5.out (fun k hk hlt => (far6 (by omega) _ _ _ _ _ _).trans (Below.heap_setCell W5 ⟨w.heap.size, 5, none⟩ _ k (by show k ≠ w.heap.size; omega)))) (fun _ _ => trivial), below6 B6.out (Nat.le_refl _) _ _ _ _ _ _⟩
        · have hr2b : (r2 != 0) = true := by simpa using hr2
          go_wp2
          try simp only [Exit.inBlock, Exit.then]
          refine bodyPost_ret (results_ct rfl _ _ w.heap.size 27 #[.int .u8 0, .int .u8 0, .int .u8 0, .int .u32 0, .slice none 0 0, .slice none 0 0] (0, 0) _ rfl (put6 X6.out _ _ _ _ _ _) hu rfl (by kernel_rfl)) rfl ?_
          have e : getP l = noMsg r2 := by
            unfold getP
            rw [if_neg (by omega), HB.out.1, HB.out.2.1, HB.out.2.2, EN.out.1, EM.out]
            rw [if_pos (by simp; omega), EO.out, if_pos rfl, ER.out, if_neg hr2]
          rw [e]
          exact gotP_no w _ _ (below6 B6.out (Nat.le_refl _) _ _ _ _ _ _)
      · have ho2b : (o2 != 0) = true := by simpa using ho2
        go_wp2
        try simp only [Exit.inBlock, Exit.then]
        refine bodyPost_ret (results_ct rfl _ _ w.heap.size 27 #[.int .u8 0, .int .u8 0, .int .u8 0, .int .u32 0, .slice none 0 0, .slice none 0 0] (0, 0) _ rfl (put6 X4.out _ _ _ _ _ _) hu rfl (by kernel_rfl)) rfl ?_
        have e : getP l = noMsg o2 := by
          unfold getP
          rw [if_neg (by omega), HB.out.1, HB.out.2.1, HB.out.2.2, EN.out.1, EM.out]
          rw [if_pos (by simp; omega), EO.out, if_neg ho2]
        rw [e]
        exact gotP_no w _ _ (below6 B4.out (Nat.le_refl _) _ _ _ _ _ _)
    · have hle' : ((l.length - 11 : Nat) : Int) < n := by omega
      go_wp2
      try simp only [Exit.inBlock, Exit.then]
      refine bodyPost_ret (results_ct rfl _ _ w.heap.size 27 #[.int .u8 0, .int .u8 0, .int .u8 0, .int .u32 0, .slice none 0 0, .slice none 0 0] (0, 0) _ rfl (put6 X2.out _ _ _ _ _ _) hu rfl (by kernel_rfl)) rfl ?_
      have e : getP l = noMsg 4 := by
        unfold getP
        rw [if_neg (by omega), HB.out.1, HB.out.2.1, HB.out.2.2, EN.out.1, EM.out]
        rw [if_neg (by simp; omega)]
      rw [e]
      exact gotP_no w _ _ (below6 B2.out (Nat.le_refl _) _ _ _ _ _ _)
theorem packets_Get.calls (A0 : Option Addr) (c0 : Nat) (l0 : List Int) (r1 r2 r3 r4 : Int) (r5 : List (S62)) (r6 : List (S59)) (r7 : Int) (w : World) (hr0 : Kd.C (Kd.int .u8) w A0 l0.length l0) (hc0 : l0.length ≤ c0) (h : packets_Get.f l0 = some (r1, r2, r3, r4, r5, r6, r7)) :
    Calls Tryd.prog 28 #[.slice A0 l0.length c0] w fun e w' => ∃ v0_ v1_ : Value, e = .returned (.tuple #[.agg #[.int .u8 r1, .int .u8 r2, .int .u8 r3, .int .u32 r4, v0_, v1_], .int .i64 r7]) ∧ Kd.R k62 62 w' w.heap.size (fun _ => True) v0_ r5 ∧ Kd.S k59 59 w' w.heap.size (fun _ => True) v1_ r6 ∧ Below w.heap.size w w' := by
  unfold packets_Get.f at h
  split at h
  case isFalse => cases h
  rename_i hby
  have hg := Option.some.inj h
  by_cases hl : l0.length < 11
  · have e : getP l0 = noMsg 4 := if_pos hl
    have k := Get_short A0 c0 l0 w hl
    rw [← e, hg] at k
    exact k
  · have k := Get_long A0 c0 l0 w hr0 hc0 hby (by omega)
    rw [hg] at k
    exact k
end Go.Proofs.YtcohodkpppmaoaaDoor.Q
