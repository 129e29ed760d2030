/-
  packets.Put: a message as bytes, or why it is none.
-/
import Derived.Test.YtcohodkpppmaoaaDoorQB1
import Derived.Test.YtcohodkpppmaoaaDoorPGet
import Derived.WalkSpells
import Derived.BigRegion
import Derived.Laws.EntriesVeiled
namespace Go.Proofs.YtcohodkpppmaoaaDoor.Q
open Go.RowKit Go.Proofs.YtcohodkpppmaoaaDoorW.PrintWords Go.Proofs.YtcohodkpppmaoaaDoorW.PrintLast Go.Proofs.YtcohodkpppmaoaaDoorW.PrintMore
set_option linter.unusedVariables false

/-! ### plain -/
def errP (o r : Int) : Int := if r = 1 then 1 else if o = 0 then r else o
def headP (s f t g : Int) : List Int := [s, f, t] ++ num4 g
def bytesP (s f t g : Int) (o r : List Int) : List Int := headP s f t g ++ (num4 o.length ++ o) ++ r
def putP (s f t g : Int) (l4 : List (S62)) (l5 : List (S59)) : List Int × Int :=
  if mayH s f t = true then
    (if errP (putOps l4).2 (putResults l5).2 = 0 then (bytesP s f t g (putOps l4).1 (putResults l5).1, 0) else ([], errP (putOps l4).2 (putResults l5).2))
  else ([], 1)
def roomP (l4 : List (S62)) (l5 : List (S59)) : Prop :=
  l4.length ≤ 1000000000 ∧ l5.length ≤ 1000000000 ∧ (∀ x ∈ l5, x.f0.length ≤ 9223372036854775807) ∧ (putOps l4).1.length ≤ 4294967295 ∧ (putResults l5).1.length ≤ 4294967295
instance (l4 : List (S62)) (l5 : List (S59)) : Decidable (roomP l4 l5) := by unfold roomP; infer_instance
def packets_Put.f (s f t g : Int) (l4 : List (S62)) (l5 : List (S59)) : Option (List Int × Int) := if roomP l4 l5 then some (putP s f t g l4 l5) else none

theorem infoU8 : (Tryd.prog.info? 5).map (fun i => (i.zero, i.size, i.bytes)) = some (some (.int .u8 0), 1, 1) := by kernel_rfl
theorem number_calls' (n : Int) (w : World) : Calls Tryd.prog 37 #[.int .u32 n] w fun e w' => ∃ v0_ : Value, e = .returned (v0_) ∧ Kd.R (Kd.int .u8) 5 w' w.heap.size (fun _ => True) v0_ (num4 n) ∧ Below w.heap.size w w' :=
  packets_number.calls n (num4 n) w rfl

set_option maxHeartbeats 1600000 in
set_option maxRecDepth 100000 in
theorem part1_calls (w : World) (g : Nat) (a0 a1 a2 a3 v5 : Value) (A4 : Option Addr) (c4 : Nat) (l4 : List (S62)) (hb : w.heap[g]? = some (.cells #[a0, a1, a2, a3, .slice A4 l4.length c4, v5] 27 (0, 0)))
    (hC : Kd.C k62 w A4 l4.length l4) (hc : l4.length ≤ c4) (hl : l4.length ≤ 1000000000) (hp : (putOps l4).1.length ≤ 4294967295) :
    Calls Tryd.prog 36 #[.pointer (some ⟨g, 0, none⟩)] w fun e w' => ∃ v, e = .returned (.tuple #[v, .int .i64 (putOps l4).2]) ∧ Kd.R (Kd.int .u8) 5 w' w.heap.size (fun _ => True) v (num4 (putOps l4).1.length ++ (putOps l4).1) ∧ Below w.heap.size w w' := by
  obtain ⟨k, hk⟩ := (ev_putOps l4 hl).rounds
  have x4 := blk_cell hb 4
  obtain ⟨p, q, hpq⟩ : ∃ p q, putOps l4 = (p, q) := ⟨_, _, rfl⟩
  rw [hpq] at hk hp ⊢
  dsimp only at hp ⊢
  have HK := Aside0.mk hk
  have HC := Aside0.mk hC
  have HX := Aside0.mk hb
  have hw32 : IntKind.u32.wrap (p.length : Int) = (p.length : Int) := by rw [IntKind.wrap_u32]; omega
  clear hk hC hb hpq
  go_enter Tryd.func36, Tryd.ntmps36
  go_wp2_with fail
  refine (rows_PutOps.calls k A4 c4 l4 p q w HC.out hc HK.out).mono ?_
  rintro e w1 ⟨v, rfl, hO, hb1⟩
  obtain ⟨A, c, rfl, hcl, hCp⟩ := Kd.R_reads hO
  have B1 := Aside0.mk hb1
  have P1 := Aside0.mk hCp
  clear hO hb1 hCp x4
  go_wp2_with fail
  refine (number_calls' (p.length : Int) w1).mono ?_
  rintro e w2 ⟨v, rfl, hO, hb2⟩
  have P2 := Aside0.mk (Kd.C_below P1.out hb2)
  have B2 := Aside0.mk (below_step B1.out hb2)
  have O2 := Aside0.mk (Kd.R_lower hO B1.out.size)
  clear hO hb2 P1
  go_wp2_with (first
    | (at_builtin
       refine Kd.R_append_rows (Kd.int .u8) (w0 := w) w.heap.size rfl (.tmp 14) (.tmp 15) 32 5 (.int .u8 0) 1 rfl Tryd.underlying32 infoU8 rfl (by decide) (by decide) v (num4 (p.length : Int)) p A p.length c (fun _ => True) (fun _ => False) rfl rfl O2.out P2.out (fun _ _ h => h) (fun _ h => h.elim) (fun _ _ => trivial) B2.out B2.out.size (by rw [num4_length]; omega) ?_
       intro v1 w3 r1 r2 r3 r4
       have O3 := Aside0.mk r1
       have B3 := Aside0.mk r2
       clear r1 r2 r3 r4))
  go_ret2
  exact ⟨_, rfl, O3.out, B3.out⟩
set_option maxHeartbeats 1600000 in
set_option maxRecDepth 100000 in
theorem part2_calls (w : World) (g : Nat) (a0 a1 a2 a3 v4 : Value) (A5 : Option Addr) (c5 : Nat) (l5 : List (S59)) (hb : w.heap[g]? = some (.cells #[a0, a1, a2, a3, v4, .slice A5 l5.length c5] 27 (0, 0)))
    (hC : Kd.C k59 w A5 l5.length l5) (hc : l5.length ≤ c5) (hl : l5.length ≤ 1000000000) (hrl : ∀ x ∈ l5, x.f0.length ≤ 9223372036854775807) :
    Calls Tryd.prog 38 #[.pointer (some ⟨g, 0, none⟩)] w fun e w' => ∃ v, e = .returned (.tuple #[v, .int .i64 (putResults l5).2]) ∧ Kd.R (Kd.int .u8) 5 w' w.heap.size (fun _ => True) v (putResults l5).1 ∧ Below w.heap.size w w' := by
  obtain ⟨k, hk⟩ := (ev_putResults l5 hl hrl).rounds
  have x5 := blk_cell hb 5
  obtain ⟨p, q, hpq⟩ : ∃ p q, putResults l5 = (p, q) := ⟨_, _, rfl⟩
  rw [hpq] at hk ⊢
  dsimp only
  have HK := Aside0.mk hk
  have HC := Aside0.mk hC
  have HX := Aside0.mk hb
  have HR := Aside0.mk hrl
  clear hk hC hb hpq hrl
  go_enter Tryd.func38, Tryd.ntmps38
  go_wp2_with fail
  refine (rows_PutResults.calls k A5 c5 l5 p q w HC.out hc HK.out).mono ?_
  rintro e w1 ⟨v, rfl, hO, hb1⟩
  have B1 := Aside0.mk hb1
  have O1 := Aside0.mk hO
  clear hO hb1 x5
  go_wp2
  go_ret2
  exact ⟨_, rfl, O1.out, B1.out⟩

theorem errOther {q1 q2 : Int} (h1 : q1 ≠ 0) (h2 : q2 ≠ 1) : errP q1 q2 = q1 := by unfold errP; rw [if_neg h2, if_neg h1]
theorem putErr {s f t g : Int} {l4 : List (S62)} {l5 : List (S59)} {p1 p2 : List Int} {q1 q2 : Int} (hm : mayH s f t = true) (h1 : putOps l4 = (p1, q1)) (h2 : putResults l5 = (p2, q2)) (e : Int) (h : errP q1 q2 = e) (he : e ≠ 0) : putP s f t g l4 l5 = ([], e) := by
  unfold putP
  rw [if_pos hm, h1, h2, h, if_neg he]
theorem putOk {s f t g : Int} {l4 : List (S62)} {l5 : List (S59)} {p1 p2 : List Int} (hm : mayH s f t = true) (h1 : putOps l4 = (p1, 0)) (h2 : putResults l5 = (p2, 0)) : putP s f t g l4 l5 = (([s, f, t] ++ num4 g) ++ (num4 p1.length ++ p1) ++ p2, 0) := by
  unfold putP
  rw [if_pos hm, h1, h2]
  rfl
theorem idx0 (x y : Value) (w : World) : (Instr.index 71 (.agg #[x, y]) (.int .i64 0)).run Tryd.prog w = .ok x w := by kernel_rfl
theorem idx1 (x y : Value) (w : World) : (Instr.index 71 (.agg #[x, y]) (.int .i64 1)).run Tryd.prog w = .ok y w := by kernel_rfl
def PutPost (w : World) (r : List Int × Int) (e : Ending) (w' : World) : Prop := ∃ v : Value, e = .returned (.tuple #[v, .int .i64 r.2]) ∧ Kd.R (Kd.int .u8) 5 w' w.heap.size (fun _ => True) v r.1 ∧ Below w.heap.size w w'
theorem R_three (W : World) (base : Nat) (hb : base ≤ W.heap.size) {ok : Nat → Prop} (hok : ok W.heap.size) (s f t : Int) : Kd.R (Kd.int .u8) 5 (W.alloc (.cells #[.int .u8 s, .int .u8 f, .int .u8 t] 5)) base ok (.slice (some ⟨W.heap.size, 0, none⟩) 3 3) [s, f, t] :=
  Kd.R_of_own (enc := Value.int .u8) (h1 := fun _ => rfl) (own_lit W base 5 .u8 [s, f, t] hb (by simp)) (fun k hk => by
    have : W.heap.size = k := by simpa [Value.ownBlock] using hk
    exact this ▸ hok)
def SP (g : Nat) (s f t i : Int) (w : World) : Prop := w.cell? ⟨g, 0, none⟩ = some (.int .u8 s) ∧ w.cell? ⟨g, 1, none⟩ = some (.int .u8 f) ∧ w.cell? ⟨g, 2, none⟩ = some (.int .u8 t) ∧ w.cell? ⟨g, 3, none⟩ = some (.int .u32 i)
theorem SP.of {g tp : Nat} {s f t i : Int} {v4 v5 : Value} {w : World} (h : w.heap[g]? = some (.cells #[.int .u8 s, .int .u8 f, .int .u8 t, .int .u32 i, v4, v5] tp (0, 0))) : SP g s f t i w := ⟨blk_cell h 0, blk_cell h 1, blk_cell h 2, blk_cell h 3⟩
theorem SP.below {g : Nat} {s f t i : Int} {w w1 : World} (h : SP g s f t i w) (hb : Below w.heap.size w w1) : SP g s f t i w1 := ⟨cell_later hb h.1, cell_later hb h.2.1, cell_later hb h.2.2.1, cell_later hb h.2.2.2⟩
set_option maxHeartbeats 6400000 in
set_option maxRecDepth 100000 in
theorem Put_calls (w : World) (s f t i : Int) (A4 : Option Addr) (c4 : Nat) (l4 : List (S62)) (A5 : Option Addr) (c5 : Nat) (l5 : List (S59)) (h4 : Kd.C k62 w A4 l4.length l4) (hc4 : l4.length ≤ c4) (h5 : Kd.C k59 w A5 l5.length l5) (hc5 : l5.length ≤ c5) (hr : roomP l4 l5) :
    Calls Tryd.prog 17 #[.agg #[.int .u8 s, .int .u8 f, .int .u8 t, .int .u32 i, .slice A4 l4.length c4, .slice A5 l5.length c5]] w (PutPost w (putP s f t i l4 l5)) := by
  have hu := Tryd.underlying27
  obtain ⟨m, hm⟩ : ∃ m, mayH s f t = m := ⟨_, rfl⟩
  have HM := Aside0.mk hm
  have H4 := Aside0.mk h4
  have H5 := Aside0.mk h5
  have HR := Aside0.mk hr
  have hmf : ∀ (fn : Fn) (first cap : Array Value) (w : World), (Instr.makeFunc fn first cap).run Tryd.prog w = .ok (.func fn first cap) w := fun _ _ _ _ => rfl
  clear hm h4 h5 hr
  go_enter Tryd.func17, Tryd.ntmps17
  go_wp2_with fail
  have hb := below_alloc (Below.refl w.heap.size w) (.cells #[.int .u8 s, .int .u8 f, .int .u8 t, .int .u32 i, .slice A4 l4.length c4, .slice A5 l5.length c5] 27)
  refine (packets_may.calls s f t i A4 c4 l4 A5 c5 l5 m _ (Kd.C_below H4.out hb) hc4 (Kd.C_below H5.out hb) hc5 (by rw [mayH_f, HM.out])).mono ?_
  rintro e w1 ⟨rfl, hb1⟩
  have X1 := Aside0.mk (blk_below (blk_new w (.cells #[.int .u8 s, .int .u8 f, .int .u8 t, .int .u32 i, .slice A4 l4.length c4, .slice A5 l5.length c5] 27)) hb1)
  have B1 := Aside0.mk (below_step hb hb1)
  clear hb hb1
  cases m with
  | false =>
    go_wp2
    go_ret2
    have e : putP s f t i l4 l5 = ([], 1) := by unfold putP; rw [HM.out]; rfl
    rw [e]
    exact ⟨_, rfl, Kd.R_nil _ _ _ _ _, B1.out⟩
  | true =>
    go_wp2_with fail
    have hba := below_alloc (Below.refl w1.heap.size w1) (.cells #[.func (.func 36) #[] #[.pointer (some ⟨w.heap.size, 0, none⟩)], .func (.func 38) #[] #[.pointer (some ⟨w.heap.size, 0, none⟩)]] 71)
    obtain ⟨W, hW⟩ : ∃ W, W = w1.alloc (.cells #[.func (.func 36) #[] #[.pointer (some ⟨w.heap.size, 0, none⟩)], .func (.func 38) #[] #[.pointer (some ⟨w.heap.size, 0, none⟩)]] 71) := ⟨_, rfl⟩
    have AW := Aside0.mk (show W.heap[w1.heap.size]? = some (.cells #[.func (.func 36) #[] #[.pointer (some ⟨w.heap.size, 0, none⟩)], .func (.func 38) #[] #[.pointer (some ⟨w.heap.size, 0, none⟩)]] 71 (0, 0)) from by rw [hW]; exact blk_new w1 _)
    rw [← hW] at hba ⊢
    have BW := Aside0.mk (below_step B1.out hba)
    have XW := Aside0.mk (blk_below X1.out hba)
    have hw0 : w.heap.size < w1.heap.size := blk_lt X1.out
    have hw1 : w1.heap.size < W.heap.size := (Array.getElem?_eq_some_iff.1 AW.out).1
    have HSW := Aside0.mk (show SP w.heap.size s f t i W.drew from SP.of XW.out)
    have XD := Aside0.mk (show W.drew.heap[w.heap.size]? = some (.cells #[.int .u8 s, .int .u8 f, .int .u8 t, .int .u32 i, .slice A4 l4.length c4, .slice A5 l5.length c5] 27 (0, 0)) from XW.out)
    have AD := Aside0.mk (show W.drew.heap[w1.heap.size]? = some (.cells #[.func (.func 36) #[] #[.pointer (some ⟨w.heap.size, 0, none⟩)], .func (.func 38) #[] #[.pointer (some ⟨w.heap.size, 0, none⟩)]] 71 (0, 0)) from AW.out)
    have XA := Aside0.mk (show (W.drew.alloc (.cells #[.int .u8 s, .int .u8 f, .int .u8 t] 5)).heap[w.heap.size]? = some (.cells #[.int .u8 s, .int .u8 f, .int .u8 t, .int .u32 i, .slice A4 l4.length c4, .slice A5 l5.length c5] 27 (0, 0)) from blk_alloc XW.out _)
    have AA := Aside0.mk (show (W.drew.alloc (.cells #[.int .u8 s, .int .u8 f, .int .u8 t] 5)).heap[w1.heap.size]? = some (.cells #[.func (.func 36) #[] #[.pointer (some ⟨w.heap.size, 0, none⟩)], .func (.func 38) #[] #[.pointer (some ⟨w.heap.size, 0, none⟩)]] 71 (0, 0)) from blk_alloc AW.out _)
    have BD := Aside0.mk (below_drew BW.out)
    have BA := Aside0.mk (BD.out.alloc BD.out.size (.cells #[.int .u8 s, .int .u8 f, .int .u8 t] 5))
    have HSA := Aside0.mk (SP.of XA.out)
    clear hba hW X1 B1
    first | (go_region_held3 (fun w' : World => w'.cell? ⟨w.heap.size, 0, none⟩ = some (.int .u8 s) ∧ w'.cell? ⟨w.heap.size, 1, none⟩ = some (.int .u8 f) ∧ w'.cell? ⟨w.heap.size, 2, none⟩ = some (.int .u8 t) ∧ w'.cell? ⟨w.heap.size, 3, none⟩ = some (.int .u32 i)) (first | exact HSW.out | exact HSA.out | exact HS5.out | exact HSN.out | exact (HSN.out.below (below_alloc (Below.refl _ _) _))) (first
      | (go_at_call 37
         refine (number_calls' i _).mono ?_
         rintro e wn ⟨vn, rfl, hO, hb⟩
         obtain ⟨An, cn, rfl, hcn, hCn⟩ := Kd.R_reads hO
         have XN := Aside0.mk (show wn.heap[w.heap.size]? = some (.cells #[.int .u8 s, .int .u8 f, .int .u8 t, .int .u32 i, .slice A4 l4.length c4, .slice A5 l5.length c5] 27 (0, 0)) from by first | exact blk_below XD.out hb | exact blk_below XA.out hb)
         have AN := Aside0.mk (show wn.heap[w1.heap.size]? = some (.cells #[.func (.func 36) #[] #[.pointer (some ⟨w.heap.size, 0, none⟩)], .func (.func 38) #[] #[.pointer (some ⟨w.heap.size, 0, none⟩)]] 71 (0, 0)) from by first | exact blk_below AD.out hb | exact blk_below AA.out hb)
         have HSN := Aside0.mk (SP.of XN.out)
         have BNW := Aside0.mk (show Below w.heap.size w wn from by first | exact below_step BD.out hb | exact below_step BA.out hb)
         have BN := Aside0.mk hb
         have CN := Aside0.mk hCn
         clear hO hb hCn)
      | (refine Kd.R_append_rows_step (Kd.int .u8) (w0 := w) w.heap.size (by rfl) (.tmp 21) (.tmp 24) 32 5 (.int .u8 0) 1 (by rfl) Tryd.underlying32 infoU8 rfl (by decide) (by decide) (.slice (some ⟨W.drew.heap.size, 0, none⟩) 3 3) [s, f, t] (num4 i) An 4 cn (fun k => w.heap.size < k) (fun _ => False) (by rfl) (by rfl) (Kd.R_below (R_three W.drew w.heap.size BD.out.size (show w.heap.size < W.heap.size by omega) s f t) BN.out) CN.out (fun _ _ h => h) (fun _ h => h.elim) (fun k hk => Nat.lt_of_lt_of_le (show w.heap.size < wn.heap.size from blk_lt XN.out) hk) BNW.out BNW.out.size (by show 7 * 1 ≤ 140737488355328; omega) ?_
         intro v2 w5 r1 r2 r3 r4
         have X5 := Aside0.mk (show w5.heap[w.heap.size]? = some (.cells #[.int .u8 s, .int .u8 f, .int .u8 t, .int .u32 i, .slice A4 l4.length c4, .slice A5 l5.length c5] 27 (0, 0)) from (r3.block _ (Nat.lt_of_lt_of_le (by omega) (blk_lt AN.out)) (by show some _ ≠ some W.heap.size; intro e; injection e; omega)).trans XN.out)
         have Y5 := Aside0.mk (show w5.heap[w1.heap.size]? = some (.cells #[.func (.func 36) #[] #[.pointer (some ⟨w.heap.size, 0, none⟩)], .func (.func 38) #[] #[.pointer (some ⟨w.heap.size, 0, none⟩)]] 71 (0, 0)) from (r3.block _ (blk_lt AN.out) (by show some _ ≠ some W.heap.size; intro e; injection e; omega)).trans AN.out)
         have HS5 := Aside0.mk (SP.of X5.out)
         have O5 := Aside0.mk r1
         have B5 := Aside0.mk r2
         clear r1 r2 r3 r4)
      | (refine Kd.R_append_rows_step (Kd.int .u8) (w0 := w) w.heap.size (by rfl) (.tmp 21) (.tmp 24) 32 5 (.int .u8 0) 1 (by rfl) Tryd.underlying32 infoU8 rfl (by decide) (by decide) (.slice (some ⟨wn.heap.size, 0, none⟩) 3 3) [s, f, t] (num4 i) An 4 cn (fun k => w.heap.size < k) (fun _ => False) (by rfl) (by rfl) (R_three wn w.heap.size BNW.out.size (show w.heap.size < wn.heap.size from blk_lt XN.out) s f t) (Kd.C_below CN.out (below_alloc (Below.refl _ _) _)) (fun _ _ h => h) (fun _ h => h.elim) (fun k hk => Nat.lt_of_lt_of_le (blk_lt (blk_alloc XN.out (.cells #[.int .u8 s, .int .u8 f, .int .u8 t] 5))) hk) (BNW.out.alloc BNW.out.size _) (BNW.out.alloc BNW.out.size (.cells #[.int .u8 s, .int .u8 f, .int .u8 t] 5)).size (by show 7 * 1 ≤ 140737488355328; omega) ?_
         intro v2 w5 r1 r2 r3 r4
         have X5 := Aside0.mk (show w5.heap[w.heap.size]? = some (.cells #[.int .u8 s, .int .u8 f, .int .u8 t, .int .u32 i, .slice A4 l4.length c4, .slice A5 l5.length c5] 27 (0, 0)) from (r3.block _ (blk_lt (blk_alloc XN.out (.cells #[.int .u8 s, .int .u8 f, .int .u8 t] 5))) (by have := blk_lt XN.out; show some _ ≠ some wn.heap.size; intro e; injection e; omega)).trans (blk_alloc XN.out _))
         have Y5 := Aside0.mk (show w5.heap[w1.heap.size]? = some (.cells #[.func (.func 36) #[] #[.pointer (some ⟨w.heap.size, 0, none⟩)], .func (.func 38) #[] #[.pointer (some ⟨w.heap.size, 0, none⟩)]] 71 (0, 0)) from (r3.block _ (blk_lt (blk_alloc AN.out (.cells #[.int .u8 s, .int .u8 f, .int .u8 t] 5))) (by have := blk_lt AN.out; show some _ ≠ some wn.heap.size; intro e; injection e; omega)).trans (blk_alloc AN.out _))
         have HS5 := Aside0.mk (SP.of X5.out)
         have O5 := Aside0.mk r1
         have B5 := Aside0.mk r2
         clear r1 r2 r3 r4))) | fail "held3"
    all_goals
      have y0 := blk_cell Y5.out 0
      have y1 := blk_cell Y5.out 1
      have ix0 := idx0 (.func (.func 36) #[] #[.pointer (some ⟨w.heap.size, 0, none⟩)]) (.func (.func 38) #[] #[.pointer (some ⟨w.heap.size, 0, none⟩)])
      have ix1 := idx1 (.func (.func 36) #[] #[.pointer (some ⟨w.heap.size, 0, none⟩)]) (.func (.func 38) #[] #[.pointer (some ⟨w.heap.size, 0, none⟩)])
      obtain ⟨p1, q1, hq1⟩ : ∃ p q, putOps l4 = (p, q) := ⟨_, _, rfl⟩
      obtain ⟨p2, q2, hq2⟩ : ∃ p q, putResults l5 = (p, q) := ⟨_, _, rfl⟩
      have E1 := Aside0.mk hq1
      have E2 := Aside0.mk hq2
      have F1 := part1_calls w5 w.heap.size _ _ _ _ _ A4 c4 l4 X5.out (Kd.C_below H4.out B5.out) hc4 HR.out.1 HR.out.2.2.2.1
      rw [hq1] at F1
      have hl1 := HR.out.2.2.2.1
      have hl2 := HR.out.2.2.2.2
      rw [hq1] at hl1
      rw [hq2] at hl2
      dsimp only at F1 hl1 hl2
      obtain ⟨b1, hb1⟩ : ∃ b1, b1 = num4 (p1.length : Int) ++ p1 := ⟨_, rfl⟩
      have hlb : b1.length ≤ 4294967299 := by rw [hb1, List.length_append, num4_length]; omega
      rw [← hb1] at F1
      have EB := Aside0.mk hb1
      have G1 := Aside0.mk F1
      clear hq1 hq2 F1 hb1
      go_wp2_with fail
      refine wp_loop_rounds 3 ?_
      rw [rounds_succ]
      go_wp2_with fail
      refine G1.out.mono ?_
      rintro e w6 ⟨v, rfl, hO, hb⟩
      obtain ⟨A6, c6, rfl, hc6, hC6⟩ := Kd.R_reads hO
      have X6 := Aside0.mk (blk_below X5.out hb)
      have B6 := Aside0.mk (below_step B5.out hb)
      have O6 := Aside0.mk (Kd.R_below O5.out hb)
      have C6 := Aside0.mk hC6
      clear hO hb hC6 G1 X5 Y5 O5 B5 y0 y1
      rcases (show q1 = 1 ∨ q1 = 0 ∨ (q1 ≠ 1 ∧ q1 ≠ 0) by omega) with k1 | k1 | ⟨k1, k1'⟩
      all_goals
        first
          | (have z1 : (q1 == 1) = false := by simpa using k1
             have z0 : (q1 == 0) = false := by simpa using k1')
          | subst k1
        go_wp2_with (first
          | (at_builtin
             refine Kd.R_append_rows (Kd.int .u8) (w0 := w) w.heap.size rfl (.tmp 42) (.tmp 43) 32 5 (.int .u8 0) 1 rfl Tryd.underlying32 infoU8 rfl (by decide) (by decide) v2 ([s, f, t] ++ num4 i) b1 A6 b1.length c6 (fun k => w.heap.size < k) (fun _ => False) rfl rfl O6.out C6.out (fun _ _ h => h) (fun _ h => h.elim) (fun k hk => Nat.lt_of_lt_of_le (blk_lt X6.out) hk) B6.out B6.out.size (by simp [num4_length]; omega) ?_
             intro v3 w7 r1 r2 r3 r4
             have O7 := Aside0.mk r1
             have B7 := Aside0.mk r2
             have G7 := Aside0.mk r3
             clear r1 r2 r3 r4))
        have X7 := Aside0.mk ((G7.out.block _ (blk_lt X6.out) (fun e => Nat.lt_irrefl _ (O6.out.1 _ e.symm))).trans X6.out)
        have F2 := part2_calls w7 w.heap.size _ _ _ _ _ A5 c5 l5 X7.out (Kd.C_below H5.out B7.out) hc5 HR.out.2.1 HR.out.2.2.1
        rw [E2.out] at F2
        dsimp only at F2
        have G2 := Aside0.mk F2
        clear F2 G7 X6 B6 O6 C6
        rw [rounds_succ]
        go_wp2_with fail
        refine G2.out.mono ?_
        rintro e w8 ⟨v, rfl, hO, hb⟩
        obtain ⟨A8, c8, rfl, hc8, hC8⟩ := Kd.R_reads hO
        have B8 := Aside0.mk (below_step B7.out hb)
        have O8 := Aside0.mk (Kd.R_below O7.out hb)
        have C8 := Aside0.mk hC8
        have HSZ := Aside0.mk (show w.heap.size < w8.heap.size from Nat.lt_of_lt_of_le (blk_lt X7.out) hb.size)
        clear hO hb hC8 G2 X7 B7 O7
        rcases (show q2 = 1 ∨ q2 = 0 ∨ (q2 ≠ 1 ∧ q2 ≠ 0) by omega) with m1 | m1 | ⟨m1, m1'⟩
        all_goals
          first
            | (have t1 : (q2 == 1) = false := by simpa using m1
               have t0 : (q2 == 0) = false := by simpa using m1'
               have t2 : (q2 != 0) = true := by simpa using m1')
            | subst m1
          go_wp2_with (first
            | (at_builtin
               refine Kd.R_append_rows (Kd.int .u8) (w0 := w) w.heap.size rfl (.tmp 42) (.tmp 43) 32 5 (.int .u8 0) 1 rfl Tryd.underlying32 infoU8 rfl (by decide) (by decide) v3 (([s, f, t] ++ num4 i) ++ b1) p2 A8 p2.length c8 (fun k => w.heap.size < k) (fun _ => False) rfl rfl O8.out C8.out (fun _ _ h => h) (fun _ h => h.elim) (fun k hk => Nat.lt_of_lt_of_le HSZ.out hk) B8.out B8.out.size (by simp [num4_length]; omega) ?_
               intro v4 w9 r1 r2 r3 r4
               have O9 := Aside0.mk r1
               have B9 := Aside0.mk r2
               clear r1 r2 r3 r4))
          rw [rounds_succ]
          go_wp2
          go_ret2
          first
            | (rw [putErr HM.out E1.out E2.out 1 (by simp [errP]) (by decide)]; exact ⟨_, rfl, Kd.R_nil _ _ _ _ _, B9.out⟩)
            | (rw [putErr HM.out E1.out E2.out q2 (by simp [errP, m1]) m1']; exact ⟨_, rfl, Kd.R_nil _ _ _ _ _, B9.out⟩)
            | (rw [putErr HM.out E1.out E2.out q1 (errOther k1' m1) k1']; exact ⟨_, rfl, Kd.R_nil _ _ _ _ _, B9.out⟩)
            | (rw [putErr HM.out E1.out E2.out q1 (errOther k1' (by decide)) k1']; exact ⟨_, rfl, Kd.R_nil _ _ _ _ _, B9.out⟩)
            | (rw [putOk HM.out E1.out E2.out, ← EB.out]; exact ⟨_, rfl, Kd.R_mono O9.out (fun _ _ => trivial), B9.out⟩)
theorem packets_Put.calls (a0_0 a0_1 a0_2 a0_3 : Int) (A0_4 : Option Addr) (c0_4 : Nat) (l0_4 : List (S62)) (A0_5 : Option Addr) (c0_5 : Nat) (l0_5 : List (S59)) (r1 : List Int) (r2 : Int) (w : World) (hr0_4 : Kd.C k62 w A0_4 l0_4.length l0_4) (hc0_4 : l0_4.length ≤ c0_4) (hr0_5 : Kd.C k59 w A0_5 l0_5.length l0_5) (hc0_5 : l0_5.length ≤ c0_5) (h : packets_Put.f a0_0 a0_1 a0_2 a0_3 l0_4 l0_5 = some (r1, r2)) :
    Calls Tryd.prog 17 #[.agg #[.int .u8 a0_0, .int .u8 a0_1, .int .u8 a0_2, .int .u32 a0_3, .slice A0_4 l0_4.length c0_4, .slice A0_5 l0_5.length c0_5]] w fun e w' => ∃ v0_ : Value, e = .returned (.tuple #[v0_, .int .i64 r2]) ∧ Kd.R (Kd.int .u8) 5 w' w.heap.size (fun _ => True) v0_ r1 ∧ Below w.heap.size w w' := by
  unfold packets_Put.f at h
  split at h
  case isFalse => cases h
  rename_i hr
  have hg := Option.some.inj h
  have k := Put_calls w a0_0 a0_1 a0_2 a0_3 A0_4 c0_4 l0_4 A0_5 c0_5 l0_5 hr0_4 hc0_4 hr0_5 hc0_5 hr
  rw [hg] at k
  exact k
end Go.Proofs.YtcohodkpppmaoaaDoor.Q
