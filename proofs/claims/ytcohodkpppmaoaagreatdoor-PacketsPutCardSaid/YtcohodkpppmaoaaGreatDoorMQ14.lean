/-
  packets.Put: a message as bytes, or why it is none.
  packets.Text: what a message says, from whom, to whom, about what, as a line.
  The pure side of layer 7: what is put is got; what is got was put so; messages that are compared.
  Where the size of results is small, so is each one.
  The reference's Check of keys, as printed: whether the text is a key.
  The reference's PutChanges, and the comparison of two rows of bytes, as printed: the plain words of XSpec.
  The reference's Check of ops and PutOps, as printed: the plain words of XSpec.
  The reference's Check of messages, as printed.
  The reference's PutResults, as printed: the plain words of XSpec.
  The pure side of PacketsPut: how much a message has in it; the reference's Put and Text are the program's.
  Changes: a list is the same as itself, and its size comes to an answer; two rows of bytes that are one.
  The law PacketsPut, walked: it answers true.
  From a row's reading of an argument (DataW.trod) to the printed words' facts (Kd.K): numbers, texts, structs, slices, of whatever depth.
  How arguments of the types of this program are read: rows, ops, changes, results.
  How messages as arguments of the laws on packets are read.
  The tables that the rows list: a start that has them; from a row's condition to the table that the walk reads.
-/
import Derived.Test.YtcohodkpppmaoaaGreatDoorMQ12
import Derived.Test.YtcohodkpppmaoaaGreatDoorMQ13
import Derived.WalkSpells
import Derived.BigRegion
import Derived.Laws.EntriesVeiled
import Derived.Test.YtcohodkpppmaoaaGreatDoorMQ5
import Derived.Test.YtcohodkpppmaoaaGreatDoorMQ8
import Derived.Test.YtcohodkpppmaoaaGreatDoorMQ3
import Derived.Test.YtcohodkpppmaoaaGreatDoorMQ4
import Derived.Test.YtcohodkpppmaoaaGreatDoorMQ6
import Derived.Test.YtcohodkpppmaoaaGreatDoorMQ1
import Derived.ProofKit
import Derived.OpenShut
import Derived.SizedLaws
import Derived.Deep.Slices
import Derived.Test.YtcohodkpppmaoaaGreatDoorRows
import Derived.Lib.LaidTab
import Derived.Lib.LaidIn
import Derived.LaidLaws
import Derived.KernelRfl
set_option linter.unusedSimpArgs false
set_option linter.unusedVariables false
namespace Go.Proofs.YtcohodkpppmaoaaGreatDoor.Q
open Go.RowKit Go.Proofs.YtcohodkpppmaoaaGreatDoorW.PrintWords Go.Proofs.YtcohodkpppmaoaaGreatDoorW.PrintLast Go.Proofs.YtcohodkpppmaoaaGreatDoorW.PrintMore
set_option linter.unusedVariables false

def errP (o r : Int) : Int := if r = 1 then 1 else if o = 0 then r else o
def headP (s f t g : Int) : List Int := [s, f, t] ++ num4 g
def bytesP (s f t g : Int) (o r : List Int) : List Int := headP s f t g ++ (num4 o.length ++ o) ++ r
def putP (s f t g : Int) (l4 : List (S82)) (l5 : List (S145)) : List Int × Int :=
  if mayH s f t = true then
    (if errP (putOps l4).2 (putResults l5).2 = 0 then (bytesP s f t g (putOps l4).1 (putResults l5).1, 0) else ([], errP (putOps l4).2 (putResults l5).2))
  else ([], 1)
def roomP (l4 : List (S82)) (l5 : List (S145)) : Prop :=
  l4.length ≤ 1000000000 ∧ l5.length ≤ 1000000000 ∧ (∀ x ∈ l5, x.f0.length ≤ 9223372036854775807) ∧ (putOps l4).1.length ≤ 4294967295 ∧ (putResults l5).1.length ≤ 4294967295
instance (l4 : List (S82)) (l5 : List (S145)) : Decidable (roomP l4 l5) := by unfold roomP; infer_instance
def packets_Put.f (s f t g : Int) (l4 : List (S82)) (l5 : List (S145)) : Option (List Int × Int) := if roomP l4 l5 then some (putP s f t g l4 l5) else none

theorem infoU8 : (Tryz.prog.info? 5).map (fun i => (i.zero, i.size, i.bytes)) = some (some (.int .u8 0), 1, 1) := by kernel_rfl
theorem number_calls' (n : Int) (w : World) : Calls Tryz.prog 155 #[.int .u32 n] w fun e w' => ∃ v0_ : Value, e = .returned (v0_) ∧ Kd.R (Kd.int .u8) 5 w' w.heap.size (fun _ => True) v0_ (num4 n) ∧ Below w.heap.size w w' :=
  packets_number.calls n (num4 n) w rfl

set_option maxHeartbeats 1600000 in
set_option maxRecDepth 100000 in
theorem part1_calls (w : World) (g : Nat) (a0 a1 a2 a3 v5 : Value) (A4 : Option Addr) (c4 : Nat) (l4 : List (S82)) (hb : w.heap[g]? = some (.cells #[a0, a1, a2, a3, .slice A4 l4.length c4, v5] 50 (0, 0)))
    (hC : Kd.C k82 w A4 l4.length l4) (hc : l4.length ≤ c4) (hl : l4.length ≤ 1000000000) (hp : (putOps l4).1.length ≤ 4294967295) :
    Calls Tryz.prog 154 #[.pointer (some ⟨g, 0, none⟩)] w fun e w' => ∃ v, e = .returned (.tuple #[v, .int .i64 (putOps l4).2]) ∧ Kd.R (Kd.int .u8) 5 w' w.heap.size (fun _ => True) v (num4 (putOps l4).1.length ++ (putOps l4).1) ∧ Below w.heap.size w w' := by
  obtain ⟨k, hk⟩ := (ev_putOps l4 hl).rounds
  have x4 := blk_cell hb 4
  obtain ⟨p, q, hpq⟩ : ∃ p q, putOps l4 = (p, q) := ⟨_, _, rfl⟩
  rw [hpq] at hk hp ⊢
  dsimp only at hp ⊢
  have HK := Aside0.mk hk
  have HC := Aside0.mk hC
  have HX := Aside0.mk hb
  have hw32 : IntKind.u32.wrap (p.length : Int) = (p.length : Int) := by rw [IntKind.wrap_u32]; omega
  clear hk hC hb hpq
  go_enter Tryz.func154, Tryz.ntmps154
  go_wp2_with fail
  refine (rows_PutOps.calls k A4 c4 l4 p q w HC.out hc HK.out).mono ?_
  rintro e w1 ⟨v, rfl, hO, hb1⟩
  obtain ⟨A, c, rfl, hcl, hCp⟩ := Kd.R_reads hO
  have B1 := Aside0.mk hb1
  have P1 := Aside0.mk hCp
  clear hO hb1 hCp x4
  go_wp2_with fail
  refine (number_calls' (p.length : Int) w1).mono ?_
  rintro e w2 ⟨v, rfl, hO, hb2⟩
  have P2 := Aside0.mk (Kd.C_below P1.out hb2)
  have B2 := Aside0.mk (below_step B1.out hb2)
  have O2 := Aside0.mk (Kd.R_lower hO B1.out.size)
  clear hO hb2 P1
  go_wp2_with (first
    | (at_builtin
       refine Kd.R_append_rows (Kd.int .u8) (w0 := w) w.heap.size rfl (.tmp 14) (.tmp 15) 67 5 (.int .u8 0) 1 rfl Tryz.underlying67 infoU8 rfl (by decide) (by decide) v (num4 (p.length : Int)) p A p.length c (fun _ => True) (fun _ => False) rfl rfl O2.out P2.out (fun _ _ h => h) (fun _ h => h.elim) (fun _ _ => trivial) B2.out B2.out.size (by rw [num4_length]; omega) ?_
       intro v1 w3 r1 r2 r3 r4
       have O3 := Aside0.mk r1
       have B3 := Aside0.mk r2
       clear r1 r2 r3 r4))
  go_ret2
  exact ⟨_, rfl, O3.out, B3.out⟩
set_option maxHeartbeats 1600000 in
set_option maxRecDepth 100000 in
theorem part2_calls (w : World) (g : Nat) (a0 a1 a2 a3 v4 : Value) (A5 : Option Addr) (c5 : Nat) (l5 : List (S145)) (hb : w.heap[g]? = some (.cells #[a0, a1, a2, a3, v4, .slice A5 l5.length c5] 50 (0, 0)))
    (hC : Kd.C k145 w A5 l5.length l5) (hc : l5.length ≤ c5) (hl : l5.length ≤ 1000000000) (hrl : ∀ x ∈ l5, x.f0.length ≤ 9223372036854775807) :
    Calls Tryz.prog 156 #[.pointer (some ⟨g, 0, none⟩)] w fun e w' => ∃ v, e = .returned (.tuple #[v, .int .i64 (putResults l5).2]) ∧ Kd.R (Kd.int .u8) 5 w' w.heap.size (fun _ => True) v (putResults l5).1 ∧ Below w.heap.size w w' := by
  obtain ⟨k, hk⟩ := (ev_putResults l5 hl hrl).rounds
  have x5 := blk_cell hb 5
  obtain ⟨p, q, hpq⟩ : ∃ p q, putResults l5 = (p, q) := ⟨_, _, rfl⟩
  rw [hpq] at hk ⊢
  dsimp only
  have HK := Aside0.mk hk
  have HC := Aside0.mk hC
  have HX := Aside0.mk hb
  have HR := Aside0.mk hrl
  clear hk hC hb hpq hrl
  go_enter Tryz.func156, Tryz.ntmps156
  go_wp2_with fail
  refine (rows_PutResults.calls k A5 c5 l5 p q w HC.out hc HK.out).mono ?_
  rintro e w1 ⟨v, rfl, hO, hb1⟩
  have B1 := Aside0.mk hb1
  have O1 := Aside0.mk hO
  clear hO hb1 x5
  go_wp2
  go_ret2
  exact ⟨_, rfl, O1.out, B1.out⟩

theorem errOther {q1 q2 : Int} (h1 : q1 ≠ 0) (h2 : q2 ≠ 1) : errP q1 q2 = q1 := by unfold errP; rw [if_neg h2, if_neg h1]
theorem putErr {s f t g : Int} {l4 : List (S82)} {l5 : List (S145)} {p1 p2 : List Int} {q1 q2 : Int} (hm : mayH s f t = true) (h1 : putOps l4 = (p1, q1)) (h2 : putResults l5 = (p2, q2)) (e : Int) (h : errP q1 q2 = e) (he : e ≠ 0) : putP s f t g l4 l5 = ([], e) := by
  unfold putP
  rw [if_pos hm, h1, h2, h, if_neg he]
theorem putOk {s f t g : Int} {l4 : List (S82)} {l5 : List (S145)} {p1 p2 : List Int} (hm : mayH s f t = true) (h1 : putOps l4 = (p1, 0)) (h2 : putResults l5 = (p2, 0)) : putP s f t g l4 l5 = (([s, f, t] ++ num4 g) ++ (num4 p1.length ++ p1) ++ p2, 0) := by
  unfold putP
  rw [if_pos hm, h1, h2]
  rfl
theorem idx0 (x y : Value) (w : World) : (Instr.index 161 (.agg #[x, y]) (.int .i64 0)).run Tryz.prog w = .ok x w := by kernel_rfl
theorem idx1 (x y : Value) (w : World) : (Instr.index 161 (.agg #[x, y]) (.int .i64 1)).run Tryz.prog w = .ok y w := by kernel_rfl
def PutPost (w : World) (r : List Int × Int) (e : Ending) (w' : World) : Prop := ∃ v : Value, e = .returned (.tuple #[v, .int .i64 r.2]) ∧ Kd.R (Kd.int .u8) 5 w' w.heap.size (fun _ => True) v r.1 ∧ Below w.heap.size w w'
theorem R_three (W : World) (base : Nat) (hb : base ≤ W.heap.size) {ok : Nat → Prop} (hok : ok W.heap.size) (s f t : Int) : Kd.R (Kd.int .u8) 5 (W.alloc (.cells #[.int .u8 s, .int .u8 f, .int .u8 t] 5)) base ok (.slice (some ⟨W.heap.size, 0, none⟩) 3 3) [s, f, t] :=
  Kd.R_of_own (enc := Value.int .u8) (h1 := fun _ => rfl) (own_lit W base 5 .u8 [s, f, t] hb (by simp)) (fun k hk => by
    have : W.heap.size = k := by simpa [Value.ownBlock] using hk
    exact this ▸ hok)
def SP (g : Nat) (s f t i : Int) (w : World) : Prop := w.cell? ⟨g, 0, none⟩ = some (.int .u8 s) ∧ w.cell? ⟨g, 1, none⟩ = some (.int .u8 f) ∧ w.cell? ⟨g, 2, none⟩ = some (.int .u8 t) ∧ w.cell? ⟨g, 3, none⟩ = some (.int .u32 i)
theorem SP.of {g tp : Nat} {s f t i : Int} {v4 v5 : Value} {w : World} (h : w.heap[g]? = some (.cells #[.int .u8 s, .int .u8 f, .int .u8 t, .int .u32 i, v4, v5] tp (0, 0))) : SP g s f t i w := ⟨blk_cell h 0, blk_cell h 1, blk_cell h 2, blk_cell h 3⟩
theorem SP.below {g : Nat} {s f t i : Int} {w w1 : World} (h : SP g s f t i w) (hb : Below w.heap.size w w1) : SP g s f t i w1 := ⟨cell_later hb h.1, cell_later hb h.2.1, cell_later hb h.2.2.1, cell_later hb h.2.2.2⟩
set_option maxHeartbeats 6400000 in
set_option maxRecDepth 100000 in
theorem Put_calls (w : World) (s f t i : Int) (A4 : Option Addr) (c4 : Nat) (l4 : List (S82)) (A5 : Option Addr) (c5 : Nat) (l5 : List (S145)) (h4 : Kd.C k82 w A4 l4.length l4) (hc4 : l4.length ≤ c4) (h5 : Kd.C k145 w A5 l5.length l5) (hc5 : l5.length ≤ c5) (hr : roomP l4 l5) :
    Calls Tryz.prog 63 #[.agg #[.int .u8 s, .int .u8 f, .int .u8 t, .int .u32 i, .slice A4 l4.length c4, .slice A5 l5.length c5]] w (PutPost w (putP s f t i l4 l5)) := by
  have hu := Tryz.underlying50
  obtain ⟨m, hm⟩ : ∃ m, mayH s f t = m := ⟨_, rfl⟩
  have HM := Aside0.mk hm
  have H4 := Aside0.mk h4
  have H5 := Aside0.mk h5
  have HR := Aside0.mk hr
  have hmf : ∀ (fn : Fn) (first cap : Array Value) (w : World), (Instr.makeFunc fn first cap).run Tryz.prog w = .ok (.func fn first cap) w := fun _ _ _ _ => rfl
  clear hm h4 h5 hr
  go_enter Tryz.func63, Tryz.ntmps63
  go_wp2_with fail
  have hb := below_alloc (Below.refl w.heap.size w) (.cells #[.int .u8 s, .int .u8 f, .int .u8 t, .int .u32 i, .slice A4 l4.length c4, .slice A5 l5.length c5] 50)
  refine (packets_may.calls s f t i A4 c4 l4 A5 c5 l5 m _ (Kd.C_below H4.out hb) hc4 (Kd.C_below H5.out hb) hc5 (by rw [mayH_f, HM.out])).mono ?_
  rintro e w1 ⟨rfl, hb1⟩
  have X1 := Aside0.mk (blk_below (blk_new w (.cells #[.int .u8 s, .int .u8 f, .int .u8 t, .int .u32 i, .slice A4 l4.length c4, .slice A5 l5.length c5] 50)) hb1)
  have B1 := Aside0.mk (below_step hb hb1)
  clear hb hb1
  cases m with
  | false =>
    go_wp2
    go_ret2
    have e : putP s f t i l4 l5 = ([], 1) := by unfold putP; rw [HM.out]; rfl
    rw [e]
    exact ⟨_, rfl, Kd.R_nil _ _ _ _ _, B1.out⟩
  | true =>
    go_wp2_with fail
    have hba := below_alloc (Below.refl w1.heap.size w1) (.cells #[.func (.func 154) #[] #[.pointer (some ⟨w.heap.size, 0, none⟩)], .func (.func 156) #[] #[.pointer (some ⟨w.heap.size, 0, none⟩)]] 161)
    obtain ⟨W, hW⟩ : ∃ W, W = w1.alloc (.cells #[.func (.func 154) #[] #[.pointer (some ⟨w.heap.size, 0, none⟩)], .func (.func 156) #[] #[.pointer (some ⟨w.heap.size, 0, none⟩)]] 161) := ⟨_, rfl⟩
    have AW := Aside0.mk (show W.heap[w1.heap.size]? = some (.cells #[.func (.func 154) #[] #[.pointer (some ⟨w.heap.size, 0, none⟩)], .func (.func 156) #[] #[.pointer (some ⟨w.heap.size, 0, none⟩)]] 161 (0, 0)) from by rw [hW]; exact blk_new w1 _)
    rw [← hW] at hba ⊢
    have BW := Aside0.mk (below_step B1.out hba)
    have XW := Aside0.mk (blk_below X1.out hba)
    have hw0 : w.heap.size < w1.heap.size := blk_lt X1.out
    have hw1 : w1.heap.size < W.heap.size := (Array.getElem?_eq_some_iff.1 AW.out).1
    have HSW := Aside0.mk (show SP w.heap.size s f t i W.drew from SP.of XW.out)
    have XD := Aside0.mk (show W.drew.heap[w.heap.size]? = some (.cells #[.int .u8 s, .int .u8 f, .int .u8 t, .int .u32 i, .slice A4 l4.length c4, .slice A5 l5.length c5] 50 (0, 0)) from XW.out)
    have AD := Aside0.mk (show W.drew.heap[w1.heap.size]? = some (.cells #[.func (.func 154) #[] #[.pointer (some ⟨w.heap.size, 0, none⟩)], .func (.func 156) #[] #[.pointer (some ⟨w.heap.size, 0, none⟩)]] 161 (0, 0)) from AW.out)
    have XA := Aside0.mk (show (W.drew.alloc (.cells #[.int .u8 s, .int .u8 f, .int .u8 t] 5)).heap[w.heap.size]? = some (.cells #[.int .u8 s, .int .u8 f, .int .u8 t, .int .u32 i, .slice A4 l4.length c4, .slice A5 l5.length c5] 50 (0, 0)) from blk_alloc XW.out _)
    have AA := Aside0.mk (show (W.drew.alloc (.cells #[.int .u8 s, .int .u8 f, .int .u8 t] 5)).heap[w1.heap.size]? = some (.cells #[.func (.func 154) #[] #[.pointer (some ⟨w.heap.size, 0, none⟩)], .func (.func 156) #[] #[.pointer (some ⟨w.heap.size, 0, none⟩)]] 161 (0, 0)) from blk_alloc AW.out _)
    have BD := Aside0.mk (below_drew BW.out)
    have BA := Aside0.mk (BD.out.alloc BD.out.size (.cells #[.int .u8 s, .int .u8 f, .int .u8 t] 5))
    have HSA := Aside0.mk (SP.of XA.out)
    clear hba hW X1 B1
    first | (go_region_held3 (fun w' : World => w'.cell? ⟨w.heap.size, 0, none⟩ = some (.int .u8 s) ∧ w'.cell? ⟨w.heap.size, 1, none⟩ = some (.int .u8 f) ∧ w'.cell? ⟨w.heap.size, 2, none⟩ = some (.int .u8 t) ∧ w'.cell? ⟨w.heap.size, 3, none⟩ = some (.int .u32 i)) (first | exact HSW.out | exact HSA.out | exact HS5.out | exact HSN.out | exact (HSN.out.below (below_alloc (Below.refl _ _) _))) (first
      | (go_at_call 155
         refine (number_calls' i _).mono ?_
         rintro e wn ⟨vn, rfl, hO, hb⟩
         obtain ⟨An, cn, rfl, hcn, hCn⟩ := Kd.R_reads hO
         have XN := Aside0.mk (show wn.heap[w.heap.size]? = some (.cells #[.int .u8 s, .int .u8 f, .int .u8 t, .int .u32 i, .slice A4 l4.length c4, .slice A5 l5.length c5] 50 (0, 0)) from by first | exact blk_below XD.out hb | exact blk_below XA.out hb)
         have AN := Aside0.mk (show wn.heap[w1.heap.size]? = some (.cells #[.func (.func 154) #[] #[.pointer (some ⟨w.heap.size, 0, none⟩)], .func (.func 156) #[] #[.pointer (some ⟨w.heap.size, 0, none⟩)]] 161 (0, 0)) from by first | exact blk_below AD.out hb | exact blk_below AA.out hb)
         have HSN := Aside0.mk (SP.of XN.out)
         have BNW := Aside0.mk (show Below w.heap.size w wn from by first | exact below_step BD.out hb | exact below_step BA.out hb)
         have BN := Aside0.mk hb
         have CN := Aside0.mk hCn
         clear hO hb hCn)
      | (refine Kd.R_append_rows_step (Kd.int .u8) (w0 := w) w.heap.size (by rfl) (.tmp 21) (.tmp 24) 67 5 (.int .u8 0) 1 (by rfl) Tryz.underlying67 infoU8 rfl (by decide) (by decide) (.slice (some ⟨W.drew.heap.size, 0, none⟩) 3 3) [s, f, t] (num4 i) An 4 cn (fun k => w.heap.size < k) (fun _ => False) (by rfl) (by rfl) (Kd.R_below (R_three W.drew w.heap.size BD.out.size (show w.heap.size < W.heap.size by omega) s f t) BN.out) CN.out (fun _ _ h => h) (fun _ h => h.elim) (fun k hk => Nat.lt_of_lt_of_le (show w.heap.size < wn.heap.size from blk_lt XN.out) hk) BNW.out BNW.out.size (by show 7 * 1 ≤ 140737488355328; omega) ?_
         intro v2 w5 r1 r2 r3 r4
         have X5 := Aside0.mk (show w5.heap[w.heap.size]? = some (.cells #[.int .u8 s, .int .u8 f, .int .u8 t, .int .u32 i, .slice A4 l4.length c4, .slice A5 l5.length c5] 50 (0, 0)) from (r3.block _ (Nat.lt_of_lt_of_le (by omega) (blk_lt AN.out)) (by show some _ ≠ some W.heap.size; intro e; injection e; omega)).trans XN.out)
         have Y5 := Aside0.mk (show w5.heap[w1.heap.size]? = some (.cells #[.func (.func 154) #[] #[.pointer (some ⟨w.heap.size, 0, none⟩)], .func (.func 156) #[] #[.pointer (some ⟨w.heap.size, 0, none⟩)]] 161 (0, 0)) from (r3.block _ (blk_lt AN.out) (by show some _ ≠ some W.heap.size; intro e; injection e; omega)).trans AN.out)
         have HS5 := Aside0.mk (SP.of X5.out)
         have O5 := Aside0.mk r1
         have B5 := Aside0.mk r2
         clear r1 r2 r3 r4)
      | (refine Kd.R_append_rows_step (Kd.int .u8) (w0 := w) w.heap.size (by rfl) (.tmp 21) (.tmp 24) 67 5 (.int .u8 0) 1 (by rfl) Tryz.underlying67 infoU8 rfl (by decide) (by decide) (.slice (some ⟨wn.heap.size, 0, none⟩) 3 3) [s, f, t] (num4 i) An 4 cn (fun k => w.heap.size < k) (fun _ => False) (by rfl) (by rfl) (R_three wn w.heap.size BNW.out.size (show w.heap.size < wn.heap.size from blk_lt XN.out) s f t) (Kd.C_below CN.out (below_alloc (Below.refl _ _) _)) (fun _ _ h => h) (fun _ h => h.elim) (fun k hk => Nat.lt_of_lt_of_le (blk_lt (blk_alloc XN.out (.cells #[.int .u8 s, .int .u8 f, .int .u8 t] 5))) hk) (BNW.out.alloc BNW.out.size _) (BNW.out.alloc BNW.out.size (.cells #[.int .u8 s, .int .u8 f, .int .u8 t] 5)).size (by show 7 * 1 ≤ 140737488355328; omega) ?_
         intro v2 w5 r1 r2 r3 r4
         have X5 := Aside0.mk (show w5.heap[w.heap.size]? = some (.cells #[.int .u8 s, .int .u8 f, .int .u8 t, .int .u32 i, .slice A4 l4.length c4, .slice A5 l5.length c5] 50 (0, 0)) from (r3.block _ (blk_lt (blk_alloc XN.out (.cells #[.int .u8 s, .int .u8 f, .int .u8 t] 5))) (by have := blk_lt XN.out; show some _ ≠ some wn.heap.size; intro e; injection e; omega)).trans (blk_alloc XN.out _))
         have Y5 := Aside0.mk (show w5.heap[w1.heap.size]? = some (.cells #[.func (.func 154) #[] #[.pointer (some ⟨w.heap.size, 0, none⟩)], .func (.func 156) #[] #[.pointer (some ⟨w.heap.size, 0, none⟩)]] 161 (0, 0)) from (r3.block _ (blk_lt (blk_alloc AN.out (.cells #[.int .u8 s, .int .u8 f, .int .u8 t] 5))) (by have := blk_lt AN.out; show some _ ≠ some wn.heap.size; intro e; injection e; omega)).trans (blk_alloc AN.out _))
         have HS5 := Aside0.mk (SP.of X5.out)
         have O5 := Aside0.mk r1
         have B5 := Aside0.mk r2
         clear r1 r2 r3 r4))) | fail "held3"
    all_goals
      have y0 := blk_cell Y5.out 0
      have y1 := blk_cell Y5.out 1
      have ix0 := idx0 (.func (.func 154) #[] #[.pointer (some ⟨w.heap.size, 0, none⟩)]) (.func (.func 156) #[] #[.pointer (some ⟨w.heap.size, 0, none⟩)])
      have ix1 := idx1 (.func (.func 154) #[] #[.pointer (some ⟨w.heap.size, 0, none⟩)]) (.func (.func 156) #[] #[.pointer (some ⟨w.heap.size, 0, none⟩)])
      obtain ⟨p1, q1, hq1⟩ : ∃ p q, putOps l4 = (p, q) := ⟨_, _, rfl⟩
      obtain ⟨p2, q2, hq2⟩ : ∃ p q, putResults l5 = (p, q) := ⟨_, _, rfl⟩
      have E1 := Aside0.mk hq1
      have E2 := Aside0.mk hq2
      have F1 := part1_calls w5 w.heap.size _ _ _ _ _ A4 c4 l4 X5.out (Kd.C_below H4.out B5.out) hc4 HR.out.1 HR.out.2.2.2.1
      rw [hq1] at F1
      have hl1 := HR.out.2.2.2.1
      have hl2 := HR.out.2.2.2.2
      rw [hq1] at hl1
      rw [hq2] at hl2
      dsimp only at F1 hl1 hl2
      obtain ⟨b1, hb1⟩ : ∃ b1, b1 = num4 (p1.length : Int) ++ p1 := ⟨_, rfl⟩
      have hlb : b1.length ≤ 4294967299 := by rw [hb1, List.length_append, num4_length]; omega
      rw [← hb1] at F1
      have EB := Aside0.mk hb1
      have G1 := Aside0.mk F1
      clear hq1 hq2 F1 hb1
      go_wp2_with fail
      refine wp_loop_rounds 3 ?_
      rw [rounds_succ]
      go_wp2_with fail
      refine G1.out.mono ?_
      rintro e w6 ⟨v, rfl, hO, hb⟩
      obtain ⟨A6, c6, rfl, hc6, hC6⟩ := Kd.R_reads hO
      have X6 := Aside0.mk (blk_below X5.out hb)
      have B6 := Aside0.mk (below_step B5.out hb)
      have O6 := Aside0.mk (Kd.R_below O5.out hb)
      have C6 := Aside0.mk hC6
      clear hO hb hC6 G1 X5 Y5 O5 B5 y0 y1
      rcases (show q1 = 1 ∨ q1 = 0 ∨ (q1 ≠ 1 ∧ q1 ≠ 0) by omega) with k1 | k1 | ⟨k1, k1'⟩
      all_goals
        first
          | (have z1 : (q1 == 1) = false := by simpa using k1
             have z0 : (q1 == 0) = false := by simpa using k1')
          | subst k1
        go_wp2_with (first
          | (at_builtin
             refine Kd.R_append_rows (Kd.int .u8) (w0 := w) w.heap.size rfl (.tmp 42) (.tmp 43) 67 5 (.int .u8 0) 1 rfl Tryz.underlying67 infoU8 rfl (by decide) (by decide) v2 ([s, f, t] ++ num4 i) b1 A6 b1.length c6 (fun k => w.heap.size < k) (fun _ => False) rfl rfl O6.out C6.out (fun _ _ h => h) (fun _ h => h.elim) (fun k hk => Nat.lt_of_lt_of_le (blk_lt X6.out) hk) B6.out B6.out.size (by simp [num4_length]; omega) ?_
             intro v3 w7 r1 r2 r3 r4
             have O7 := Aside0.mk r1
             have B7 := Aside0.mk r2
             have G7 := Aside0.mk r3
             clear r1 r2 r3 r4))
        have X7 := Aside0.mk ((G7.out.block _ (blk_lt X6.out) (fun e => Nat.lt_irrefl _ (O6.out.1 _ e.symm))).trans X6.out)
        have F2 := part2_calls w7 w.heap.size _ _ _ _ _ A5 c5 l5 X7.out (Kd.C_below H5.out B7.out) hc5 HR.out.2.1 HR.out.2.2.1
        rw [E2.out] at F2
        dsimp only at F2
        have G2 := Aside0.mk F2
        clear F2 G7 X6 B6 O6 C6
        rw [rounds_succ]
        go_wp2_with fail
        refine G2.out.mono ?_
        rintro e w8 ⟨v, rfl, hO, hb⟩
        obtain ⟨A8, c8, rfl, hc8, hC8⟩ := Kd.R_reads hO
        have B8 := Aside0.mk (below_step B7.out hb)
        have O8 := Aside0.mk (Kd.R_below O7.out hb)
        have C8 := Aside0.mk hC8
        have HSZ := Aside0.mk (show w.heap.size < w8.heap.size from Nat.lt_of_lt_of_le (blk_lt X7.out) hb.size)
        clear hO hb hC8 G2 X7 B7 O7
        rcases (show q2 = 1 ∨ q2 = 0 ∨ (q2 ≠ 1 ∧ q2 ≠ 0) by omega) with m1 | m1 | ⟨m1, m1'⟩
        all_goals
          first
            | (have t1 : (q2 == 1) = false := by simpa using m1
               have t0 : (q2 == 0) = false := by simpa using m1'
               have t2 : (q2 != 0) = true := by simpa using m1')
            | subst m1
          go_wp2_with (first
            | (at_builtin
               refine Kd.R_append_rows (Kd.int .u8) (w0 := w) w.heap.size rfl (.tmp 42) (.tmp 43) 67 5 (.int .u8 0) 1 rfl Tryz.underlying67 infoU8 rfl (by decide) (by decide) v3 (([s, f, t] ++ num4 i) ++ b1) p2 A8 p2.length c8 (fun k => w.heap.size < k) (fun _ => False) rfl rfl O8.out C8.out (fun _ _ h => h) (fun _ h => h.elim) (fun k hk => Nat.lt_of_lt_of_le HSZ.out hk) B8.out B8.out.size (by simp [num4_length]; omega) ?_
               intro v4 w9 r1 r2 r3 r4
               have O9 := Aside0.mk r1
               have B9 := Aside0.mk r2
               clear r1 r2 r3 r4))
          rw [rounds_succ]
          go_wp2
          go_ret2
          first
            | (rw [putErr HM.out E1.out E2.out 1 (by simp [errP]) (by decide)]; exact ⟨_, rfl, Kd.R_nil _ _ _ _ _, B9.out⟩)
            | (rw [putErr HM.out E1.out E2.out q2 (by simp [errP, m1]) m1']; exact ⟨_, rfl, Kd.R_nil _ _ _ _ _, B9.out⟩)
            | (rw [putErr HM.out E1.out E2.out q1 (errOther k1' m1) k1']; exact ⟨_, rfl, Kd.R_nil _ _ _ _ _, B9.out⟩)
            | (rw [putErr HM.out E1.out E2.out q1 (errOther k1' (by decide)) k1']; exact ⟨_, rfl, Kd.R_nil _ _ _ _ _, B9.out⟩)
            | (rw [putOk HM.out E1.out E2.out, ← EB.out]; exact ⟨_, rfl, Kd.R_mono O9.out (fun _ _ => trivial), B9.out⟩)
theorem packets_Put.calls (a0_0 a0_1 a0_2 a0_3 : Int) (A0_4 : Option Addr) (c0_4 : Nat) (l0_4 : List (S82)) (A0_5 : Option Addr) (c0_5 : Nat) (l0_5 : List (S145)) (r1 : List Int) (r2 : Int) (w : World) (hr0_4 : Kd.C k82 w A0_4 l0_4.length l0_4) (hc0_4 : l0_4.length ≤ c0_4) (hr0_5 : Kd.C k145 w A0_5 l0_5.length l0_5) (hc0_5 : l0_5.length ≤ c0_5) (h : packets_Put.f a0_0 a0_1 a0_2 a0_3 l0_4 l0_5 = some (r1, r2)) :
    Calls Tryz.prog 63 #[.agg #[.int .u8 a0_0, .int .u8 a0_1, .int .u8 a0_2, .int .u32 a0_3, .slice A0_4 l0_4.length c0_4, .slice A0_5 l0_5.length c0_5]] w fun e w' => ∃ v0_ : Value, e = .returned (.tuple #[v0_, .int .i64 r2]) ∧ Kd.R (Kd.int .u8) 5 w' w.heap.size (fun _ => True) v0_ r1 ∧ Below w.heap.size w w' := by
  unfold packets_Put.f at h
  split at h
  case isFalse => cases h
  rename_i hr
  have hg := Option.some.inj h
  have k := Put_calls w a0_0 a0_1 a0_2 a0_3 A0_4 c0_4 l0_4 A0_5 c0_5 l0_5 hr0_4 hc0_4 hr0_5 hc0_5 hr
  rw [hg] at k
  exact k
end Go.Proofs.YtcohodkpppmaoaaGreatDoor.Q
namespace Go.Proofs.YtcohodkpppmaoaaGreatDoor.Q
open Go.RowKit Go.Proofs.YtcohodkpppmaoaaGreatDoorW.PrintWords Go.Proofs.YtcohodkpppmaoaaGreatDoorW.PrintLast Go.Proofs.YtcohodkpppmaoaaGreatDoorW.PrintMore
set_option linter.unusedVariables false

def decS (n : Int) : ByteArray := ⟨(Lib.decDigits n.toNat).toArray⟩
def digN (n : Int) : List UInt8 := Lib.decDigits n.toNat
def textL (s f t g : Int) : List UInt8 := digN s ++ 32 :: (digN f ++ 32 :: (digN t ++ 32 :: digN g))
def textP (s f t g : Int) : ByteArray := ⟨(textL s f t g).toArray⟩
theorem textL_join (s f t g : Int) : Lib.join (([s, f, t, g].map decS).map (·.data.toList)) [32] = textL s f t g := by
  rw [show (([s, f, t, g].map decS).map (·.data.toList)) = [digN s, digN f, digN t, digN g] by simp [decS, digN], Lib.join_cons]
  simp [Lib.joinTail, textL]
def textOk (s f t g : Int) : Prop := (0 ≤ s ∧ s ≤ 255) ∧ (0 ≤ f ∧ f ≤ 255) ∧ (0 ≤ t ∧ t ≤ 255) ∧ (0 ≤ g ∧ g ≤ 4294967295)
instance (s f t g : Int) : Decidable (textOk s f t g) := by unfold textOk; infer_instance
def packets_Text.f (s f t g : Int) (l4 : List (S82)) (l5 : List (S145)) : Option ByteArray := if textOk s f t g then some (textP s f t g) else none
abbrev kStr : Kd ByteArray := Kd.scalar Value.string (fun _ => rfl)
theorem infoStr : (Tryz.prog.info? 9).map (fun i => (i.zero, i.size, i.bytes)) = some (some (.string ⟨#[]⟩), 1, 16) := by kernel_rfl
theorem dec_few (n : Int) (h0 : 0 ≤ n) (h1 : n ≤ 4294967295) : (Lib.decDigits n.toNat).length ≤ 20 := digits_few _ (by omega)
set_option maxHeartbeats 3200000 in
set_option maxRecDepth 100000 in
theorem Text_calls (s f t g : Int) (v4 v5 : Value) (w : World) (h : textOk s f t g) (h4 : v4.oneCell' = true) (h5 : v5.oneCell' = true) (htab : TabOk w) :
    Calls Tryz.prog 65 #[.agg #[.int .u8 s, .int .u8 f, .int .u8 t, .int .u32 g, v4, v5]] w fun e w' => e = .returned (.string (textP s f t g)) ∧ Below w.heap.size w w' := by
  obtain ⟨⟨s0, s1⟩, ⟨f0, f1⟩, ⟨t0, t1⟩, ⟨g0, g1⟩⟩ := h
  have hw1 : IntKind.u32.wrap s = s := by rw [IntKind.wrap_u32]; omega
  have hw2 : IntKind.u32.wrap f = f := by rw [IntKind.wrap_u32]; omega
  have hw3 : IntKind.u32.wrap t = t := by rw [IntKind.wrap_u32]; omega
  have HT := Aside0.mk htab
  clear htab
  go_enter Tryz.func65, Tryz.ntmps65
  go_wp2
  obtain ⟨ns, hns⟩ : ∃ ns, ns = [s, f, t, g] := ⟨_, rfl⟩
  obtain ⟨w2, hw2⟩ : ∃ w2, w2 = ((w.alloc (.cells #[.int .u8 s, .int .u8 f, .int .u8 t, .int .u32 g, v4, v5] 50)).alloc (.cells #[.int .u32 s, .int .u32 f, .int .u32 t, .int .u32 g] 46)) := ⟨_, rfl⟩
  have hb2 : Below w.heap.size w w2 := by rw [hw2]; exact below_alloc (below_alloc (Below.refl _ _) _) _
  have hx2 : w2.heap[w.heap.size + 1]? = some (.cells #[.int .u32 s, .int .u32 f, .int .u32 t, .int .u32 g] 46 (0, 0)) := by
    rw [hw2]
    have := blk_new (w.alloc (.cells #[.int .u8 s, .int .u8 f, .int .u8 t, .int .u32 g, v4, v5] 50)) (.cells #[.int .u32 s, .int .u32 f, .int .u32 t, .int .u32 g] 46)
    have e : (w.alloc (.cells #[.int .u8 s, .int .u8 f, .int .u8 t, .int .u32 g, v4, v5] 50)).heap.size = w.heap.size + 1 := by show (w.heap.push _).size = _; simp
    rwa [e] at this
  have hln : ns.length = 4 := by rw [hns]; rfl
  have hnr : ∀ n ∈ ns, 0 ≤ n ∧ n ≤ 4294967295 := by
    rw [hns]
    intro n hn
    simp at hn
    rcases hn with rfl | rfl | rfl | rfl <;> omega
  have hcell : ∀ (W : World), Below w2.heap.size w2 W → ∀ k (hk : k < ns.length), W.cell? ⟨w.heap.size + 1, k, none⟩ = some (.int .u32 (ns[k])) := by
    intro W hb k hk
    have h := blk_below hx2 hb
    subst hns
    match k, hk with
    | 0, _ => exact blk_cell h 0
    | 1, _ => exact blk_cell h 1
    | 2, _ => exact blk_cell h 2
    | 3, _ => exact blk_cell h 3
  rw [← hw2]
  have HN := Aside0.mk hnr
  have HC := Aside0.mk hcell
  have HE := Aside0.mk hns
  have B2 := Aside0.mk hb2
  clear hw2 hx2 hnr hcell hns hb2 h4 h5 s0 s1 f0 f1 t0 t1 g0 g1
  go_loopw [3, 19] (fun o i wr => ∃ (k : Nat) (v : Value), k ≤ 4 ∧ i = .int .i64 k ∧ v = o ∧ Aside0 (Kd.R kStr 9 wr w2.heap.size (fun _ => True) v ((ns.take k).map decS) ∧ Below w2.heap.size w2 wr)) (fun _ i _ => 4 - (intOf i).toNat)
  case atStart => exact ⟨0, .slice none 0 0, Nat.zero_le _, rfl, rfl, ⟨Kd.R_nil _ _ _ _ _, Below.refl _ _⟩⟩
  case round =>
    obtain ⟨k, v, hk, rfl, rfl, HM⟩ := hrel
    by_cases hlt : k < 4
    · have hlt' : (k : Int) < 4 := by omega
      have hk0 : (0 : Int) ≤ (k : Int) := by omega
      have hkn : k < ns.length := by omega
      have hx := HC.out wr HM.out.2 k hkn
      have hr := HN.out (ns[k]) (List.getElem_mem _)
      obtain ⟨n, hn⟩ : ∃ n, ns[k] = n := ⟨_, rfl⟩
      rw [hn] at hx hr
      obtain ⟨u, rfl⟩ : ∃ u : Nat, n = u := ⟨n.toNat, by omega⟩
      have hwu : IntKind.u64.wrap (u : Int) = (u : Int) := by rw [IntKind.wrap_u64]; omega
      have EN := Aside0.mk hn
      have ED := Aside0.mk (show decS (u : Int) = ⟨(Lib.decDigits u).toArray⟩ by unfold decS; rw [Int.toNat_natCast])
      have HL := Aside0.mk (show ((ns.take k).map decS).length = k by rw [List.length_map, List.length_take]; omega)
      clear hn
      go_wp2_with fail
      refine (pubFormatUint_calls u (by omega) wr (TabOk.below HT.out (below_step B2.out HM.out.2))).mono ?_
      rintro e w3 ⟨rfl, hb⟩
      have R3 := Aside0.mk (Kd.R_below HM.out.1 hb)
      have B3 := Aside0.mk (below_step HM.out.2 hb)
      clear hb hx
      go_wp2_with (first | (at_builtin; refine Kd.R_append kStr (w0 := w2) w2.heap.size rfl (.tmp 23) (.tmp 27) 162 9 (.string ⟨#[]⟩) 16 rfl Tryz.underlying162 infoStr rfl (by decide) (by decide) v ((ns.take k).map decS) ⟨(Lib.decDigits u).toArray⟩ [.string ⟨(Lib.decDigits u).toArray⟩] (fun _ => True) (fun _ => False) rfl rfl rfl (fun _ hk => hk.elim) (fun _ _ => trivial) R3.out B3.out B3.out.size (by rw [HL.out]; omega) ?_; intro v1 w4 h1 h2 h3 h4; have R4 := Aside0.mk h1; have B4 := Aside0.mk h2; clear h1 h2 h3 h4))
      go_roundw
      case rel =>
        refine ⟨k + 1, v1, by omega, by go_num, rfl, ⟨?_, B4.out⟩⟩
        rw [List.take_succ_eq_append_getElem hkn, List.map_append, EN.out]
        show Kd.R kStr _ _ _ _ _ (_ ++ [decS (u : Int)])
        rw [ED.out]
        exact R4.out
      case measure => simp [intOf]; omega
    · obtain rfl : k = 4 := by omega
      have hm := HM.out.1
      rw [List.take_of_length_le (by omega)] at hm
      obtain ⟨inner, hown⟩ := Kd.R_own hm
      have hl4 : (ns.map decS).length = 4 := by rw [List.length_map]; exact hln
      rw [hl4] at hown
      obtain ⟨gb, cap, rfl, _, hcap⟩ := hown.form (by omega)
      have hs := HE.out
      subst hs
      obtain ⟨A, cA, eA, hcA, hCA⟩ := Kd.R_reads hm
      rw [hl4] at eA hcA
      injection eA with eA1 _ eA2
      subst eA1 eA2
      have hjn : (Lib.join (([s, f, t, g].map decS).map (·.data.toList)) [32]).length ≤ 140737488355328 := by
        rw [textL_join]
        have h1 := dec_few s (HN.out s (by simp)).1 (HN.out s (by simp)).2
        have h2 := dec_few f (HN.out f (by simp)).1 (HN.out f (by simp)).2
        have h3 := dec_few t (HN.out t (by simp)).1 (HN.out t (by simp)).2
        have h4 := dec_few g (HN.out g (by simp)).1 (HN.out g (by simp)).2
        simp only [textL, digN, List.length_append, List.length_cons]
        omega
      have hj := Tryz.strings_Join gb 0 cap ([s, f, t, g].map decS) ⟨#[32]⟩ wr (fun j x hx => by
        obtain ⟨hj, hx'⟩ := List.getElem?_eq_some_iff.1 hx
        obtain ⟨ad, cs, e, hcl, hKc, hcell⟩ := Kd.C_get hCA ⟨#[]⟩ (j : Int) (by omega) (by omega)
        cases e
        have e1 : cs = [.string x] := by
          have h : cs = [.string (([s, f, t, g].map decS).getD (j : Int).toNat ⟨#[]⟩)] := hKc
          rw [h, Int.toNat_natCast, List.getD_eq_getElem?_getD, hx]
          rfl
        subst e1
        have h := hcell 0 (.string x) rfl
        rw [Int.toNat_natCast, add_plain] at h
        rw [show j * kStr.sz + 0 = 0 + j by rw [show kStr.sz = 1 from rfl]; omega] at h
        exact h) hcap (by simp) hcA hjn
      rw [show ((⟨#[32]⟩ : ByteArray).data.toList) = [32] from rfl, textL_join] at hj
      have HJ := Aside0.mk hj
      have HBW := Aside0.mk (below_step B2.out HM.out.2)
      clear hm hown hCA hjn hj
      go_wp2_with fail
      refine HJ.out.mono ?_
      rintro e w3 ⟨rfl, hb⟩
      have HB3 := Aside0.mk (below_step HBW.out hb)
      clear hb
      go_wp2
      go_ret
      exact ⟨rfl, HB3.out⟩
theorem packets_Text.calls (a0_0 a0_1 a0_2 a0_3 : Int) (A0_4 : Option Addr) (c0_4 : Nat) (l0_4 : List (S82)) (A0_5 : Option Addr) (c0_5 : Nat) (l0_5 : List (S145)) (r : ByteArray) (w : World) (hr0_4 : Kd.C k82 w A0_4 l0_4.length l0_4) (hc0_4 : l0_4.length ≤ c0_4) (hr0_5 : Kd.C k145 w A0_5 l0_5.length l0_5) (hc0_5 : l0_5.length ≤ c0_5) (h : packets_Text.f a0_0 a0_1 a0_2 a0_3 l0_4 l0_5 = some r) (hT0_ : TabOk w) :
    Calls Tryz.prog 65 #[.agg #[.int .u8 a0_0, .int .u8 a0_1, .int .u8 a0_2, .int .u32 a0_3, .slice A0_4 l0_4.length c0_4, .slice A0_5 l0_5.length c0_5]] w fun e w' => e = .returned (.string r) ∧ Below w.heap.size w w' := by
  unfold packets_Text.f at h
  split at h
  case isFalse => cases h
  rename_i ho
  have hg := Option.some.inj h
  subst hg
  exact Text_calls a0_0 a0_1 a0_2 a0_3 _ _ w ho rfl rfl hT0_
end Go.Proofs.YtcohodkpppmaoaaGreatDoor.Q
namespace Go.Proofs.YtcohodkpppmaoaaGreatDoor.Q
open Go.RowKit Go.Proofs.YtcohodkpppmaoaaGreatDoorW.PrintWords Go.Proofs.YtcohodkpppmaoaaGreatDoorW.PrintLast Go.Proofs.YtcohodkpppmaoaaGreatDoorW.PrintMore
set_option linter.unusedVariables false

theorem opB_len7 (x : OpT) (h : opE x = 0) : (opB x).length ≤ 39 := by
  have := op_sizes x h
  simp only [opB, List.length_append, List.length_cons, List.length_nil, textB_length, num4_length]
  omega
theorem rowB_len7 (x : RowT) (h : isKey x.f0 = true) : (rowB x).length ≤ 21 := by
  have := (isKey_size _ h).2
  simp only [rowB, List.length_append, textB_length, num4_length]
  omega
theorem resE_zero (x : ResultT) (h : resultE x = 0) : x.f0.length ≤ 256 ∧ ∀ r ∈ x.f0, isKey r.f0 = true := by
  unfold resultE at h
  by_cases c : mayRows x.f0 = true
  · rw [if_pos c] at h
    by_cases d : x.f0.length ≤ 256
    · exact ⟨d, fun r hr => by unfold mayRows at c; exact List.all_eq_true.1 c r hr⟩
    · rw [if_neg d] at h
      cases h
  · rw [if_neg c] at h
    cases h
theorem resB_len7 (x : ResultT) (h : resultE x = 0) : (resultB x).length ≤ 5378 := by
  obtain ⟨h1, h2⟩ := resE_zero x h
  have h3 := flatMap_len_le rowB 21 x.f0 (fun r hr => rowB_len7 r (h2 r hr))
  simp only [resultB, rowsB, List.length_append, num2_length]
  omega
theorem putOps_len (l : List OpT) : (putOps l).1.length ≤ 1000 := by
  by_cases h : (putOps l).2 = 0
  · obtain ⟨h1, h2, h3⟩ := putList_ok opE_cases h
    have e : (putOps l).1 = num2 l.length ++ l.flatMap opB := h3
    have h4 := flatMap_len_le opB 39 l (fun x hx => opB_len7 x (h1 x hx))
    rw [e, List.length_append, num2_length]
    omega
  · have e : (putOps l).1 = [] := putList_err h
    rw [e]
    simp
theorem putResults_len (l : List ResultT) : (putResults l).1.length ≤ 100000 := by
  by_cases h : (putResults l).2 = 0
  · obtain ⟨h1, h2, h3⟩ := putList_ok resultE_cases h
    have e : (putResults l).1 = num2 l.length ++ l.flatMap resultB := h3
    have h4 := flatMap_len_le resultB 5378 l (fun x hx => resB_len7 x (h1 x hx))
    rw [e, List.length_append, num2_length]
    omega
  · have e : (putResults l).1 = [] := putList_err h
    rw [e]
    simp
theorem room_of (l4 : List OpT) (l5 : List ResultT) (h4 : l4.length ≤ 1000000000) (h5 : l5.length ≤ 1000000000) (hr : ∀ x ∈ l5, x.f0.length ≤ 9223372036854775807) : roomP l4 l5 :=
  ⟨h4, h5, hr, by have := putOps_len l4; omega, by have := putResults_len l5; omega⟩
theorem put_f {s f t g : Int} {l4 : List OpT} {l5 : List ResultT} (h : roomP l4 l5) : packets_Put.f s f t g l4 l5 = some (putP s f t g l4 l5) := if_pos h
theorem text_f {s f t g : Int} {l4 : List OpT} {l5 : List ResultT} (h : textOk s f t g) : packets_Text.f s f t g l4 l5 = some (textP s f t g) := if_pos h

theorem bytesP_cons (s f t g : Int) (o r : List Int) : bytesP s f t g o r = s :: f :: t :: (num4 g ++ (num4 o.length ++ (o ++ r))) := by
  unfold bytesP headP
  simp
theorem bytesP_len (s f t g : Int) (o r : List Int) : (bytesP s f t g o r).length = 11 + o.length + r.length := by
  rw [bytesP_cons]
  simp only [List.length_cons, List.length_append, num4_length]
  omega
theorem put_zero {s f t g : Int} {l4 : List OpT} {l5 : List ResultT} (h : (putP s f t g l4 l5).2 = 0) : mayH s f t = true ∧ (putOps l4).2 = 0 ∧ (putResults l5).2 = 0 ∧ (putP s f t g l4 l5).1 = bytesP s f t g (putOps l4).1 (putResults l5).1 := by
  unfold putP at h ⊢
  by_cases hm : mayH s f t = true
  · rw [if_pos hm] at h ⊢
    by_cases he : errP (putOps l4).2 (putResults l5).2 = 0
    · rw [if_pos he]
      unfold errP at he
      split at he
      · cases he
      · split at he
        · exact ⟨hm, by assumption, he, rfl⟩
        · contradiction
    · rw [if_neg he] at h
      exact absurd h he
  · rw [if_neg hm] at h
    cases h
theorem put_len {s f t g : Int} {l4 : List OpT} {l5 : List ResultT} (h : (putP s f t g l4 l5).2 = 0) : (putP s f t g l4 l5).1.length ≤ 200000 := by
  obtain ⟨_, _, _, e⟩ := put_zero h
  rw [e, bytesP_len]
  have h1 := putOps_len l4
  have h2 := putResults_len l5
  omega
end Go.Proofs.YtcohodkpppmaoaaGreatDoor.Q
namespace Go.Proofs.YtcohodkpppmaoaaGreatDoor.Q
open Go.RowKit Go.Proofs.YtcohodkpppmaoaaGreatDoorW.PrintWords Go.Proofs.YtcohodkpppmaoaaGreatDoorW.PrintLast Go.Proofs.YtcohodkpppmaoaaGreatDoorW.PrintMore
set_option linter.unusedVariables false
theorem ev_ResultSize2 (l : List RowT) (hl : l.length ≤ many) (hs : ∀ x ∈ l, x.f0.size ≤ many) : ∃ s, Ev (fun k => concordatlaw01_ResultSize.f k l) s ∧ (l.length : Int) ≤ s ∧ s ≤ 1000000000000001 := by
  obtain ⟨s, he, h1, h2⟩ := rowsSize_from l hl hs l.length 0 l.length (by omega) (by omega) (by omega) (by unfold many at hl; omega)
  refine ⟨1 + s, ?_, by omega, by omega⟩
  unfold concordatlaw01_ResultSize.f
  refine Ev.bind he ?_
  rw [wrap_id _ (by omega) (by omega)]
  exact Ev.now _
theorem resultsSize_small (l : List ResultT) (hl : l.length ≤ many) (hs : ∀ x ∈ l, x.f0.length ≤ many ∧ ∀ r ∈ x.f0, r.f0.size ≤ many) (d : Nat) : ∀ (i : Nat) (n : Int), i ≤ l.length → l.length - i = d → 0 ≤ n → n ≤ 2000000000000000 → ∃ s, Ev (fun k => concordatlaw01_ResultsSize.l0 k l n (i : Int)) s ∧ n ≤ s ∧ (s ≤ 1048576 → ∀ x ∈ l.drop i, (x.f0.length : Int) ≤ s) ∧ s ≤ 2000000000000000 := by
  unfold many at *
  induction d with
  | zero =>
    intro i n h0 h1 h2 h3
    refine ⟨n, Ev.step (f := fun _ => some n) (fun k => ?_) (Ev.now _), Int.le_refl _, fun _ x hx => ?_, h3⟩
    · simp only [concordatlaw01_ResultsSize.l0]
      rw [if_neg (by omega)]
    · rw [List.drop_eq_nil_of_le (by omega)] at hx
      cases hx
  | succ d ih =>
    intro i n h0 h1 h2 h3
    have hi : i < l.length := by omega
    have hrd : rd_T145 l i = l[i] := by simp [rd_T145, hi]
    have hb := hs _ (List.getElem_mem hi)
    by_cases c : n ≤ 1048576
    · obtain ⟨t, ht, t0, t1⟩ := ev_ResultSize2 l[i].f0 (by unfold many; exact hb.1) (by unfold many; exact hb.2)
      obtain ⟨s, he, hle, hall, hle2⟩ := ih (i + 1) (n + t) (by omega) (by omega) (by omega) (by omega)
      refine ⟨s, Ev.step (f := fun k => (concordatlaw01_ResultSize.f k (rd_T145 l i).f0).bind fun t => (concordatlaw01_ResultsSize.l0 k l (wrap64 (n + t)) (wrap64 ((i : Int) + 1)))) (fun k => ?_) ?_, by omega, fun hsm x hx => ?_, hle2⟩
      · simp only [concordatlaw01_ResultsSize.l0]
        rw [if_pos (by omega), if_pos c, if_pos (by omega)]
      · rw [hrd]
        refine Ev.bind ht ?_
        rw [wrap_id (n + t) (by omega) (by omega), wrap_id _ (by omega) (by omega)]
        exact he
      · rw [List.drop_eq_getElem_cons hi] at hx
        rcases List.mem_cons.1 hx with rfl | hx
        · omega
        · exact hall hsm x hx
    · refine ⟨n, Ev.step (f := fun _ => some n) (fun k => ?_) (Ev.now _), Int.le_refl _, fun h => absurd h c, h3⟩
      simp only [concordatlaw01_ResultsSize.l0]
      rw [if_pos (by omega), if_neg c]
theorem ev_ResultsSize2 (l : List ResultT) (hl : l.length ≤ many) (hs : ∀ x ∈ l, x.f0.length ≤ many ∧ ∀ r ∈ x.f0, r.f0.size ≤ many) : ∃ s, Ev (fun k => concordatlaw01_ResultsSize.f k l) s ∧ (l.length : Int) ≤ s ∧ (s ≤ 1048576 → ∀ x ∈ l, (x.f0.length : Int) ≤ s) ∧ s ≤ 2000000000000000 :=
  resultsSize_small l hl hs l.length 0 l.length (by omega) (by omega) (by omega) (by unfold many at hl; omega)
end Go.Proofs.YtcohodkpppmaoaaGreatDoor.Q
namespace Go.Proofs.YtcohodkpppmaoaaGreatDoor.Q
open Go.RowKit Go.Proofs.YtcohodkpppmaoaaGreatDoorW.PrintWords Go.Proofs.YtcohodkpppmaoaaGreatDoorW.PrintLast

theorem wrap_in (x : Int) (h0 : -9223372036854775808 ≤ x) (h1 : x ≤ 9223372036854775807) : wrap64 x = x := by
  unfold wrap64
  omega
theorem bt_byte (s : ByteArray) (i : Nat) (h : i < s.size) : bt s (i : Int) = ((s[i]'h).toNat : Int) := by
  simp [bt, h]

theorem refCheck_from (s : ByteArray) (hs : s.size ≤ 140737488351232) (d : Nat) : ∀ (k i : Nat), i ≤ s.size → s.size - i = d → d < k → keyChars (s.data.toList.take i) = true →
    concordatref01_Check.l0 k s (i : Int) = some (isKey s) := by
  induction d with
  | zero =>
    intro k i h0 h1 hk hp
    obtain ⟨k, rfl⟩ : ∃ m, k = m + 1 := ⟨k - 1, by omega⟩
    simp only [concordatref01_Check.l0]
    rw [if_neg (by omega)]
    have e : s.data.toList.take i = s.data.toList := List.take_of_length_le (by rw [Array.length_toList]; show s.size ≤ i; omega)
    rw [e] at hp
    unfold isKey
    rw [hp]
    by_cases h1 : (s.size : Int) ≥ 1
    · rw [if_pos h1]
      have h2 : 1 ≤ s.size := by omega
      simp [h2]
      omega
    · rw [if_neg h1]
      have h2 : ¬ 1 ≤ s.size := by omega
      simp [h2]
  | succ d ih =>
    intro k i h0 h1 hk hp
    obtain ⟨k, rfl⟩ : ∃ m, k = m + 1 := ⟨k - 1, by omega⟩
    have hi : i < s.size := by omega
    simp only [concordatref01_Check.l0]
    rw [if_pos (by omega), if_pos (by omega), bt_byte s i hi, wrap_in _ (by omega) (by omega)]
    have hb := keyRune_byte (s[i]'hi)
    have hn := keyChars_no s i hi
    have ht := keyChars_take_succ s i hi
    have hgo : keyByte (s[i]'hi) = true → concordatref01_Check.l0 k s ((i : Int) + 1) = some (isKey s) := by
      intro hy
      have := ih k (i + 1) (by omega) (by omega) (by omega) (by rw [ht, hp, hy]; rfl)
      rw [← this]; rfl
    have hno : keyByte (s[i]'hi) = false → some false = some (isKey s) := by
      intro hy
      unfold isKey
      rw [hn hy]
      simp
    generalize ((s[i]'hi).toNat : Int) = c at *
    unfold keyRune at hb
    by_cases c1 : c < 97
    · rw [if_pos c1]
      by_cases c2 : c < 48
      · rw [if_pos c2]
        by_cases c3 : c = 95
        · omega
        · rw [if_neg c3]
          exact hno (by rw [← hb, Bool.eq_false_iff]; simp; omega)
      · rw [if_neg c2]
        by_cases c4 : c > 57
        · rw [if_pos c4]
          by_cases c3 : c = 95
          · rw [if_pos c3]; exact hgo (by rw [← hb]; simp; omega)
          · rw [if_neg c3]
            exact hno (by rw [← hb, Bool.eq_false_iff]; simp; omega)
        · rw [if_neg c4]; exact hgo (by rw [← hb]; simp; omega)
    · rw [if_neg c1]
      by_cases c5 : c > 122
      · rw [if_pos c5, if_neg (by omega), if_pos (by omega), if_neg (by omega)]
        exact hno (by rw [← hb, Bool.eq_false_iff]; simp; omega)
      · rw [if_neg c5]
        exact hgo (by rw [← hb]; simp; omega)

theorem ev_refCheck (s : ByteArray) (hs : s.size ≤ 140737488351232) : Ev (fun k => concordatref01_Check.f k s) (isKey s) :=
  ⟨s.size + 1, fun k hk => refCheck_from s hs s.size k 0 (by omega) (by omega) (by omega) (by simp [keyChars])⟩


end Go.Proofs.YtcohodkpppmaoaaGreatDoor.Q
namespace Go.Proofs.YtcohodkpppmaoaaGreatDoor.Q
open Go.RowKit Go.Proofs.YtcohodkpppmaoaaGreatDoorW.PrintWords Go.Proofs.YtcohodkpppmaoaaGreatDoorW.PrintLast Go.Proofs.YtcohodkpppmaoaaGreatDoorW.PrintMore

theorem refCount_eq (n : Int) (h0 : 0 ≤ n) (h1 : n ≤ 1000000000) : concordatref02_Count.f n = some (num2 n) := by
  unfold concordatref02_Count.f num2
  rw [Int.tdiv_eq_ediv_of_nonneg h0, wrap_id _ (by omega) (by omega)]
theorem refNumber_eq (n : Int) (h : u32Ok n) : concordatref02_Number.f n = some (num4 n) := by
  obtain ⟨h0, h1⟩ := h
  unfold concordatref02_Number.f num4
  rw [Int.tdiv_eq_ediv_of_nonneg h0, Int.tdiv_eq_ediv_of_nonneg h0, Int.tdiv_eq_ediv_of_nonneg h0]
  rw [Int.emod_eq_of_lt (a := n / 16777216) (by omega) (by omega), Int.emod_eq_of_lt (a := n / 65536) (by omega) (by omega), Int.emod_eq_of_lt (a := n / 256) (by omega) (by omega)]
theorem refText_eq (s : ByteArray) (h : s.size ≤ 1000000000) : concordatref02_text.f s = some (textB s) := by
  unfold concordatref02_text.f textB
  simp only [Option.bind_some, List.length_singleton]
  rw [if_pos (by omega)]
  simp

end Go.Proofs.YtcohodkpppmaoaaGreatDoor.Q
namespace Go.Proofs.YtcohodkpppmaoaaGreatDoor.Q
open Go.RowKit Go.Proofs.YtcohodkpppmaoaaGreatDoorW.PrintWords Go.Proofs.YtcohodkpppmaoaaGreatDoorW.PrintLast Go.Proofs.YtcohodkpppmaoaaGreatDoorW.PrintMore
theorem size_zero (s : ByteArray) : (s.toList == ([] : List UInt8)) = (s.size == 0) := by
  have h2 : s.toList = ([] : List UInt8) ↔ s.size = 0 := ⟨toList_size _, size_toList _⟩
  by_cases c : s.size = 0
  · have := h2.2 c
    rw [this, c]
    rfl
  · have c2 : ¬ s.toList = [] := fun h => c (h2.1 h)
    rw [beq_eq_false_iff_ne.2 c2, beq_eq_false_iff_ne.2 c]
theorem ev_ref2Check (x : OpT) (h1 : x.f1.size ≤ 140737488351232) (h2 : x.f2.size ≤ 140737488351232) : Ev (fun k => concordatref02_Check.f k x.f0 x.f1 x.f2 x.f3) (mayOp x) := by
  unfold concordatref02_Check.f
  have hn : x.f2.toList = ([] : List UInt8) ↔ x.f2.size = 0 := ⟨toList_size _, size_toList _⟩
  have hj : ∀ c : Bool, isKey x.f1 = true → (c = true ↔ x.f0 = 1 ∨ x.f0 = 3) → Ev (fun k => concordatref02_Check.j0 k x.f0 c x.f0 x.f1 x.f2 x.f3) (mayOp x) := by
    intro c hk hc
    refine Ev.step (f := fun k => if c = true then (if x.f2.toList = ([] : List UInt8) then (some (x.f3 == 0)) else (some false)) else (if x.f0 = 2 then (some (x.f2.toList == ([] : List UInt8))) else (if x.f0 = 4 then ((concordatref01_Check.f k x.f2).bind fun t256 => (if t256 = true then (some (x.f3 == 0)) else (some false))) else (some false)))) (fun k => ?_) ?_
    · simp only [concordatref02_Check.j0]
    · unfold mayOp
      rw [hk]
      cases c with
      | true =>
        have h13 := hc.1 rfl
        have n4 : ¬ x.f0 = 4 := by omega
        have n2 : ¬ x.f0 = 2 := by omega
        have g1 : 1 ≤ x.f0 := by omega
        have g2 : x.f0 ≤ 4 := by omega
        simp only [if_true, if_neg n4]
        by_cases c2 : x.f2.size = 0
        · simp only [if_pos (hn.2 c2)]
          refine ev_const ?_
          simp [c2, g1, g2, n2]
        · simp only [if_neg (fun h => c2 (hn.1 h))]
          refine ev_const ?_
          simp [c2]
      | false =>
        have h13 : ¬ (x.f0 = 1 ∨ x.f0 = 3) := fun h => by have := hc.2 h; cases this
        simp only [Bool.false_eq_true, if_false]
        by_cases c2 : x.f0 = 2
        · simp only [if_pos c2]
          refine ev_const ?_
          rw [size_zero]
          simp [c2]
        · simp only [if_neg c2]
          by_cases c4 : x.f0 = 4
          · simp only [if_pos c4]
            refine Ev.bind (ev_refCheck _ h2) ?_
            cases isKey x.f2 with
            | true =>
              simp only [if_true]
              refine ev_const ?_
              simp [c4]
            | false =>
              simp only [Bool.false_eq_true, if_false]
              refine ev_const ?_
              simp
          · simp only [if_neg c4]
            refine ev_const ?_
            have : ¬ (1 ≤ x.f0 ∧ x.f0 ≤ 4) := by omega
            by_cases g1 : 1 ≤ x.f0
            · have g2 : ¬ x.f0 ≤ 4 := fun h => this ⟨g1, h⟩
              simp [g2]
            · simp [g1]
  refine Ev.bind (ev_refCheck _ h1) ?_
  cases hk : isKey x.f1 with
  | false =>
    simp only [Bool.false_eq_true, if_false]
    refine ev_const ?_
    simp [mayOp, hk]
  | true =>
    simp only [if_true]
    by_cases c1 : x.f0 = 1
    · simp only [if_pos c1]
      exact hj _ hk (by simp [c1])
    · simp only [if_neg c1]
      exact hj _ hk (by simp [c1])
theorem refOps_scan (l : List OpT) (hl : l.length ≤ 1000000000) (hs : ∀ x ∈ l, x.f1.size ≤ 140737488351232 ∧ x.f2.size ≤ 140737488351232) (d : Nat) : ∀ (i : Nat), i ≤ l.length → l.length - i = d → (∀ x ∈ l.take i, opE x ≠ 1) → ∀ (r : List Int × Int),
    (l.any (fun x => opE x == 1) = true → r = ([], 1)) →
    (l.any (fun x => opE x == 1) = false → Ev (fun k => if (l.length : Int) > 16 then (some (([] : List Int), 3)) else ((concordatref02_Count.f (l.length : Int)).bind fun t => (concordatref02_PutOps.l1 k l t 0))) r) →
    Ev (fun k => concordatref02_PutOps.l0 k l (i : Int)) r := by
  induction d with
  | zero =>
    intro i h0 h1 hp r hr1 hr2
    have e : l.take i = l := List.take_of_length_le (by omega)
    rw [e] at hp
    have hno : l.any (fun x => opE x == 1) = false := by
      rw [List.any_eq_false]
      intro x hx
      simpa using hp x hx
    refine Ev.step (fun k => ?_) (hr2 hno)
    simp only [concordatref02_PutOps.l0]
    rw [if_neg (by omega)]
  | succ d ih =>
    intro i h0 h1 hp r hr1 hr2
    have hi : i < l.length := by omega
    have hrd : rd_T82 l (i : Int) = l[i] := by simp [rd_T82, hi]
    have htk : l.take (i + 1) = l.take i ++ [l[i]] := List.take_succ_eq_append_getElem hi
    refine Ev.step (f := fun k => (concordatref02_Check.f k l[i].f0 l[i].f1 l[i].f2 l[i].f3).bind fun t => (if t = true then (concordatref02_PutOps.l0 k l (wrap64 ((i : Int) + 1))) else (some (([] : List Int), 1)))) (fun k => ?_) ?_
    · simp only [concordatref02_PutOps.l0]
      rw [if_pos (by omega), if_pos (by omega), hrd]
    · refine Ev.bind (ev_ref2Check l[i] (hs _ (List.getElem_mem _)).1 (hs _ (List.getElem_mem _)).2) ?_
      cases hk : mayOp l[i] with
      | false =>
        simp only [Bool.false_eq_true, if_false]
        have h : opE l[i] = 1 := by simp [opE, hk]
        exact ev_const (by rw [hr1 (by rw [List.any_eq_true]; exact ⟨l[i], List.getElem_mem _, by simp [h]⟩)])
      | true =>
        simp only [if_true]
        have h : opE l[i] ≠ 1 := by simp [opE, hk]
        rw [wrap_id _ (by omega) (by omega)]
        refine ih (i + 1) (by omega) (by omega) ?_ r hr1 hr2
        rw [htk]
        intro x hx
        rcases List.mem_append.1 hx with hx | hx
        · exact hp x hx
        · rw [List.mem_singleton.1 hx]; exact h
theorem refOps_put (l : List OpT) (hl : l.length ≤ 1000000) (hw : ∀ x ∈ l, opOk x) (hok : ∀ x ∈ l, opE x = 0) (d : Nat) : ∀ (b : List Int) (i : Nat), i ≤ l.length → l.length - i = d → b.length + 64 * (l.length - i) + 64 < 140737488355328 →
    Ev (fun k => concordatref02_PutOps.l1 k l b (i : Int)) (b ++ (l.drop i).flatMap opB, 0) := by
  induction d with
  | zero =>
    intro b i h0 h1 hb
    refine Ev.step (f := fun _ => some (b, 0)) (fun k => ?_) ?_
    · simp only [concordatref02_PutOps.l1]
      rw [if_neg (by omega)]
    · refine ev_const ?_
      rw [List.drop_eq_nil_of_le (by omega)]
      simp
  | succ d ih =>
    intro b i h0 h1 hb
    have hi : i < l.length := by omega
    have hrd : rd_T82 l (i : Int) = l[i] := by simp [rd_T82, hi]
    have hoi := hok l[i] (List.getElem_mem _)
    have hz := op_sizes l[i] hoi
    refine Ev.step (f := fun k => concordatref02_PutOps.l1 k l (b ++ opB l[i]) (wrap64 ((i : Int) + 1))) (fun k => ?_) ?_
    · simp only [concordatref02_PutOps.l1]
      rw [if_pos (by omega), if_pos (by omega), if_pos (by omega), hrd, refText_eq _ (by omega), refText_eq _ (by omega), refNumber_eq _ (hw _ (List.getElem_mem _)).2]
      simp only [Option.bind_some]
      rw [if_pos (by simp [textB_length]; omega), if_pos (by simp [textB_length]; omega), if_pos (by simp [textB_length, num4_length]; omega)]
      simp [opB]
    · rw [wrap_id _ (by omega) (by omega)]
      have hlen := op_len l[i] hoi
      refine ev_eq ?_ (ih (b ++ opB l[i]) (i + 1) (by omega) (by omega) (by rw [List.length_append]; omega))
      rw [List.drop_eq_getElem_cons hi, List.flatMap_cons]
      simp only [List.append_assoc]
theorem ev_refPutOps (l : List OpT) (hl : l.length ≤ 1000000) (hs : ∀ x ∈ l, x.f1.size ≤ 140737488351232 ∧ x.f2.size ≤ 140737488351232) (hw : ∀ x ∈ l, opOk x) : Ev (fun k => concordatref02_PutOps.f k l) (putOps l) := by
  unfold concordatref02_PutOps.f
  refine refOps_scan l (by omega) hs l.length 0 (by omega) (by omega) (by simp) _ ?_ ?_
  · intro h
    unfold putOps putList
    rw [if_pos h]
  · intro h
    have h3 : l.any (fun x => opE x == 3) = false := by
      rw [List.any_eq_false]
      intro x _
      unfold opE
      split <;> simp
    unfold putOps putList
    rw [h, h3]
    by_cases hm : (l.length : Int) > 16
    · have hm' : 16 < l.length := by omega
      simp only [if_pos hm]
      refine ev_const ?_
      simp [hm']
    · have hm' : ¬ 16 < l.length := by omega
      simp only [if_neg hm]
      rw [refCount_eq _ (by omega) (by omega)]
      simp only [Option.bind_some]
      have hok : ∀ x ∈ l, opE x = 0 := by
        intro x hx
        rw [List.any_eq_false] at h
        have a1 := h x hx
        simp at a1
        unfold opE at *; split at a1 <;> simp_all
      refine ev_eq ?_ (refOps_put l hl hw hok l.length (num2 l.length) 0 (by omega) (by omega) (by simp [num2_length]; omega))
      simp [hm']
end Go.Proofs.YtcohodkpppmaoaaGreatDoor.Q
namespace Go.Proofs.YtcohodkpppmaoaaGreatDoor.Q
open Go.RowKit Go.Proofs.YtcohodkpppmaoaaGreatDoorW.PrintWords Go.Proofs.YtcohodkpppmaoaaGreatDoorW.PrintLast Go.Proofs.YtcohodkpppmaoaaGreatDoorW.PrintMore
def mayM (s f t : Int) (x : List OpT) (y : List ResultT) : Bool := mayH s f t && x.all mayOp && y.all (fun r => mayRows r.f0)
theorem ref7_rows (s f t g : Int) (x : List OpT) (y : List ResultT) (hy : y.length ≤ 1000000000) (i : Nat) (hi : i < y.length) (hn : y[i].f0.length ≤ 1000000000) (hs : ∀ r ∈ y[i].f0, r.f0.size ≤ 140737488351232) (r : Bool) (hbad : mayRows y[i].f0 = false → r = false)
    (hgood : mayRows y[i].f0 = true → Ev (fun k => concordatref07_Check.l1 k ((i + 1 : Nat) : Int) s f t g x y) r) (d : Nat) : ∀ (j : Nat), j ≤ y[i].f0.length → y[i].f0.length - j = d → mayRows (y[i].f0.take j) = true → Ev (fun k => concordatref07_Check.l2 k (i : Int) (j : Int) s f t g x y) r := by
  have hrd : rd_T145 y (i : Int) = y[i] := by simp [rd_T145, hi]
  induction d with
  | zero =>
    intro j h0 h1 hp
    have e : y[i].f0.take j = y[i].f0 := List.take_of_length_le (by omega)
    rw [e] at hp
    refine Ev.step (fun k => ?_) (hgood hp)
    simp only [concordatref07_Check.l2]
    rw [if_pos (by omega), if_pos (by omega), hrd, if_neg (by omega), wrap_id _ (by omega) (by omega)]
    rfl
  | succ d ih =>
    intro j h0 h1 hp
    have hj : j < y[i].f0.length := by omega
    have hrj : rd_T148 y[i].f0 (j : Int) = y[i].f0[j] := by simp [rd_T148, hj]
    have htk : mayRows (y[i].f0.take (j + 1)) = (mayRows (y[i].f0.take j) && isKey (y[i].f0[j].f0)) := by
      unfold mayRows
      rw [List.take_succ_eq_append_getElem hj]
      simp only [List.all_append, List.all_cons, List.all_nil, Bool.and_true]
    refine Ev.step (f := fun k => (concordatref01_Check.f k y[i].f0[j].f0).bind fun tt => (if tt = true then (concordatref07_Check.l2 k (i : Int) (wrap64 ((j : Int) + 1)) s f t g x y) else (some false))) (fun k => ?_) ?_
    · simp only [concordatref07_Check.l2]
      rw [if_pos (by omega), if_pos (by omega), hrd, if_pos (by omega), if_pos (by omega), hrj]
    · refine Ev.bind (ev_refCheck _ (hs _ (List.getElem_mem _))) ?_
      cases hk : isKey y[i].f0[j].f0 with
      | false =>
        simp only [Bool.false_eq_true, if_false]
        refine ev_const ?_
        rw [hbad (by
          unfold mayRows
          rw [List.all_eq_false]
          exact ⟨y[i].f0[j], List.getElem_mem _, by simp [hk]⟩)]
      | true =>
        simp only [if_true]
        rw [wrap_id _ (by omega) (by omega)]
        exact ih (j + 1) (by omega) (by omega) (by rw [htk, hp, hk]; rfl)
theorem ref7_results (s f t g : Int) (x : List OpT) (y : List ResultT) (hy : y.length ≤ 1000000000) (hn : ∀ z ∈ y, z.f0.length ≤ 1000000000 ∧ ∀ r ∈ z.f0, r.f0.size ≤ 140737488351232) (d : Nat) : ∀ (i : Nat), i ≤ y.length → y.length - i = d → Ev (fun k => concordatref07_Check.l1 k (i : Int) s f t g x y) ((y.drop i).all (fun r => mayRows r.f0)) := by
  induction d with
  | zero =>
    intro i h0 h1
    refine Ev.step (f := fun _ => some true) (fun k => ?_) ?_
    · simp only [concordatref07_Check.l1]
      rw [if_neg (by omega)]
    · refine ev_const ?_
      rw [List.drop_eq_nil_of_le (by omega)]
      rfl
  | succ d ih =>
    intro i h0 h1
    have hi : i < y.length := by omega
    refine Ev.step (f := fun k => concordatref07_Check.l2 k (i : Int) ((0 : Nat) : Int) s f t g x y) (fun k => ?_) ?_
    · simp only [concordatref07_Check.l1]
      rw [if_pos (by omega)]
      rfl
    · rw [List.drop_eq_getElem_cons hi, List.all_cons]
      refine ref7_rows s f t g x y hy i hi (hn _ (List.getElem_mem _)).1 (hn _ (List.getElem_mem _)).2 _ (fun h => by rw [h, Bool.false_and]) (fun h => ?_) _ 0 (Nat.zero_le _) rfl (by simp [mayRows])
      rw [h, Bool.true_and]
      exact ih (i + 1) (by omega) (by omega)
theorem ref7_ops (s f t g : Int) (x : List OpT) (y : List ResultT) (hx : x.length ≤ 1000000000) (hsx : ∀ z ∈ x, z.f1.size ≤ 140737488351232 ∧ z.f2.size ≤ 140737488351232) (hy : y.length ≤ 1000000000) (hn : ∀ z ∈ y, z.f0.length ≤ 1000000000 ∧ ∀ r ∈ z.f0, r.f0.size ≤ 140737488351232) (d : Nat) : ∀ (i : Nat), i ≤ x.length → x.length - i = d → Ev (fun k => concordatref07_Check.l0 k (i : Int) s f t g x y) ((x.drop i).all mayOp && y.all (fun r => mayRows r.f0)) := by
  induction d with
  | zero =>
    intro i h0 h1
    refine Ev.step (f := fun k => concordatref07_Check.l1 k ((0 : Nat) : Int) s f t g x y) (fun k => ?_) ?_
    · simp only [concordatref07_Check.l0]
      rw [if_neg (by omega)]
      rfl
    · rw [List.drop_eq_nil_of_le (by omega)]
      have h := ref7_results s f t g x y hy hn y.length 0 (Nat.zero_le _) rfl
      simpa using h
  | succ d ih =>
    intro i h0 h1
    have hi : i < x.length := by omega
    have hrd : rd_T82 x (i : Int) = x[i] := by simp [rd_T82, hi]
    refine Ev.step (f := fun k => (concordatref02_Check.f k x[i].f0 x[i].f1 x[i].f2 x[i].f3).bind fun tt => (if tt = true then (concordatref07_Check.l0 k (wrap64 ((i : Int) + 1)) s f t g x y) else (some false))) (fun k => ?_) ?_
    · simp only [concordatref07_Check.l0]
      rw [if_pos (by omega), if_pos (by omega), hrd]
    · refine Ev.bind (ev_ref2Check x[i] (hsx _ (List.getElem_mem _)).1 (hsx _ (List.getElem_mem _)).2) ?_
      rw [List.drop_eq_getElem_cons hi, List.all_cons]
      cases hk : mayOp x[i] with
      | false =>
        simp only [Bool.false_eq_true, if_false]
        exact ev_const (by simp)
      | true =>
        simp only [if_true, Bool.true_and]
        rw [wrap_id _ (by omega) (by omega)]
        exact ih (i + 1) (by omega) (by omega)
theorem ev_ref7Check (s f t g : Int) (x : List OpT) (y : List ResultT) (hx : x.length ≤ 1000000000) (hsx : ∀ z ∈ x, z.f1.size ≤ 140737488351232 ∧ z.f2.size ≤ 140737488351232) (hy : y.length ≤ 1000000000) (hn : ∀ z ∈ y, z.f0.length ≤ 1000000000 ∧ ∀ r ∈ z.f0, r.f0.size ≤ 140737488351232) : Ev (fun k => concordatref07_Check.f k s f t g x y) (mayM s f t x y) := by
  unfold concordatref07_Check.f
  have hno : mayH s f t = false → Ev (fun k => concordatref07_Check.j0 k true s f t g x y) (mayM s f t x y) := fun h => by
    refine Ev.step (f := fun _ => some false) (fun k => ?_) (ev_const (by simp [mayM, h]))
    simp only [concordatref07_Check.j0, if_true]
  by_cases h1 : s < 1
  · simp only [if_pos h1]
    exact hno (by simp [mayH]; omega)
  · simp only [if_neg h1]
    by_cases h2 : s > 7
    · simp only [if_pos h2]
      exact hno (by simp [mayH]; omega)
    · simp only [if_neg h2]
      by_cases h3 : f > 3
      · simp only [if_pos h3]
        exact hno (by simp [mayH]; omega)
      · simp only [if_neg h3]
        by_cases h4 : t > 3
        · rw [decide_eq_true h4]
          exact hno (by simp [mayH]; omega)
        · rw [decide_eq_false h4]
          have hm : mayH s f t = true := by simp [mayH]; omega
          refine Ev.step (f := fun k => concordatref07_Check.l0 k ((0 : Nat) : Int) s f t g x y) (fun k => ?_) ?_
          · simp only [concordatref07_Check.j0, Bool.false_eq_true, if_false]
            rfl
          · have h := ref7_ops s f t g x y hx hsx hy hn x.length 0 (Nat.zero_le _) rfl
            rw [List.drop_zero] at h
            unfold mayM
            rw [hm, Bool.true_and]
            exact h
end Go.Proofs.YtcohodkpppmaoaaGreatDoor.Q
namespace Go.Proofs.YtcohodkpppmaoaaGreatDoor.Q
open Go.RowKit Go.Proofs.YtcohodkpppmaoaaGreatDoorW.PrintWords Go.Proofs.YtcohodkpppmaoaaGreatDoorW.PrintLast Go.Proofs.YtcohodkpppmaoaaGreatDoorW.PrintMore
theorem refRes_inner (l : List ResultT) (hl : l.length ≤ 1000000000) (i : Nat) (hi : i < l.length) (hn : l[i].f0.length ≤ 1000000000) (hs : ∀ r ∈ l[i].f0, r.f0.size ≤ 140737488351232) (m : Bool) (r : List Int × Int) (hbad : mayRows l[i].f0 = false → r = ([], 1))
    (hgood : mayRows l[i].f0 = true → Ev (fun k => concordatref02_PutResults.l0 k l (m || decide ((l[i].f0.length : Int) > 256)) ((i + 1 : Nat) : Int)) r) (d : Nat) : ∀ (j : Nat), j ≤ l[i].f0.length → l[i].f0.length - j = d → mayRows (l[i].f0.take j) = true → Ev (fun k => concordatref02_PutResults.l1 k l m (i : Int) (j : Int)) r := by
  have hrd : rd_T145 l (i : Int) = l[i] := by simp [rd_T145, hi]
  induction d with
  | zero =>
    intro j h0 h1 hp
    have e : l[i].f0.take j = l[i].f0 := List.take_of_length_le (by omega)
    rw [e] at hp
    refine Ev.step (fun k => ?_) (hgood hp)
    simp only [concordatref02_PutResults.l1]
    rw [if_pos (by omega), if_pos (by omega), hrd, if_neg (by omega), wrap_id _ (by omega) (by omega)]
    cases m <;> simp
  | succ d ih =>
    intro j h0 h1 hp
    have hj : j < l[i].f0.length := by omega
    have hrj : rd_T148 l[i].f0 (j : Int) = l[i].f0[j] := by simp [rd_T148, hj]
    have htk : mayRows (l[i].f0.take (j + 1)) = (mayRows (l[i].f0.take j) && isKey (l[i].f0[j].f0)) := by
      unfold mayRows
      rw [List.take_succ_eq_append_getElem hj]
      simp only [List.all_append, List.all_cons, List.all_nil, Bool.and_true]
    refine Ev.step (f := fun k => (concordatref01_Check.f k l[i].f0[j].f0).bind fun t => (if t = true then (concordatref02_PutResults.l1 k l m (i : Int) (wrap64 ((j : Int) + 1))) else (some (([] : List Int), 1)))) (fun k => ?_) ?_
    · simp only [concordatref02_PutResults.l1]
      rw [if_pos (by omega), if_pos (by omega), hrd, if_pos (by omega), if_pos (by omega), hrj]
    · refine Ev.bind (ev_refCheck _ (hs _ (List.getElem_mem _))) ?_
      cases hk : isKey l[i].f0[j].f0 with
      | false =>
        simp only [Bool.false_eq_true, if_false]
        refine ev_const ?_
        rw [hbad (by
          unfold mayRows
          rw [List.all_eq_false]
          exact ⟨l[i].f0[j], List.getElem_mem _, by simp [hk]⟩)]
      | true =>
        simp only [if_true]
        rw [wrap_id _ (by omega) (by omega)]
        exact ih (j + 1) (by omega) (by omega) (by rw [htk, hp, hk]; rfl)
theorem refRes_scan (l : List ResultT) (hl : l.length ≤ 1000000000) (hn : ∀ x ∈ l, x.f0.length ≤ 1000000000 ∧ ∀ r ∈ x.f0, r.f0.size ≤ 140737488351232) (r : List Int × Int)
    (hr1 : l.any (fun x => !(mayRows x.f0)) = true → r = ([], 1))
    (hr2 : l.any (fun x => !(mayRows x.f0)) = false → Ev (fun k => if (decide ((l.length : Int) > 16) || l.any (fun x => decide ((x.f0.length : Int) > 256))) = true then (some (([] : List Int), 3)) else ((concordatref02_Count.f (l.length : Int)).bind fun t => (concordatref02_PutResults.l2 k l t 0))) r) (d : Nat) :
    ∀ (i : Nat) (m : Bool), i ≤ l.length → l.length - i = d → (∀ x ∈ l.take i, mayRows x.f0 = true) → m = (decide ((l.length : Int) > 16) || (l.take i).any (fun x => decide ((x.f0.length : Int) > 256))) → Ev (fun k => concordatref02_PutResults.l0 k l m (i : Int)) r := by
  induction d with
  | zero =>
    intro i m h0 h1 hp hm
    have e : l.take i = l := List.take_of_length_le (by omega)
    rw [e] at hp hm
    have hno : l.any (fun x => !(mayRows x.f0)) = false := by
      rw [List.any_eq_false]
      intro x hx
      simp [hp x hx]
    refine Ev.step (fun k => ?_) (hr2 hno)
    simp only [concordatref02_PutResults.l0]
    rw [if_neg (by omega), ← hm]
  | succ d ih =>
    intro i m h0 h1 hp hm
    have hi : i < l.length := by omega
    have htk : l.take (i + 1) = l.take i ++ [l[i]] := List.take_succ_eq_append_getElem hi
    refine Ev.step (f := fun k => concordatref02_PutResults.l1 k l m (i : Int) ((0 : Nat) : Int)) (fun k => ?_) ?_
    · simp only [concordatref02_PutResults.l0]
      rw [if_pos (by omega)]
      rfl
    · refine refRes_inner l hl i hi (hn _ (List.getElem_mem _)).1 (hn _ (List.getElem_mem _)).2 m r (fun hb => hr1 (by rw [List.any_eq_true]; exact ⟨l[i], List.getElem_mem _, by simp [hb]⟩)) (fun hg => ?_) _ 0 (Nat.zero_le _) rfl (by simp [mayRows])
      refine ih (i + 1) _ (by omega) (by omega) ?_ ?_
      · rw [htk]
        intro x hx
        rcases List.mem_append.1 hx with hx | hx
        · exact hp x hx
        · rw [List.mem_singleton.1 hx]; exact hg
      · rw [htk, hm, List.any_append, List.any_cons, List.any_nil, Bool.or_false, Bool.or_assoc]
theorem refRes_rows (l : List ResultT) (hl : l.length ≤ 1000000) (i : Nat) (hi : i < l.length) (hk : mayRows l[i].f0 = true) (hlen : l[i].f0.length ≤ 256) (hw : ∀ r ∈ l[i].f0, rowOk r) (r : List Int × Int) (B : List Int)
    (hnext : Ev (fun k => concordatref02_PutResults.l2 k l (B ++ l[i].f0.flatMap rowB) ((i + 1 : Nat) : Int)) r) (d : Nat) : ∀ (b : List Int) (j : Nat), j ≤ l[i].f0.length → l[i].f0.length - j = d → b.length + 64 * (l[i].f0.length - j) + 64 < 140737488355328 → b ++ (l[i].f0.drop j).flatMap rowB = B ++ l[i].f0.flatMap rowB →
    Ev (fun k => concordatref02_PutResults.l3 k l b (i : Int) (j : Int)) r := by
  have hrd : rd_T145 l (i : Int) = l[i] := by simp [rd_T145, hi]
  induction d with
  | zero =>
    intro b j h0 h1 hb he
    rw [List.drop_eq_nil_of_le (by omega), List.flatMap_nil, List.append_nil] at he
    subst he
    refine Ev.step (fun k => ?_) hnext
    simp only [concordatref02_PutResults.l3]
    rw [if_pos (by omega), if_pos (by omega), hrd, if_neg (by omega), wrap_id _ (by omega) (by omega)]
    rfl
  | succ d ih =>
    intro b j h0 h1 hb he
    have hj : j < l[i].f0.length := by omega
    have hrj : rd_T148 l[i].f0 (j : Int) = l[i].f0[j] := by simp [rd_T148, hj]
    have hki : isKey (l[i].f0[j].f0) = true := by
      unfold mayRows at hk
      rw [List.all_eq_true] at hk
      exact hk _ (List.getElem_mem _)
    have hz := isKey_size _ hki
    refine Ev.step (f := fun k => concordatref02_PutResults.l3 k l (b ++ rowB l[i].f0[j]) (i : Int) (wrap64 ((j : Int) + 1))) (fun k => ?_) ?_
    · simp only [concordatref02_PutResults.l3]
      rw [if_pos (by omega), if_pos (by omega), hrd, if_pos (by omega), if_pos (by omega), hrj, refText_eq _ (by omega), refNumber_eq _ (hw _ (List.getElem_mem _))]
      simp only [Option.bind_some]
      rw [if_pos (by simp [textB_length]; omega), if_pos (by simp [textB_length, num4_length]; omega)]
      simp [rowB]
    · rw [wrap_id _ (by omega) (by omega)]
      have hlen := rowB_len l[i].f0[j] hki
      refine ih (b ++ rowB l[i].f0[j]) (j + 1) (by omega) (by omega) (by rw [List.length_append]; omega) ?_
      rw [← he, List.drop_eq_getElem_cons hj, List.flatMap_cons, List.append_assoc]
theorem refRes_put (l : List ResultT) (hl : l.length ≤ 1000000) (hw : ∀ x ∈ l, resultOk x) (hok : ∀ x ∈ l, resultE x = 0) (d : Nat) : ∀ (b : List Int) (i : Nat), i ≤ l.length → l.length - i = d → b.length + 20000 * (l.length - i) + 20000 < 140737488355328 →
    Ev (fun k => concordatref02_PutResults.l2 k l b (i : Int)) (b ++ (l.drop i).flatMap resultB, 0) := by
  induction d with
  | zero =>
    intro b i h0 h1 hb
    refine Ev.step (f := fun _ => some (b, 0)) (fun k => ?_) ?_
    · simp only [concordatref02_PutResults.l2]
      rw [if_neg (by omega)]
    · refine ev_const ?_
      rw [List.drop_eq_nil_of_le (by omega)]
      simp
  | succ d ih =>
    intro b i h0 h1 hb
    have hi : i < l.length := by omega
    have hrd : rd_T145 l (i : Int) = l[i] := by simp [rd_T145, hi]
    have hoi := hok l[i] (List.getElem_mem _)
    obtain ⟨hm, hlen⟩ := result_ok _ hoi
    have hrl := result_len _ hoi
    refine Ev.step (f := fun k => concordatref02_PutResults.l3 k l (b ++ num2 l[i].f0.length) (i : Int) ((0 : Nat) : Int)) (fun k => ?_) ?_
    · simp only [concordatref02_PutResults.l2]
      rw [if_pos (by omega), if_pos (by omega), hrd, refCount_eq _ (by omega) (by omega)]
      simp only [Option.bind_some]
      rw [if_pos (by rw [num2_length]; omega)]
      rfl
    · refine refRes_rows l hl i hi hm hlen (hw _ (List.getElem_mem _)) _ (b ++ num2 l[i].f0.length) ?_ _ (b ++ num2 l[i].f0.length) 0 (Nat.zero_le _) rfl (by rw [List.length_append, num2_length]; omega) (by simp)
      refine ev_eq ?_ (ih (b ++ num2 l[i].f0.length ++ l[i].f0.flatMap rowB) (i + 1) (by omega) (by omega) (by
        have e : (b ++ num2 l[i].f0.length ++ l[i].f0.flatMap rowB).length = b.length + (resultB l[i]).length := by simp [resultB, rowsB]
        omega))
      rw [List.drop_eq_getElem_cons hi, List.flatMap_cons]
      simp [resultB, rowsB]
theorem ev_refPutResults (l : List ResultT) (hl : l.length ≤ 1000000) (hn : ∀ x ∈ l, x.f0.length ≤ 1000000000 ∧ ∀ r ∈ x.f0, r.f0.size ≤ 140737488351232) (hw : ∀ x ∈ l, resultOk x) : Ev (fun k => concordatref02_PutResults.f k l) (putResults l) := by
  unfold concordatref02_PutResults.f
  have e1 : l.any (fun x => resultE x == 1) = l.any (fun x => !(mayRows x.f0)) := by
    congr 1
    funext x
    unfold resultE
    cases mayRows x.f0 with
    | true => by_cases c : x.f0.length ≤ 256 <;> simp [c]
    | false => simp
  refine refRes_scan l (by omega) hn _ ?_ ?_ l.length 0 _ (by omega) (by omega) (by simp) (by simp)
  · intro h
    unfold putResults putList
    rw [e1, if_pos h]
  · intro h
    have hall : ∀ x ∈ l, mayRows x.f0 = true := by
      intro x hx
      rw [List.any_eq_false] at h
      simpa using h x hx
    have e3 : l.any (fun x => resultE x == 3) = l.any (fun x => decide ((x.f0.length : Int) > 256)) := by
      rw [Bool.eq_iff_iff, List.any_eq_true, List.any_eq_true]
      constructor
      · rintro ⟨x, hx, h3⟩
        refine ⟨x, hx, ?_⟩
        unfold resultE at h3
        rw [if_pos (hall x hx)] at h3
        by_cases c : x.f0.length ≤ 256
        · rw [if_pos c] at h3; cases h3
        · simp; omega
      · rintro ⟨x, hx, h3⟩
        refine ⟨x, hx, ?_⟩
        have h4 : (x.f0.length : Int) > 256 := by simpa using h3
        unfold resultE
        rw [if_pos (hall x hx), if_neg (by omega)]
        rfl
    unfold putResults putList
    rw [e1, h, e3]
    by_cases hm : (decide ((l.length : Int) > 16) || l.any (fun x => decide ((x.f0.length : Int) > 256))) = true
    · simp only [if_pos hm]
      refine ev_const ?_
      rw [if_neg (by decide), if_pos]
      rw [← hm, Bool.or_comm]
      congr 1
      simp
      omega
    · simp only [if_neg hm]
      rw [refCount_eq _ (by omega) (by omega)]
      simp only [Option.bind_some]
      have hm' : (decide ((l.length : Int) > 16) || l.any (fun x => decide ((x.f0.length : Int) > 256))) = false := by simpa using hm
      rw [Bool.or_eq_false_iff] at hm'
      have hok : ∀ x ∈ l, resultE x = 0 := by
        intro x hx
        have h5 := hm'.2
        rw [List.any_eq_false] at h5
        have h6 := h5 x hx
        have h7 : ¬ (x.f0.length : Int) > 256 := by simpa using h6
        unfold resultE
        rw [if_pos (hall x hx), if_pos (by omega)]
      have h16 : ¬ (l.length : Int) > 16 := by simpa using hm'.1
      refine ev_eq ?_ (refRes_put l hl hw hok l.length (num2 l.length) 0 (by omega) (by omega) (by simp [num2_length]; omega))
      rw [hm'.2]
      simp
      omega
end Go.Proofs.YtcohodkpppmaoaaGreatDoor.Q
namespace Go.Proofs.YtcohodkpppmaoaaGreatDoor.Q
open Go.RowKit Go.Proofs.YtcohodkpppmaoaaGreatDoorW.PrintWords Go.Proofs.YtcohodkpppmaoaaGreatDoorW.PrintLast Go.Proofs.YtcohodkpppmaoaaGreatDoorW.PrintMore
set_option linter.unusedVariables false
def listsOk (l4 : List OpT) (l5 : List ResultT) : Prop := (l4.length ≤ many ∧ ∀ x ∈ l4, x.f1.size ≤ many ∧ x.f2.size ≤ many) ∧ (l5.length ≤ many ∧ ∀ x ∈ l5, x.f0.length ≤ many ∧ ∀ r ∈ x.f0, r.f0.size ≤ many)
theorem msgSizeZ (s f t g : Int) (l4 : List OpT) (l5 : List ResultT) (h : listsOk l4 l5) : ∃ n, Ev (fun k => concordatlaw01_MsgSize.f k s f t g l4 l5) n ∧ (n ≤ 5000 → l4.length ≤ 5000 ∧ l5.length ≤ 5000 ∧ ∀ x ∈ l5, x.f0.length ≤ 5000) := by
  obtain ⟨s, hs, hl⟩ := ev_OpsSize l4 h.1.1 h.1.2
  have hu : s ≤ 1000000000000000 := (opsSize_upto l4 h.1.1 h.1.2 l4.length 0 l4.length (by omega) (by omega) (by omega) (by have := h.1.1; unfold many at this; omega) s hs).1
  obtain ⟨u, hu1, hu2, hu3, hu4⟩ := ev_ResultsSize2 l5 h.2.1 h.2.2
  by_cases c : 1 + s ≤ 1048576
  · refine ⟨1 + s + u, ?_, fun hn => ⟨by omega, by omega, fun x hx => by have := hu3 (by omega) x hx; omega⟩⟩
    unfold concordatlaw01_MsgSize.f
    refine Ev.bind hs ?_
    rw [wrap_id (1 + s) (by omega) (by omega)]
    simp only [if_pos c]
    refine Ev.bind hu1 ?_
    rw [wrap_id _ (by omega) (by omega)]
    exact Ev.now _
  · refine ⟨1 + s, ?_, fun hn => absurd hn (by omega)⟩
    unfold concordatlaw01_MsgSize.f
    refine Ev.bind hs ?_
    rw [wrap_id (1 + s) (by omega) (by omega)]
    simp only [if_neg c]
    exact Ev.now _

theorem bad_ops {l : List OpT} (h : l.all mayOp = false) : (putOps l).2 = 1 := by
  have e : l.any (fun x => opE x == 1) = true := by
    obtain ⟨x, hx, hm⟩ := List.all_eq_false.1 h
    exact List.any_eq_true.2 ⟨x, hx, by unfold opE; simp [hm]⟩
  unfold putOps putList
  rw [if_pos e]
theorem ok_ops {l : List OpT} (h : l.all mayOp = true) : (putOps l).2 = 0 ∨ (putOps l).2 = 3 := by
  have e : ¬ l.any (fun x => opE x == 1) = true := by
    rw [Bool.not_eq_true, List.any_eq_false]
    intro x hx
    have hm := List.all_eq_true.1 h x hx
    unfold opE
    simp [hm]
  unfold putOps putList
  rw [if_neg e]
  split
  · exact .inr rfl
  · exact .inl rfl
theorem bad_res {l : List ResultT} (h : l.all (fun r => mayRows r.f0) = false) : (putResults l).2 = 1 := by
  have e : l.any (fun x => resultE x == 1) = true := by
    obtain ⟨x, hx, hm⟩ := List.all_eq_false.1 h
    exact List.any_eq_true.2 ⟨x, hx, by unfold resultE; simp [hm]⟩
  unfold putResults putList
  rw [if_pos e]
theorem ok_res {l : List ResultT} (h : l.all (fun r => mayRows r.f0) = true) : (putResults l).2 = 0 ∨ (putResults l).2 = 3 := by
  have e : ¬ l.any (fun x => resultE x == 1) = true := by
    rw [Bool.not_eq_true, List.any_eq_false]
    intro x hx
    have hm := List.all_eq_true.1 h x hx
    unfold resultE
    rw [if_pos hm]
    split <;> decide
  unfold putResults putList
  rw [if_neg e]
  split
  · exact .inr rfl
  · exact .inl rfl
theorem put_bad {s f t g : Int} {l4 : List OpT} {l5 : List ResultT} (h : mayM s f t l4 l5 = false) : putP s f t g l4 l5 = ([], 1) := by
  unfold putP
  by_cases hm : mayH s f t = true
  · have e : errP (putOps l4).2 (putResults l5).2 = 1 := by
      unfold mayM at h
      rw [hm, Bool.true_and] at h
      unfold errP
      cases ho : l4.all mayOp with
      | false =>
        rw [bad_ops ho]
        split
        · rfl
        · exact if_neg (by decide)
      | true =>
        rw [ho, Bool.true_and] at h
        exact if_pos (bad_res h)
    rw [if_pos hm, e, if_neg (by decide)]
  · rw [if_neg hm]
theorem put_fit {s f t g : Int} {l4 : List OpT} {l5 : List ResultT} (h : mayM s f t l4 l5 = true) (ho : (putOps l4).2 = 0) (hr : (putResults l5).2 = 0) : putP s f t g l4 l5 = (bytesP s f t g (putOps l4).1 (putResults l5).1, 0) := by
  unfold mayM at h
  rw [Bool.and_eq_true, Bool.and_eq_true] at h
  unfold putP
  rw [if_pos h.1.1, if_pos (by unfold errP; rw [ho, hr]; decide)]
theorem put_much {s f t g : Int} {l4 : List OpT} {l5 : List ResultT} (h : mayM s f t l4 l5 = true) (hn : (putOps l4).2 ≠ 0 ∨ (putResults l5).2 ≠ 0) : putP s f t g l4 l5 = ([], 3) := by
  unfold mayM at h
  rw [Bool.and_eq_true, Bool.and_eq_true] at h
  have e : errP (putOps l4).2 (putResults l5).2 = 3 := by
    unfold errP
    rcases ok_ops h.1.2 with ho | ho <;> rcases ok_res h.2 with hr | hr <;> rw [ho, hr] <;> first | decide | (rw [ho, hr] at hn; simp at hn)
  unfold putP
  rw [if_pos h.1.1, e, if_neg (by decide)]
theorem put_empty {s f t g : Int} {l4 : List OpT} {l5 : List ResultT} (h : (putP s f t g l4 l5).2 ≠ 0) : (putP s f t g l4 l5).1 = [] := by
  unfold putP at h ⊢
  split
  · rename_i h1
    rw [if_pos h1] at h
    split
    · rename_i h2
      rw [if_pos h2] at h
      exact absurd rfl h
    · rfl
  · rfl
theorem num4_len (n : Int) : (num4 n).length = 4 := rfl
theorem ev_ref7Put (s f t g : Int) (l4 : List OpT) (l5 : List ResultT) (hg : u32Ok g) (h4 : l4.length ≤ 5000) (h5 : l5.length ≤ 5000) (hr5 : ∀ x ∈ l5, x.f0.length ≤ 5000) (hs4 : ∀ x ∈ l4, x.f1.size ≤ many ∧ x.f2.size ≤ many) (hs5 : ∀ x ∈ l5, x.f0.length ≤ many ∧ ∀ r ∈ x.f0, r.f0.size ≤ many) (ho4 : ∀ x ∈ l4, opOk x) (ho5 : ∀ x ∈ l5, resultOk x) :
    Ev (fun k => concordatref07_Put.f k s f t g l4 l5) (putP s f t g l4 l5) := by
  unfold many at hs4 hs5
  have hs4' : ∀ z ∈ l4, z.f1.size ≤ 140737488351232 ∧ z.f2.size ≤ 140737488351232 := fun z hz => by have := hs4 z hz; omega
  have hs5' : ∀ z ∈ l5, z.f0.length ≤ 1000000000 ∧ ∀ r ∈ z.f0, r.f0.size ≤ 140737488351232 := fun z hz => ⟨by have := hr5 z hz; omega, fun r hr => by have := (hs5 z hz).2 r hr; omega⟩
  unfold concordatref07_Put.f
  refine Ev.bind (ev_ref7Check s f t g l4 l5 (by omega) hs4' (by omega) hs5') ?_
  cases hm : mayM s f t l4 l5 with
  | false =>
    simp only [Bool.false_eq_true, if_false]
    exact ev_const (by rw [put_bad hm])
  | true =>
    simp only [if_true]
    refine Ev.bind (ev_refPutOps l4 (by omega) hs4' ho4) ?_
    refine Ev.bind (ev_refPutResults l5 (by omega) hs5' ho5) ?_
    have hlo := putOps_len l4
    have hlr := putResults_len l5
    by_cases ho : (putOps l4).2 = 0
    · simp only [if_pos ho]
      by_cases hr : (putResults l5).2 = 0
      · rw [put_fit hm ho hr]
        have hb : ((putResults l5).2 != 0) = false := by rw [hr]; rfl
        rw [hb]
        generalize (putOps l4).1 = o at *
        generalize (putResults l5).1 = r at *
        refine Ev.step (f := fun _ => some (bytesP s f t g o r, 0)) (fun k => ?_) (ev_const rfl)
        simp only [concordatref07_Put.j0, Bool.false_eq_true, if_false, Option.bind_some]
        rw [refNumber_eq g hg]
        simp only [Option.bind_some]
        rw [if_pos (by simp [num4_len]), show (o.length : Int) % 4294967296 = (o.length : Int) by omega, refNumber_eq (o.length : Int) ⟨by omega, by omega⟩]
        simp only [Option.bind_some]
        rw [if_pos (by simp [num4_len]), if_pos (by simp [num4_len]; omega), if_pos (by simp [num4_len]; omega)]
        unfold bytesP headP
        simp only [List.append_assoc]
      · rw [put_much hm (.inr hr)]
        have hb : ((putResults l5).2 != 0) = true := by simpa using hr
        rw [hb]
        refine Ev.step (f := fun _ => some ([], 3)) (fun k => ?_) (ev_const rfl)
        simp only [concordatref07_Put.j0, if_true]
    · simp only [if_neg ho]
      rw [put_much hm (.inl ho)]
      refine Ev.step (f := fun _ => some ([], 3)) (fun k => ?_) (ev_const rfl)
      simp only [concordatref07_Put.j0, if_true]

theorem text_cat (s f t g : Int) : decS s ++ (⟨#[32]⟩ : ByteArray) ++ decS f ++ (⟨#[32]⟩ : ByteArray) ++ decS t ++ (⟨#[32]⟩ : ByteArray) ++ decS g = textP s f t g := by
  apply ByteArray.ext
  simp only [ByteArray.data_append, decS, textP, textL, digN]
  apply Array.ext'
  simp
theorem dec_size (n : Int) (h0 : 0 ≤ n) (h1 : n ≤ 4294967295) : (decS n).size ≤ 20 := dec_few n h0 h1
theorem digits_f (n : Int) (h0 : 0 ≤ n) (h1 : n ≤ 4294967295) : concordatref01_Digits.f n = some (decS n) := if_pos ⟨h0, h1⟩
theorem refText_f {s f t g : Int} {l4 : List OpT} {l5 : List ResultT} (h : textOk s f t g) : concordatref07_Text.f s f t g l4 l5 = some (textP s f t g) := by
  obtain ⟨h1, h2, h3, h4⟩ := h
  have z1 := dec_size s h1.1 (by omega)
  have z2 := dec_size f h2.1 (by omega)
  have z3 := dec_size t h3.1 (by omega)
  have z4 := dec_size g h4.1 h4.2
  unfold concordatref07_Text.f
  rw [show s % 4294967296 = s by omega, show f % 4294967296 = f by omega, show t % 4294967296 = t by omega, digits_f s h1.1 (by omega), digits_f f h2.1 (by omega), digits_f t h3.1 (by omega), digits_f g h4.1 h4.2]
  simp only [Option.bind_some]
  rw [if_pos (by omega), if_pos (by omega), if_pos (by omega), if_pos (by omega), if_pos (by omega), if_pos (by omega), text_cat]
end Go.Proofs.YtcohodkpppmaoaaGreatDoor.Q
namespace Go.Proofs.YtcohodkpppmaoaaGreatDoor.Q
open Go.RowKit Go.Proofs.YtcohodkpppmaoaaGreatDoorW.PrintWords Go.Proofs.YtcohodkpppmaoaaGreatDoorW.PrintLast Go.Proofs.YtcohodkpppmaoaaGreatDoorW.PrintMore
set_option linter.unusedVariables false
theorem ev_same {a b : List Int} (h : a = b) (hl : a.length ≤ 9223372036854775807) : Ev (fun k => concordatlaw01_SameBytes.f k a b) true := ev_eq (decide_eq_true h) (ev_SameBytes a b hl)

end Go.Proofs.YtcohodkpppmaoaaGreatDoor.Q
namespace Go.Proofs.YtcohodkpppmaoaaGreatDoor.Q
open Go.RowKit Go.Proofs.YtcohodkpppmaoaaGreatDoorW.PrintWords Go.Proofs.YtcohodkpppmaoaaGreatDoorW.PrintLast Go.Proofs.YtcohodkpppmaoaaGreatDoorW.PrintMore
set_option linter.unusedVariables false
theorem str_same (x : ByteArray) : (x == x) = true := by
  cases x
  exact beq_self_eq_true (α := Array UInt8) _
set_option maxHeartbeats 6400000 in
set_option maxRecDepth 100000 in
theorem PacketsPut_calls (wz : World) (s f t g : Int) (A4 : Option Addr) (c4 : Nat) (l4 : List S82) (A5 : Option Addr) (c5 : Nat) (l5 : List ResT') (h4 : Kd.C k82 wz A4 l4.length l4) (hc4 : l4.length ≤ c4) (h5 : Kd.C k145 wz A5 l5.length l5) (hc5 : l5.length ≤ c5)
    (hls : listsOk l4 l5) (ho4 : ∀ x ∈ l4, opOk x) (ho5 : ∀ x ∈ l5, resultOk x) (htx : textOk s f t g) (hT : TabOk wz) :
    Calls Tryz.prog 8 #[.agg #[.int .u8 s, .int .u8 f, .int .u8 t, .int .u32 g, .slice A4 l4.length c4, .slice A5 l5.length c5]] wz fun e w' => e = .returned (.bool true) ∧ Below wz.heap.size wz w' := by
  obtain ⟨w, hw⟩ : ∃ w, w = wz.alloc (.cells #[.int .u8 s, .int .u8 f, .int .u8 t, .int .u32 g, .slice A4 l4.length c4, .slice A5 l5.length c5] 50) := ⟨_, rfl⟩
  have hbx : Below wz.heap.size wz w := by rw [hw]; exact below_alloc (Below.refl _ _) _
  have hbn : w.heap[wz.heap.size]? = some (.cells #[.int .u8 s, .int .u8 f, .int .u8 t, .int .u32 g, .slice A4 l4.length c4, .slice A5 l5.length c5] 50 (0, 0)) := by rw [hw]; exact blk_new wz _
  replace h4 := Kd.C_below h4 hbx
  replace h5 := Kd.C_below h5 hbx
  replace hT := TabOk.below hT hbx
  have hzw : wz.heap.size < w.heap.size := blk_lt hbn
  obtain ⟨n, hn, hln⟩ := msgSizeZ s f t g l4 l5 hls
  obtain ⟨km, hkm⟩ := hn.rounds
  have H4 := Aside0.mk h4
  have H5 := Aside0.mk h5
  have HLS := Aside0.mk hls
  have HO4 := Aside0.mk ho4
  have HO5 := Aside0.mk ho5
  have HTX := Aside0.mk htx
  have HT := Aside0.mk hT
  have HKM := Aside0.mk hkm
  have BN := Aside0.mk hbn
  have HBX := Aside0.mk hbx
  have HLN := Aside0.mk hln
  clear h4 h5 hls ho4 ho5 htx hT hn hkm hbn hbx hln
  by_cases g2 : (5000 : Int) < n
  · obtain ⟨m0, m1, m2, m3, m4, m5⟩ := blk6w BN.out
    go_enter Tryz.func8, Tryz.ntmps8
    go_wp2_with fail
    rw [← hw]
    refine (concordatlaw01_MsgSize.calls km s f t g A4 c4 l4 A5 c5 l5 n w H4.out hc4 H5.out hc5 HKM.out).mono ?_
    rintro e w1 ⟨rfl, hd⟩
    have B1 := Aside0.mk hd
    clear hd
    go_wp2
    go_ret
    exact ⟨rfl, below_step HBX.out B1.out⟩
  obtain ⟨hl4, hl5, hlr0⟩ := HLN.out (by omega)
  have HLR := Aside0.mk (show ∀ x ∈ l5, x.f0.length ≤ 1000000000 from fun x hx => by have := hlr0 x hx; omega)
  obtain ⟨kr, hkr⟩ := (ev_ref7Put s f t g l4 l5 HTX.out.2.2.2 hl4 hl5 hlr0 HLS.out.1.2 HLS.out.2.2 HO4.out HO5.out).rounds
  clear hlr0
  have hpf := put_f (s := s) (f := f) (t := t) (g := g) (room_of l4 l5 (by omega) (by omega) (fun x hx => by have := HLR.out x hx; omega))
  obtain ⟨q, hq⟩ : ∃ q, putP s f t g l4 l5 = q := ⟨_, rfl⟩
  have hpl : q.1.length ≤ 200000 := by
    rw [← hq]
    by_cases hz : (putP s f t g l4 l5).2 = 0
    · exact put_len hz
    · rw [put_empty hz]; simp
  rw [hq] at hkr hpf
  obtain ⟨pb, pe⟩ := q
  dsimp only at hpl
  obtain ⟨kb, hkb⟩ := (ev_same (rfl : pb = pb) (by omega)).rounds
  have HKR := Aside0.mk hkr
  have HPF := Aside0.mk hpf
  have HKB := Aside0.mk hkb
  obtain ⟨tx, htx⟩ : ∃ tx, textP s f t g = tx := ⟨_, rfl⟩
  have hrt := refText_f (l4 := l4) (l5 := l5) HTX.out
  have hpt := text_f (l4 := l4) (l5 := l5) HTX.out
  rw [htx] at hrt hpt
  have HRT := Aside0.mk hrt
  have HPT := Aside0.mk hpt
  clear hkr hpf hkb hq htx hrt hpt HLN
  obtain ⟨m0, m1, m2, m3, m4, m5⟩ := blk6w BN.out
  go_enter Tryz.func8, Tryz.ntmps8
  go_wp2_with fail
  rw [← hw]
  refine (concordatlaw01_MsgSize.calls km s f t g A4 c4 l4 A5 c5 l5 n w H4.out hc4 H5.out hc5 HKM.out).mono ?_
  rintro e w1 ⟨rfl, hd⟩
  have s1 := hd.size
  have B1 := Aside0.mk hd
  clear hd m0 m1 m2 m3 m4 m5 hw
  have N1 := Aside0.mk (blk_below BN.out B1.out)
  obtain ⟨m0, m1, m2, m3, m4, m5⟩ := blk6w N1.out
  go_wp2_with fail
  refine (twinMsg_calls w1 s f t g A4 c4 l4 A5 c5 l5 (Kd.C_below H4.out B1.out) hc4 (Kd.C_below H5.out B1.out) hc5 (by omega) (by omega) HLR.out).mono ?_
  rintro e w2 ⟨B4, k4, B5, k5, rfl, F4, F5, hT4, hT5, hN4, hN5, hDJ, hG4, hG5, hb2⟩
  have hsz : w2.heap.size + 1 = (w2.alloc (.cells #[.int .u8 s, .int .u8 f, .int .u8 t, .int .u32 g, .slice B4 l4.length k4, .slice B5 l5.length k5] 50)).heap.size := (alloc_size _ _).symm
  have ha := below_alloc (Below.refl w2.heap.size w2) (.cells #[.int .u8 s, .int .u8 f, .int .u8 t, .int .u32 g, .slice B4 l4.length k4, .slice B5 l5.length k5] 50)
  obtain ⟨w3, hw3⟩ : ∃ w3, w3 = w2.alloc (.cells #[.int .u8 s, .int .u8 f, .int .u8 t, .int .u32 g, .slice B4 l4.length k4, .slice B5 l5.length k5] 50) := ⟨_, rfl⟩
  have hx3 : w3.heap[w2.heap.size]? = some (.cells #[.int .u8 s, .int .u8 f, .int .u8 t, .int .u32 g, .slice B4 l4.length k4, .slice B5 l5.length k5] 50 (0, 0)) := by rw [hw3]; exact blk_new w2 _
  rw [← hw3] at ha hsz
  have hb3 := below_step hb2 ha
  have B3 := Aside0.mk (below_step B1.out hb3)
  have L4 := Aside0.mk hT4.lt
  have L5 := Aside0.mk hT5.lt
  have T4 := Aside0.mk (hT4.below ha)
  have T5 := Aside0.mk (hT5.below ha)
  have N4 := Aside0.mk hN4
  have N5 := Aside0.mk hN5
  have DJ := Aside0.mk hDJ
  have G4 := Aside0.mk hG4
  have G5 := Aside0.mk hG5
  have M3 := Aside0.mk (blk_below N1.out hb3)
  have X3 := Aside0.mk hx3
  have s2 := hb2.size
  clear hT4 hT5 hN4 hN5 hDJ hG4 hG5 hb2 ha hb3 hx3 m0 m1 m2 m3 m4 m5 N1 BN
  obtain ⟨hk4, hk5⟩ := (⟨T4.out.c.2.2, (twinR_c T5.out).2⟩ : l4.length + 1 ≤ k4 ∧ l5.length + 1 ≤ k5)
  go_wp2_with fail
  rw [← hw3]
  clear hw3
  refine (packets_Put.calls s f t g B4 k4 l4 B5 k5 l5 pb pe w3 T4.out.c.1 (by omega) (twinR_c T5.out).1 (by omega) HPF.out).mono ?_
  rintro e w4 ⟨vp, rfl, hO, hb⟩
  obtain ⟨Ap, cp, rfl, hcp, _⟩ := Kd.R_reads hO
  have P4 := Aside0.mk hO
  have LP := Aside0.mk (Kd.R_lt hO)
  have U4 := Aside0.mk (T4.out.below hb)
  have U5 := Aside0.mk (T5.out.below hb)
  have M4 := Aside0.mk (blk_below M3.out hb)
  have X4 := Aside0.mk (blk_below X3.out hb)
  have B4_ := Aside0.mk (below_step B3.out hb)
  have s4 := hb.size
  clear hO hb T4 T5 M3 X3 B3
  obtain ⟨m0, m1, m2, m3, m4, m5⟩ := blk6w X4.out
  go_wp2_with fail
  refine (packets_Put.calls s f t g B4 k4 l4 B5 k5 l5 pb pe w4 U4.out.c.1 (by omega) (twinR_c U5.out).1 (by omega) HPF.out).mono ?_
  rintro e w5 ⟨vq, rfl, hO, hb⟩
  obtain ⟨Aq, cq, rfl, hcq, _⟩ := Kd.R_reads hO
  have Q5 := Aside0.mk hO
  have LQ := Aside0.mk (Kd.R_lt hO)
  have P5 := Aside0.mk (Kd.R_below P4.out hb)
  have V4 := Aside0.mk (U4.out.below hb)
  have V5 := Aside0.mk (U5.out.below hb)
  have M5 := Aside0.mk (blk_below M4.out hb)
  have X5 := Aside0.mk (blk_below X4.out hb)
  have B5_ := Aside0.mk (below_step B4_.out hb)
  have s5 := hb.size
  clear hO hb U4 U5 M4 X4 B4_ P4 m0 m1 m2 m3 m4 m5
  obtain ⟨m0, m1, m2, m3, m4, m5⟩ := blk6w M5.out
  go_wp2_with fail
  refine (concordatref07_Put.calls kr s f t g A4 c4 l4 A5 c5 l5 pb pe w5 (Kd.C_below H4.out B5_.out) hc4 (Kd.C_below H5.out B5_.out) hc5 HKR.out).mono ?_
  rintro e w6 ⟨vw, rfl, hO, hb⟩
  obtain ⟨Aw, cw, rfl, hcw, hCw⟩ := Kd.R_reads hO
  have s6 := hb.size
  clear m0 m1 m2 m3 m4 m5
  go_wp2_with fail
  have hee : (pe != pe) = false := by simp
  have htt := str_same tx
  have htn : (tx != tx) = false := by unfold bne; rw [htt]; rfl
  have hd := below_drew (Below.refl w6.heap.size w6)
  have hz : w6.heap.size ≤ w6.drew.heap.size := hd.size
  have hbd := below_step hb hd
  have BB := Aside0.mk (below_step B5_.out hbd)
  have WW := Aside0.mk (Kd.C_below hCw hd)
  have Q := Aside0.mk (Kd.R_below Q5.out hbd)
  have P := Aside0.mk (Kd.R_below P5.out hbd)
  have T4 := Aside0.mk (V4.out.below hbd)
  have T5 := Aside0.mk (V5.out.below hbd)
  have HF := Aside0.mk (And.intro (blk6w (blk_below M5.out hb)) (blk6w (blk_below X5.out hb)))
  have MB := Aside0.mk (blk_below M5.out hbd)
  have XB := Aside0.mk (blk_below X5.out hbd)
  have HC := Aside0.mk (And.intro (blk6w MB.out) (blk6w XB.out))
  clear hO hCw hb hd hbd M5 X5 V4 V5 P5 Q5 B5_
  first | (go_region_held3 (fun wn : World => (wn.cell? ⟨wz.heap.size, 0, none⟩ = some (.int .u8 s) ∧ wn.cell? ⟨wz.heap.size, 1, none⟩ = some (.int .u8 f) ∧ wn.cell? ⟨wz.heap.size, 2, none⟩ = some (.int .u8 t) ∧ wn.cell? ⟨wz.heap.size, 3, none⟩ = some (.int .u32 g) ∧ wn.cell? ⟨wz.heap.size, 4, none⟩ = some (.slice A4 l4.length c4) ∧ wn.cell? ⟨wz.heap.size, 5, none⟩ = some (.slice A5 l5.length c5)) ∧ (wn.cell? ⟨w2.heap.size, 0, none⟩ = some (.int .u8 s) ∧ wn.cell? ⟨w2.heap.size, 1, none⟩ = some (.int .u8 f) ∧ wn.cell? ⟨w2.heap.size, 2, none⟩ = some (.int .u8 t) ∧ wn.cell? ⟨w2.heap.size, 3, none⟩ = some (.int .u32 g) ∧ wn.cell? ⟨w2.heap.size, 4, none⟩ = some (.slice B4 l4.length k4) ∧ wn.cell? ⟨w2.heap.size, 5, none⟩ = some (.slice B5 l5.length k5))) (with_reducible exact HC.out) (first
     | (go_at_call 34
        with_reducible show Calls _ _ #[Value.slice Ap pb.length cp, _] _ _
        refine (concordatlaw01_SameBytes.calls kb Ap cp pb Aw cw pb true _ (R_C P.out) hcp WW.out hcw HKB.out).mono ?_
        rintro e wn ⟨rfl, hb1⟩
        replace hb1 := hb1.below
        have BB := Aside0.mk (below_step BB.out hb1)
        have WW := Aside0.mk (Kd.C_below WW.out hb1)
        have Q := Aside0.mk (Kd.R_below Q.out hb1)
        have P := Aside0.mk (Kd.R_below P.out hb1)
        have T4 := Aside0.mk (T4.out.below hb1)
        have T5 := Aside0.mk (T5.out.below hb1)
        have MB := Aside0.mk (blk_below MB.out hb1)
        have XB := Aside0.mk (blk_below XB.out hb1)
        have HC := Aside0.mk (And.intro (blk6w MB.out) (blk6w XB.out))
        have hz : w6.heap.size ≤ wn.heap.size := Nat.le_trans hz hb1.size
        clear hb1)
     | (go_at_call 34
        with_reducible show Calls _ _ #[Value.slice Aq pb.length cq, _] _ _
        refine (concordatlaw01_SameBytes.calls kb Aq cq pb Aw cw pb true _ (R_C Q.out) hcq WW.out hcw HKB.out).mono ?_
        rintro e wn ⟨rfl, hb1⟩
        replace hb1 := hb1.below
        have BB := Aside0.mk (below_step BB.out hb1)
        have WW := Aside0.mk (Kd.C_below WW.out hb1)
        have Q := Aside0.mk (Kd.R_below Q.out hb1)
        have P := Aside0.mk (Kd.R_below P.out hb1)
        have T4 := Aside0.mk (T4.out.below hb1)
        have T5 := Aside0.mk (T5.out.below hb1)
        have MB := Aside0.mk (blk_below MB.out hb1)
        have XB := Aside0.mk (blk_below XB.out hb1)
        have HC := Aside0.mk (And.intro (blk6w MB.out) (blk6w XB.out))
        have hz : w6.heap.size ≤ wn.heap.size := Nat.le_trans hz hb1.size
        clear hb1)
     | (go_at_call 65
        refine (packets_Text.calls s f t g B4 k4 l4 B5 k5 l5 tx _ T4.out.c.1 (by omega) (twinR_c T5.out).1 (by omega) HPT.out (TabOk.below HT.out BB.out)).mono ?_
        rintro e wn ⟨rfl, hb1⟩
        have BB := Aside0.mk (below_step BB.out hb1)
        have WW := Aside0.mk (Kd.C_below WW.out hb1)
        have Q := Aside0.mk (Kd.R_below Q.out hb1)
        have P := Aside0.mk (Kd.R_below P.out hb1)
        have T4 := Aside0.mk (T4.out.below hb1)
        have T5 := Aside0.mk (T5.out.below hb1)
        have MB := Aside0.mk (blk_below MB.out hb1)
        have XB := Aside0.mk (blk_below XB.out hb1)
        have HC := Aside0.mk (And.intro (blk6w MB.out) (blk6w XB.out))
        have hz : w6.heap.size ≤ wn.heap.size := Nat.le_trans hz hb1.size
        clear hb1)
     | (go_at_call 66
        refine (concordatref07_Text.calls s f t g A4 c4 l4 A5 c5 l5 tx _ (Kd.C_below H4.out BB.out) hc4 (Kd.C_below H5.out BB.out) hc5 HRT.out).mono ?_
        rintro e wn ⟨rfl, hb1⟩
        have BB := Aside0.mk (below_step BB.out hb1)
        have WW := Aside0.mk (Kd.C_below WW.out hb1)
        have Q := Aside0.mk (Kd.R_below Q.out hb1)
        have P := Aside0.mk (Kd.R_below P.out hb1)
        have T4 := Aside0.mk (T4.out.below hb1)
        have T5 := Aside0.mk (T5.out.below hb1)
        have MB := Aside0.mk (blk_below MB.out hb1)
        have XB := Aside0.mk (blk_below XB.out hb1)
        have HC := Aside0.mk (And.intro (blk6w MB.out) (blk6w XB.out))
        have hz : w6.heap.size ≤ wn.heap.size := Nat.le_trans hz hb1.size
        clear hb1)
     | (go_at_call 25
        refine (leftMsg_calls _ s f t g B4 k4 B5 k5 F4 F5 A4 c4 l4 A5 c5 l5 T4.out T5.out (Kd.C_below H4.out BB.out) hc4 (Kd.C_below H5.out BB.out) hc5 (by omega) (by omega) HLR.out).mono ?_
        rintro e wn ⟨rfl, hb1⟩
        have BB := Aside0.mk (below_step BB.out hb1)
        have WW := Aside0.mk (Kd.C_below WW.out hb1)
        have Q := Aside0.mk (Kd.R_below Q.out hb1)
        have P := Aside0.mk (Kd.R_below P.out hb1)
        have T4 := Aside0.mk (T4.out.below hb1)
        have T5 := Aside0.mk (T5.out.below hb1)
        have MB := Aside0.mk (blk_below MB.out hb1)
        have XB := Aside0.mk (blk_below XB.out hb1)
        have HC := Aside0.mk (And.intro (blk6w MB.out) (blk6w XB.out))
        have hz : w6.heap.size ≤ wn.heap.size := Nat.le_trans hz hb1.size
        clear hb1))) | fail "held3"
  all_goals
    obtain ⟨_, a0, a1, a2, a3, a4, a5⟩ := HC.out
    have hlt : w2.heap.size < wn.heap.size := by omega
    go_wp2_with fail
    have hba := below_alloc (Below.refl wn.heap.size wn) (.cells #[.int .i64 0, .slice none 0 0, .slice none 0 0, .slice none 0 0, .slice none 0 0, .slice none 0 0, .slice none 0 0, .slice none 0 0, .slice none 0 0, .slice none 0 0, .slice none 0 0, .slice none 0 0, .slice none 0 0] 44)
    have hp0 := Pile.new (below_step BB.out hba) (blk_new wn _) BB.out.size
    obtain ⟨i4, o4⟩ := (T4.out.below hba).owns
    obtain ⟨F6, q5, n6, f6⟩ := loose_tw (T5.out.below hba) N5.out
    obtain ⟨ip, op⟩ := R_owns (Kd.R_below P.out hba)
    obtain ⟨iq, oq⟩ := R_owns (Kd.R_below Q.out hba)
    have R4 := Aside0.mk (show ∀ b ∈ (Value.slice B4 l4.length k4).ownBlock.toList ++ F6, w1.heap.size ≤ b ∧ b < w2.heap.size from fun b hb => by
      rcases List.mem_append.1 hb with h | h
      · exact ⟨G4.out b (T4.out.blk b h), L4.out b (T4.out.blk b h)⟩
      · exact ⟨G5.out b (f6 b h), L5.out b (f6 b h)⟩)
    have ND := Aside0.mk (show ((Value.slice B4 l4.length k4).ownBlock.toList ++ F6).Nodup from List.nodup_append.2 ⟨by cases (Value.slice B4 l4.length k4).ownBlock <;> simp, n6, fun x hx y hy => DJ.out x (T4.out.blk x hx) y (f6 y hy)⟩)
    have RP := Aside0.mk (show ∀ x ∈ (Value.slice Ap pb.length cp).ownBlock.toList, w3.heap.size ≤ x ∧ x < w4.heap.size from fun x hx => ⟨Kd.R_base P.out x (by simpa using hx), LP.out x (by simpa using hx)⟩)
    have RQ := Aside0.mk (show ∀ x ∈ (Value.slice Aq pb.length cq).ownBlock.toList, w4.heap.size ≤ x ∧ x < w5.heap.size from fun x hx => ⟨Kd.R_base Q.out x (by simpa using hx), LQ.out x (by simpa using hx)⟩)
    obtain ⟨lm, hlm⟩ : ∃ lm, lm = l5.map (fun x => x.f0.length) := ⟨_, rfl⟩
    have hlml : lm.length = l5.length := by rw [hlm, List.length_map]
    have hlms : ∀ n ∈ lm, n ≤ 1000000000 := fun n hn => by
      rw [hlm] at hn
      obtain ⟨x, hx, rfl⟩ := List.mem_map.1 hn
      exact HLR.out x hx
    rw [← hlm] at q5
    have HLM := Aside0.mk hlms
    have HP0 := Aside0.mk hp0
    have O4 := Aside0.mk o4
    have Q5 := Aside0.mk q5
    have OP := Aside0.mk op
    have OQ := Aside0.mk oq
    clear hba hp0 o4 q5 n6 f6 op oq hlm hlms T4 T5 P Q WW L4 L5 G4 G5 LP LQ N4 N5 DJ MB XB HC HF a0 a1 a2 a3 a4 a5
    have C1 := Aside0.mk (HP0.out.Msg (.int .u8 s) (.int .u8 f) (.int .u8 t) (.int .u32 g) B4 l4.length k4 i4 B5 k5 lm F6 (by omega) O4.out (by rw [hlml]; exact Q5.out) ND.out (fun x hx => by have h := R4.out x hx; exact ⟨⟨by omega, by simp⟩, by omega⟩) (by omega) (by omega) HLM.out)
    rw [hlml] at C1
    with_reducible refine C1.out.mono ?_
    rintro e w13 ⟨rfl, LB, hp, hLB, hsp⟩
    have FLB := Aside0.mk (show ∀ x, w2.heap.size ≤ x → x ∉ LB from fun x h hx => by
      rcases hLB x hx with h2 | h2
      · cases h2
      · have := R4.out x h2; omega)
    have hno : ∀ x, w2.heap.size ≤ x → x ∉ [] ++ ((Value.slice B4 l4.length k4).ownBlock.toList ++ F6) := fun x h hx => by
      rw [List.nil_append] at hx
      have := R4.out x hx; omega
    have HP1 := Aside0.mk hp
    have OP1 := Aside0.mk (hsp.own OP.out (fun x hx => ⟨by have := RP.out x hx; omega, hno x (by have := RP.out x hx; omega)⟩))
    have OQ1 := Aside0.mk (hsp.own OQ.out (fun x hx => ⟨by have := RQ.out x hx; omega, hno x (by have := RQ.out x hx; omega)⟩))
    clear hp hsp hLB hno HP0 OP OQ C1 O4 Q5
    go_wp2_with fail
    refine (HP1.out.Bytes (by omega) Ap pb.length cp ip OP1.out (fun x hx => ⟨⟨?_, FLB.out x ?_⟩, ?_⟩) (by omega)).mono ?_
    · have := RP.out x hx; omega
    · have := RP.out x hx; omega
    · have := RP.out x hx; omega
    rintro e w14 ⟨rfl, hp, hsp⟩
    have HP2 := Aside0.mk hp
    have OQ2 := Aside0.mk (hsp.own OQ1.out (fun x hx => ⟨by have := RQ.out x hx; omega, FLB.out x (by have := RQ.out x hx; omega)⟩))
    have FLC := Aside0.mk (show ∀ x, w4.heap.size ≤ x → x ∉ LB ++ (Value.slice Ap pb.length cp).ownBlock.toList from fun x h hx => by
      rcases List.mem_append.1 hx with hx | hx
      · exact FLB.out x (by omega) hx
      · have := RP.out x hx; omega)
    clear hp hsp HP1 OP1 OQ1
    go_wp2_with fail
    refine (HP2.out.Bytes (by omega) Aq pb.length cq iq OQ2.out (fun x hx => ⟨⟨?_, FLC.out x ?_⟩, ?_⟩) (by omega)).mono ?_
    · have := RQ.out x hx; omega
    · have := RQ.out x hx; omega
    · have := RQ.out x hx; omega
    rintro e w15 ⟨rfl, hp, hsp⟩
    have HP3 := Aside0.mk hp
    clear hp hsp HP2 OQ2
    go_wp2_with fail
    refine (HP3.out.apart HT.out).mono ?_
    rintro e w16 ⟨rfl, hbw⟩
    have HBW := Aside0.mk hbw
    clear hbw
    go_wp2
    go_ret
    exact ⟨rfl, below_step HBX.out HBW.out⟩
end Go.Proofs.YtcohodkpppmaoaaGreatDoor.Q
namespace Go.Proofs.YtcohodkpppmaoaaGreatDoor
open Go.RowKit Go.ChangeShapes Go.WideShapes Go.Proofs.YtcohodkpppmaoaaGreatDoorW.PrintWords

structure Opens (P : Program) (t : TypeId) {α : Type} (d : Kd α) (Good : α → Prop) : Prop where
  cells : P.cellsOf t = d.sz
  opened : ∀ {H : Type} {enc : TypeId × Value → H} {w : World} {base : Nat} {spare : Nat → Bool} {held : Bool} {fuel : Nat} {cs : List Value} {x : DataW H × List MemPlace},
    DataW.trod enc P w base spare held fuel t cs = some x → (∀ n ∈ x.1.weights P t, n ≤ reachBytes) → ∃ a, d.K w a cs ∧ Good a

section
variable {P : Program} {t : TypeId}
theorem opens_int {k : IntKind} (ht : P.underlying t = some (.int k)) (hc : P.cellsOf t = 1) : Opens P t (Kd.int k) (fun n => (Lit.int k n).wf = true) :=
  ⟨hc, fun h _ => by
    obtain ⟨n, rfl, rfl, hn⟩ := DataW.trod_int ht h
    exact ⟨n, rfl, hn⟩⟩
theorem opens_string (ht : P.underlying t = some .string) (hc : P.cellsOf t = 1) : Opens P t Kd.string (fun s => s.size ≤ 140737488351232) :=
  ⟨hc, fun h hw => by
    obtain ⟨s, rfl, rfl, hs⟩ := DataW.trod_string ht h
    refine ⟨s, rfl, ?_⟩
    have := hw s.data.toList.length (by simp [DataW.weights])
    rw [Array.length_toList] at this
    exact this⟩

theorem weightsAll_mem {H : Type} {e : TypeId} : ∀ {l : List (DataW H)} {d : DataW H} {n : Nat}, d ∈ l → n ∈ d.weights P e → n ∈ DataW.weightsAll P e l
  | _ :: _, _, _, .head _, hn => by
    simp only [DataW.weightsAll, List.mem_append]
    exact .inl hn
  | _ :: _, _, _, .tail _ h, hn => by
    simp only [DataW.weightsAll, List.mem_append]
    exact .inr (weightsAll_mem h hn)

theorem opens_slice {α : Type} {e : TypeId} {d : Kd α} {Good : α → Prop} {b : Nat} (ht : P.underlying t = some (.slice e)) (hc : P.cellsOf t = 1) (hb : P.bytesOf e = b) (hb0 : 0 < b) (ho : Opens P e d Good) :
    Opens P t (Kd.slice e d) (fun l => (∀ x ∈ l, Good x) ∧ l.length * b ≤ 140737488351232) := by
  refine ⟨hc, fun {H enc w base spare held fuel cs x} h hw => ?_⟩
  rcases Deep.open_slice ht h with ⟨rfl, rfl⟩ | ⟨a, len, cap, m, n, D, Pl, rfl, _, hl, hm, hmm, rfl, hx⟩
  · exact ⟨[], ⟨none, 0, rfl, by simp, rfl, by simp, fun h => absurd h (by simp)⟩, fun x hx => by simp at hx, by simp⟩
  · have hlm : len ≤ m := by rw [hmm]; split <;> omega
    have hw' : ∀ n ∈ (DataW.slice ((List.range len).map D) ((List.range (m - len)).map fun j => D (len + j)) : DataW H).weights P t, n ≤ reachBytes := hw
    simp only [DataW.weights, ht] at hw'
    have hlen : len * b ≤ 140737488351232 := by
      have := hw' _ (List.mem_cons_self)
      rw [hb] at this
      simp only [List.length_map, List.length_range] at this
      have h2 : len * b ≤ (len + (m - len)) * b := Nat.mul_le_mul_right _ (by omega)
      unfold reachBytes at this
      omega
    have hel : ∀ i : Nat, i < len → ∃ (y : α) (c : List Value), (c.length = d.sz ∧ ∀ j u, c[j]? = some u → w.cell? (a.add (i * d.sz + j)) = some u) ∧ d.K w y c ∧ Good y := by
      intro i hi
      obtain ⟨cs', h1, h2⟩ := hx i (by omega)
      obtain ⟨y, hK, hG⟩ := ho.opened h2 (fun k hk => hw' k (List.mem_cons_of_mem _ (List.mem_append_left _ (weightsAll_mem (d := D i) (List.mem_map.2 ⟨i, List.mem_range.2 hi, rfl⟩) hk))))
      refine ⟨y, cs', ⟨d.K_len hK, ?_⟩, hK, hG⟩
      intro j u hj
      rw [ho.cells] at h1
      unfold World.cells? at h1
      split at h1
      · have hjl : j < d.sz := by
          have := (List.getElem?_eq_some_iff.1 hj).1
          rw [d.K_len hK] at this
          exact this
        have := mapM_some_get h1 j j (by simp [hjl])
        rw [Deep.add_add] at this
        rw [this, hj]
      · cases h1
    obtain ⟨f, hf⟩ := Classical.axiomOfChoice (r := fun (i : Fin len) (y : α) => ∃ c : List Value, (c.length = d.sz ∧ ∀ j u, c[j]? = some u → w.cell? (a.add (i.1 * d.sz + j)) = some u) ∧ d.K w y c ∧ Good y)
      (fun i => by obtain ⟨y, c, h⟩ := hel i.1 i.2; exact ⟨y, c, h⟩)
    refine ⟨List.ofFn f, ⟨some a, cap, by simp, by simpa using hl, ?_⟩, ?_, by simpa using hlen⟩
    · refine ⟨rfl, by rw [List.length_ofFn]; unfold maxLen at hm; omega, fun _ => ⟨a, rfl, fun j p hp => ?_⟩⟩
      have hj : j < len := by
        have := (List.getElem?_eq_some_iff.1 hp).1
        simpa using this
      have hp' : f ⟨j, hj⟩ = p := by
        rw [List.getElem?_ofFn, dif_pos hj] at hp
        exact Option.some.inj hp
      obtain ⟨c, ⟨hc1, hc2⟩, hK, _⟩ := hf ⟨j, hj⟩
      exact ⟨c, hc1, hp' ▸ hK, hc2⟩
    · intro y hy
      obtain ⟨i, rfl⟩ := List.mem_ofFn.1 hy
      obtain ⟨c, _, _, hG⟩ := hf i
      exact hG

/-- The fields of a struct, from a place on. -/
structure OpensF (P : Program) (fs : List Field) (off : Nat) {α : Type} (d : Kd α) (Good : α → Prop) : Prop where
  go : ∀ {H : Type} {enc : TypeId × Value → H} {w : World} {base : Nat} {spare : Nat → Bool} {held : Bool} {n : Nat} (cs : List Value) (xs : List (DataW H × List MemPlace)),
    cs.length = off + d.sz → xs.length = fs.length → (∀ (i : Nat) (f : Field), fs[i]? = some f → DataW.trod enc P w base spare held n f.type ((cs.drop f.offset).take (P.cellsOf f.type)) = xs[i]?) →
    (∀ (i : Nat) (f : Field) (x : DataW H × List MemPlace), fs[i]? = some f → xs[i]? = some x → ∀ k ∈ x.1.weights P f.type, k ≤ reachBytes) → ∃ a, d.K w a (cs.drop off) ∧ Good a
theorem opensF_one {f : Field} {off : Nat} {α : Type} {d : Kd α} {Good : α → Prop} (h : Opens P f.type d Good) (hf : f.offset = off) : OpensF P [f] off d Good := by
  constructor
  intro H enc w base spare held n cs xs hl hx ht hw
  obtain ⟨x, rfl⟩ : ∃ x, xs = [x] := List.length_eq_one_iff.1 hx
  have h0 := ht 0 f rfl
  rw [h.cells, hf, List.take_of_length_le (by rw [List.length_drop]; omega)] at h0
  exact h.opened h0 (hw 0 f x rfl rfl)
theorem opensF_cons {f : Field} {fs : List Field} {off : Nat} {α β : Type} {d : Kd α} {e : Kd β} {G : α → Prop} {G' : β → Prop} (h : Opens P f.type d G) (hf : f.offset = off) (hs : OpensF P fs (off + d.sz) e G') :
    OpensF P (f :: fs) off (Kd.pair d e) (fun x => G x.1 ∧ G' x.2) := by
  constructor
  intro H enc w base spare held n cs xs hl hx ht hw
  have hl' : cs.length = off + (d.sz + e.sz) := hl
  obtain ⟨x, xs, rfl⟩ : ∃ y ys, xs = y :: ys := by
    cases xs with
    | nil => simp at hx
    | cons y ys => exact ⟨y, ys, rfl⟩
  have h0 := ht 0 f rfl
  rw [h.cells, hf] at h0
  obtain ⟨a, hK, hG⟩ := h.opened h0 (hw 0 f x rfl rfl)
  obtain ⟨b, hK', hG'⟩ := hs.go (enc := enc) (w := w) (base := base) (spare := spare) (held := held) (n := n) cs xs (by omega) (by simpa using hx) (fun i g hg => ht (i + 1) g hg) (fun i g y hg hy => hw (i + 1) g y hg hy)
  refine ⟨(a, b), ⟨(cs.drop off).take d.sz, cs.drop (off + d.sz), ?_, hK, hK'⟩, hG, hG'⟩
  rw [← List.drop_drop, List.take_append_drop]
theorem weightsEach_mem {H : Type} {ts : List TypeId} {ds : List (DataW H)} {j : Nat} {t : TypeId} {d : DataW H} (ht : ts[j]? = some t) (hd : ds[j]? = some d) (n : Nat) (hn : n ∈ d.weights P t) : n ∈ DataW.weightsEach P ts ds := DataW.weights_mem_each ht hd n hn
theorem opens_struct {fs : Array Field} {α : Type} {d : Kd α} {Good : α → Prop} (ht : P.underlying t = some (.struct fs)) (hc : P.cellsOf t = d.sz) (h : OpensF P fs.toList 0 d Good) : Opens P t d Good := by
  refine ⟨hc, fun {H enc w base spare held fuel cs x} hr hw => ?_⟩
  obtain ⟨xs, n, _, rfl, hl, hx, hf⟩ := DataW.trod_struct ht hr
  have hw' : ∀ k ∈ (DataW.agg (xs.map (·.1)) : DataW H).weights P t, k ≤ reachBytes := hw
  simp only [DataW.weights, ht] at hw'
  have := h.go (enc := enc) (w := w) (base := base) (spare := spare) (held := held) (n := n) cs xs (by omega) (by rw [hx]; simp) (fun i f hi => hf i f (by simpa using hi)) (fun i f y hi hy k hk => hw' k (weightsEach_mem (j := i) (t := f.type) (d := y.1) (by simp at hi; simp [hi]) (by simp [hy]) k hk))
  simpa using this
theorem opens_iso {α β : Type} {d : Kd α} {Good : α → Prop} {G : β → Prop} (f : β → α) (g : α → β) (hfg : ∀ a, f (g a) = a) (hG : ∀ a, Good a → G (g a)) (h : Opens P t d Good) : Opens P t (Kd.iso d f) G := by
  refine ⟨h.cells, fun hr hw => ?_⟩
  obtain ⟨a, hK, hg⟩ := h.opened hr hw
  exact ⟨g a, by show d.K _ (f (g a)) _; rw [hfg]; exact hK, hG a hg⟩
end
end Go.Proofs.YtcohodkpppmaoaaGreatDoor
namespace Go.Proofs.YtcohodkpppmaoaaGreatDoor
open Go.RowKit Go.ChangeShapes Go.WideShapes Go.Proofs.YtcohodkpppmaoaaGreatDoorW.PrintWords Q

theorem u32_of_wf {n : Int} (h : (Lit.int .u32 n).wf = true) : u32Ok n := by
  simp only [Lit.wf, Bool.and_eq_true, decide_eq_true_eq] at h
  exact ⟨h.1, h.2⟩
theorem u8_of_wf {n : Int} (h : (Lit.int .u8 n).wf = true) : u8Ok n := by
  simp only [Lit.wf, Bool.and_eq_true, decide_eq_true_eq] at h
  exact ⟨h.1, h.2⟩
/-- Texts that are within the reach. -/
def sOk (s : ByteArray) : Prop := s.size ≤ 140737488351232
def rowGood (x : RowT) : Prop := sOk x.f0 ∧ rowOk x
def opGood (x : OpT) : Prop := sOk x.f1 ∧ sOk x.f2 ∧ opOk x
def rowsGood (l : List RowT) : Prop := (∀ x ∈ l, rowGood x) ∧ l.length * 24 ≤ 140737488351232
def resultGood (x : ResultT) : Prop := rowsGood x.f0

theorem opens_u8 : Opens Tryz.prog 5 (Kd.int .u8) (fun n => (Lit.int .u8 n).wf = true) := opens_int Tryz.underlying5 (by kernel_rfl)
theorem opens_u32 : Opens Tryz.prog 46 (Kd.int .u32) (fun n => (Lit.int .u32 n).wf = true) := opens_int Tryz.underlying46 (by kernel_rfl)
theorem opens_str : Opens Tryz.prog 9 Kd.string sOk := opens_string Tryz.underlying9 (by kernel_rfl)
theorem opens_kind : Opens Tryz.prog 80 (Kd.int .u8) (fun n => (Lit.int .u8 n).wf = true) := opens_int Tryz.underlying80 (by kernel_rfl)

theorem opens_row : Opens Tryz.prog 148 k148 rowGood := by
  have h := opens_struct (P := Tryz.prog) (t := 148) Tryz.underlying148 (by kernel_rfl) (opensF_cons opens_str rfl (opensF_one opens_u32 rfl))
  exact opens_iso (fun x : RowT => (x.f0, x.f1)) (fun a => ⟨a.1, a.2⟩) (fun _ => rfl) (fun _ h => ⟨h.1, u32_of_wf h.2⟩) h
theorem opens_op : Opens Tryz.prog 82 k82 opGood := by
  have h := opens_struct (P := Tryz.prog) (t := 82) Tryz.underlying82 (by kernel_rfl) (opensF_cons opens_kind rfl (opensF_cons opens_str rfl (opensF_cons opens_str rfl (opensF_one opens_u32 rfl))))
  exact opens_iso (fun x : OpT => (x.f0, x.f1, x.f2, x.f3)) (fun a => ⟨a.1, a.2.1, a.2.2.1, a.2.2.2⟩) (fun _ => rfl) (fun _ h => ⟨h.2.1, h.2.2.1, u8_of_wf h.1, u32_of_wf h.2.2.2⟩) h
theorem opens_rows : Opens Tryz.prog 143 (Kd.slice 148 k148) rowsGood :=
  opens_slice Tryz.underlying143 (by kernel_rfl) (by kernel_rfl) (by decide) opens_row
theorem opens_result : Opens Tryz.prog 145 k145 resultGood := by
  have h := opens_struct (P := Tryz.prog) (t := 145) Tryz.underlying145 (by kernel_rfl) (opensF_one opens_rows rfl)
  exact opens_iso (fun x : ResultT => x.f0) (fun a => ⟨a⟩) (fun _ => rfl) (fun _ h => h) h
theorem opens_ops : Opens Tryz.prog 47 (Kd.slice 82 k82) (fun l => (∀ x ∈ l, opGood x) ∧ l.length * 48 ≤ 140737488351232) :=
  opens_slice Tryz.underlying47 (by kernel_rfl) (by kernel_rfl) (by decide) opens_op
theorem opens_results : Opens Tryz.prog 48 (Kd.slice 145 k145) (fun l => (∀ x ∈ l, resultGood x) ∧ l.length * 24 ≤ 140737488351232) :=
  opens_slice Tryz.underlying48 (by kernel_rfl) (by kernel_rfl) (by decide) opens_result
/-- A struct argument, opened. -/
theorem opens_agg {H : Type} {enc : TypeId × Value → H} {w : World} {base : Nat} {spare : Nat → Bool} {held : Bool} {P : Program} {t : TypeId} {α : Type} {d : Kd α} {Good : α → Prop} (ho : Opens P t d Good)
    {cs : Array Value} {dt : DataW H} {p : List MemPlace} (h : DataW.Trod enc P w base spare held t (.agg cs) dt p) (hw : ∀ n ∈ dt.weights P t, n ≤ reachBytes) :
    ∃ x : α, d.K w x cs.toList ∧ Good x := by
  obtain ⟨fuel, hf⟩ := h
  exact ho.opened hf hw
end Go.Proofs.YtcohodkpppmaoaaGreatDoor
namespace Go.Proofs.YtcohodkpppmaoaaGreatDoor
open Go.RowKit Go.ChangeShapes Go.WideShapes Go.Proofs.YtcohodkpppmaoaaGreatDoorW.PrintWords Q
set_option linter.unusedVariables false
abbrev MsgT := S50
def opsGood (l : List OpT) : Prop := (∀ x ∈ l, opGood x) ∧ l.length * 48 ≤ 140737488351232
def resultsGood (l : List ResultT) : Prop := (∀ x ∈ l, resultGood x) ∧ l.length * 24 ≤ 140737488351232
def msgGood (m : MsgT) : Prop := u8Ok m.f0 ∧ u8Ok m.f1 ∧ u8Ok m.f2 ∧ u32Ok m.f3 ∧ opsGood m.f4 ∧ resultsGood m.f5
theorem opens_say : Opens Tryz.prog 45 (Kd.int .u8) (fun n => (Lit.int .u8 n).wf = true) := opens_int Tryz.underlying45 (by kernel_rfl)
theorem opens_msg : Opens Tryz.prog 50 k50 msgGood := by
  have h := opens_struct (P := Tryz.prog) (t := 50) Tryz.underlying50 (by kernel_rfl) (opensF_cons opens_say rfl (opensF_cons opens_u8 rfl (opensF_cons opens_u8 rfl (opensF_cons opens_u32 rfl (opensF_cons opens_ops rfl (opensF_one opens_results rfl))))))
  exact opens_iso (fun x : MsgT => (x.f0, x.f1, x.f2, x.f3, x.f4, x.f5)) (fun a => ⟨a.1, a.2.1, a.2.2.1, a.2.2.2.1, a.2.2.2.2.1, a.2.2.2.2.2⟩) (fun _ => rfl) (fun _ h => ⟨u8_of_wf h.1, u8_of_wf h.2.1, u8_of_wf h.2.2.1, u32_of_wf h.2.2.2.1, h.2.2.2.2.1, h.2.2.2.2.2⟩) h
theorem lists_of_good {m : MsgT} (h : msgGood m) : listsOk m.f4 m.f5 := by
  unfold listsOk many
  exact ⟨⟨by have := h.2.2.2.2.1.2; omega, fun x hx => ⟨by have := (h.2.2.2.2.1.1 x hx).1; unfold sOk at this; omega, by have := (h.2.2.2.2.1.1 x hx).2.1; unfold sOk at this; omega⟩⟩,
    by have := h.2.2.2.2.2.2; omega, fun x hx => ⟨by have := (h.2.2.2.2.2.1 x hx).2; omega, fun r hr => by have := ((h.2.2.2.2.2.1 x hx).1 r hr).1; unfold sOk at this; omega⟩⟩
theorem ops_of_good {m : MsgT} (h : msgGood m) : ∀ x ∈ m.f4, opOk x := fun x hx => (h.2.2.2.2.1.1 x hx).2.2
theorem results_of_good {m : MsgT} (h : msgGood m) : ∀ x ∈ m.f5, resultOk x := fun x hx r hr => ((h.2.2.2.2.2.1 x hx).1 r hr).2
theorem text_of_good {m : MsgT} (h : msgGood m) : textOk m.f0 m.f1 m.f2 m.f3 := ⟨h.1, h.2.1, h.2.2.1, h.2.2.2.1⟩
end Go.Proofs.YtcohodkpppmaoaaGreatDoor
namespace Go.Proofs.YtcohodkpppmaoaaGreatDoor
open Go.ChangeShapes Go.WideShapes Go.ChangeAt Go.RowKit
set_option linter.unusedVariables false
/-- The list. -/
def tabList : List (String × DataW Unit) := [("math/bits.deBruijn32tab", Rows.laid_math_bits_deBruijn32tab), ("math/bits.deBruijn64tab", Rows.laid_math_bits_deBruijn64tab), ("internal/strconv.uint64pow10", Rows.laid_internal_strconv_uint64pow10)]
def cellsOfD : DataW Unit → Array Value
  | .agg l => (l.map fun
      | .lit x => x.value
      | _ => .bool false).toArray
  | _ => #[]
/-- The settled world, the tables laid. -/
noncomputable def laidWorld (os : Os) : World :=
  let w0 := World.holding Tryz.prog os ⟨#[], #[], []⟩
  { w0 with heap := ((w0.heap.modify 0 fun
      | .cells _ t frozen => .cells (cellsOfD Rows.laid_internal_strconv_uint64pow10) t frozen
      | o => o).modify 2 fun
      | .cells _ t frozen => .cells (cellsOfD Rows.laid_math_bits_deBruijn32tab) t frozen
      | o => o).modify 3 fun
      | .cells _ t frozen => .cells (cellsOfD Rows.laid_math_bits_deBruijn64tab) t frozen
      | o => o }
set_option maxRecDepth 100000 in
theorem laid_met (os : Os) (args : Array Value) : laidMet Tryz.prog tabList ((laidWorld os).forCall (fun _ _ => 0) ⟨#[], args, []⟩).memory :=
  (LaidIn.of_run [0, 2, 3] 8 (by kernel_rfl) (by kernel_rfl) (by kernel_rfl) (by kernel_rfl)).met
theorem laid_tail {P : Program} {W : World} {x : String × DataW Unit} {l : List (String × DataW Unit)} (h : laidMet P (x :: l) W) : laidMet P l W := by
  obtain ⟨ps, ⟨g, t, cs, fuel, p, q, _, _, _, _, hq, rfl⟩, hn, hr⟩ := h
  exact ⟨q, hq, (List.nodup_append.1 hn).2.1, fun b off hm => hr b off (List.mem_append_right _ hm)⟩
theorem tabOk_of_laid {W : World} (h : laidMet Tryz.prog tabList W) : TabOk W := by
  have h3 := laid_tail (laid_tail h)
  exact Lib.tabIs_of_head (g := 0) (by kernel_rfl) (by kernel_rfl) Tryz.underlying255 Tryz.underlying159 (by kernel_rfl) (by kernel_rfl) h3
end Go.Proofs.YtcohodkpppmaoaaGreatDoor
