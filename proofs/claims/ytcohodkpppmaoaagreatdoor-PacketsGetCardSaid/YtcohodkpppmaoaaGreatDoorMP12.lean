/-
  The reference's reader (which, once it has come up short, gives nothing any more) answers as the program's one does.
  The reference's reader (concordatref02.reader): where it stands; take, count, number, text.
  The reference's Check of keys, as printed: whether the text is a key.
  The reference's PutChanges, and the comparison of two rows of bytes, as printed: the plain words of XSpec.
  What is put is got, what is got was put: the plain laws of the reader. No program in sight.
  The reference's GetChanges and GetOps: what they answer is what the program's own ones answer.
  The reference's Check of ops and PutOps, as printed: the plain words of XSpec.
  The reference's GetOps: what it answers is what the program's own one answers.
  The reference's PutResults, as printed: the plain words of XSpec.
  The reference's GetResults: what it answers is what the program's own one answers.
  packets.from and packets.Get: the message of some bytes, or why there is none.
-/
import Derived.Test.YtcohodkpppmaoaaGreatDoorMP10
import Derived.BigRegion
import Derived.BigQuiet
import Derived.Test.YtcohodkpppmaoaaGreatDoorMP11
import Derived.Test.YtcohodkpppmaoaaGreatDoorMP4
import Derived.Test.YtcohodkpppmaoaaGreatDoorMP9
import Derived.WalkSpells
import Derived.Test.YtcohodkpppmaoaaGreatDoorMP5
import Derived.Deep.RegionLaw
set_option linter.unusedSimpArgs false
set_option linter.unusedVariables false
namespace Go.Proofs.YtcohodkpppmaoaaGreatDoor.Q
open Go.RowKit Go.Proofs.YtcohodkpppmaoaaGreatDoorW.PrintWords Go.Proofs.YtcohodkpppmaoaaGreatDoorW.PrintLast Go.Proofs.YtcohodkpppmaoaaGreatDoorW.PrintMore
set_option linter.unusedVariables false
def takeQ (s : RdS) (n : Nat) : List Int := if s.2 = true then List.replicate n 0 else takeR s n
def takeQS (s : RdS) (n : Nat) : RdS := if s.2 = true then s else takeS s n
def numQ (s : RdS) (n : Nat) : Int := foldN (takeQ s n)
def textQ (s : RdS) : ByteArray := strOfNums (takeQ (takeQS s 1) (numQ s 1).toNat)
def textQS (s : RdS) : RdS := takeQS (takeQS s 1) (numQ s 1).toNat
def opQ (s : RdS) : S82 := ⟨numQ s 1, textQ (takeQS s 1), textQ (textQS (takeQS s 1)), numQ (textQS (textQS (takeQS s 1))) 4⟩
def opQS (s : RdS) : RdS := takeQS (textQS (textQS (takeQS s 1))) 4
def rowQ (s : RdS) : S148 := ⟨textQ s, numQ (textQS s) 4⟩
def rowQS (s : RdS) : RdS := takeQS (textQS s) 4
def sevQ {α : Type} (r : RdS → α) (st : RdS → RdS) (s : RdS) : List α := sevN r st (numQ s 2).toNat (takeQS s 2)
def sevQS {α : Type} (r : RdS → α) (st : RdS → RdS) (s : RdS) : RdS := sevNS r st (numQ s 2).toNat (takeQS s 2)
def resQ (s : RdS) : S145 := ⟨sevQ rowQ rowQS s⟩
def resQS (s : RdS) : RdS := sevQS rowQ rowQS s
def getQ {α : Type} (r : RdS → α) (st : RdS → RdS) (put : List α → List Int × Int) (l0 : List Int) : List α × Int :=
  if (sevQS r st (l0, false)).2 = true then ([], 4)
  else if (put (sevQ r st (l0, false))).2 = 0 then
    (if ((strOfNums l0).toList == (strOfNums (put (sevQ r st (l0, false))).1).toList) = true then (sevQ r st (l0, false), 0) else ([], 4))
  else ([], 4)

def Agr (s t : RdS) : Prop := s.2 = t.2 ∧ (s.2 = false → s = t)
theorem Agr.refl (s : RdS) : Agr s s := ⟨rfl, fun _ => rfl⟩
theorem bad_take {s : RdS} (h : s.2 = true) (n : Nat) : (takeS s n).2 = true := by unfold takeS; split <;> simp [h]
theorem bad_takeQ {s : RdS} (h : s.2 = true) (n : Nat) : (takeQS s n).2 = true := by unfold takeQS; rw [if_pos h]; exact h
theorem Agr.take {s t : RdS} (h : Agr s t) {n m : Nat} (hn : s.2 = false → n = m) : Agr (takeS s n) (takeQS t m) := by
  cases hs : s.2 with
  | true =>
    have ht : t.2 = true := by rw [← h.1]; exact hs
    exact ⟨by rw [bad_take hs, bad_takeQ ht], fun hx => by rw [bad_take hs] at hx; cases hx⟩
  | false =>
    obtain rfl := h.2 hs
    obtain rfl := hn hs
    unfold takeQS
    rw [if_neg (by rw [hs]; decide)]
    exact Agr.refl _
theorem Agr.takeV {s t : RdS} (h : Agr s t) (hs : s.2 = false) (n : Nat) : takeR s n = takeQ t n := by
  obtain rfl := h.2 hs
  unfold takeQ
  rw [if_neg (by rw [hs]; decide)]
theorem Agr.num {s t : RdS} (h : Agr s t) (hs : s.2 = false) (n : Nat) : numR s n = numQ t n := by unfold numR numQ; rw [h.takeV hs]
theorem good_take {s : RdS} {n : Nat} (h : (takeS s n).2 = false) : s.2 = false := by
  cases hs : s.2 with
  | true => rw [bad_take hs] at h; cases h
  | false => rfl
theorem Agr.text {s t : RdS} (h : Agr s t) : Agr (textS s) (textQS t) := by
  unfold textS textQS
  refine (h.take (fun _ => rfl)).take (fun hx => ?_)
  rw [h.num (good_take hx)]
theorem good_text {s : RdS} (h : (textS s).2 = false) : s.2 = false := good_take (good_take h)
theorem Agr.textV {s t : RdS} (h : Agr s t) (hs : (textS s).2 = false) : textR s = textQ t := by
  unfold textR textQ
  rw [(h.take (fun _ => rfl)).takeV (good_take hs), h.num (good_text hs)]
theorem Agr.one {s t : RdS} (h : Agr s t) (n : Nat) : Agr (takeS s n) (takeQS t n) := h.take (fun _ => rfl)
/-- A thing that is read. -/
structure Same2 {α : Type} (r : RdS → α) (st : RdS → RdS) (r' : RdS → α) (st' : RdS → RdS) : Prop where
  agr : ∀ {s t}, Agr s t → Bts s → Agr (st s) (st' t)
  good : ∀ {s}, (st s).2 = false → s.2 = false
  val : ∀ {s t}, Agr s t → Bts s → (st s).2 = false → r s = r' t
  bts : ∀ {s}, Bts s → Bts (st s)
theorem same_op : Same2 opR opS opQ opQS where
  agr := fun h _ => (((h.one 1).text).text).one 4
  good := fun h => good_take (good_text (good_text (good_take h)))
  val := by
    intro s t h hb hs
    have h3 := good_take hs
    have h2 := good_text h3
    have h1 := good_text h2
    have h0 := good_take h1
    have e0 := h.num h0 1
    have b0 := numR_one hb
    unfold opR opQ
    rw [← e0, (h.one 1).textV h2, (h.one 1).text.textV h3, (h.one 1).text.text.num h3, Int.emod_eq_of_lt b0.1 b0.2]
  bts := fun h => h.op
theorem same_row : Same2 rowR rowS rowQ rowQS where
  agr := fun h _ => h.text.one 4
  good := fun h => good_text (good_take h)
  val := by
    intro s t h hb hs
    have h1 := good_take hs
    unfold rowR rowQ
    rw [h.textV h1, h.text.num h1]
  bts := fun h => h.row
theorem bad_many {α : Type} {r : RdS → α} {st : RdS → RdS} (n : Nat) {s : RdS} (h : s.2 = true) : (sevNS r st n s).2 = true := by
  cases n with
  | zero => exact h
  | succ n => unfold sevNS; rw [if_pos h]; exact h
section
variable {α : Type} {r r' : RdS → α} {st st' : RdS → RdS}
theorem Same2.many (H : Same2 r st r' st') : ∀ (n : Nat) {s t : RdS}, Agr s t → Bts s → Agr (sevNS r st n s) (sevNS r' st' n t) ∧ ((sevNS r st n s).2 = false → sevN r st n s = sevN r' st' n t ∧ s.2 = false)
  | 0, s, t, h, _ => ⟨h, fun hx => ⟨rfl, hx⟩⟩
  | n + 1, s, t, h, hb => by
    unfold sevNS sevN
    cases hs : s.2 with
    | true =>
      have ht : t.2 = true := by rw [← h.1]; exact hs
      rw [if_pos rfl, if_pos ht, if_pos rfl, if_pos ht]
      exact ⟨h, fun hx => ⟨rfl, by rw [hs] at hx; cases hx⟩⟩
    | false =>
      have ht : ¬ t.2 = true := by rw [← h.1, hs]; decide
      rw [if_neg (by decide), if_neg ht, if_neg (by decide), if_neg ht]
      obtain ⟨a1, a2⟩ := H.many n (H.agr h hb) (H.bts hb)
      refine ⟨a1, fun hx => ⟨?_, rfl⟩⟩
      obtain ⟨b1, b2⟩ := a2 hx
      rw [b1, H.val h hb b2]
theorem Same2.sev (H : Same2 r st r' st') {s t : RdS} (h : Agr s t) (hb : Bts s) : Agr (sevS r st s) (sevQS r' st' t) ∧ ((sevS r st s).2 = false → sevR r st s = sevQ r' st' t ∧ s.2 = false) := by
  unfold sevS sevQS sevR sevQ
  cases hs : s.2 with
  | true =>
    have ht : t.2 = true := by rw [← h.1]; exact hs
    have e1 := bad_many (r := r) (st := st) (numR s 2).toNat (bad_take hs 2)
    have e2 := bad_many (r := r') (st := st') (numQ t 2).toNat (bad_takeQ ht 2)
    exact ⟨⟨by rw [e1, e2], fun hx => by rw [e1] at hx; cases hx⟩, fun hx => by rw [e1] at hx; cases hx⟩
  | false =>
    rw [← h.num hs 2]
    obtain ⟨a1, a2⟩ := H.many (numR s 2).toNat (h.one 2) (hb.take 2)
    exact ⟨a1, fun hx => ⟨(a2 hx).1, rfl⟩⟩
theorem Same2.get (H : Same2 r st r' st') (put : List α → List Int × Int) (l0 : List Int) (hb : ∀ x ∈ l0, 0 ≤ x ∧ x < 256) : getQ r' st' put l0 = getR r st put l0 := by
  obtain ⟨a1, a2⟩ := H.sev (Agr.refl (l0, false)) hb
  unfold getQ getR
  rw [← a1.1]
  cases hs : (sevS r st (l0, false)).2 with
  | true => simp only [if_true]
  | false =>
    simp only [Bool.false_eq_true, if_false]
    rw [← (a2 hs).1]
end
theorem good_sev {α : Type} {r : RdS → α} {st : RdS → RdS} {s : RdS} (h : (sevS r st s).2 = false) : s.2 = false := by
  cases hs : s.2 with
  | true => rw [show (sevS r st s).2 = true from bad_many _ (bad_take hs 2)] at h; cases h
  | false => rfl
theorem same_res : Same2 resR resS resQ resQS where
  agr := fun h hb => (same_row.sev h hb).1
  good := fun h => good_sev h
  val := fun h hb hs => by
    unfold resR resQ
    rw [((same_row.sev h hb).2 hs).1]
  bts := fun h => h.res
theorem getQ_ops (l0 : List Int) (hb : ∀ x ∈ l0, 0 ≤ x ∧ x < 256) : getQ opQ opQS putOps l0 = getR opR opS putOps l0 := same_op.get _ _ hb
theorem getQ_results (l0 : List Int) (hb : ∀ x ∈ l0, 0 ≤ x ∧ x < 256) : getQ resQ resQS putResults l0 = getR resR resS putResults l0 := same_res.get _ _ hb
end Go.Proofs.YtcohodkpppmaoaaGreatDoor.Q
namespace Go.Proofs.YtcohodkpppmaoaaGreatDoor.Q
open Go.RowKit Go.Proofs.YtcohodkpppmaoaaGreatDoorW.PrintWords Go.Proofs.YtcohodkpppmaoaaGreatDoorW.PrintLast Go.Proofs.YtcohodkpppmaoaaGreatDoorW.PrintMore
set_option linter.unusedVariables false
/-- A reader at block g that was made behind w0; the bytes that it has still to give lie in w0. -/
structure Rf (w0 w : World) (g : Nat) (s : RdS) : Prop where
  below : Below w0.heap.size w0 w
  far : w0.heap.size ≤ g
  row : ∃ A c, w.heap[g]? = some (.cells #[.slice A s.1.length c, .bool s.2] 134 (0, 0)) ∧ s.1.length ≤ c ∧ s.1.length ≤ maxLen ∧ Kd.C (Kd.int .u8) w0 A s.1.length s.1
  bytes : ∀ x ∈ s.1, 0 ≤ x ∧ x < 256

theorem Rf.drew {w0 w : World} {g : Nat} {s : RdS} (h : Rf w0 w g s) (n : Nat) : Rf w0 (w.drewN n) g s :=
  ⟨pw_below_drewN h.below n, h.far, h.row, h.bytes⟩
theorem drew_rf {w0 w : World} {g : Nat} {s : RdS} (h : Rf w0 w g s) : Rf w0 w.drew g s := h.drew 1
/-- What keeps all but g's block, and finds g's block as told. -/
theorem Rf.grown {w0 w w1 : World} {g : Nat} {s : RdS} (h : Rf w0 w g s) (hb : Below w.heap.size w w1) : Rf w0 w1 g s := by
  obtain ⟨A, c, hr, h1, h2, h3⟩ := h.row
  have hlt : g < w.heap.size := blk_lt hr
  exact ⟨h.below.trans (hb.mono (h.below.size)), h.far, ⟨A, c, (hb.block g hlt).trans hr, h1, h2, h3⟩, h.bytes⟩

set_option maxHeartbeats 1600000 in
set_option maxRecDepth 100000 in
theorem takeQ_calls (w0 w : World) (g : Nat) (s : RdS) (n : Nat) (hn : n ≤ 256) (h : Rf w0 w g s) :
    Calls Tryz.prog 127 #[.pointer (some ⟨g, 0, none⟩), .int .i64 n] w fun e w' => ∃ A c, e = .returned (.slice A n c) ∧ n ≤ c ∧ Kd.C (Kd.int .u8) w' A n (takeQ s n) ∧ Rf w0 w' g (takeQS s n) ∧ KeepBut w w' g none := by
  obtain ⟨A, c, hb, hc, hm, hC⟩ := h.row
  have c0 : w.cell? ⟨g, 0, none⟩ = some (.slice A s.1.length c) := by simp [World.cell?, hb]
  have c1 : w.cell? ⟨g, 1, none⟩ = some (.bool s.2) := by simp [World.cell?, hb]
  have f0 : w.frozen? ⟨g, 0, none⟩ = false := blk_frozen hb _
  have f1 : w.frozen? ⟨g, 1, none⟩ = false := blk_frozen hb _
  unfold maxLen at hm
  have HC := Aside0.mk hC
  have H := Aside0.mk h
  have HBK := Aside0.mk hb
  clear hC h hb
  cases hbd : s.2 with
  | true =>
      have er : takeQ s n = List.replicate n 0 := if_pos hbd
      have es : takeQS s n = (s.1, true) := (if_pos hbd).trans (by rw [← hbd])
      rw [hbd] at c1
      rw [er, es]
      go_enter Tryz.func127, Tryz.ntmps127
      go_wp2_with (first | (refine Kd.R_make (Kd.int .u8) (w0 := w.setCell ⟨g, 1, none⟩ (.bool true)) (w.setCell ⟨g, 1, none⟩ (.bool true)).heap.size 5 rfl rfl 67 (.tmp 22) (.tmp 22) rfl (n : Int) rfl rfl Tryz.underlying67 (.int .u8 0) 1 info5 rfl (by decide) (by decide) 0 (ok := fun _ => True) (okp := fun _ => False) rfl (fun _ _ => trivial) trivial (by omega) (by omega) (Below.refl _ _) (Nat.le_refl _) ?_; intro v1 w1 hR hB hG hO; have HR := Aside0.mk hR; have HB := Aside0.mk hB; clear hR hB hG hO))
      go_ret
      obtain ⟨A1, c1, rfl, hc1, hC1⟩ := Kd.R_reads HR.out
      rw [show (List.replicate (n : Int).toNat (0 : Int)).length = n by simp] at *
      rw [show (n : Int).toNat = n by simp] at hC1
      have hb1 := blk_put HBK.out 1 (.bool true) (cs' := #[.slice A s.1.length c, .bool true]) rfl
      have hst : Rf w0 (w.setCell ⟨g, 1, none⟩ (.bool true)) g (s.1, true) :=
        ⟨H.out.below.setCell H.out.far _, H.out.far, ⟨A, c, hb1, hc, hm, HC.out⟩, H.out.bytes⟩
      exact ⟨A1, c1, rfl, hc1, hC1, hst.grown HB.out, ((KeepBut.refl w g none).set_ 1 _).trans (KeepBut.of_below HB.out g none) (.inl rfl)⟩
  | false =>
    by_cases hlt : s.1.length < n
    · have hlt' : (s.1.length : Int) < (n : Int) := by omega
      have er : takeQ s n = List.replicate n 0 := (if_neg (by rw [hbd]; decide)).trans (if_pos hlt)
      have es : takeQS s n = (s.1, true) := (if_neg (by rw [hbd]; decide)).trans (if_pos hlt)
      rw [hbd] at c1
      rw [er, es]
      go_enter Tryz.func127, Tryz.ntmps127
      go_wp2_with (first | (refine Kd.R_make (Kd.int .u8) (w0 := w.setCell ⟨g, 1, none⟩ (.bool true)) (w.setCell ⟨g, 1, none⟩ (.bool true)).heap.size 5 rfl rfl 67 (.tmp 22) (.tmp 22) rfl (n : Int) rfl rfl Tryz.underlying67 (.int .u8 0) 1 info5 rfl (by decide) (by decide) 0 (ok := fun _ => True) (okp := fun _ => False) rfl (fun _ _ => trivial) trivial (by omega) (by omega) (Below.refl _ _) (Nat.le_refl _) ?_; intro v1 w1 hR hB hG hO; have HR := Aside0.mk hR; have HB := Aside0.mk hB; clear hR hB hG hO))
      go_ret
      obtain ⟨A1, c1, rfl, hc1, hC1⟩ := Kd.R_reads HR.out
      rw [show (List.replicate (n : Int).toNat (0 : Int)).length = n by simp] at *
      rw [show (n : Int).toNat = n by simp] at hC1
      have hb1 := blk_put HBK.out 1 (.bool true) (cs' := #[.slice A s.1.length c, .bool true]) rfl
      have hst : Rf w0 (w.setCell ⟨g, 1, none⟩ (.bool true)) g (s.1, true) :=
        ⟨H.out.below.setCell H.out.far _, H.out.far, ⟨A, c, hb1, hc, hm, HC.out⟩, H.out.bytes⟩
      exact ⟨A1, c1, rfl, hc1, hC1, hst.grown HB.out, ((KeepBut.refl w g none).set_ 1 _).trans (KeepBut.of_below HB.out g none) (.inl rfl)⟩
    · have hlt' : ¬ (s.1.length : Int) < (n : Int) := by omega
      have er : takeQ s n = s.1.take n := (if_neg (by rw [hbd]; decide)).trans (if_neg hlt)
      have es : takeQS s n = (s.1.drop n, s.2) := (if_neg (by rw [hbd]; decide)).trans (if_neg hlt)
      rw [hbd] at c1
      rw [er, es]
      obtain ⟨iu, hiu, hsz⟩ := rd_uint8
      have hs1 := cut_to (P := Tryz.prog) 67 5 .i64 Tryz.underlying67 hiu A s.1.length c (n : Int) (by omega) (by omega) hc
      have hs2 := cut_from (P := Tryz.prog) 67 5 .i64 Tryz.underlying67 hiu 1 hsz A s.1.length c (n : Int) (by omega) (by omega)
      obtain ⟨A1, hA1⟩ : ∃ A1, A1 = if c = n then A else Option.map (fun x => x.add n) A := ⟨_, rfl⟩
      simp only [Int.toNat_natCast, Nat.mul_one] at hs2
      rw [← hA1] at hs2
      have HA1 := Aside0.mk hA1
      clear hA1
      go_enter Tryz.func127, Tryz.ntmps127
      go_wp2_with fail

      go_wp2
      go_ret
      have hl1 : (s.1.take n).length = n := by rw [List.length_take]; omega
      have hl2 : (s.1.drop n).length = s.1.length - n := List.length_drop
      have hC1 := Kd.C_take HC.out (m := n) (by omega)
      have hC2 := Kd.C_drop HC.out (m := n) (by omega) hc
      rw [hl1] at hC1
      rw [show n * (Kd.int .u8).sz = n from Nat.mul_one n, ← HA1.out] at hC2
      have hb1 := blk_put HBK.out 0 (.slice A1 (s.1.length - n) (c - n)) (cs' := #[.slice A1 (s.1.length - n) (c - n), .bool s.2]) rfl
      have hst : Rf w0 (w.setCell ⟨g, 0, none⟩ (.slice A1 (s.1.length - n) (c - n))) g (s.1.drop n, s.2) :=
        ⟨H.out.below.setCell H.out.far _, H.out.far, ⟨_, c - n, by rw [hl2]; exact hb1, by rw [hl2]; omega, by rw [hl2]; unfold maxLen; omega, hC2⟩, fun x hx => H.out.bytes x (List.mem_of_mem_drop hx)⟩
      rw [hbd] at hst
      exact ⟨A, c, rfl, by omega, Kd.C_below hC1 hst.below, hst, (KeepBut.refl w g none).set_ 0 _⟩

theorem takeQ_length (s : RdS) (n : Nat) : (takeQ s n).length = n := by
  unfold takeQ
  split
  · simp
  · exact takeR_length s n
theorem takeQ_bytes {s : RdS} (hs : ∀ x ∈ s.1, 0 ≤ x ∧ x < 256) (n : Nat) : ∀ x ∈ takeQ s n, 0 ≤ x ∧ x < 256 := by
  unfold takeQ
  split
  · intro x hx
    obtain ⟨_, rfl⟩ := List.mem_replicate.1 hx
    omega
  · exact takeR_bytes hs n
theorem len1 {l : List Int} (h : l.length = 1) : ∃ a, l = [a] := by
  match l, h with
  | [a], _ => exact ⟨a, rfl⟩
theorem len2 {l : List Int} (h : l.length = 2) : ∃ a b, l = [a, b] := by
  match l, h with
  | [a, b], _ => exact ⟨a, b, rfl⟩
theorem len4 {l : List Int} (h : l.length = 4) : ∃ a b c d, l = [a, b, c, d] := by
  match l, h with
  | [a, b, c, d], _ => exact ⟨a, b, c, d, rfl⟩
theorem u32_in {x : Int} (h0 : 0 ≤ x) (h1 : x < 4294967296) : IntKind.u32.wrap x = x := by rw [IntKind.wrap_u32]; exact Int.emod_eq_of_lt h0 h1
theorem numQ_range (s : RdS) (n : Nat) : 0 ≤ numQ s n ∧ numQ s n < 4294967296 := foldN_range _
theorem numQ_one {s : RdS} (hs : ∀ x ∈ s.1, 0 ≤ x ∧ x < 256) : ∃ a, takeQ s 1 = [a] ∧ numQ s 1 = a ∧ 0 ≤ a ∧ a < 256 := by
  obtain ⟨a, ha⟩ := len1 (takeQ_length s 1)
  have hb := takeQ_bytes hs 1 a (by rw [ha]; simp)
  refine ⟨a, ha, ?_, hb⟩
  unfold numQ
  rw [ha]
  simp [foldN]
  omega
theorem numQ_two {s : RdS} (hs : ∀ x ∈ s.1, 0 ≤ x ∧ x < 256) : ∃ a b, takeQ s 2 = [a, b] ∧ numQ s 2 = 256 * a + b ∧ (0 ≤ a ∧ a < 256) ∧ 0 ≤ b ∧ b < 256 := by
  obtain ⟨a, b, ha⟩ := len2 (takeQ_length s 2)
  have h0 := takeQ_bytes hs 2 a (by rw [ha]; simp)
  have h1 := takeQ_bytes hs 2 b (by rw [ha]; simp)
  refine ⟨a, b, ha, ?_, h0, h1⟩
  unfold numQ
  rw [ha]
  simp [foldN]
  omega
theorem numQ_four {s : RdS} (hs : ∀ x ∈ s.1, 0 ≤ x ∧ x < 256) : ∃ a b c d, takeQ s 4 = [a, b, c, d] ∧ numQ s 4 = 16777216 * a + 65536 * b + 256 * c + d ∧ (0 ≤ a ∧ a < 256) ∧ (0 ≤ b ∧ b < 256) ∧ (0 ≤ c ∧ c < 256) ∧ 0 ≤ d ∧ d < 256 := by
  obtain ⟨a, b, c, d, ha⟩ := len4 (takeQ_length s 4)
  have h0 := takeQ_bytes hs 4 a (by rw [ha]; simp)
  have h1 := takeQ_bytes hs 4 b (by rw [ha]; simp)
  have h2 := takeQ_bytes hs 4 c (by rw [ha]; simp)
  have h3 := takeQ_bytes hs 4 d (by rw [ha]; simp)
  refine ⟨a, b, c, d, ha, ?_, h0, h1, h2, h3⟩
  unfold numQ
  rw [ha]
  simp [foldN]
  omega
theorem adr0 (a : Addr) : a.add 0 = a := rfl
theorem adr1 (a : Addr) : a.add 1 = ⟨a.block, a.off + 1, none⟩ := rfl
theorem adr2 (a : Addr) : a.add 2 = ⟨a.block, a.off + 2, none⟩ := rfl
theorem adr3 (a : Addr) : a.add 3 = ⟨a.block, a.off + 3, none⟩ := rfl
theorem nth_int {w : World} {A : Option Addr} {l : List Int} {n : Nat} (h : Kd.C (Kd.int .u8) w A n l) (i : Nat) (hi : i < n) : ∃ ad, A = some ad ∧ w.cell? (ad.add i) = some (.int .u8 (l.getD i 0)) := by
  obtain ⟨ad, e, hx⟩ := Kd.at_int h (i : Int) (by omega) (by omega)
  refine ⟨ad, e, ?_⟩
  simpa [rd] using hx

set_option maxHeartbeats 1600000 in
set_option maxRecDepth 100000 in
theorem countQ_calls (w0 w : World) (g : Nat) (s : RdS) (h : Rf w0 w g s) :
    Calls Tryz.prog 125 #[.pointer (some ⟨g, 0, none⟩)] w fun e w' => e = .returned (.int .i64 (numQ s 2)) ∧ Rf w0 w' g (takeQS s 2) ∧ KeepBut w w' g none := by
  obtain ⟨a, b, hab, hn, ⟨a0, a1⟩, b0, b1⟩ := numQ_two h.bytes
  rw [hn]
  have HAB := Aside0.mk hab
  have H := Aside0.mk h
  have w1 : IntKind.i64.wrap (256 * a) = 256 * a := IntWalk.i64_in _ (by omega)
  have w2 : IntKind.i64.wrap (256 * a + b) = 256 * a + b := IntWalk.i64_in _ (by omega)
  have w3 : IntKind.i64.wrap a = a := IntWalk.i64_in _ (by omega)
  have w4 : IntKind.i64.wrap b = b := IntWalk.i64_in _ (by omega)
  clear hn hab h
  go_enter Tryz.func125, Tryz.ntmps125
  go_wp2_with fail
  refine (takeQ_calls w0 _ g s 2 (by omega) H.out).mono ?_
  rintro e w5 ⟨A, c, rfl, hc, hC, hR, hK⟩
  rw [HAB.out] at hC
  obtain ⟨ad, rfl, hx0⟩ := nth_int hC 0 (by decide)
  obtain ⟨ad', e1, hx1⟩ := nth_int hC 1 (by decide)
  cases e1
  simp only [List.getD_cons_zero, List.getD_cons_succ, adr0, adr1] at hx0 hx1
  have HR := Aside0.mk hR
  have HK := Aside0.mk hK
  clear hR hK hC
  go_wp2
  repeat (go_quiet (fail); try go_wp2)
  go_ret
  exact ⟨rfl, HR.out.drew _, keep_then HK.out (KeepBut.of_below (pw_below_drewN (Below.refl _ _) _) g none)⟩

set_option maxHeartbeats 1600000 in
set_option maxRecDepth 100000 in
theorem numberQ_calls (w0 w : World) (g : Nat) (s : RdS) (h : Rf w0 w g s) :
    Calls Tryz.prog 128 #[.pointer (some ⟨g, 0, none⟩)] w fun e w' => e = .returned (.int .u32 (numQ s 4)) ∧ Rf w0 w' g (takeQS s 4) ∧ KeepBut w w' g none := by
  obtain ⟨a, b, c, d, hab, hn, ⟨a0, a1⟩, ⟨b0, b1⟩, ⟨c0, c1⟩, d0, d1⟩ := numQ_four h.bytes
  rw [hn]
  have HAB := Aside0.mk hab
  have H := Aside0.mk h
  have w1 : IntKind.u32.wrap (16777216 * a) = 16777216 * a := u32_in (by omega) (by omega)
  have w2 : IntKind.u32.wrap (65536 * b) = 65536 * b := u32_in (by omega) (by omega)
  have w3 : IntKind.u32.wrap (256 * c) = 256 * c := u32_in (by omega) (by omega)
  have w4 : IntKind.u32.wrap (16777216 * a + 65536 * b) = 16777216 * a + 65536 * b := u32_in (by omega) (by omega)
  have w5 : IntKind.u32.wrap (16777216 * a + 65536 * b + 256 * c) = 16777216 * a + 65536 * b + 256 * c := u32_in (by omega) (by omega)
  have w6 : IntKind.u32.wrap (16777216 * a + 65536 * b + 256 * c + d) = 16777216 * a + 65536 * b + 256 * c + d := u32_in (by omega) (by omega)
  have x1 : IntKind.u32.wrap a = a := u32_in a0 (by omega)
  have x2 : IntKind.u32.wrap b = b := u32_in b0 (by omega)
  have x3 : IntKind.u32.wrap c = c := u32_in c0 (by omega)
  have x4 : IntKind.u32.wrap d = d := u32_in d0 (by omega)
  clear hn hab h
  go_enter Tryz.func128, Tryz.ntmps128
  go_wp2_with fail
  refine (takeQ_calls w0 _ g s 4 (by omega) H.out).mono ?_
  rintro e w7 ⟨A, cc, rfl, hc, hC, hR, hK⟩
  rw [HAB.out] at hC
  obtain ⟨ad, rfl, hx0⟩ := nth_int hC 0 (by decide)
  obtain ⟨ad', e1, hx1⟩ := nth_int hC 1 (by decide)
  cases e1
  obtain ⟨ad', e1, hx2⟩ := nth_int hC 2 (by decide)
  cases e1
  obtain ⟨ad', e1, hx3⟩ := nth_int hC 3 (by decide)
  cases e1
  simp only [List.getD_cons_zero, List.getD_cons_succ, adr0, adr1, adr2, adr3] at hx0 hx1 hx2 hx3
  have HR := Aside0.mk hR
  have HK := Aside0.mk hK
  clear hR hK hC
  go_wp2
  repeat (go_quiet (fail); try go_wp2)
  go_ret
  exact ⟨rfl, HR.out.drew _, keep_then HK.out (KeepBut.of_below (pw_below_drewN (Below.refl _ _) _) g none)⟩

set_option maxHeartbeats 1600000 in
set_option maxRecDepth 100000 in
theorem textQ_calls (w0 w : World) (g : Nat) (s : RdS) (h : Rf w0 w g s) :
    Calls Tryz.prog 126 #[.pointer (some ⟨g, 0, none⟩)] w fun e w' => e = .returned (.string (textQ s)) ∧ Rf w0 w' g (textQS s) ∧ KeepBut w w' g none := by
  obtain ⟨a, hab, hn, a0, a1⟩ := numQ_one h.bytes
  obtain ⟨m, rfl⟩ := Int.eq_ofNat_of_zero_le a0
  unfold textQ textQS
  rw [hn, Int.toNat_natCast]
  have HAB := Aside0.mk hab
  have H := Aside0.mk h
  have w1 : IntKind.i64.wrap (m : Int) = (m : Int) := IntWalk.i64_in _ (by omega)
  clear hn hab h
  go_enter Tryz.func126, Tryz.ntmps126
  go_wp2_with fail
  refine (takeQ_calls w0 _ g s 1 (by omega) H.out).mono ?_
  rintro e w5 ⟨A, c, rfl, hc, hC, hR, hK⟩
  rw [HAB.out] at hC
  obtain ⟨ad, rfl, hx0⟩ := nth_int hC 0 (by decide)
  simp only [List.getD_cons_zero, adr0] at hx0
  have HR := Aside0.mk hR
  have HK := Aside0.mk hK
  clear hR hK hC
  go_wp2_with fail
  refine (takeQ_calls w0 _ g (takeQS s 1) m (by omega) HR.out).mono ?_
  rintro e w6 ⟨A, c, rfl, hc, hC, hR, hK⟩
  have hcv := Kd.C_string (P := Tryz.prog) (src := 67) (dst := 9) (c := c) Tryz.underlying67 Tryz.underlying5 Tryz.underlying9 hC
  have HR2 := Aside0.mk hR
  have HK2 := Aside0.mk hK
  clear hR hK hC
  go_wp2
  go_ret
  exact ⟨rfl, HR2.out, HK.out.trans HK2.out (.inl rfl)⟩

end Go.Proofs.YtcohodkpppmaoaaGreatDoor.Q
namespace Go.Proofs.YtcohodkpppmaoaaGreatDoor.Q
open Go.RowKit Go.Proofs.YtcohodkpppmaoaaGreatDoorW.PrintWords Go.Proofs.YtcohodkpppmaoaaGreatDoorW.PrintLast

theorem wrap_in (x : Int) (h0 : -9223372036854775808 ≤ x) (h1 : x ≤ 9223372036854775807) : wrap64 x = x := by
  unfold wrap64
  omega
theorem bt_byte (s : ByteArray) (i : Nat) (h : i < s.size) : bt s (i : Int) = ((s[i]'h).toNat : Int) := by
  simp [bt, h]

theorem refCheck_from (s : ByteArray) (hs : s.size ≤ 140737488351232) (d : Nat) : ∀ (k i : Nat), i ≤ s.size → s.size - i = d → d < k → keyChars (s.data.toList.take i) = true →
    concordatref01_Check.l0 k s (i : Int) = some (isKey s) := by
  induction d with
  | zero =>
    intro k i h0 h1 hk hp
    obtain ⟨k, rfl⟩ : ∃ m, k = m + 1 := ⟨k - 1, by omega⟩
    simp only [concordatref01_Check.l0]
    rw [if_neg (by omega)]
    have e : s.data.toList.take i = s.data.toList := List.take_of_length_le (by rw [Array.length_toList]; show s.size ≤ i; omega)
    rw [e] at hp
    unfold isKey
    rw [hp]
    by_cases h1 : (s.size : Int) ≥ 1
    · rw [if_pos h1]
      have h2 : 1 ≤ s.size := by omega
      simp [h2]
      omega
    · rw [if_neg h1]
      have h2 : ¬ 1 ≤ s.size := by omega
      simp [h2]
  | succ d ih =>
    intro k i h0 h1 hk hp
    obtain ⟨k, rfl⟩ : ∃ m, k = m + 1 := ⟨k - 1, by omega⟩
    have hi : i < s.size := by omega
    simp only [concordatref01_Check.l0]
    rw [if_pos (by omega), if_pos (by omega), bt_byte s i hi, wrap_in _ (by omega) (by omega)]
    have hb := keyRune_byte (s[i]'hi)
    have hn := keyChars_no s i hi
    have ht := keyChars_take_succ s i hi
    have hgo : keyByte (s[i]'hi) = true → concordatref01_Check.l0 k s ((i : Int) + 1) = some (isKey s) := by
      intro hy
      have := ih k (i + 1) (by omega) (by omega) (by omega) (by rw [ht, hp, hy]; rfl)
      rw [← this]; rfl
    have hno : keyByte (s[i]'hi) = false → some false = some (isKey s) := by
      intro hy
      unfold isKey
      rw [hn hy]
      simp
    generalize ((s[i]'hi).toNat : Int) = c at *
    unfold keyRune at hb
    by_cases c1 : c < 97
    · rw [if_pos c1]
      by_cases c2 : c < 48
      · rw [if_pos c2]
        by_cases c3 : c = 95
        · omega
        · rw [if_neg c3]
          exact hno (by rw [← hb, Bool.eq_false_iff]; simp; omega)
      · rw [if_neg c2]
        by_cases c4 : c > 57
        · rw [if_pos c4]
          by_cases c3 : c = 95
          · rw [if_pos c3]; exact hgo (by rw [← hb]; simp; omega)
          · rw [if_neg c3]
            exact hno (by rw [← hb, Bool.eq_false_iff]; simp; omega)
        · rw [if_neg c4]; exact hgo (by rw [← hb]; simp; omega)
    · rw [if_neg c1]
      by_cases c5 : c > 122
      · rw [if_pos c5, if_neg (by omega), if_pos (by omega), if_neg (by omega)]
        exact hno (by rw [← hb, Bool.eq_false_iff]; simp; omega)
      · rw [if_neg c5]
        exact hgo (by rw [← hb]; simp; omega)

theorem ev_refCheck (s : ByteArray) (hs : s.size ≤ 140737488351232) : Ev (fun k => concordatref01_Check.f k s) (isKey s) :=
  ⟨s.size + 1, fun k hk => refCheck_from s hs s.size k 0 (by omega) (by omega) (by omega) (by simp [keyChars])⟩


end Go.Proofs.YtcohodkpppmaoaaGreatDoor.Q
namespace Go.Proofs.YtcohodkpppmaoaaGreatDoor.Q
open Go.RowKit Go.Proofs.YtcohodkpppmaoaaGreatDoorW.PrintWords Go.Proofs.YtcohodkpppmaoaaGreatDoorW.PrintLast Go.Proofs.YtcohodkpppmaoaaGreatDoorW.PrintMore

theorem refCount_eq (n : Int) (h0 : 0 ≤ n) (h1 : n ≤ 1000000000) : concordatref02_Count.f n = some (num2 n) := by
  unfold concordatref02_Count.f num2
  rw [Int.tdiv_eq_ediv_of_nonneg h0, wrap_id _ (by omega) (by omega)]
theorem refNumber_eq (n : Int) (h : u32Ok n) : concordatref02_Number.f n = some (num4 n) := by
  obtain ⟨h0, h1⟩ := h
  unfold concordatref02_Number.f num4
  rw [Int.tdiv_eq_ediv_of_nonneg h0, Int.tdiv_eq_ediv_of_nonneg h0, Int.tdiv_eq_ediv_of_nonneg h0]
  rw [Int.emod_eq_of_lt (a := n / 16777216) (by omega) (by omega), Int.emod_eq_of_lt (a := n / 65536) (by omega) (by omega), Int.emod_eq_of_lt (a := n / 256) (by omega) (by omega)]
theorem refText_eq (s : ByteArray) (h : s.size ≤ 1000000000) : concordatref02_text.f s = some (textB s) := by
  unfold concordatref02_text.f textB
  simp only [Option.bind_some, List.length_singleton]
  rw [if_pos (by omega)]
  simp

end Go.Proofs.YtcohodkpppmaoaaGreatDoor.Q
namespace Go.Proofs.YtcohodkpppmaoaaGreatDoor.Q
open Go.RowKit Go.Proofs.YtcohodkpppmaoaaGreatDoorW.PrintWords Go.Proofs.YtcohodkpppmaoaaGreatDoorW.PrintLast Go.Proofs.YtcohodkpppmaoaaGreatDoorW.PrintMore
set_option linter.unusedVariables false

theorem putList_ok {α : Type} {may : α → Int} (hmay : ∀ x, may x = 0 ∨ may x = 1 ∨ may x = 3) {most : Nat} {one : α → List Int} {l : List α} (h : (putList may most one l).2 = 0) :
    (∀ x ∈ l, may x = 0) ∧ l.length ≤ most ∧ (putList may most one l).1 = num2 l.length ++ l.flatMap one := by
  unfold putList at h ⊢
  split at h
  · cases h
  · rename_i h1
    rw [if_neg h1]
    split at h
    · cases h
    · rename_i h2
      rw [if_neg h2]
      refine ⟨fun x hx => ?_, ?_, rfl⟩
      · rcases hmay x with e | e | e
        · exact e
        · exact absurd (List.any_eq_true.2 ⟨x, hx, by simp [e]⟩) h1
        · exact absurd (by rw [List.any_eq_true.2 ⟨x, hx, by simp [e]⟩]; rfl) h2
      · rcases Nat.lt_or_ge most l.length with hl | hl
        · exact absurd (by rw [decide_eq_true hl]; simp) h2
        · exact hl
theorem opE_cases (x : OpT) : opE x = 0 ∨ opE x = 1 ∨ opE x = 3 := by unfold opE; split <;> simp
theorem resultE_cases (x : ResultT) : resultE x = 0 ∨ resultE x = 1 ∨ resultE x = 3 := by unfold resultE; split <;> (try split) <;> simp
def inB (l : List Int) : Prop := ∀ x ∈ l, 0 ≤ x ∧ x < 256
theorem inB_app {a b : List Int} (h : inB a) (k : inB b) : inB (a ++ b) := fun x hx => by
  rcases List.mem_append.1 hx with hx | hx
  · exact h x hx
  · exact k x hx
theorem inB_flat {α : Type} {B : α → List Int} : ∀ {l : List α}, (∀ x ∈ l, inB (B x)) → inB (l.flatMap B)
  | [], _ => fun x hx => by cases hx
  | y :: l, h => by
    rw [List.flatMap_cons]
    exact inB_app (h y List.mem_cons_self) (inB_flat (fun x hx => h x (List.mem_cons_of_mem _ hx)))
theorem inB_num2 (n : Int) : inB (num2 n) := fun x hx => by
  simp only [num2, List.mem_cons, List.not_mem_nil, or_false] at hx
  rcases hx with rfl | rfl <;> omega
theorem inB_num4 (n : Int) : inB (num4 n) := fun x hx => by
  simp only [num4, List.mem_cons, List.not_mem_nil, or_false] at hx
  rcases hx with rfl | rfl | rfl | rfl <;> omega
theorem inB_bytes (s : ByteArray) : inB (bytesOf s) := fun x hx => by
  unfold bytesOf at hx
  obtain ⟨b, _, rfl⟩ := List.mem_map.1 hx
  have := b.toNat_lt
  omega
theorem inB_text (s : ByteArray) : inB (textB s) := fun x hx => by
  rcases List.mem_cons.1 hx with rfl | hx
  · omega
  · exact inB_bytes s x hx
theorem inB_one {n : Int} (h0 : 0 ≤ n) (h1 : n ≤ 255) : inB [n] := fun x hx => by
  simp only [List.mem_cons, List.not_mem_nil, or_false] at hx
  omega
theorem inB_op (x : OpT) (h : opOk x) : inB (opB x) := inB_app (inB_app (inB_app (inB_one h.1.1 h.1.2) (inB_text _)) (inB_text _)) (inB_num4 _)
theorem inB_row (x : RowT) : inB (rowB x) := inB_app (inB_text _) (inB_num4 _)
theorem inB_result (x : ResultT) : inB (resultB x) := inB_app (inB_num2 _) (inB_flat (fun r _ => inB_row r))
theorem strInj {a b : List Int} (ha : inB a) (hb : inB b) (h : ((strOfNums a).toList == (strOfNums b).toList) = true) : a = b := by
  have h1 : (strOfNums a).toList = (strOfNums b).toList := by simpa using h
  rw [ByteArray.toList_eq, ByteArray.toList_eq, strOfNums_data, strOfNums_data] at h1
  have back : ∀ l : List Int, inB l → (l.map fun n => UInt8.ofNat n.toNat).map (fun b => (b.toNat : Int)) = l := by
    intro l hl
    rw [List.map_map]
    conv => rhs; rw [← List.map_id l]
    refine List.map_congr_left fun x hx => ?_
    have := hl x hx
    simp
    omega
  rw [← back a ha, ← back b hb, h1]
theorem getR_got {α : Type} {r : RdS → α} {st : RdS → RdS} {put : List α → List Int × Int} {l0 : List Int} {m : List α} {e : Int} (h : getR r st put l0 = (m, e)) (hb : inB l0) :
    (e = 4 ∧ m = []) ∨ (e = 0 ∧ m = sevR r st (l0, false) ∧ (put m).2 = 0 ∧ (inB (put m).1 → (put m).1 = l0)) := by
  unfold getR at h
  split at h
  · injection h with h1 h2
    exact .inl ⟨h2.symm, h1.symm⟩
  · split at h
    · rename_i hp
      split at h
      · rename_i he
        injection h with h1 h2
        subst h1
        exact .inr ⟨h2.symm, rfl, hp, fun hi => (strInj hb hi he).symm⟩
      · injection h with h1 h2
        exact .inl ⟨h2.symm, h1.symm⟩
    · injection h with h1 h2
      exact .inl ⟨h2.symm, h1.symm⟩
theorem put_inB {α : Type} {may : α → Int} (hmay : ∀ x, may x = 0 ∨ may x = 1 ∨ may x = 3) {most : Nat} {one : α → List Int} {l : List α} (h : (putList may most one l).2 = 0) (hb : ∀ x ∈ l, inB (one x)) : inB (putList may most one l).1 := by
  rw [(putList_ok hmay h).2.2]
  exact inB_app (inB_num2 _) (inB_flat hb)
theorem opR_ok (s : RdS) : opOk (opR s) := by
  have h := numR_range (textS (textS (takeS s 1))) 4
  unfold opR opOk u8Ok u32Ok
  dsimp only
  generalize numR (textS (textS (takeS s 1))) 4 = a at *
  generalize numR s 1 = b
  omega
theorem gotOps {l0 : List Int} {m : List OpT} {e : Int} (h : getR opR opS putOps l0 = (m, e)) (hb : inB l0) : (e = 4 ∧ m = []) ∨ (e = 0 ∧ m.length ≤ 16 ∧ (putOps m).2 = 0 ∧ (putOps m).1 = l0) := by
  rcases getR_got h hb with h1 | ⟨h1, h2, h3, h4⟩
  · exact .inl h1
  · refine .inr ⟨h1, (putList_ok opE_cases h3).2.1, h3, h4 (put_inB opE_cases h3 (fun x hx => inB_op x ?_))⟩
    rw [h2] at hx
    exact sevN_all (p := opOk) (fun _ h => h.op) (fun s _ => opR_ok s) _ _ (Bts.take (show Bts (l0, false) from hb) 2) x hx
theorem gotResults {l0 : List Int} {m : List ResultT} {e : Int} (h : getR resR resS putResults l0 = (m, e)) (hb : inB l0) : (e = 4 ∧ m = []) ∨ (e = 0 ∧ m.length ≤ 16 ∧ (putResults m).2 = 0 ∧ (putResults m).1 = l0 ∧ ∀ x ∈ m, x.f0.length ≤ 9223372036854775807) := by
  rcases getR_got h hb with h1 | ⟨h1, h2, h3, h4⟩
  · exact .inl h1
  · exact .inr ⟨h1, (putList_ok resultE_cases h3).2.1, h3, h4 (put_inB resultE_cases h3 (fun x _ => inB_result x)), fun x hx => by rw [h2] at hx; exact sevRes_rows (l0, false) hb x hx⟩

end Go.Proofs.YtcohodkpppmaoaaGreatDoor.Q
namespace Go.Proofs.YtcohodkpppmaoaaGreatDoor.Q
open Go.RowKit Go.Proofs.YtcohodkpppmaoaaGreatDoorW.PrintWords Go.Proofs.YtcohodkpppmaoaaGreatDoorW.PrintLast Go.Proofs.YtcohodkpppmaoaaGreatDoorW.PrintMore
set_option linter.unusedVariables false
theorem Bts.takeQ {s : RdS} (hs : Bts s) (n : Nat) : Bts (takeQS s n) := by
  unfold takeQS
  split
  · exact hs
  · exact hs.take n
theorem Bts.textQ {s : RdS} (hs : Bts s) : Bts (textQS s) := (hs.takeQ 1).takeQ _
theorem Bts.opQ {s : RdS} (hs : Bts s) : Bts (opQS s) := (hs.takeQ 1).textQ.textQ.takeQ 4
theorem Bts.rowQ {s : RdS} (hs : Bts s) : Bts (rowQS s) := hs.textQ.takeQ 4
theorem strOfNums_size (l : List Int) : (strOfNums l).size = l.length := by simp [strOfNums, ByteArray.size]
theorem textQ_small {s : RdS} (hs : Bts s) : (textQ s).size ≤ 255 := by
  obtain ⟨a, _, hn, a0, a1⟩ := numQ_one hs
  unfold Q.textQ
  rw [strOfNums_size, takeQ_length, hn]
  omega
theorem opQ_ok {s : RdS} (hs : Bts s) : opOk (opQ s) := by
  have h := numQ_range (textQS (textQS (takeQS s 1))) 4
  obtain ⟨a, _, hn, a0, a1⟩ := numQ_one hs
  unfold Q.opQ opOk u8Ok u32Ok
  dsimp only
  rw [hn]
  omega
theorem sevQ_length {α : Type} (r : RdS → α) (st : RdS → RdS) (s : RdS) (hs : ∀ x ∈ s.1, 0 ≤ x ∧ x < 256) : (sevQ r st s).length < 65536 := by
  have h1 := sevN_length r st (numQ s 2).toNat (takeQS s 2)
  obtain ⟨a, b, _, hn, h0, h2⟩ := numQ_two hs
  unfold sevQ
  omega

theorem Rf.set {w0 w : World} {g b : Nat} {s : RdS} (h : Rf w0 w g s) (hb : g ≠ b) (h0 : w0.heap.size ≤ b) (j : Nat) (u : Value) : Rf w0 (w.setCell ⟨b, j, none⟩ u) g s := by
  obtain ⟨A, c, hr, h1, h2, h3⟩ := h.row
  exact ⟨h.below.setCell h0 _, h.far, ⟨A, c, blk_far hr hb u, h1, h2, h3⟩, h.bytes⟩
theorem Rf.grownBy {w0 w w1 : World} {g : Nat} {s : RdS} (h : Rf w0 w g s) (hb : Below w0.heap.size w0 w1) {row : Option Nat} (hg : w.grownBy w1 row) (hr : ∀ k, row = some k → k ≠ g) : Rf w0 w1 g s := by
  obtain ⟨A, c, hr0, h1, h2, h3⟩ := h.row
  exact ⟨hb, h.far, ⟨A, c, blk_grown hr0 hg (by intro e; exact hr g e.symm rfl), h1, h2, h3⟩, h.bytes⟩
set_option maxRecDepth 100000 in
theorem sameQ_calls (A0 : Option Addr) (c0 : Nat) (l0 : List Int) (A1 : Option Addr) (c1 : Nat) (l1 : List Int) (w : World) (h0 : Kd.C (Kd.int .u8) w A0 l0.length l0) (h1 : Kd.C (Kd.int .u8) w A1 l1.length l1) :
    Calls Tryz.prog 129 #[.slice A0 l0.length c0, .slice A1 l1.length c1] w fun e w' => e = .returned (.bool ((strOfNums l0).toList == (strOfNums l1).toList)) ∧ w' = w := by
  have hc0 := Kd.C_string (P := Tryz.prog) (src := 67) (dst := 9) (c := c0) Tryz.underlying67 Tryz.underlying5 Tryz.underlying9 h0
  have hc1 := Kd.C_string (P := Tryz.prog) (src := 67) (dst := 9) (c := c1) Tryz.underlying67 Tryz.underlying5 Tryz.underlying9 h1
  clear h0 h1
  go_enter Tryz.func129, Tryz.ntmps129
  go_wp2
  go_ret
  exact ⟨rfl, rfl⟩

end Go.Proofs.YtcohodkpppmaoaaGreatDoor.Q
namespace Go.Proofs.YtcohodkpppmaoaaGreatDoor.Q
open Go.RowKit Go.Proofs.YtcohodkpppmaoaaGreatDoorW.PrintWords Go.Proofs.YtcohodkpppmaoaaGreatDoorW.PrintLast Go.Proofs.YtcohodkpppmaoaaGreatDoorW.PrintMore
theorem size_zero (s : ByteArray) : (s.toList == ([] : List UInt8)) = (s.size == 0) := by
  have h2 : s.toList = ([] : List UInt8) ↔ s.size = 0 := ⟨toList_size _, size_toList _⟩
  by_cases c : s.size = 0
  · have := h2.2 c
    rw [this, c]
    rfl
  · have c2 : ¬ s.toList = [] := fun h => c (h2.1 h)
    rw [beq_eq_false_iff_ne.2 c2, beq_eq_false_iff_ne.2 c]
theorem ev_ref2Check (x : OpT) (h1 : x.f1.size ≤ 140737488351232) (h2 : x.f2.size ≤ 140737488351232) : Ev (fun k => concordatref02_Check.f k x.f0 x.f1 x.f2 x.f3) (mayOp x) := by
  unfold concordatref02_Check.f
  have hn : x.f2.toList = ([] : List UInt8) ↔ x.f2.size = 0 := ⟨toList_size _, size_toList _⟩
  have hj : ∀ c : Bool, isKey x.f1 = true → (c = true ↔ x.f0 = 1 ∨ x.f0 = 3) → Ev (fun k => concordatref02_Check.j0 k x.f0 c x.f0 x.f1 x.f2 x.f3) (mayOp x) := by
    intro c hk hc
    refine Ev.step (f := fun k => if c = true then (if x.f2.toList = ([] : List UInt8) then (some (x.f3 == 0)) else (some false)) else (if x.f0 = 2 then (some (x.f2.toList == ([] : List UInt8))) else (if x.f0 = 4 then ((concordatref01_Check.f k x.f2).bind fun t256 => (if t256 = true then (some (x.f3 == 0)) else (some false))) else (some false)))) (fun k => ?_) ?_
    · simp only [concordatref02_Check.j0]
    · unfold mayOp
      rw [hk]
      cases c with
      | true =>
        have h13 := hc.1 rfl
        have n4 : ¬ x.f0 = 4 := by omega
        have n2 : ¬ x.f0 = 2 := by omega
        have g1 : 1 ≤ x.f0 := by omega
        have g2 : x.f0 ≤ 4 := by omega
        simp only [if_true, if_neg n4]
        by_cases c2 : x.f2.size = 0
        · simp only [if_pos (hn.2 c2)]
          refine ev_const ?_
          simp [c2, g1, g2, n2]
        · simp only [if_neg (fun h => c2 (hn.1 h))]
          refine ev_const ?_
          simp [c2]
      | false =>
        have h13 : ¬ (x.f0 = 1 ∨ x.f0 = 3) := fun h => by have := hc.2 h; cases this
        simp only [Bool.false_eq_true, if_false]
        by_cases c2 : x.f0 = 2
        · simp only [if_pos c2]
          refine ev_const ?_
          rw [size_zero]
          simp [c2]
        · simp only [if_neg c2]
          by_cases c4 : x.f0 = 4
          · simp only [if_pos c4]
            refine Ev.bind (ev_refCheck _ h2) ?_
            cases isKey x.f2 with
            | true =>
              simp only [if_true]
              refine ev_const ?_
              simp [c4]
            | false =>
              simp only [Bool.false_eq_true, if_false]
              refine ev_const ?_
              simp
          · simp only [if_neg c4]
            refine ev_const ?_
            have : ¬ (1 ≤ x.f0 ∧ x.f0 ≤ 4) := by omega
            by_cases g1 : 1 ≤ x.f0
            · have g2 : ¬ x.f0 ≤ 4 := fun h => this ⟨g1, h⟩
              simp [g2]
            · simp [g1]
  refine Ev.bind (ev_refCheck _ h1) ?_
  cases hk : isKey x.f1 with
  | false =>
    simp only [Bool.false_eq_true, if_false]
    refine ev_const ?_
    simp [mayOp, hk]
  | true =>
    simp only [if_true]
    by_cases c1 : x.f0 = 1
    · simp only [if_pos c1]
      exact hj _ hk (by simp [c1])
    · simp only [if_neg c1]
      exact hj _ hk (by simp [c1])
theorem refOps_scan (l : List OpT) (hl : l.length ≤ 1000000000) (hs : ∀ x ∈ l, x.f1.size ≤ 140737488351232 ∧ x.f2.size ≤ 140737488351232) (d : Nat) : ∀ (i : Nat), i ≤ l.length → l.length - i = d → (∀ x ∈ l.take i, opE x ≠ 1) → ∀ (r : List Int × Int),
    (l.any (fun x => opE x == 1) = true → r = ([], 1)) →
    (l.any (fun x => opE x == 1) = false → Ev (fun k => if (l.length : Int) > 16 then (some (([] : List Int), 3)) else ((concordatref02_Count.f (l.length : Int)).bind fun t => (concordatref02_PutOps.l1 k l t 0))) r) →
    Ev (fun k => concordatref02_PutOps.l0 k l (i : Int)) r := by
  induction d with
  | zero =>
    intro i h0 h1 hp r hr1 hr2
    have e : l.take i = l := List.take_of_length_le (by omega)
    rw [e] at hp
    have hno : l.any (fun x => opE x == 1) = false := by
      rw [List.any_eq_false]
      intro x hx
      simpa using hp x hx
    refine Ev.step (fun k => ?_) (hr2 hno)
    simp only [concordatref02_PutOps.l0]
    rw [if_neg (by omega)]
  | succ d ih =>
    intro i h0 h1 hp r hr1 hr2
    have hi : i < l.length := by omega
    have hrd : rd_T82 l (i : Int) = l[i] := by simp [rd_T82, hi]
    have htk : l.take (i + 1) = l.take i ++ [l[i]] := List.take_succ_eq_append_getElem hi
    refine Ev.step (f := fun k => (concordatref02_Check.f k l[i].f0 l[i].f1 l[i].f2 l[i].f3).bind fun t => (if t = true then (concordatref02_PutOps.l0 k l (wrap64 ((i : Int) + 1))) else (some (([] : List Int), 1)))) (fun k => ?_) ?_
    · simp only [concordatref02_PutOps.l0]
      rw [if_pos (by omega), if_pos (by omega), hrd]
    · refine Ev.bind (ev_ref2Check l[i] (hs _ (List.getElem_mem _)).1 (hs _ (List.getElem_mem _)).2) ?_
      cases hk : mayOp l[i] with
      | false =>
        simp only [Bool.false_eq_true, if_false]
        have h : opE l[i] = 1 := by simp [opE, hk]
        exact ev_const (by rw [hr1 (by rw [List.any_eq_true]; exact ⟨l[i], List.getElem_mem _, by simp [h]⟩)])
      | true =>
        simp only [if_true]
        have h : opE l[i] ≠ 1 := by simp [opE, hk]
        rw [wrap_id _ (by omega) (by omega)]
        refine ih (i + 1) (by omega) (by omega) ?_ r hr1 hr2
        rw [htk]
        intro x hx
        rcases List.mem_append.1 hx with hx | hx
        · exact hp x hx
        · rw [List.mem_singleton.1 hx]; exact h
theorem refOps_put (l : List OpT) (hl : l.length ≤ 1000000) (hw : ∀ x ∈ l, opOk x) (hok : ∀ x ∈ l, opE x = 0) (d : Nat) : ∀ (b : List Int) (i : Nat), i ≤ l.length → l.length - i = d → b.length + 64 * (l.length - i) + 64 < 140737488355328 →
    Ev (fun k => concordatref02_PutOps.l1 k l b (i : Int)) (b ++ (l.drop i).flatMap opB, 0) := by
  induction d with
  | zero =>
    intro b i h0 h1 hb
    refine Ev.step (f := fun _ => some (b, 0)) (fun k => ?_) ?_
    · simp only [concordatref02_PutOps.l1]
      rw [if_neg (by omega)]
    · refine ev_const ?_
      rw [List.drop_eq_nil_of_le (by omega)]
      simp
  | succ d ih =>
    intro b i h0 h1 hb
    have hi : i < l.length := by omega
    have hrd : rd_T82 l (i : Int) = l[i] := by simp [rd_T82, hi]
    have hoi := hok l[i] (List.getElem_mem _)
    have hz := op_sizes l[i] hoi
    refine Ev.step (f := fun k => concordatref02_PutOps.l1 k l (b ++ opB l[i]) (wrap64 ((i : Int) + 1))) (fun k => ?_) ?_
    · simp only [concordatref02_PutOps.l1]
      rw [if_pos (by omega), if_pos (by omega), if_pos (by omega), hrd, refText_eq _ (by omega), refText_eq _ (by omega), refNumber_eq _ (hw _ (List.getElem_mem _)).2]
      simp only [Option.bind_some]
      rw [if_pos (by simp [textB_length]; omega), if_pos (by simp [textB_length]; omega), if_pos (by simp [textB_length, num4_length]; omega)]
      simp [opB]
    · rw [wrap_id _ (by omega) (by omega)]
      have hlen := op_len l[i] hoi
      refine ev_eq ?_ (ih (b ++ opB l[i]) (i + 1) (by omega) (by omega) (by rw [List.length_append]; omega))
      rw [List.drop_eq_getElem_cons hi, List.flatMap_cons]
      simp only [List.append_assoc]
theorem ev_refPutOps (l : List OpT) (hl : l.length ≤ 1000000) (hs : ∀ x ∈ l, x.f1.size ≤ 140737488351232 ∧ x.f2.size ≤ 140737488351232) (hw : ∀ x ∈ l, opOk x) : Ev (fun k => concordatref02_PutOps.f k l) (putOps l) := by
  unfold concordatref02_PutOps.f
  refine refOps_scan l (by omega) hs l.length 0 (by omega) (by omega) (by simp) _ ?_ ?_
  · intro h
    unfold putOps putList
    rw [if_pos h]
  · intro h
    have h3 : l.any (fun x => opE x == 3) = false := by
      rw [List.any_eq_false]
      intro x _
      unfold opE
      split <;> simp
    unfold putOps putList
    rw [h, h3]
    by_cases hm : (l.length : Int) > 16
    · have hm' : 16 < l.length := by omega
      simp only [if_pos hm]
      refine ev_const ?_
      simp [hm']
    · have hm' : ¬ 16 < l.length := by omega
      simp only [if_neg hm]
      rw [refCount_eq _ (by omega) (by omega)]
      simp only [Option.bind_some]
      have hok : ∀ x ∈ l, opE x = 0 := by
        intro x hx
        rw [List.any_eq_false] at h
        have a1 := h x hx
        simp at a1
        unfold opE at *; split at a1 <;> simp_all
      refine ev_eq ?_ (refOps_put l hl hw hok l.length (num2 l.length) 0 (by omega) (by omega) (by simp [num2_length]; omega))
      simp [hm']
end Go.Proofs.YtcohodkpppmaoaaGreatDoor.Q
namespace Go.Proofs.YtcohodkpppmaoaaGreatDoor.Q
open Go.RowKit Go.Proofs.YtcohodkpppmaoaaGreatDoorW.PrintWords Go.Proofs.YtcohodkpppmaoaaGreatDoorW.PrintLast Go.Proofs.YtcohodkpppmaoaaGreatDoorW.PrintMore
set_option linter.unusedVariables false
set_option maxHeartbeats 3200000 in
set_option maxRecDepth 100000 in
theorem concordatref02_GetOps.calls (A0 : Option Addr) (c0 : Nat) (l0 : List Int) (w : World) (hr0 : Kd.C (Kd.int .u8) w A0 l0.length l0) (hc0 : l0.length ≤ c0) (hby : ∀ x ∈ l0, 0 ≤ x ∧ x < 256) :
    Calls Tryz.prog 45 #[.slice A0 l0.length c0] w fun e w' => ∃ v0_ : Value, e = .returned (.tuple #[v0_, .int .i64 (getR opR opS putOps l0).2]) ∧ Kd.R k82 82 w' w.heap.size (fun _ => True) v0_ (getR opR opS putOps l0).1 ∧ Below w.heap.size w w' := by
  rw [← getQ_ops l0 hby]
  obtain ⟨m, hm⟩ : ∃ m : Nat, numQ (l0, false) 2 = m := ⟨(numQ (l0, false) 2).toNat, by have := numQ_range (l0, false) 2; omega⟩
  have hm' : m < 65536 := by
    obtain ⟨a, b, _, hn, h0, h2⟩ := numQ_two (s := (l0, false)) hby
    omega
  have e1 : sevQ opQ opQS (l0, false) = sevN opQ opQS m (takeQS (l0, false) 2) := by unfold sevQ; rw [hm]; rfl
  have e2 : sevQS opQ opQS (l0, false) = sevNS opQ opQS m (takeQS (l0, false) 2) := by unfold sevQS; rw [hm]; rfl
  have hB2 : Bts (takeQS (l0, false) 2) := Bts.takeQ (show Bts (l0, false) from hby) 2
  have hall : ∀ x ∈ sevN opQ opQS m (takeQS (l0, false) 2), x.f1.size ≤ 255 ∧ x.f2.size ≤ 255 ∧ opOk x := sevN_all (p := fun x => x.f1.size ≤ 255 ∧ x.f2.size ≤ 255 ∧ opOk x) (fun _ h => h.opQ) (fun s hs => ⟨textQ_small (hs.takeQ 1), textQ_small (hs.takeQ 1).textQ, opQ_ok hs⟩) m _ hB2
  have hlen := sevN_short opQ opQS m (takeQS (l0, false) 2)
  unfold getQ
  rw [e1, e2]
  obtain ⟨L, hL⟩ : ∃ L, L = sevN opQ opQS m (takeQS (l0, false) 2) := ⟨_, rfl⟩
  obtain ⟨SF, hSF⟩ : ∃ SF, SF = sevNS opQ opQS m (takeQS (l0, false) 2) := ⟨_, rfl⟩
  rw [← hL] at hall hlen ⊢
  rw [← hSF]
  obtain ⟨kp, hkp⟩ := (ev_refPutOps L (by omega) (fun x hx => by have := (hall x hx).1; have := (hall x hx).2.1; exact ⟨by omega, by omega⟩) (fun x hx => (hall x hx).2.2)).rounds
  generalize putOps L = q at *
  obtain ⟨pb, pe⟩ := q
  dsimp only
  have HKP := Aside0.mk hkp
  have HBY := Aside0.mk hby
  have HC := Aside0.mk hr0
  have HL := Aside0.mk hL
  have HSF := Aside0.mk hSF
  have HM := Aside0.mk hm
  have HMX := Aside0.mk (show l0.length ≤ maxLen from Kd.C_max hr0)
  have HLN := Aside0.mk hlen
  clear hkp hby hr0 hL hSF hm hall hlen e1 e2 hB2
  have hu := Tryz.underlying134
  have huc := Tryz.underlying82
  go_enter Tryz.func45, Tryz.ntmps45
  go_wp2_with fail
  have HA := Aside0.mk (show Rf w (w.alloc (.cells #[.slice A0 l0.length c0, .bool false] 134)) w.heap.size (l0, false) from ⟨below_alloc (Below.refl _ _) _, Nat.le_refl _, ⟨A0, c0, blk_new w _, hc0, HMX.out, HC.out⟩, HBY.out⟩)
  refine (countQ_calls w _ w.heap.size (l0, false) HA.out).mono ?_
  rintro e w1 ⟨rfl, hR, hK⟩
  rw [HM.out]
  have R1 := Aside0.mk hR
  clear hR hK HA
  go_wp2
  go_loopw [5, 6] (fun v n wr => ∃ (j : Nat) (sj : RdS) (xs : List S82), n = .int .i64 j ∧ j ≤ m ∧ Aside0 (xs.length + j ≤ m) ∧ Aside0 (L = xs ++ sevN opQ opQS j sj) ∧ Aside0 (SF = sevNS opQ opQS j sj) ∧ Aside0 (Kd.R k82 82 wr w.heap.size (fun k => k ≠ w.heap.size) v xs) ∧ Aside0 (Rf w wr w.heap.size sj)) (fun _ n _ => (intOf n).toNat)
  case atStart => exact ⟨m, _, [], rfl, Nat.le_refl _, ⟨by simp⟩, HL, HSF, ⟨Kd.R_nil _ _ _ _ _⟩, R1⟩
  case round =>
    clear R1
    obtain ⟨wq, hwq⟩ : ∃ wq, wq = wr := ⟨_, rfl⟩
    subst hwq
    obtain ⟨j, sj, xs, rfl, hj, HLJ, E1, E2, HO, HR⟩ := hrel
    have hszw : w.heap.size ≤ wq.heap.size := HR.out.below.size
    have hgl : w.heap.size < wq.heap.size := by
      obtain ⟨A, c, hrow, _⟩ := HR.out.row
      exact blk_lt hrow
    obtain ⟨Arw, crw, hrow, _⟩ := HR.out.row
    have hcs : wq.cell? ⟨w.heap.size, 1, none⟩ = some (.bool sj.2) := blk_cell hrow 1
    have HRW := Aside0.mk hrow
    clear hrow
    obtain ⟨Av, cv, rfl, hcv, hCv⟩ := Kd.R_reads HO.out
    have HCV := Aside0.mk hCv
    clear hCv
    by_cases hex : j = 0 ∨ sj.2 = true
    · have eL : L = xs := by
        rw [E1.out]
        rcases hex with rfl | hb
        · simp [sevN]
        · cases j with
          | zero => simp [sevN]
          | succ j => simp [sevN, hb]
      have eS : SF = sj := by
        rw [E2.out]
        rcases hex with rfl | hb
        · rfl
        · cases j with
          | zero => rfl
          | succ j => simp [sevNS, hb]
      subst eL eS
      clear E1 E2 HL HSF
      rcases hex with rfl | hbad
      · go_wp2_with fail
        refine (concordatref02_PutOps.calls kp Av cv L pb pe wq HCV.out hcv HKP.out).mono ?_
        rintro e w4 ⟨v4, rfl, hO4, hB4⟩
        obtain ⟨A4, c4, rfl, hc4, hC4⟩ := Kd.R_reads hO4
        have HO4 := Aside0.mk (Kd.R_below HO.out hB4)
        have HR4 := Aside0.mk (HR.out.grown hB4)
        obtain ⟨Ar, cr, hrow4, _⟩ := HR4.out.row
        have hcs4 : w4.cell? ⟨w.heap.size, 1, none⟩ = some (.bool SF.2) := blk_cell hrow4 1
        have HC4 := Aside0.mk hC4
        have HA4 := Aside0.mk (Kd.C_below HC.out HR4.out.below)
        clear hO4 hrow4 hC4 hB4
        cases hsh : SF.2 with
        | true =>
          rw [hsh] at hcs4
          go_wp2
          go_ret2
          exact ⟨_, rfl, Kd.R_nil _ _ _ _ _, HR4.out.below⟩
        | false =>
          rw [hsh] at hcs4
          by_cases hpe : pe = 0
          · subst hpe
            go_wp2_with fail
            refine (sameQ_calls A0 c0 l0 A4 c4 pb w4 HA4.out HC4.out).mono ?_
            rintro e _ ⟨rfl, rfl⟩
            cases heq : ((strOfNums l0).toList == (strOfNums pb).toList) with
            | true =>
              go_wp2
              go_ret2
              exact ⟨_, rfl, Kd.R_mono HO4.out (fun _ _ => trivial), HR4.out.below⟩
            | false =>
              go_wp2
              go_ret2
              exact ⟨_, rfl, Kd.R_nil _ _ _ _ _, HR4.out.below⟩
          · have hpeb : (pe != 0) = true := by simpa using hpe
            go_wp2
            all_goals
              go_ret2
              exact ⟨_, rfl, Kd.R_nil _ _ _ _ _, HR4.out.below⟩
      · rw [hbad] at hcs
        by_cases hj0 : j = 0
        · subst hj0
          go_wp2_with fail
          refine (concordatref02_PutOps.calls kp Av cv L pb pe wq HCV.out hcv HKP.out).mono ?_
          rintro e w4 ⟨v4, rfl, hO4, hB4⟩
          obtain ⟨A4, c4, rfl, hc4, hC4⟩ := Kd.R_reads hO4
          have HO4 := Aside0.mk (Kd.R_below HO.out hB4)
          have HR4 := Aside0.mk (HR.out.grown hB4)
          obtain ⟨Ar, cr, hrow4, _⟩ := HR4.out.row
          have hcs4 : w4.cell? ⟨w.heap.size, 1, none⟩ = some (.bool SF.2) := blk_cell hrow4 1
          have HC4 := Aside0.mk hC4
          have HA4 := Aside0.mk (Kd.C_below HC.out HR4.out.below)
          clear hO4 hrow4 hC4 hB4
          rw [hbad] at hcs4
          go_wp2
          go_ret2
          exact ⟨_, rfl, Kd.R_nil _ _ _ _ _, HR4.out.below⟩
        · have hjp : (0 : Int) < (j : Int) := by omega
          go_wp2_with fail
          refine (concordatref02_PutOps.calls kp Av cv L pb pe wq HCV.out hcv HKP.out).mono ?_
          rintro e w4 ⟨v4, rfl, hO4, hB4⟩
          obtain ⟨A4, c4, rfl, hc4, hC4⟩ := Kd.R_reads hO4
          have HO4 := Aside0.mk (Kd.R_below HO.out hB4)
          have HR4 := Aside0.mk (HR.out.grown hB4)
          obtain ⟨Ar, cr, hrow4, _⟩ := HR4.out.row
          have hcs4 : w4.cell? ⟨w.heap.size, 1, none⟩ = some (.bool SF.2) := blk_cell hrow4 1
          have HC4 := Aside0.mk hC4
          have HA4 := Aside0.mk (Kd.C_below HC.out HR4.out.below)
          clear hO4 hrow4 hC4 hB4
          rw [hbad] at hcs4
          go_wp2
          go_ret2
          exact ⟨_, rfl, Kd.R_nil _ _ _ _ _, HR4.out.below⟩
    · obtain ⟨i, rfl⟩ : ∃ i, j = i + 1 := ⟨j - 1, by omega⟩
      have hbad : sj.2 = false := by simpa using fun h => hex (.inr h)
      rw [hbad] at hcs
      have q1 : sevN opQ opQS (i + 1) sj = opQ sj :: sevN opQ opQS i (opQS sj) := by rw [sevN, if_neg (by rw [hbad]; decide)]
      have q2 : sevNS opQ opQS (i + 1) sj = sevNS opQ opQS i (opQS sj) := by rw [sevNS, if_neg (by rw [hbad]; decide)]
      rw [q1] at E1
      rw [q2] at E2
      clear q1 q2 hex
      have hjp : (0 : Int) < ((i + 1 : Nat) : Int) := by omega
      go_wp2_with fail
      refine (takeQ_calls w _ w.heap.size sj 1 (by omega) HR.out).mono ?_
      rintro e w2 ⟨A3, c3, rfl, hc3, hC3, hR, hK⟩
      obtain ⟨a, hta, hna, a0, a1⟩ := numQ_one HR.out.bytes
      rw [hta] at hC3
      obtain ⟨ad, rfl, hx0⟩ := nth_int hC3 0 (by decide)
      simp only [List.getD_cons_zero, adr0] at hx0
      have HNA := Aside0.mk hna
      have hO2 := Kd.R_mono (Kd.R_bound (R_rd HO.out hK)) (fun k (hk : (k ≠ w.heap.size) ∧ w.heap.size ≤ k ∧ k < w2.heap.size ∧ _) => (show k ≠ w.heap.size ∧ k < w2.heap.size from ⟨hk.1, hk.2.2.1⟩))
      have hl2 : w.heap.size < w2.heap.size := Nat.lt_of_lt_of_le hgl hK.1
      have hba := below_alloc (Below.refl w2.heap.size w2) (.cells #[.int .u8 a, .string ⟨#[]⟩, .string ⟨#[]⟩, .int .u32 0] 82)
      have hbn := Aside0.mk (blk_new w2 (.cells #[.int .u8 a, .string ⟨#[]⟩, .string ⟨#[]⟩, .int .u32 0] 82))
      have RA := Aside0.mk (hR.grown hba)
      have HOA := Aside0.mk (Kd.R_below hO2 hba)
      clear hba hO2 HO HCV hta hna hC3 hR hK hcs
      go_wp2_with fail
      clear hx0
      refine (textQ_calls w _ w.heap.size _ RA.out).mono ?_
      rintro e w3 ⟨rfl, hR, hK⟩
      obtain ⟨t1, ht1⟩ : ∃ t1, t1 = textQ (takeQS sj 1) := ⟨_, rfl⟩
      rw [← ht1]
      have HT1 := Aside0.mk ht1
      have B3 := keep_cells hbn.out (by omega) hK
      have R3 := Aside0.mk (hR.set (b := w2.heap.size) (by omega) (by omega) 1 (.string t1))
      have HO3 := Aside0.mk (Kd.R_far (p := ⟨w2.heap.size, 1, none⟩) (Kd.R_keep HOA.out hK (fun _ hk => hk.1)) (fun k hk => by show k ≠ w2.heap.size; omega) (.string t1))
      obtain ⟨⟨c0', c1', c2', c3'⟩, f0, f1, f2, f3⟩ := blk4 B3
      have B3' := Aside0.mk (blk_put B3 1 (.string t1) (cs' := #[.int .u8 a, .string t1, .string ⟨#[]⟩, .int .u32 0]) rfl)
      clear hR hK B3 HOA RA hbn ht1
      go_wp2_with fail
      clear c0' c1' c2' c3' f0 f1 f2 f3
      refine (textQ_calls w _ w.heap.size _ R3.out).mono ?_
      rintro e w4 ⟨rfl, hR, hK⟩
      obtain ⟨t2, ht2⟩ : ∃ t2, t2 = textQ (textQS (takeQS sj 1)) := ⟨_, rfl⟩
      rw [← ht2]
      have HT2 := Aside0.mk ht2
      have B4 := keep_cells B3'.out (by omega) hK
      have R4 := Aside0.mk (hR.set (b := w2.heap.size) (by omega) (by omega) 2 (.string t2))
      have HO4 := Aside0.mk (Kd.R_far (p := ⟨w2.heap.size, 2, none⟩) (Kd.R_keep HO3.out hK (fun _ hk => hk.1)) (fun k hk => by show k ≠ w2.heap.size; omega) (.string t2))
      obtain ⟨⟨c0', c1', c2', c3'⟩, f0, f1, f2, f3⟩ := blk4 B4
      have B4' := Aside0.mk (blk_put B4 2 (.string t2) (cs' := #[.int .u8 a, .string t1, .string t2, .int .u32 0]) rfl)
      clear hR hK B4 HO3 R3 B3' ht2
      go_wp2_with fail
      clear c0' c1' c2' c3' f0 f1 f2 f3
      refine (numberQ_calls w _ w.heap.size _ R4.out).mono ?_
      rintro e w5 ⟨rfl, hR, hK⟩
      obtain ⟨n, hn⟩ : ∃ n, n = numQ (textQS (textQS (takeQS sj 1))) 4 := ⟨_, rfl⟩
      rw [← hn]
      have HX := Aside0.mk (show opQ sj = ⟨a, t1, t2, n⟩ by unfold opQ; rw [← hn, HNA.out, ← HT1.out, ← HT2.out])
      have B5 := keep_cells B4'.out (by omega) hK
      have R5 := Aside0.mk (show Rf w (w5.setCell ⟨w2.heap.size, 3, none⟩ (.int .u32 n)) w.heap.size (opQS sj) from hR.set (b := w2.heap.size) (by omega) (by omega) 3 (.int .u32 n))
      have HO5 := Aside0.mk (Kd.R_mono (Kd.R_far (p := ⟨w2.heap.size, 3, none⟩) (Kd.R_keep HO4.out hK (fun _ hk => hk.1)) (fun k hk => by show k ≠ w2.heap.size; omega) (.int .u32 n)) (fun k hk => (show k ≠ w.heap.size from hk.1)))
      have hs4 : w.heap.size ≤ (w5.setCell ⟨w2.heap.size, 3, none⟩ (.int .u32 n)).heap.size := R5.out.below.size
      have hs5 : w.heap.size < (w5.setCell ⟨w2.heap.size, 3, none⟩ (.int .u32 n)).heap.size := by
        obtain ⟨_, _, hrow, _⟩ := R5.out.row
        exact blk_lt hrow
      obtain ⟨⟨c0', c1', c2', c3'⟩, f0, f1, f2, f3⟩ := blk4 B5
      clear hR hK B4' HO4 R4 hn B5 HT1 HT2 HNA
      go_wp2_with (first | (at_builtin; refine Kd.R_append k82 (w0 := w5.setCell ⟨w2.heap.size, 3, none⟩ (.int .u32 n)) w.heap.size rfl (.tmp 40) (.tmp 42) 47 82 (.agg #[.int .u8 0, .string ⟨#[]⟩, .string ⟨#[]⟩, .int .u32 0]) 48 rfl Tryz.underlying47 (by kernel_rfl) rfl (by decide) (by decide) (.slice Av xs.length cv) xs ⟨a, t1, t2, n⟩ [.int .u8 a, .string t1, .string t2, .int .u32 n] (fun k => k ≠ w.heap.size) (fun _ => False) (by simp [Act.eval, Act.put]) (by simp [Act.eval, Act.put, World.setCell]) (k82_mkM _ _ _ _) (fun _ hk => hk.elim) (fun k hk => by omega) HO5.out (Below.refl _ _) hs4 (by have := HLJ.out; omega) ?_; intro v1 w6 hO hB hG hat; have HO6 := Aside0.mk hO; have HB6 := Aside0.mk hB; have HG6 := Aside0.mk hG; clear hO hB hG hat))
      go_roundw
      case rel =>
        have hown : ∀ k, (Value.slice Av xs.length cv).ownBlock = some k → k ≠ w.heap.size := fun k hk => (Kd.R_bound HO5.out).1 k hk |>.1
        refine ⟨i, opQS sj, xs ++ [⟨a, t1, t2, n⟩], by go_num, by omega, ⟨by have := HLJ.out; rw [List.length_append]; simp; omega⟩, ⟨by rw [E1.out, HX.out, List.append_assoc]; rfl⟩, E2, HO6, ⟨?_⟩⟩
        exact R5.out.grownBy (R5.out.below.trans (HB6.out.mono (Nat.le_refl _))) HG6.out hown
      case measure => simp [intOf]
end Go.Proofs.YtcohodkpppmaoaaGreatDoor.Q
namespace Go.Proofs.YtcohodkpppmaoaaGreatDoor.Q
open Go.RowKit Go.Proofs.YtcohodkpppmaoaaGreatDoorW.PrintWords Go.Proofs.YtcohodkpppmaoaaGreatDoorW.PrintLast Go.Proofs.YtcohodkpppmaoaaGreatDoorW.PrintMore
theorem refRes_inner (l : List ResultT) (hl : l.length ≤ 1000000000) (i : Nat) (hi : i < l.length) (hn : l[i].f0.length ≤ 1000000000) (hs : ∀ r ∈ l[i].f0, r.f0.size ≤ 140737488351232) (m : Bool) (r : List Int × Int) (hbad : mayRows l[i].f0 = false → r = ([], 1))
    (hgood : mayRows l[i].f0 = true → Ev (fun k => concordatref02_PutResults.l0 k l (m || decide ((l[i].f0.length : Int) > 256)) ((i + 1 : Nat) : Int)) r) (d : Nat) : ∀ (j : Nat), j ≤ l[i].f0.length → l[i].f0.length - j = d → mayRows (l[i].f0.take j) = true → Ev (fun k => concordatref02_PutResults.l1 k l m (i : Int) (j : Int)) r := by
  have hrd : rd_T145 l (i : Int) = l[i] := by simp [rd_T145, hi]
  induction d with
  | zero =>
    intro j h0 h1 hp
    have e : l[i].f0.take j = l[i].f0 := List.take_of_length_le (by omega)
    rw [e] at hp
    refine Ev.step (fun k => ?_) (hgood hp)
    simp only [concordatref02_PutResults.l1]
    rw [if_pos (by omega), if_pos (by omega), hrd, if_neg (by omega), wrap_id _ (by omega) (by omega)]
    cases m <;> simp
  | succ d ih =>
    intro j h0 h1 hp
    have hj : j < l[i].f0.length := by omega
    have hrj : rd_T148 l[i].f0 (j : Int) = l[i].f0[j] := by simp [rd_T148, hj]
    have htk : mayRows (l[i].f0.take (j + 1)) = (mayRows (l[i].f0.take j) && isKey (l[i].f0[j].f0)) := by
      unfold mayRows
      rw [List.take_succ_eq_append_getElem hj]
      simp only [List.all_append, List.all_cons, List.all_nil, Bool.and_true]
    refine Ev.step (f := fun k => (concordatref01_Check.f k l[i].f0[j].f0).bind fun t => (if t = true then (concordatref02_PutResults.l1 k l m (i : Int) (wrap64 ((j : Int) + 1))) else (some (([] : List Int), 1)))) (fun k => ?_) ?_
    · simp only [concordatref02_PutResults.l1]
      rw [if_pos (by omega), if_pos (by omega), hrd, if_pos (by omega), if_pos (by omega), hrj]
    · refine Ev.bind (ev_refCheck _ (hs _ (List.getElem_mem _))) ?_
      cases hk : isKey l[i].f0[j].f0 with
      | false =>
        simp only [Bool.false_eq_true, if_false]
        refine ev_const ?_
        rw [hbad (by
          unfold mayRows
          rw [List.all_eq_false]
          exact ⟨l[i].f0[j], List.getElem_mem _, by simp [hk]⟩)]
      | true =>
        simp only [if_true]
        rw [wrap_id _ (by omega) (by omega)]
        exact ih (j + 1) (by omega) (by omega) (by rw [htk, hp, hk]; rfl)
theorem refRes_scan (l : List ResultT) (hl : l.length ≤ 1000000000) (hn : ∀ x ∈ l, x.f0.length ≤ 1000000000 ∧ ∀ r ∈ x.f0, r.f0.size ≤ 140737488351232) (r : List Int × Int)
    (hr1 : l.any (fun x => !(mayRows x.f0)) = true → r = ([], 1))
    (hr2 : l.any (fun x => !(mayRows x.f0)) = false → Ev (fun k => if (decide ((l.length : Int) > 16) || l.any (fun x => decide ((x.f0.length : Int) > 256))) = true then (some (([] : List Int), 3)) else ((concordatref02_Count.f (l.length : Int)).bind fun t => (concordatref02_PutResults.l2 k l t 0))) r) (d : Nat) :
    ∀ (i : Nat) (m : Bool), i ≤ l.length → l.length - i = d → (∀ x ∈ l.take i, mayRows x.f0 = true) → m = (decide ((l.length : Int) > 16) || (l.take i).any (fun x => decide ((x.f0.length : Int) > 256))) → Ev (fun k => concordatref02_PutResults.l0 k l m (i : Int)) r := by
  induction d with
  | zero =>
    intro i m h0 h1 hp hm
    have e : l.take i = l := List.take_of_length_le (by omega)
    rw [e] at hp hm
    have hno : l.any (fun x => !(mayRows x.f0)) = false := by
      rw [List.any_eq_false]
      intro x hx
      simp [hp x hx]
    refine Ev.step (fun k => ?_) (hr2 hno)
    simp only [concordatref02_PutResults.l0]
    rw [if_neg (by omega), ← hm]
  | succ d ih =>
    intro i m h0 h1 hp hm
    have hi : i < l.length := by omega
    have htk : l.take (i + 1) = l.take i ++ [l[i]] := List.take_succ_eq_append_getElem hi
    refine Ev.step (f := fun k => concordatref02_PutResults.l1 k l m (i : Int) ((0 : Nat) : Int)) (fun k => ?_) ?_
    · simp only [concordatref02_PutResults.l0]
      rw [if_pos (by omega)]
      rfl
    · refine refRes_inner l hl i hi (hn _ (List.getElem_mem _)).1 (hn _ (List.getElem_mem _)).2 m r (fun hb => hr1 (by rw [List.any_eq_true]; exact ⟨l[i], List.getElem_mem _, by simp [hb]⟩)) (fun hg => ?_) _ 0 (Nat.zero_le _) rfl (by simp [mayRows])
      refine ih (i + 1) _ (by omega) (by omega) ?_ ?_
      · rw [htk]
        intro x hx
        rcases List.mem_append.1 hx with hx | hx
        · exact hp x hx
        · rw [List.mem_singleton.1 hx]; exact hg
      · rw [htk, hm, List.any_append, List.any_cons, List.any_nil, Bool.or_false, Bool.or_assoc]
theorem refRes_rows (l : List ResultT) (hl : l.length ≤ 1000000) (i : Nat) (hi : i < l.length) (hk : mayRows l[i].f0 = true) (hlen : l[i].f0.length ≤ 256) (hw : ∀ r ∈ l[i].f0, rowOk r) (r : List Int × Int) (B : List Int)
    (hnext : Ev (fun k => concordatref02_PutResults.l2 k l (B ++ l[i].f0.flatMap rowB) ((i + 1 : Nat) : Int)) r) (d : Nat) : ∀ (b : List Int) (j : Nat), j ≤ l[i].f0.length → l[i].f0.length - j = d → b.length + 64 * (l[i].f0.length - j) + 64 < 140737488355328 → b ++ (l[i].f0.drop j).flatMap rowB = B ++ l[i].f0.flatMap rowB →
    Ev (fun k => concordatref02_PutResults.l3 k l b (i : Int) (j : Int)) r := by
  have hrd : rd_T145 l (i : Int) = l[i] := by simp [rd_T145, hi]
  induction d with
  | zero =>
    intro b j h0 h1 hb he
    rw [List.drop_eq_nil_of_le (by omega), List.flatMap_nil, List.append_nil] at he
    subst he
    refine Ev.step (fun k => ?_) hnext
    simp only [concordatref02_PutResults.l3]
    rw [if_pos (by omega), if_pos (by omega), hrd, if_neg (by omega), wrap_id _ (by omega) (by omega)]
    rfl
  | succ d ih =>
    intro b j h0 h1 hb he
    have hj : j < l[i].f0.length := by omega
    have hrj : rd_T148 l[i].f0 (j : Int) = l[i].f0[j] := by simp [rd_T148, hj]
    have hki : isKey (l[i].f0[j].f0) = true := by
      unfold mayRows at hk
      rw [List.all_eq_true] at hk
      exact hk _ (List.getElem_mem _)
    have hz := isKey_size _ hki
    refine Ev.step (f := fun k => concordatref02_PutResults.l3 k l (b ++ rowB l[i].f0[j]) (i : Int) (wrap64 ((j : Int) + 1))) (fun k => ?_) ?_
    · simp only [concordatref02_PutResults.l3]
      rw [if_pos (by omega), if_pos (by omega), hrd, if_pos (by omega), if_pos (by omega), hrj, refText_eq _ (by omega), refNumber_eq _ (hw _ (List.getElem_mem _))]
      simp only [Option.bind_some]
      rw [if_pos (by simp [textB_length]; omega), if_pos (by simp [textB_length, num4_length]; omega)]
      simp [rowB]
    · rw [wrap_id _ (by omega) (by omega)]
      have hlen := rowB_len l[i].f0[j] hki
      refine ih (b ++ rowB l[i].f0[j]) (j + 1) (by omega) (by omega) (by rw [List.length_append]; omega) ?_
      rw [← he, List.drop_eq_getElem_cons hj, List.flatMap_cons, List.append_assoc]
theorem refRes_put (l : List ResultT) (hl : l.length ≤ 1000000) (hw : ∀ x ∈ l, resultOk x) (hok : ∀ x ∈ l, resultE x = 0) (d : Nat) : ∀ (b : List Int) (i : Nat), i ≤ l.length → l.length - i = d → b.length + 20000 * (l.length - i) + 20000 < 140737488355328 →
    Ev (fun k => concordatref02_PutResults.l2 k l b (i : Int)) (b ++ (l.drop i).flatMap resultB, 0) := by
  induction d with
  | zero =>
    intro b i h0 h1 hb
    refine Ev.step (f := fun _ => some (b, 0)) (fun k => ?_) ?_
    · simp only [concordatref02_PutResults.l2]
      rw [if_neg (by omega)]
    · refine ev_const ?_
      rw [List.drop_eq_nil_of_le (by omega)]
      simp
  | succ d ih =>
    intro b i h0 h1 hb
    have hi : i < l.length := by omega
    have hrd : rd_T145 l (i : Int) = l[i] := by simp [rd_T145, hi]
    have hoi := hok l[i] (List.getElem_mem _)
    obtain ⟨hm, hlen⟩ := result_ok _ hoi
    have hrl := result_len _ hoi
    refine Ev.step (f := fun k => concordatref02_PutResults.l3 k l (b ++ num2 l[i].f0.length) (i : Int) ((0 : Nat) : Int)) (fun k => ?_) ?_
    · simp only [concordatref02_PutResults.l2]
      rw [if_pos (by omega), if_pos (by omega), hrd, refCount_eq _ (by omega) (by omega)]
      simp only [Option.bind_some]
      rw [if_pos (by rw [num2_length]; omega)]
      rfl
    · refine refRes_rows l hl i hi hm hlen (hw _ (List.getElem_mem _)) _ (b ++ num2 l[i].f0.length) ?_ _ (b ++ num2 l[i].f0.length) 0 (Nat.zero_le _) rfl (by rw [List.length_append, num2_length]; omega) (by simp)
      refine ev_eq ?_ (ih (b ++ num2 l[i].f0.length ++ l[i].f0.flatMap rowB) (i + 1) (by omega) (by omega) (by
        have e : (b ++ num2 l[i].f0.length ++ l[i].f0.flatMap rowB).length = b.length + (resultB l[i]).length := by simp [resultB, rowsB]
        omega))
      rw [List.drop_eq_getElem_cons hi, List.flatMap_cons]
      simp [resultB, rowsB]
theorem ev_refPutResults (l : List ResultT) (hl : l.length ≤ 1000000) (hn : ∀ x ∈ l, x.f0.length ≤ 1000000000 ∧ ∀ r ∈ x.f0, r.f0.size ≤ 140737488351232) (hw : ∀ x ∈ l, resultOk x) : Ev (fun k => concordatref02_PutResults.f k l) (putResults l) := by
  unfold concordatref02_PutResults.f
  have e1 : l.any (fun x => resultE x == 1) = l.any (fun x => !(mayRows x.f0)) := by
    congr 1
    funext x
    unfold resultE
    cases mayRows x.f0 with
    | true => by_cases c : x.f0.length ≤ 256 <;> simp [c]
    | false => simp
  refine refRes_scan l (by omega) hn _ ?_ ?_ l.length 0 _ (by omega) (by omega) (by simp) (by simp)
  · intro h
    unfold putResults putList
    rw [e1, if_pos h]
  · intro h
    have hall : ∀ x ∈ l, mayRows x.f0 = true := by
      intro x hx
      rw [List.any_eq_false] at h
      simpa using h x hx
    have e3 : l.any (fun x => resultE x == 3) = l.any (fun x => decide ((x.f0.length : Int) > 256)) := by
      rw [Bool.eq_iff_iff, List.any_eq_true, List.any_eq_true]
      constructor
      · rintro ⟨x, hx, h3⟩
        refine ⟨x, hx, ?_⟩
        unfold resultE at h3
        rw [if_pos (hall x hx)] at h3
        by_cases c : x.f0.length ≤ 256
        · rw [if_pos c] at h3; cases h3
        · simp; omega
      · rintro ⟨x, hx, h3⟩
        refine ⟨x, hx, ?_⟩
        have h4 : (x.f0.length : Int) > 256 := by simpa using h3
        unfold resultE
        rw [if_pos (hall x hx), if_neg (by omega)]
        rfl
    unfold putResults putList
    rw [e1, h, e3]
    by_cases hm : (decide ((l.length : Int) > 16) || l.any (fun x => decide ((x.f0.length : Int) > 256))) = true
    · simp only [if_pos hm]
      refine ev_const ?_
      rw [if_neg (by decide), if_pos]
      rw [← hm, Bool.or_comm]
      congr 1
      simp
      omega
    · simp only [if_neg hm]
      rw [refCount_eq _ (by omega) (by omega)]
      simp only [Option.bind_some]
      have hm' : (decide ((l.length : Int) > 16) || l.any (fun x => decide ((x.f0.length : Int) > 256))) = false := by simpa using hm
      rw [Bool.or_eq_false_iff] at hm'
      have hok : ∀ x ∈ l, resultE x = 0 := by
        intro x hx
        have h5 := hm'.2
        rw [List.any_eq_false] at h5
        have h6 := h5 x hx
        have h7 : ¬ (x.f0.length : Int) > 256 := by simpa using h6
        unfold resultE
        rw [if_pos (hall x hx), if_pos (by omega)]
      have h16 : ¬ (l.length : Int) > 16 := by simpa using hm'.1
      refine ev_eq ?_ (refRes_put l hl hw hok l.length (num2 l.length) 0 (by omega) (by omega) (by simp [num2_length]; omega))
      rw [hm'.2]
      simp
      omega
end Go.Proofs.YtcohodkpppmaoaaGreatDoor.Q
namespace Go.Proofs.YtcohodkpppmaoaaGreatDoor.Q
open Go.RowKit Go.Proofs.YtcohodkpppmaoaaGreatDoorW.PrintWords Go.Proofs.YtcohodkpppmaoaaGreatDoorW.PrintLast Go.Proofs.YtcohodkpppmaoaaGreatDoorW.PrintMore
set_option linter.unusedVariables false
theorem rowQ_ok {s : RdS} (hs : Bts s) : (rowQ s).f0.size ≤ 140737488351232 ∧ rowOk (rowQ s) := by
  have h := numQ_range (textQS s) 4
  have h2 := textQ_small hs
  unfold rowOk u32Ok Q.rowQ
  dsimp only
  exact ⟨by omega, by omega⟩
theorem resQ_ok {s : RdS} (hs : Bts s) : ((resQ s).f0.length ≤ 1000000000 ∧ ∀ r ∈ (resQ s).f0, r.f0.size ≤ 140737488351232) ∧ resultOk (resQ s) := by
  have h1 := sevQ_length rowQ rowQS s hs
  have h2 : ∀ r ∈ (resQ s).f0, r.f0.size ≤ 140737488351232 ∧ rowOk r := show ∀ r ∈ sevN rowQ rowQS (numQ s 2).toNat (takeQS s 2), r.f0.size ≤ 140737488351232 ∧ rowOk r from sevN_all (p := fun r => r.f0.size ≤ 140737488351232 ∧ rowOk r) (fun _ h => h.rowQ) (fun _ h => rowQ_ok h) _ _ (hs.takeQ 2)
  refine ⟨⟨?_, fun r hr => (h2 r hr).1⟩, fun r hr => (h2 r hr).2⟩
  show (sevQ rowQ rowQS s).length ≤ _
  omega
theorem Bts.resQ {s : RdS} (hs : Bts s) : Bts (resQS s) := Bts.sevN (fun _ h => h.rowQ) _ _ (hs.takeQ 2)
set_option maxHeartbeats 3200000 in
set_option maxRecDepth 100000 in
theorem concordatref02_GetResults.calls (A0 : Option Addr) (c0 : Nat) (l0 : List Int) (w : World) (hr0 : Kd.C (Kd.int .u8) w A0 l0.length l0) (hc0 : l0.length ≤ c0) (hby : ∀ x ∈ l0, 0 ≤ x ∧ x < 256) :
    Calls Tryz.prog 56 #[.slice A0 l0.length c0] w fun e w' => ∃ v0_ : Value, e = .returned (.tuple #[v0_, .int .i64 (getR resR resS putResults l0).2]) ∧ Kd.R k145 145 w' w.heap.size (fun _ => True) v0_ (getR resR resS putResults l0).1 ∧ Below w.heap.size w w' := by
  rw [← getQ_results l0 hby]
  obtain ⟨m, hm⟩ : ∃ m : Nat, numQ (l0, false) 2 = m := ⟨(numQ (l0, false) 2).toNat, by have := numQ_range (l0, false) 2; omega⟩
  have hm' : m < 65536 := by
    obtain ⟨a, b, _, hn, h0, h2⟩ := numQ_two (s := (l0, false)) hby
    omega
  have e1 : sevQ resQ resQS (l0, false) = sevN resQ resQS m (takeQS (l0, false) 2) := by unfold sevQ; rw [hm]; rfl
  have e2 : sevQS resQ resQS (l0, false) = sevNS resQ resQS m (takeQS (l0, false) 2) := by unfold sevQS; rw [hm]; rfl
  have hB2 : Bts (takeQS (l0, false) 2) := Bts.takeQ (show Bts (l0, false) from hby) 2
  have hall : ∀ x ∈ sevN resQ resQS m (takeQS (l0, false) 2), (x.f0.length ≤ 1000000000 ∧ ∀ r ∈ x.f0, r.f0.size ≤ 140737488351232) ∧ resultOk x := sevN_all (p := fun x => (x.f0.length ≤ 1000000000 ∧ ∀ r ∈ x.f0, r.f0.size ≤ 140737488351232) ∧ resultOk x) (fun _ h => h.resQ) (fun s hs => resQ_ok hs) m _ hB2
  have hlen := sevN_short resQ resQS m (takeQS (l0, false) 2)
  unfold getQ
  rw [e1, e2]
  obtain ⟨L, hL⟩ : ∃ L, L = sevN resQ resQS m (takeQS (l0, false) 2) := ⟨_, rfl⟩
  obtain ⟨SF, hSF⟩ : ∃ SF, SF = sevNS resQ resQS m (takeQS (l0, false) 2) := ⟨_, rfl⟩
  rw [← hL] at hall hlen ⊢
  rw [← hSF]
  obtain ⟨kp, hkp⟩ := (ev_refPutResults L (by omega) (fun x hx => (hall x hx).1) (fun x hx => (hall x hx).2)).rounds
  generalize putResults L = q at *
  obtain ⟨pb, pe⟩ := q
  dsimp only
  have HKP := Aside0.mk hkp
  have HBY := Aside0.mk hby
  have HC := Aside0.mk hr0
  have HL := Aside0.mk hL
  have HSF := Aside0.mk hSF
  have HM := Aside0.mk hm
  have HMX := Aside0.mk (show l0.length ≤ maxLen from Kd.C_max hr0)
  have HLN := Aside0.mk hlen
  clear hkp hby hr0 hL hSF hm hall hlen e1 e2 hB2
  have hu := Tryz.underlying134
  have huc := Tryz.underlying145
  go_enter Tryz.func56, Tryz.ntmps56
  go_wp2_with fail
  have HA := Aside0.mk (show Rf w (w.alloc (.cells #[.slice A0 l0.length c0, .bool false] 134)) w.heap.size (l0, false) from ⟨below_alloc (Below.refl _ _) _, Nat.le_refl _, ⟨A0, c0, blk_new w _, hc0, HMX.out, HC.out⟩, HBY.out⟩)
  refine (countQ_calls w _ w.heap.size (l0, false) HA.out).mono ?_
  rintro e w1 ⟨rfl, hR, hK⟩
  rw [HM.out]
  have R1 := Aside0.mk hR
  clear hR hK HA
  go_wp2
  go_loopw [5, 6] (fun v n wr => ∃ (j : Nat) (sj : RdS) (xs : List S145), n = .int .i64 j ∧ j ≤ m ∧ Aside0 (xs.length + j ≤ m) ∧ Aside0 (L = xs ++ sevN resQ resQS j sj) ∧ Aside0 (SF = sevNS resQ resQS j sj) ∧ Aside0 (Kd.R k145 145 wr w.heap.size (fun k => k ≠ w.heap.size) v xs) ∧ Aside0 (Rf w wr w.heap.size sj)) (fun _ n _ => (intOf n).toNat)
  case atStart => exact ⟨m, _, [], rfl, Nat.le_refl _, ⟨by simp⟩, HL, HSF, ⟨Kd.R_nil _ _ _ _ _⟩, R1⟩
  case round =>
    clear R1
    obtain ⟨wq, hwq⟩ : ∃ wq, wq = wr := ⟨_, rfl⟩
    subst hwq
    obtain ⟨j, sj, xs, rfl, hj, HLJ, E1, E2, HO, HR⟩ := hrel
    have hszw : w.heap.size ≤ wq.heap.size := HR.out.below.size
    have hgl : w.heap.size < wq.heap.size := by
      obtain ⟨A, c, hrow, _⟩ := HR.out.row
      exact blk_lt hrow
    obtain ⟨Arw, crw, hrow, _⟩ := HR.out.row
    have hcs : wq.cell? ⟨w.heap.size, 1, none⟩ = some (.bool sj.2) := blk_cell hrow 1
    have HRW := Aside0.mk hrow
    clear hrow
    obtain ⟨Av, cv, rfl, hcv, hCv⟩ := Kd.R_reads HO.out
    have HCV := Aside0.mk hCv
    clear hCv
    by_cases hex : j = 0 ∨ sj.2 = true
    · have eL : L = xs := by
        rw [E1.out]
        rcases hex with rfl | hb
        · simp [sevN]
        · cases j with
          | zero => simp [sevN]
          | succ j => simp [sevN, hb]
      have eS : SF = sj := by
        rw [E2.out]
        rcases hex with rfl | hb
        · rfl
        · cases j with
          | zero => rfl
          | succ j => simp [sevNS, hb]
      subst eL eS
      clear E1 E2 HL HSF
      rcases hex with rfl | hbad
      · go_wp2_with fail
        refine (concordatref02_PutResults.calls kp Av cv L pb pe wq HCV.out hcv HKP.out).mono ?_
        rintro e w4 ⟨v4, rfl, hO4, hB4⟩
        obtain ⟨A4, c4, rfl, hc4, hC4⟩ := Kd.R_reads hO4
        have HO4 := Aside0.mk (Kd.R_below HO.out hB4)
        have HR4 := Aside0.mk (HR.out.grown hB4)
        obtain ⟨Ar, cr, hrow4, _⟩ := HR4.out.row
        have hcs4 : w4.cell? ⟨w.heap.size, 1, none⟩ = some (.bool SF.2) := blk_cell hrow4 1
        have HC4 := Aside0.mk hC4
        have HA4 := Aside0.mk (Kd.C_below HC.out HR4.out.below)
        clear hO4 hrow4 hC4 hB4
        cases hsh : SF.2 with
        | true =>
          rw [hsh] at hcs4
          go_wp2
          go_ret2
          exact ⟨_, rfl, Kd.R_nil _ _ _ _ _, HR4.out.below⟩
        | false =>
          rw [hsh] at hcs4
          by_cases hpe : pe = 0
          · subst hpe
            go_wp2_with fail
            refine (sameQ_calls A0 c0 l0 A4 c4 pb w4 HA4.out HC4.out).mono ?_
            rintro e _ ⟨rfl, rfl⟩
            cases heq : ((strOfNums l0).toList == (strOfNums pb).toList) with
            | true =>
              go_wp2
              go_ret2
              exact ⟨_, rfl, Kd.R_mono HO4.out (fun _ _ => trivial), HR4.out.below⟩
            | false =>
              go_wp2
              go_ret2
              exact ⟨_, rfl, Kd.R_nil _ _ _ _ _, HR4.out.below⟩
          · have hpeb : (pe != 0) = true := by simpa using hpe
            go_wp2
            all_goals
              go_ret2
              exact ⟨_, rfl, Kd.R_nil _ _ _ _ _, HR4.out.below⟩
      · rw [hbad] at hcs
        by_cases hj0 : j = 0
        · subst hj0
          go_wp2_with fail
          refine (concordatref02_PutResults.calls kp Av cv L pb pe wq HCV.out hcv HKP.out).mono ?_
          rintro e w4 ⟨v4, rfl, hO4, hB4⟩
          obtain ⟨A4, c4, rfl, hc4, hC4⟩ := Kd.R_reads hO4
          have HO4 := Aside0.mk (Kd.R_below HO.out hB4)
          have HR4 := Aside0.mk (HR.out.grown hB4)
          obtain ⟨Ar, cr, hrow4, _⟩ := HR4.out.row
          have hcs4 : w4.cell? ⟨w.heap.size, 1, none⟩ = some (.bool SF.2) := blk_cell hrow4 1
          have HC4 := Aside0.mk hC4
          have HA4 := Aside0.mk (Kd.C_below HC.out HR4.out.below)
          clear hO4 hrow4 hC4 hB4
          rw [hbad] at hcs4
          go_wp2
          go_ret2
          exact ⟨_, rfl, Kd.R_nil _ _ _ _ _, HR4.out.below⟩
        · have hjp : (0 : Int) < (j : Int) := by omega
          go_wp2_with fail
          refine (concordatref02_PutResults.calls kp Av cv L pb pe wq HCV.out hcv HKP.out).mono ?_
          rintro e w4 ⟨v4, rfl, hO4, hB4⟩
          obtain ⟨A4, c4, rfl, hc4, hC4⟩ := Kd.R_reads hO4
          have HO4 := Aside0.mk (Kd.R_below HO.out hB4)
          have HR4 := Aside0.mk (HR.out.grown hB4)
          obtain ⟨Ar, cr, hrow4, _⟩ := HR4.out.row
          have hcs4 : w4.cell? ⟨w.heap.size, 1, none⟩ = some (.bool SF.2) := blk_cell hrow4 1
          have HC4 := Aside0.mk hC4
          have HA4 := Aside0.mk (Kd.C_below HC.out HR4.out.below)
          clear hO4 hrow4 hC4 hB4
          rw [hbad] at hcs4
          go_wp2
          go_ret2
          exact ⟨_, rfl, Kd.R_nil _ _ _ _ _, HR4.out.below⟩
    · obtain ⟨i, rfl⟩ : ∃ i, j = i + 1 := ⟨j - 1, by omega⟩
      have hbad : sj.2 = false := by simpa using fun h => hex (.inr h)
      rw [hbad] at hcs
      have q1 : sevN resQ resQS (i + 1) sj = resQ sj :: sevN resQ resQS i (resQS sj) := by rw [sevN, if_neg (by rw [hbad]; decide)]
      have q2 : sevNS resQ resQS (i + 1) sj = sevNS resQ resQS i (resQS sj) := by rw [sevNS, if_neg (by rw [hbad]; decide)]
      rw [q1] at E1
      rw [q2] at E2
      clear q1 q2 hex
      have hjp : (0 : Int) < ((i + 1 : Nat) : Int) := by omega
      have hba := below_alloc (Below.refl wq.heap.size wq) (.cells #[.slice none 0 0] 145)
      have hbn := Aside0.mk (blk_new wq (.cells #[.slice none 0 0] 145))
      have RA := Aside0.mk (HR.out.grown hba)
      have KA := Aside0.mk (KeepBut.of_below hba w.heap.size none)
      clear hba HCV
      go_wp2_with fail
      clear hcs
      refine (countQ_calls w _ w.heap.size sj RA.out).mono ?_
      rintro e w2 ⟨rfl, hR, hK⟩
      obtain ⟨m2, hm2⟩ : ∃ m2 : Nat, numQ sj 2 = m2 := ⟨(numQ sj 2).toNat, by have := numQ_range sj 2; omega⟩
      have hm2' : m2 < 65536 := by
        obtain ⟨a, b, _, hn, h0, h2⟩ := numQ_two HR.out.bytes
        omega
      rw [hm2]
      have HM2 := Aside0.mk hm2
      have R2 := Aside0.mk hR
      have K2 := Aside0.mk (keep_then KA.out hK)
      have B2 := Aside0.mk (keep_cells hbn.out (show wq.heap.size ≠ w.heap.size by omega) hK)
      clear hR hK hm2 KA RA hbn
      go_wp2
      go_loopw [8] (fun n wr => ∃ (jj : Nat) (si : RdS) (rs : List RowT') (v : Value), n = .int .i64 jj ∧ jj ≤ m2 ∧ Aside0 (rs.length + jj ≤ m2) ∧ Aside0 (sevN rowQ rowQS m2 (takeQS sj 2) = rs ++ sevN rowQ rowQS jj si) ∧ Aside0 (sevNS rowQ rowQS m2 (takeQS sj 2) = sevNS rowQ rowQS jj si) ∧ Aside0 (wr.heap[wq.heap.size]? = some (.cells #[v] 145 (0, 0))) ∧ Aside0 (Kd.R k148 148 wr wq.heap.size (fun k => wq.heap.size < k) v rs) ∧ Aside0 (Rf w wr w.heap.size si) ∧ Aside0 (KeepBut wq wr w.heap.size none)) (fun n _ => (intOf n).toNat)
      case atStart => exact ⟨m2, _, [], _, rfl, Nat.le_refl _, ⟨by simp⟩, ⟨rfl⟩, ⟨rfl⟩, B2, ⟨Kd.R_nil _ _ _ _ _⟩, R2, K2⟩
      case round =>
        clear R2 K2 B2
        obtain ⟨wi, hwi⟩ : ∃ wi, wi = wr := ⟨_, rfl⟩
        subst hwi
        obtain ⟨jj, si, rs, v, rfl, hjj, HJJ, F1, F2, HBX, HRS, HRI, HKI⟩ := hrel
        have hgi : wq.heap.size < wi.heap.size := blk_lt HBX.out
        obtain ⟨Ari, cri, hrow, _⟩ := HRI.out.row
        have hcs : wi.cell? ⟨w.heap.size, 1, none⟩ = some (.bool si.2) := blk_cell hrow 1
        clear hrow
        have x0 := blk_cell HBX.out 0
        have xf := blk_frozen HBX.out 0
        obtain ⟨Avr, cvr, rfl, hcvr, _⟩ := Kd.R_reads HRS.out
        by_cases hex2 : jj = 0 ∨ si.2 = true
        · have eR : sevN rowQ rowQS m2 (takeQS sj 2) = rs := by
            rw [F1.out]
            rcases hex2 with rfl | hb
            · simp [sevN]
            · cases jj with
              | zero => simp [sevN]
              | succ j => simp [sevN, hb]
          have eS : sevNS rowQ rowQS m2 (takeQS sj 2) = si := by
            rw [F2.out]
            rcases hex2 with rfl | hb
            · rfl
            · cases jj with
              | zero => rfl
              | succ j => simp [sevNS, hb]
          have HX := Aside0.mk (show resQ sj = ⟨rs⟩ by unfold resQ sevQ; rw [HM2.out]; exact congrArg _ eR)
          have HXS := Aside0.mk (show resQS sj = si by unfold resQS sevQS; rw [HM2.out]; exact eS)
          have HO4 := Aside0.mk (Kd.R_keep HO.out HKI.out (fun k hk => hk))
          have HRS4 := Aside0.mk (Kd.R_lower (Kd.R_mono HRS.out (fun k (hk : wq.heap.size < k) => (show k ≠ w.heap.size by omega))) hszw)
          have hs4 : w.heap.size ≤ wi.heap.size := HRI.out.below.size
          have HRS5 := Aside0.mk (Kd.R_lower HRS.out hszw)
          have HAP := Aside0.mk (show ∀ k, wq.heap.size < k → k ≠ w.heap.size ∧ some k ≠ (Value.slice Av xs.length cv).ownBlock from fun k hk => ⟨by omega, fun e => by have := Kd.R_lt HO.out k e.symm; omega⟩)
          rcases hex2 with rfl | hb2
          · go_wp2_with (first | (at_builtin; refine Kd.R_append k145 (w0 := wi) w.heap.size rfl (.tmp 52) (.tmp 54) 48 145 (.agg #[.slice none 0 0]) 24 rfl Tryz.underlying48 (by kernel_rfl) rfl (by decide) (by decide) (.slice Av xs.length cv) xs ⟨rs⟩ [.slice Avr rs.length cvr] (fun k => k ≠ w.heap.size) (fun k => wq.heap.size < k) (by simp [Act.eval, Act.put]) (by simp [Act.eval, Act.put]) (k145_mkM _ _ _ _ HRS5.out) HAP.out (fun k hk => by omega) HO4.out (Below.refl _ _) hs4 (by have := HLJ.out; omega) ?_; intro v1 w6 hO hB hG hat; have HO6 := Aside0.mk hO; have HB6 := Aside0.mk hB; have HG6 := Aside0.mk hG; clear hO hB hG hat))
            refine ⟨⟨i, resQS sj, xs ++ [⟨rs⟩], by go_num, by omega, ⟨by have := HLJ.out; rw [List.length_append]; simp; omega⟩, ⟨by rw [E1.out, HX.out, List.append_assoc]; rfl⟩, E2, HO6, ⟨?_⟩⟩, ?_⟩
            · rw [HXS.out]
              exact HRI.out.grownBy (HRI.out.below.trans (HB6.out.mono (Nat.le_refl _))) HG6.out (fun k hk => (Kd.R_bound HO4.out).1 k hk |>.1)
            · simp [intOf]
          · rw [hb2] at hcs
            by_cases hj0 : jj = 0
            · subst hj0
              go_wp2_with (first | (at_builtin; refine Kd.R_append k145 (w0 := wi) w.heap.size rfl (.tmp 52) (.tmp 54) 48 145 (.agg #[.slice none 0 0]) 24 rfl Tryz.underlying48 (by kernel_rfl) rfl (by decide) (by decide) (.slice Av xs.length cv) xs ⟨rs⟩ [.slice Avr rs.length cvr] (fun k => k ≠ w.heap.size) (fun k => wq.heap.size < k) (by simp [Act.eval, Act.put]) (by simp [Act.eval, Act.put]) (k145_mkM _ _ _ _ HRS5.out) HAP.out (fun k hk => by omega) HO4.out (Below.refl _ _) hs4 (by have := HLJ.out; omega) ?_; intro v1 w6 hO hB hG hat; have HO6 := Aside0.mk hO; have HB6 := Aside0.mk hB; have HG6 := Aside0.mk hG; clear hO hB hG hat))
              refine ⟨⟨i, resQS sj, xs ++ [⟨rs⟩], by go_num, by omega, ⟨by have := HLJ.out; rw [List.length_append]; simp; omega⟩, ⟨by rw [E1.out, HX.out, List.append_assoc]; rfl⟩, E2, HO6, ⟨?_⟩⟩, ?_⟩
              · rw [HXS.out]
                exact HRI.out.grownBy (HRI.out.below.trans (HB6.out.mono (Nat.le_refl _))) HG6.out (fun k hk => (Kd.R_bound HO4.out).1 k hk |>.1)
              · simp [intOf]
            · have hjp3 : (0 : Int) < (jj : Int) := by omega
              go_wp2_with (first | (at_builtin; refine Kd.R_append k145 (w0 := wi) w.heap.size rfl (.tmp 52) (.tmp 54) 48 145 (.agg #[.slice none 0 0]) 24 rfl Tryz.underlying48 (by kernel_rfl) rfl (by decide) (by decide) (.slice Av xs.length cv) xs ⟨rs⟩ [.slice Avr rs.length cvr] (fun k => k ≠ w.heap.size) (fun k => wq.heap.size < k) (by simp [Act.eval, Act.put]) (by simp [Act.eval, Act.put]) (k145_mkM _ _ _ _ HRS5.out) HAP.out (fun k hk => by omega) HO4.out (Below.refl _ _) hs4 (by have := HLJ.out; omega) ?_; intro v1 w6 hO hB hG hat; have HO6 := Aside0.mk hO; have HB6 := Aside0.mk hB; have HG6 := Aside0.mk hG; clear hO hB hG hat))
              refine ⟨⟨i, resQS sj, xs ++ [⟨rs⟩], by go_num, by omega, ⟨by have := HLJ.out; rw [List.length_append]; simp; omega⟩, ⟨by rw [E1.out, HX.out, List.append_assoc]; rfl⟩, E2, HO6, ⟨?_⟩⟩, ?_⟩
              · rw [HXS.out]
                exact HRI.out.grownBy (HRI.out.below.trans (HB6.out.mono (Nat.le_refl _))) HG6.out (fun k hk => (Kd.R_bound HO4.out).1 k hk |>.1)
              · simp [intOf]
        · obtain ⟨ii, rfl⟩ : ∃ ii, jj = ii + 1 := ⟨jj - 1, by omega⟩
          have hbad2 : si.2 = false := by simpa using fun h => hex2 (.inr h)
          rw [hbad2] at hcs
          have q1 : sevN rowQ rowQS (ii + 1) si = rowQ si :: sevN rowQ rowQS ii (rowQS si) := by rw [sevN, if_neg (by rw [hbad2]; decide)]
          have q2 : sevNS rowQ rowQS (ii + 1) si = sevNS rowQ rowQS ii (rowQS si) := by rw [sevNS, if_neg (by rw [hbad2]; decide)]
          rw [q1] at F1
          rw [q2] at F2
          clear q1 q2 hex2
          have hjp2 : (0 : Int) < ((ii + 1 : Nat) : Int) := by omega
          go_wp2_with fail
          refine (textQ_calls w _ w.heap.size si HRI.out).mono ?_
          rintro e w3 ⟨rfl, hR, hK⟩
          obtain ⟨tx, htx⟩ : ∃ tx, tx = textQ si := ⟨_, rfl⟩
          rw [← htx]
          have HTX := Aside0.mk htx
          have R3 := Aside0.mk hR
          have K3 := Aside0.mk (keep_then HKI.out hK)
          have B3 := keep_cells HBX.out (show wq.heap.size ≠ w.heap.size by omega) hK
          have RS3 := Aside0.mk (Kd.R_keep HRS.out hK (fun k (hk : wq.heap.size < k) => by omega))
          have hg3 : wq.heap.size < w3.heap.size := blk_lt B3
          clear hcs x0 xf
          have x0 := blk_cell B3 0
          have xf := blk_frozen B3 0
          have HB3 := Aside0.mk B3
          clear hR hK htx HRI HKI HBX HRS B3
          go_wp2_with fail
          go_region_law (first
            | (go_simp
               go_at_call 128
               refine (numberQ_calls w _ w.heap.size (textQS si) (drew_rf R3.out)).mono ?_
               rintro e w4 ⟨rfl, hR, hK⟩
               obtain ⟨n, hn⟩ : ∃ n, n = numQ (textQS si) 4 := ⟨_, rfl⟩
               rw [← hn]
               have HX := Aside0.mk (show rowQ si = ⟨tx, n⟩ by unfold rowQ; rw [← hn, ← HTX.out])
               have R4 := Aside0.mk hR
               have K4 := Aside0.mk (keep_then (keep_drew K3.out) hK)
               have B4 := keep_cells (blk_drew HB3.out) (show wq.heap.size ≠ w.heap.size by omega) hK
               have RS4 := Aside0.mk (Kd.R_keep (Kd.R_drew RS3.out) hK (fun k (hk : wq.heap.size < k) => by omega))
               have hg4 : wq.heap.size < w4.heap.size := blk_lt B4
               have x04 := blk_cell B4 0
               have HB4 := Aside0.mk B4
               clear hR hK hn B4)
            | (refine Kd.R_append_step k148 (w0 := w4) wq.heap.size (by simp [Region.wanted]) (.tmp 44) (.tmp 49) 143 148 (.agg #[.string ⟨#[]⟩, .int .u32 0]) 24 rfl Tryz.underlying143 (by kernel_rfl) rfl (by decide) (by decide) (.slice Avr rs.length cvr) rs ⟨tx, n⟩ [.string tx, .int .u32 n] (fun k => wq.heap.size < k) (fun _ => False) (by simp [Act.eval, Act.put]) (by simp [Act.eval, Act.put]) (k148_mkM _ _ _ _) (fun _ hk => hk.elim) (fun k hk => by omega) RS4.out (Below.refl _ _) (by omega) (by have := HJJ.out; omega) ?_
               intro v1 w5 hO hB hG hat
               have hown : ∀ k, (Value.slice Avr rs.length cvr).ownBlock = some k → wq.heap.size < k := fun k hk => (Kd.R_mono RS4.out (fun _ h => h)).1 k hk
               have hown2 : ∀ k, (Value.slice Avr rs.length cvr).ownBlock = some k → k < w4.heap.size := fun k hk => Kd.R_lt RS4.out k hk
               have B5 := blk_grown HB4.out hG (fun e => by have := hown _ e.symm; omega)
               obtain ⟨A5, c5, ev5, hc5, _⟩ := Kd.R_reads hO
               rw [show (rs ++ [(⟨tx, n⟩ : RowT')]).length = rs.length + 1 by rw [List.length_append]; rfl] at ev5
               subst ev5
               have y0 := blk_cell B5 0
               have yf := blk_frozen B5 0
               have R5 := Aside0.mk (R4.out.grownBy (R4.out.below.trans (hB.mono (by have := R4.out.below.size; omega))) hG (fun k hk => by have := hown k hk; omega))
               have K5 := Aside0.mk (keep_grown K4.out hG (fun k hk => by have := hown k hk; omega))
               have HB5 := Aside0.mk B5
               have HO5 := Aside0.mk hO
               have hg5 : wq.heap.size < w5.heap.size := blk_lt B5
               clear hO hB hG hat B5 hown hown2))
          all_goals
            go_wp2
            refine ⟨⟨ii, rowQS si, rs ++ [⟨tx, n⟩], _, by go_num, by omega, ⟨by have := HJJ.out; rw [List.length_append]; simp; omega⟩, ⟨by rw [F1.out, HX.out, List.append_assoc]; rfl⟩, F2, ⟨blk_put HB5.out 0 _ rfl⟩, ⟨Kd.R_far (p := ⟨wq.heap.size, 0, none⟩) HO5.out (fun k (hk : wq.heap.size < k) => by show k ≠ wq.heap.size; omega) _⟩, ⟨R5.out.set (b := wq.heap.size) (by omega) (by omega) 0 _⟩, ⟨keep_new K5.out (Nat.le_refl _) 0 _⟩⟩, ?_⟩
            simp [intOf]
end Go.Proofs.YtcohodkpppmaoaaGreatDoor.Q
namespace Go.Proofs.YtcohodkpppmaoaaGreatDoor.Q
open Go.RowKit Go.Proofs.YtcohodkpppmaoaaGreatDoorW.PrintWords Go.Proofs.YtcohodkpppmaoaaGreatDoorW.PrintLast Go.Proofs.YtcohodkpppmaoaaGreatDoorW.PrintMore
set_option linter.unusedVariables false

def mayH (s f t : Int) : Bool := decide (1 ≤ s) && decide (s ≤ 7) && decide (f < 4) && decide (t < 4)
abbrev MsgR := Int × Int × Int × Int × List (S82) × List (S145) × Int
def noMsg (e : Int) : MsgR := (0, 0, 0, 0, [], [], e)
def lenP (l : List Int) : Int := foldN ((l.drop 7).take 4)
def opsP (l : List Int) : List (S82) × Int := getR opR opS putOps ((l.drop 11).take (lenP l).toNat)
def resP (l : List Int) : List (S145) × Int := getR resR resS putResults ((l.drop 11).drop (lenP l).toNat)
def getP (l : List Int) : MsgR :=
  if l.length < 11 then noMsg 4
  else if (mayH (l.getD 0 0) (l.getD 1 0) (l.getD 2 0) && decide (lenP l ≤ (l.length : Int) - 11)) = true then
    if (opsP l).2 = 0 then
      if (resP l).2 = 0 then (l.getD 0 0, l.getD 1 0, l.getD 2 0, foldN ((l.drop 3).take 4), (opsP l).1, (resP l).1, 0)
      else noMsg (resP l).2
    else noMsg (opsP l).2
  else noMsg 4
theorem mayH_f (s f t g : Int) (x : List (S82)) (y : List (S145)) : packets_may.f s f t g x y = some (mayH s f t) := by
  unfold packets_may.f mayH
  by_cases h1 : s ≥ 1
  · by_cases h2 : s ≤ 7
    · by_cases h3 : f < 4
      · simp [h1, h2, h3]
      · simp [h1, h2, h3]
    · simp [h1, h2]
  · simp [h1]

set_option maxHeartbeats 1600000 in
set_option maxRecDepth 100000 in
theorem from_calls (A : Option Addr) (c : Nat) (b : List Int) (w : World) (hC : Kd.C (Kd.int .u8) w A b.length b) (hc : b.length ≤ c) (h4 : 4 ≤ b.length) (hb : ∀ x ∈ b, 0 ≤ x ∧ x < 256) :
    Calls Tryz.prog 151 #[.slice A b.length c] w fun e w' => e = .returned (.int .u32 (foldN (b.take 4))) ∧ w = w' := by
  obtain ⟨l, hle⟩ : ∃ l, l = b.take 4 := ⟨_, rfl⟩
  have hln : l.length = 4 := by rw [hle, List.length_take]; omega
  have hC4 := Kd.C_take hC (m := 4) h4
  rw [← hle, hln] at hC4
  have hby : ∀ x ∈ l, 0 ≤ x ∧ x < 256 := fun x hx => hb x (List.mem_of_mem_take (hle ▸ hx))
  rw [← hle]
  have HC := Aside0.mk hC4
  have HBY := Aside0.mk hby
  clear hC hb hle hC4 hby
  obtain ⟨iu, hiu, hsz⟩ := rd_uint8
  have hs1 := cut_to (P := Tryz.prog) 67 5 .i64 Tryz.underlying67 hiu A b.length c (4 : Int) (by omega) (by omega) hc
  rw [show (4 : Int).toNat = 4 from rfl] at hs1
  go_enter Tryz.func151, Tryz.ntmps151
  go_wp2
  go_loop [2, 8] (fun x i => ∃ k : Nat, k ≤ 4 ∧ x = .int .u32 (foldN (l.take k)) ∧ i = .int .i64 k) (fun _ i => 4 - (intOf i).toNat)
  case atStart => exact ⟨0, Nat.zero_le _, rfl, rfl⟩
  case round =>
    obtain ⟨k, hk, rfl, rfl⟩ := hrel
    by_cases hlt : k < 4
    · have hlt' : (k : Int) < 4 := by omega
      obtain ⟨ad, cs, rfl, hcl, hKc, hcell⟩ := Kd.C_get HC.out 0 (k : Int) (by omega) (by omega)
      have e1 : cs = [.int .u8 (l.getD k 0)] := hKc
      subst e1
      have hx := hcell 0 (.int .u8 (l.getD k 0)) rfl
      simp only [Int.toNat_natCast, Nat.mul_one, Nat.add_zero, show (Kd.int .u8).sz = 1 from rfl] at hx
      have hg : l.getD k 0 = l[k]'(by omega) := by rw [List.getD_eq_getElem?_getD, List.getElem?_eq_getElem (by omega)]; rfl
      have hb := HBY.out (l[k]'(by omega)) (List.getElem_mem _)
      rw [← hg] at hb
      generalize l.getD k 0 = b at *
      have HG := Aside0.mk hg
      clear hg
      go_wp2
      go_round
      case rel =>
        refine ⟨k + 1, by omega, ?_, by go_num⟩
        rw [u32_join _ _ hb.1 hb.2, List.take_succ_eq_append_getElem (by omega), ← HG.out]
        unfold foldN
        rw [List.foldl_append]
        rfl
      case measure => simp [intOf]; omega
    · go_wp2
      have e2 : l.take k = l := List.take_of_length_le (by omega)
      rw [e2]
      go_ret
      exact ⟨rfl, rfl⟩

def packets_Get.f (l0 : List Int) : Option MsgR := if ∀ x ∈ l0, 0 ≤ x ∧ x < 256 then some (getP l0) else none
def GotP (w : World) (r : MsgR) (e : Ending) (w' : World) : Prop :=
  ∃ (v4 v5 : Value) (H : Nat), e = .returned (.tuple #[.agg #[.int .u8 r.1, .int .u8 r.2.1, .int .u8 r.2.2.1, .int .u32 r.2.2.2.1, v4, v5], .int .i64 r.2.2.2.2.2.2]) ∧ Kd.R k82 82 w' w.heap.size (fun k => k < H) v4 r.2.2.2.2.1 ∧ Kd.S k145 145 w' w.heap.size (fun k => H ≤ k) v5 r.2.2.2.2.2.1 ∧ Below w.heap.size w w'
theorem gotP_no (w w' : World) (c : Int) (hb : Below w.heap.size w w') : GotP w (noMsg c) (.returned (.tuple #[.agg #[.int .u8 0, .int .u8 0, .int .u8 0, .int .u32 0, .slice none 0 0, .slice none 0 0], .int .i64 c])) w' :=
  ⟨_, _, 0, rfl, Kd.R_nil _ _ _ _ _, Kd.S_nil _ _ _ _ _, hb⟩
set_option maxHeartbeats 1600000 in
set_option maxRecDepth 100000 in
theorem Get_short (A : Option Addr) (c : Nat) (l : List Int) (w : World) (h : l.length < 11) :
    Calls Tryz.prog 60 #[.slice A l.length c] w (GotP w (noMsg 4)) := by
  have hu := Tryz.underlying50
  have h' : (l.length : Int) < 11 := by omega
  go_enter Tryz.func60, Tryz.ntmps60
  go_wp2
  try simp only [Exit.inBlock, Exit.then]
  refine bodyPost_ret (results_ct rfl _ _ w.heap.size 50 #[.int .u8 0, .int .u8 0, .int .u8 0, .int .u32 0, .slice none 0 0, .slice none 0 0] (0, 0) _ rfl (blk_new w _) hu rfl (by kernel_rfl)) rfl ?_
  exact gotP_no w _ 4 (below_alloc (Below.refl _ _) _)

theorem blk6p {w : World} {g t : Nat} {a b c d x y : Value} (h : w.heap[g]? = some (.cells #[a, b, c, d, x, y] t (0, 0))) : (w.cell? ⟨g, 0, none⟩ = some a ∧ w.cell? ⟨g, 1, none⟩ = some b ∧ w.cell? ⟨g, 2, none⟩ = some c ∧ w.cell? ⟨g, 3, none⟩ = some d ∧ w.cell? ⟨g, 4, none⟩ = some x ∧ w.cell? ⟨g, 5, none⟩ = some y) ∧ (w.frozen? ⟨g, 0, none⟩ = false ∧ w.frozen? ⟨g, 1, none⟩ = false ∧ w.frozen? ⟨g, 2, none⟩ = false ∧ w.frozen? ⟨g, 3, none⟩ = false ∧ w.frozen? ⟨g, 4, none⟩ = false ∧ w.frozen? ⟨g, 5, none⟩ = false) :=
  ⟨⟨blk_cell h 0, blk_cell h 1, blk_cell h 2, blk_cell h 3, blk_cell h 4, blk_cell h 5⟩, ⟨blk_frozen h 0, blk_frozen h 1, blk_frozen h 2, blk_frozen h 3, blk_frozen h 4, blk_frozen h 5⟩⟩
theorem put6 {w : World} {g t : Nat} {a0 a1 a2 a3 a4 a5 : Value} (h : w.heap[g]? = some (.cells #[a0, a1, a2, a3, a4, a5] t (0, 0))) (b0 b1 b2 b3 b4 b5 : Value) :
    ((((((w.setCell ⟨g, 0, none⟩ b0).setCell ⟨g, 1, none⟩ b1).setCell ⟨g, 2, none⟩ b2).setCell ⟨g, 3, none⟩ b3).setCell ⟨g, 4, none⟩ b4).setCell ⟨g, 5, none⟩ b5).heap[g]? = some (.cells #[b0, b1, b2, b3, b4, b5] t (0, 0)) :=
  blk_put (cs' := #[b0, b1, b2, b3, b4, b5]) (blk_put (cs' := #[b0, b1, b2, b3, b4, a5]) (blk_put (cs' := #[b0, b1, b2, b3, a4, a5]) (blk_put (cs' := #[b0, b1, b2, a3, a4, a5]) (blk_put (cs' := #[b0, b1, a2, a3, a4, a5]) (blk_put (cs' := #[b0, a1, a2, a3, a4, a5]) h 0 _ rfl) 1 _ rfl) 2 _ rfl) 3 _ rfl) 4 _ rfl) 5 _ rfl
theorem below6 {w W : World} {B g : Nat} (h : Below B w W) (hg : B ≤ g) (b0 b1 b2 b3 b4 b5 : Value) : Below B w ((((((W.setCell ⟨g, 0, none⟩ b0).setCell ⟨g, 1, none⟩ b1).setCell ⟨g, 2, none⟩ b2).setCell ⟨g, 3, none⟩ b3).setCell ⟨g, 4, none⟩ b4).setCell ⟨g, 5, none⟩ b5) :=
  (((((h.setCell hg _).setCell hg _).setCell hg _).setCell hg _).setCell hg _).setCell hg _
theorem far6 {W : World} {g k : Nat} (hk : k ≠ g) (b0 b1 b2 b3 b4 b5 : Value) : ((((((W.setCell ⟨g, 0, none⟩ b0).setCell ⟨g, 1, none⟩ b1).setCell ⟨g, 2, none⟩ b2).setCell ⟨g, 3, none⟩ b3).setCell ⟨g, 4, none⟩ b4).setCell ⟨g, 5, none⟩ b5).heap[k]? = W.heap[k]? :=
  (Below.heap_setCell _ _ _ _ hk).trans ((Below.heap_setCell _ _ _ _ hk).trans ((Below.heap_setCell _ _ _ _ hk).trans ((Below.heap_setCell _ _ _ _ hk).trans ((Below.heap_setCell _ _ _ _ hk).trans (Below.heap_setCell _ _ _ _ hk)))))
theorem get_cell {w : World} {A : Option Addr} {l : List Int} (hC : Kd.C (Kd.int .u8) w A l.length l) {k : Nat} (hk : k < l.length) : ∃ ad, A = some ad ∧ w.cell? (ad.add k) = some (.int .u8 (l.getD k 0)) := by
  obtain ⟨ad, cs, e, hcl, hKc, hcell⟩ := Kd.C_get hC 0 (k : Int) (by omega) (by omega)
  have e1 : cs = [.int .u8 (l.getD k 0)] := hKc
  subst e1
  have hx := hcell 0 (.int .u8 (l.getD k 0)) rfl
  simp only [Int.toNat_natCast, Nat.mul_one, Nat.add_zero, show (Kd.int .u8).sz = 1 from rfl] at hx
  exact ⟨ad, e, hx⟩
theorem cell_add (w : World) (ad : Addr) (k : Nat) (hk : 0 < k) : w.cell? ⟨ad.block, ad.off + k, none⟩ = w.cell? (ad.add k) := by
  unfold Addr.add
  rw [if_neg (by omega)]
theorem cell_add0 (w : World) (ad : Addr) : w.cell? ad = w.cell? (ad.add 0) := rfl
set_option maxHeartbeats 6400000 in
set_option maxRecDepth 100000 in
theorem Get_long (A : Option Addr) (c : Nat) (l : List Int) (w : World) (hC : Kd.C (Kd.int .u8) w A l.length l) (hc : l.length ≤ c) (hby : ∀ x ∈ l, 0 ≤ x ∧ x < 256) (h : 11 ≤ l.length) :
    Calls Tryz.prog 60 #[.slice A l.length c] w (GotP w (getP l)) := by
  have hu := Tryz.underlying50
  have h' : ¬ (l.length : Int) < 11 := by omega
  have h3 : (3 : Int) ≤ (l.length : Int) := by omega
  have h0 : (0 : Int) < (l.length : Int) := by omega
  have h1 : (1 : Int) < (l.length : Int) := by omega
  have h2 : (2 : Int) < (l.length : Int) := by omega
  obtain ⟨ad, rfl, q0⟩ := get_cell hC (k := 0) (by omega)
  obtain ⟨ad1, e1, q1⟩ := get_cell hC (k := 1) (by omega)
  obtain ⟨ad2, e2, q2⟩ := get_cell hC (k := 2) (by omega)
  cases e1
  cases e2
  obtain ⟨iu, hiu, hsz⟩ := rd_uint8
  have s3 := cut_from (P := Tryz.prog) 67 5 .i64 Tryz.underlying67 hiu 1 hsz (some ad) l.length c (3 : Int) (by omega) (by omega)
  have s7 := cut_from (P := Tryz.prog) 67 5 .i64 Tryz.underlying67 hiu 1 hsz (some ad) l.length c (7 : Int) (by omega) (by omega)
  have s11 := cut_from (P := Tryz.prog) 67 5 .i64 Tryz.underlying67 hiu 1 hsz (some ad) l.length c (11 : Int) (by omega) (by omega)
  simp only [show (3 : Int).toNat = 3 from rfl, show (7 : Int).toNat = 7 from rfl, show (11 : Int).toNat = 11 from rfl, Nat.mul_one] at s3 s7 s11
  have C3 := Kd.C_drop hC (m := 3) (by omega) hc
  have C7 := Kd.C_drop hC (m := 7) (by omega) hc
  have C11 := Kd.C_drop hC (m := 11) (by omega) hc
  simp only [show (Kd.int .u8).sz = 1 from rfl, Nat.mul_one] at C3 C7 C11
  obtain ⟨A3, hA3⟩ : ∃ A3, A3 = if c = 3 then some ad else Option.map (fun x => x.add 3) (some ad) := ⟨_, rfl⟩
  obtain ⟨A7, hA7⟩ : ∃ A7, A7 = if c = 7 then some ad else Option.map (fun x => x.add 7) (some ad) := ⟨_, rfl⟩
  obtain ⟨A11, hA11⟩ : ∃ A11, A11 = if c = 11 then some ad else Option.map (fun x => x.add 11) (some ad) := ⟨_, rfl⟩
  rw [← hA3] at s3 C3
  rw [← hA7] at s7 C7
  rw [← hA11] at s11 C11
  clear hA3 hA7 hA11
  have F3 : ∀ W, Below w.heap.size w W → Calls Tryz.prog 151 #[.slice A3 (l.length - 3) (c - 3)] W fun e w' => e = .returned (.int .u32 (foldN ((l.drop 3).take 4))) ∧ W = w' := fun W hb => by
    have h := from_calls A3 (c - 3) (l.drop 3) W (Kd.C_below C3 hb) (by rw [List.length_drop]; omega) (by rw [List.length_drop]; omega) (fun x hx => hby x (List.mem_of_mem_drop hx))
    rwa [List.length_drop] at h
  have F7 : ∀ W, Below w.heap.size w W → Calls Tryz.prog 151 #[.slice A7 (l.length - 7) (c - 7)] W fun e w' => e = .returned (.int .u32 (lenP l)) ∧ W = w' := fun W hb => by
    have h := from_calls A7 (c - 7) (l.drop 7) W (Kd.C_below C7 hb) (by rw [List.length_drop]; omega) (by rw [List.length_drop]; omega) (fun x hx => hby x (List.mem_of_mem_drop hx))
    rwa [List.length_drop] at h
  have hm : mayH (l.getD 0 0) (l.getD 1 0) (l.getD 2 0) = mayH (l.getD 0 0) (l.getD 1 0) (l.getD 2 0) := rfl
  have H3 := Aside0.mk F3
  have H7 := Aside0.mk F7
  have HC11 := Aside0.mk C11
  have HBY := Aside0.mk hby
  have HC := Aside0.mk hC
  have hS := And.intro q0 (And.intro q1 q2)
  have HS := Aside0.mk hS
  have hnr := foldN_range ((l.drop 7).take 4)
  have HN := Aside0.mk (show 0 ≤ lenP l ∧ lenP l < 4294967296 from hnr)
  clear hnr F3 F7 C3 C7 C11 hby hC hS q0 q1 q2 hm
  obtain ⟨b0, hb0⟩ : ∃ b0, l.getD 0 0 = b0 := ⟨_, rfl⟩
  obtain ⟨b1, hb1⟩ : ∃ b1, l.getD 1 0 = b1 := ⟨_, rfl⟩
  obtain ⟨b2, hb2⟩ : ∃ b2, l.getD 2 0 = b2 := ⟨_, rfl⟩
  rw [hb0, hb1, hb2] at HS
  have HB := Aside0.mk (And.intro hb0 (And.intro hb1 hb2))
  clear hb0 hb1 hb2
  have h0n : 0 < l.length := by omega
  have HS' : (fun w' : World => w'.cell? ad = some (.int .u8 b0) ∧ w'.cell? ⟨ad.block, ad.off + 1, none⟩ = some (.int .u8 b1) ∧ w'.cell? ⟨ad.block, ad.off + 2, none⟩ = some (.int .u8 b2)) w := ⟨(cell_add0 w ad).trans HS.out.1, (cell_add w ad 1 (by decide)).trans HS.out.2.1, (cell_add w ad 2 (by decide)).trans HS.out.2.2⟩
  obtain ⟨q0, q1, q2⟩ := HS'
  go_enter Tryz.func60, Tryz.ntmps60
  go_wp2_with fail
  first | (go_region_held3 (fun w' : World => w'.cell? ad = some (.int .u8 b0) ∧ w'.cell? ⟨ad.block, ad.off + 1, none⟩ = some (.int .u8 b1) ∧ w'.cell? ⟨ad.block, ad.off + 2, none⟩ = some (.int .u8 b2)) (go_keep) ((go_at_call 151; refine (H3.out _ (below_drew (below_alloc (Below.refl _ _) _))).mono ?_; rintro e w' ⟨rfl, rfl⟩))) | fail "held3"
  obtain ⟨n, hn⟩ : ∃ n, lenP l = n := ⟨_, rfl⟩
  obtain ⟨g, hg⟩ : ∃ g, foldN ((l.drop 3).take 4) = g := ⟨_, rfl⟩
  rw [hn] at H7 HN
  rw [hg]
  obtain ⟨W, hW⟩ : ∃ W, W = (w.alloc (.cells #[.int .u8 b0, .int .u8 b1, .int .u8 b2, .int .u32 g, .slice none 0 0, .slice none 0 0] 50)).drew := ⟨_, rfl⟩
  have hb : Below w.heap.size w W := by rw [hW]; exact below_drew (below_alloc (Below.refl _ _) _)
  have hx : W.heap[w.heap.size]? = some (.cells #[.int .u8 b0, .int .u8 b1, .int .u8 b2, .int .u32 g, .slice none 0 0, .slice none 0 0] 50 (0, 0)) := by rw [hW]; exact blk_new w _
  rw [← hW]
  have B1 := Aside0.mk hb
  have X1 := Aside0.mk hx
  have EN := Aside0.mk (And.intro hn hg)
  have hn0 := HN.out.1
  have hn1 := HN.out.2
  clear hb hx hW hn hg q0 q1 q2 H3 s3 h0n
  obtain ⟨⟨x0, x1, x2, x3, x4, x5⟩, ⟨y0, y1, y2, y3, y4, y5⟩⟩ := blk6p X1.out
  have hlt : w.heap.size < W.heap.size := World.block_lt_of_cell? W _ x0
  go_wp2_with fail
  refine (H7.out _ B1.out).mono ?_
  rintro e w' ⟨rfl, rfl⟩
  clear H7 s7
  go_wp2_with fail
  have hmay : Calls Tryz.prog 152 #[.agg #[.int .u8 b0, .int .u8 b1, .int .u8 b2, .int .u32 g, .slice none 0 0, .slice none 0 0]] W fun e w' => e = .returned (.bool (mayH b0 b1 b2)) ∧ Below W.heap.size W w' := packets_may.calls b0 b1 b2 g none 0 [] none 0 [] _ W (Kd.C_nil _ _) (Nat.le_refl _) (Kd.C_nil _ _) (Nat.le_refl _) (mayH_f b0 b1 b2 g [] [])
  refine hmay.mono ?_
  clear hmay
  obtain ⟨m, hm⟩ : ∃ m, mayH b0 b1 b2 = m := ⟨_, rfl⟩
  rw [hm]
  rintro e W2 ⟨rfl, hb2⟩
  have B2 := Aside0.mk (below_step B1.out hb2)
  have X2 := Aside0.mk (blk_below X1.out hb2)
  have EM := Aside0.mk hm
  clear hm hb2 x0 x1 x2 x3 x4 x5 y0 y1 y2 y3 y4 y5 hlt X1 B1
  obtain ⟨⟨x0, x1, x2, x3, x4, x5⟩, ⟨y0, y1, y2, y3, y4, y5⟩⟩ := blk6p X2.out
  have hlt : w.heap.size < W2.heap.size := World.block_lt_of_cell? W2 _ x0
  have hwu : IntKind.u64.wrap ((l.length - 11 : Nat) : Int) = ((l.length - 11 : Nat) : Int) := by
    have hm := Kd.C_max HC.out
    unfold maxLen at hm
    rw [IntKind.wrap_u64]
    omega
  cases m with
  | false =>
    go_wp2
    try simp only [Exit.inBlock, Exit.then]
    refine bodyPost_ret (results_ct rfl _ _ w.heap.size 50 #[.int .u8 0, .int .u8 0, .int .u8 0, .int .u32 0, .slice none 0 0, .slice none 0 0] (0, 0) _ rfl (put6 X2.out _ _ _ _ _ _) hu rfl (by kernel_rfl)) rfl ?_
    have e : getP l = noMsg 4 := by
      unfold getP
      rw [if_neg (by omega), HB.out.1, HB.out.2.1, HB.out.2.2, EN.out.1, EM.out]
      rfl
    rw [e]
    exact gotP_no w _ _ (below6 B2.out (Nat.le_refl _) _ _ _ _ _ _)
  | true =>
    by_cases hle : n ≤ (l.length : Int) - 11
    · have s8 := cut_to (P := Tryz.prog) 67 5 .u64 Tryz.underlying67 hiu A11 (l.length - 11) (c - 11) n hn0 (by omega) (by omega)
      have s9 := cut_from (P := Tryz.prog) 67 5 .u64 Tryz.underlying67 hiu 1 hsz A11 (l.length - 11) (c - 11) n hn0 (by omega)
      simp only [Nat.mul_one] at s9
      obtain ⟨A12, hA12⟩ : ∃ A12, A12 = if c - 11 = n.toNat then A11 else Option.map (fun x => x.add n.toNat) A11 := ⟨_, rfl⟩
      rw [← hA12] at s9
      have hl11 : (l.drop 11).length = l.length - 11 := List.length_drop
      have C8 := Kd.C_take HC11.out (m := n.toNat) (by omega)
      have C9 := Kd.C_drop HC11.out (m := n.toNat) (c := c - 11) (by omega) (by omega)
      rw [show n.toNat * (Kd.int .u8).sz = n.toNat from Nat.mul_one _, ← hA12] at C9
      have hl8 : ((l.drop 11).take n.toNat).length = n.toNat := by rw [List.length_take]; omega
      have hl9 : ((l.drop 11).drop n.toNat).length = l.length - 11 - n.toNat := by rw [List.length_drop]; omega
      have by8 : ∀ x ∈ (l.drop 11).take n.toNat, 0 ≤ x ∧ x < 256 := fun x hx => HBY.out x (List.mem_of_mem_drop (List.mem_of_mem_take hx))
      have by9 : ∀ x ∈ (l.drop 11).drop n.toNat, 0 ≤ x ∧ x < 256 := fun x hx => HBY.out x (List.mem_of_mem_drop (List.mem_of_mem_drop hx))
      obtain ⟨o1, o2, ho⟩ : ∃ o1 o2, opsP l = (o1, o2) := ⟨_, _, rfl⟩
      obtain ⟨r1, r2, hr⟩ : ∃ r1 r2, resP l = (r1, r2) := ⟨_, _, rfl⟩
      have ho' : getR opR opS putOps ((l.drop 11).take n.toNat) = (o1, o2) := by rw [← ho]; unfold opsP; rw [EN.out.1]
      have hr' : getR resR resS putResults ((l.drop 11).drop n.toNat) = (r1, r2) := by rw [← hr]; unfold resP; rw [EN.out.1]
      have F8 : ∀ W, Below w.heap.size w W → Calls Tryz.prog 43 #[.slice A11 n.toNat (c - 11)] W fun e w' => ∃ v0_ : Value, e = .returned (.tuple #[v0_, .int .i64 o2]) ∧ Kd.R k82 82 w' W.heap.size (fun _ => True) v0_ o1 ∧ Below W.heap.size W w' := fun W hb => by
        have h := rows_GetOps.calls A11 (c - 11) ((l.drop 11).take n.toNat) o1 o2 W (Kd.C_below C8 hb) (by omega) (by unfold rows_GetOps.f; rw [if_pos by8, ho'])
        rwa [hl8] at h
      have F9 : ∀ W, Below w.heap.size w W → Calls Tryz.prog 54 #[.slice A12 (l.length - 11 - n.toNat) (c - 11 - n.toNat)] W fun e w' => ∃ v0_ : Value, e = .returned (.tuple #[v0_, .int .i64 r2]) ∧ Kd.S k145 145 w' W.heap.size (fun _ => True) v0_ r1 ∧ Below W.heap.size W w' := fun W hb => by
        have h := rows_GetResults.calls A12 (c - 11 - n.toNat) ((l.drop 11).drop n.toNat) r1 r2 W (Kd.C_below C9 hb) (by omega) (by unfold rows_GetResults.f; rw [if_pos by9, hr'])
        rwa [hl9] at h
      have H8 := Aside0.mk F8
      have H9 := Aside0.mk F9
      have EO := Aside0.mk ho
      have ER := Aside0.mk hr
      have hle' : ¬ ((l.length - 11 : Nat) : Int) < n := by omega
      clear F8 F9 ho hr ho' hr' C8 C9 hl8 hl9 by8 by9 hA12 hl11
      go_wp2_with fail
      refine (H8.out _ B2.out).mono ?_
      rintro e W3 ⟨v, rfl, hO, hb3⟩
      obtain ⟨A4, c4, rfl, _⟩ := Kd.R_reads hO
      have B3 := Aside0.mk (below_step B2.out hb3)
      have X3 := Aside0.mk (blk_below X2.out hb3)
      have O3 := Aside0.mk (show Kd.R k82 82 W3 w.heap.size (fun k => w.heap.size < k ∧ k < W3.heap.size) (.slice A4 o1.length c4) o1 from Kd.R_lower (Kd.R_mono (Kd.R_bound hO) (fun k hk => ⟨by have := hk.2.1; omega, hk.2.2.1⟩)) B2.out.size)
      clear hO hb3 H8 s8 x0 x1 x2 x3 x4 x5 y0 y1 y2 y3 y4 y5 hlt X2
      obtain ⟨⟨x0, x1, x2, x3, x4, x5⟩, ⟨y0, y1, y2, y3, y4, y5⟩⟩ := blk6p X3.out
      have hlt : w.heap.size < W3.heap.size := World.block_lt_of_cell? W3 _ x0
      have X4 := Aside0.mk (blk_put (cs' := #[.int .u8 b0, .int .u8 b1, .int .u8 b2, .int .u32 g, .slice A4 o1.length c4, .slice none 0 0]) X3.out 4 (.slice A4 o1.length c4) rfl)
      have B4 := Aside0.mk (B3.out.setCell (p := ⟨w.heap.size, 4, none⟩) (Nat.le_refl _) (.slice A4 o1.length c4))
      by_cases ho2 : o2 = 0
      · subst ho2
        go_wp2_with fail
        refine (H9.out _ B4.out).mono ?_
        rintro e W5 ⟨v, rfl, hO, hb5⟩
        obtain ⟨A5, c5, rfl, _⟩ := Kd.R_reads (Kd.S_R hO)
        have B5 := Aside0.mk (below_step B4.out hb5)
        have X5 := Aside0.mk (blk_below X4.out hb5)
        have O4 := Aside0.mk (Kd.R_below (Kd.R_step O3.out (fun k hk hlt => Below.heap_setCell W3 ⟨w.heap.size, 4, none⟩ (.slice A4 o1.length c4) k (by show k ≠ w.heap.size; omega))) hb5)
        have hs4 : w.heap.size < (W3.setCell ⟨w.heap.size, 4, none⟩ (.slice A4 o1.length c4)).heap.size := (Array.getElem?_eq_some_iff.1 X4.out).1
        have hH : W3.heap.size ≤ (W3.setCell ⟨w.heap.size, 4, none⟩ (.slice A4 o1.length c4)).heap.size := ((Below.refl w.heap.size W3).setCell (p := ⟨w.heap.size, 4, none⟩) (Nat.le_refl _) (.slice A4 o1.length c4)).size
        have O5 := Aside0.mk (show Kd.S k145 145 W5 w.heap.size (fun k => w.heap.size < k ∧ W3.heap.size ≤ k) (.slice A5 r1.length c5) r1 from Kd.S_lower (Kd.S_mono (Kd.S_bound hO) (fun k hk => by have := hk.2.1; omega)) B4.out.size)
        clear hO hb5 hs4 hH H9 s9 x0 x1 x2 x3 x4 x5 y0 y1 y2 y3 y4 y5 hlt X3 X4 B3 B4 O3
        obtain ⟨⟨x0, x1, x2, x3, x4, x5⟩, ⟨y0, y1, y2, y3, y4, y5⟩⟩ := blk6p X5.out
        have hlt : w.heap.size < W5.heap.size := World.block_lt_of_cell? W5 _ x0
        have X6 := Aside0.mk (blk_put (cs' := #[.int .u8 b0, .int .u8 b1, .int .u8 b2, .int .u32 g, .slice A4 o1.length c4, .slice A5 r1.length c5]) X5.out 5 (.slice A5 r1.length c5) rfl)
        have B6 := Aside0.mk (B5.out.setCell (p := ⟨w.heap.size, 5, none⟩) (Nat.le_refl _) (.slice A5 r1.length c5))
        by_cases hr2 : r2 = 0
        · subst hr2
          go_wp2
          try simp only [Exit.inBlock, Exit.then]
          refine bodyPost_ret (results_ct rfl _ _ w.heap.size 50 #[.int .u8 b0, .int .u8 b1, .int .u8 b2, .int .u32 g, .slice A4 o1.length c4, .slice A5 r1.length c5] (0, 0) _ rfl (put6 X6.out _ _ _ _ _ _) hu rfl (by kernel_rfl)) rfl ?_
          have e : getP l = (b0, b1, b2, g, o1, r1, 0) := by
            unfold getP
            rw [if_neg (by omega), HB.out.1, HB.out.2.1, HB.out.2.2, EN.out.1, EN.out.2, EM.out, if_pos (by simp; omega), EO.out, if_pos rfl, ER.out, if_pos rfl]
          rw [e]
          exact ⟨_, _, W3.heap.size, rfl, Kd.R_mono (Kd.R_step O4.out (fun k hk hlt => (far6 (by omega) _ _ _ _ _ _).trans (Below.heap_setCell W5 ⟨w.heap.size, 5, none⟩ _ k (by show k ≠ w.heap.size; omega)))) (fun _ hk => hk.2), Kd.S_mono (Kd.S_step O5.out (fun k hk hlt => (far6 (by omega) _ _ _ _ _ _).trans (Below.heap_setCell W5 ⟨w.heap.size, 5, none⟩ _ k (by show k ≠ w.heap.size; omega)))) (fun _ hk => hk.2), below6 B6.out (Nat.le_refl _) _ _ _ _ _ _⟩
        · have hr2b : (r2 != 0) = true := by simpa using hr2
          go_wp2
          try simp only [Exit.inBlock, Exit.then]
          refine bodyPost_ret (results_ct rfl _ _ w.heap.size 50 #[.int .u8 0, .int .u8 0, .int .u8 0, .int .u32 0, .slice none 0 0, .slice none 0 0] (0, 0) _ rfl (put6 X6.out _ _ _ _ _ _) hu rfl (by kernel_rfl)) rfl ?_
          have e : getP l = noMsg r2 := by
            unfold getP
            rw [if_neg (by omega), HB.out.1, HB.out.2.1, HB.out.2.2, EN.out.1, EM.out]
            rw [if_pos (by simp; omega), EO.out, if_pos rfl, ER.out, if_neg hr2]
          rw [e]
          exact gotP_no w _ _ (below6 B6.out (Nat.le_refl _) _ _ _ _ _ _)
      · have ho2b : (o2 != 0) = true := by simpa using ho2
        go_wp2
        try simp only [Exit.inBlock, Exit.then]
        refine bodyPost_ret (results_ct rfl _ _ w.heap.size 50 #[.int .u8 0, .int .u8 0, .int .u8 0, .int .u32 0, .slice none 0 0, .slice none 0 0] (0, 0) _ rfl (put6 X4.out _ _ _ _ _ _) hu rfl (by kernel_rfl)) rfl ?_
        have e : getP l = noMsg o2 := by
          unfold getP
          rw [if_neg (by omega), HB.out.1, HB.out.2.1, HB.out.2.2, EN.out.1, EM.out]
          rw [if_pos (by simp; omega), EO.out, if_neg ho2]
        rw [e]
        exact gotP_no w _ _ (below6 B4.out (Nat.le_refl _) _ _ _ _ _ _)
    · have hle' : ((l.length - 11 : Nat) : Int) < n := by omega
      go_wp2
      try simp only [Exit.inBlock, Exit.then]
      refine bodyPost_ret (results_ct rfl _ _ w.heap.size 50 #[.int .u8 0, .int .u8 0, .int .u8 0, .int .u32 0, .slice none 0 0, .slice none 0 0] (0, 0) _ rfl (put6 X2.out _ _ _ _ _ _) hu rfl (by kernel_rfl)) rfl ?_
      have e : getP l = noMsg 4 := by
        unfold getP
        rw [if_neg (by omega), HB.out.1, HB.out.2.1, HB.out.2.2, EN.out.1, EM.out]
        rw [if_neg (by simp; omega)]
      rw [e]
      exact gotP_no w _ _ (below6 B2.out (Nat.le_refl _) _ _ _ _ _ _)
theorem packets_Get.calls2 (A0 : Option Addr) (c0 : Nat) (l0 : List Int) (r1 r2 r3 r4 : Int) (r5 : List (S82)) (r6 : List (S145)) (r7 : Int) (w : World) (hr0 : Kd.C (Kd.int .u8) w A0 l0.length l0) (hc0 : l0.length ≤ c0) (h : packets_Get.f l0 = some (r1, r2, r3, r4, r5, r6, r7)) :
    Calls Tryz.prog 60 #[.slice A0 l0.length c0] w fun e w' => ∃ (v0_ v1_ : Value) (H : Nat), e = .returned (.tuple #[.agg #[.int .u8 r1, .int .u8 r2, .int .u8 r3, .int .u32 r4, v0_, v1_], .int .i64 r7]) ∧ Kd.R k82 82 w' w.heap.size (fun k => k < H) v0_ r5 ∧ Kd.S k145 145 w' w.heap.size (fun k => H ≤ k) v1_ r6 ∧ Below w.heap.size w w' := by
  unfold packets_Get.f at h
  split at h
  case isFalse => cases h
  rename_i hby
  have hg := Option.some.inj h
  by_cases hl : l0.length < 11
  · have e : getP l0 = noMsg 4 := if_pos hl
    have k := Get_short A0 c0 l0 w hl
    rw [← e, hg] at k
    exact k
  · have k := Get_long A0 c0 l0 w hr0 hc0 hby (by omega)
    rw [hg] at k
    exact k
end Go.Proofs.YtcohodkpppmaoaaGreatDoor.Q
