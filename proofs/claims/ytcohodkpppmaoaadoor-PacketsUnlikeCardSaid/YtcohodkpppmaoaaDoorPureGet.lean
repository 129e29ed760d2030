
/-
  What is put is got, what is got was put: the plain laws of the reader. No program in sight.
-/
import Derived.Test.YtcohodkpppmaoaaDoorGet
namespace Go.Proofs.YtcohodkpppmaoaaDoor.Q
open Go.RowKit Go.Proofs.YtcohodkpppmaoaaDoorW.PrintWords Go.Proofs.YtcohodkpppmaoaaDoorW.PrintLast Go.Proofs.YtcohodkpppmaoaaDoorW.PrintMore
set_option linter.unusedVariables false

theorem takeR_app (a b : List Int) (n : Nat) (h : a.length = n) : takeR (a ++ b, false) n = a := by
  unfold takeR
  rw [if_neg (by simp; omega)]
  show (a ++ b).take n = a
  rw [← h, List.take_left]
theorem takeS_app (a b : List Int) (n : Nat) (h : a.length = n) : takeS (a ++ b, false) n = (b, false) := by
  unfold takeS
  rw [if_neg (by simp; omega)]
  show ((a ++ b).drop n, false) = (b, false)
  rw [← h, List.drop_left]
theorem fold_num4 (n : Int) (h0 : 0 ≤ n) (h1 : n ≤ 4294967295) : foldN (num4 n) = n := by
  show ((((((0 * 256 + n / 16777216 % 256) % 4294967296) * 256 + n / 65536 % 256) % 4294967296) * 256 + n / 256 % 256) % 4294967296 * 256 + n % 256) % 4294967296 = n
  omega
theorem fold_num2 (n : Int) (h0 : 0 ≤ n) (h1 : n ≤ 65535) : foldN (num2 n) = n := by
  show ((0 * 256 + n / 256 % 256) % 4294967296 * 256 + n % 256) % 4294967296 = n
  omega
theorem fold_one (n : Int) (h0 : 0 ≤ n) (h1 : n ≤ 255) : foldN [n] = n := by
  show (0 * 256 + n) % 4294967296 = n
  omega
theorem num4_app (n : Int) (b : List Int) (h0 : 0 ≤ n) (h1 : n ≤ 4294967295) : numR (num4 n ++ b, false) 4 = n ∧ takeS (num4 n ++ b, false) 4 = (b, false) := by
  refine ⟨?_, takeS_app _ _ _ rfl⟩
  unfold numR
  rw [takeR_app _ _ 4 rfl, fold_num4 n h0 h1]
theorem num2_app (n : Int) (b : List Int) (h0 : 0 ≤ n) (h1 : n ≤ 65535) : numR (num2 n ++ b, false) 2 = n ∧ takeS (num2 n ++ b, false) 2 = (b, false) := by
  refine ⟨?_, takeS_app _ _ _ rfl⟩
  unfold numR
  rw [takeR_app _ _ 2 rfl, fold_num2 n h0 h1]
theorem one_app (n : Int) (b : List Int) (h0 : 0 ≤ n) (h1 : n ≤ 255) : numR (n :: b, false) 1 = n ∧ takeS (n :: b, false) 1 = (b, false) := by
  refine ⟨?_, takeS_app [n] _ _ rfl⟩
  unfold numR
  rw [show n :: b = [n] ++ b from rfl, takeR_app _ _ 1 rfl, fold_one n h0 h1]
theorem str_bytes (s : ByteArray) : strOfNums (bytesOf s) = s := by
  unfold strOfNums bytesOf
  simp only [List.map_map]
  have : (fun x : Int => UInt8.ofNat x.toNat) ∘ (fun b : UInt8 => (b.toNat : Int)) = id := by funext b; simp
  rw [this]
  simp
theorem text_app (s : ByteArray) (b : List Int) (h : s.size ≤ 255) : textR (textB s ++ b, false) = s ∧ textS (textB s ++ b, false) = (b, false) := by
  have e : textB s ++ b = ((s.size : Int) % 256) :: (bytesOf s ++ b) := rfl
  have h1 := one_app ((s.size : Int) % 256) (bytesOf s ++ b) (by omega) (by omega)
  have e2 : ((s.size : Int) % 256).toNat = s.size := by omega
  unfold textR textS
  rw [e, h1.1, h1.2, e2, takeR_app _ _ _ (bytesOf_length s), takeS_app _ _ _ (bytesOf_length s), str_bytes]
  exact ⟨rfl, rfl⟩

theorem sevN_flat {α : Type} (r : RdS → α) (st : RdS → RdS) (B : α → List Int) (good : α → Prop) (h : ∀ x rest, good x → r (B x ++ rest, false) = x ∧ st (B x ++ rest, false) = (rest, false)) (rest : List Int) :
    ∀ l : List α, (∀ x ∈ l, good x) → sevN r st l.length (l.flatMap B ++ rest, false) = l ∧ sevNS r st l.length (l.flatMap B ++ rest, false) = (rest, false)
  | [], _ => ⟨rfl, rfl⟩
  | x :: l, hg => by
    have hx := h x (l.flatMap B ++ rest) (hg x List.mem_cons_self)
    have ih := sevN_flat r st B good h rest l (fun y hy => hg y (List.mem_cons_of_mem _ hy))
    rw [List.flatMap_cons, List.append_assoc, List.length_cons, sevN, sevNS, if_neg (by simp), if_neg (by simp), hx.1, hx.2, ih.1, ih.2]
    exact ⟨rfl, rfl⟩
theorem sev_flat {α : Type} (r : RdS → α) (st : RdS → RdS) (B : α → List Int) (good : α → Prop) (h : ∀ x rest, good x → r (B x ++ rest, false) = x ∧ st (B x ++ rest, false) = (rest, false)) (rest : List Int)
    (l : List α) (hg : ∀ x ∈ l, good x) (hl : l.length ≤ 65535) : sevR r st (num2 l.length ++ l.flatMap B ++ rest, false) = l ∧ sevS r st (num2 l.length ++ l.flatMap B ++ rest, false) = (rest, false) := by
  have h1 := num2_app (l.length : Int) (l.flatMap B ++ rest) (by omega) (by omega)
  unfold sevR sevS
  rw [List.append_assoc, h1.1, h1.2, Int.toNat_natCast]
  exact sevN_flat r st B good h rest l hg

def opFit (x : OpT) : Prop := opOk x ∧ opE x = 0
def rowFit (x : RowT) : Prop := rowOk x ∧ isKey x.f0 = true
def resFit (x : ResultT) : Prop := resultOk x ∧ resultE x = 0
theorem op_app (x : OpT) (rest : List Int) (h : opFit x) : opR (opB x ++ rest, false) = x ∧ opS (opB x ++ rest, false) = (rest, false) := by
  have hs := op_sizes x h.2
  have e : opB x ++ rest = x.f0 :: (textB x.f1 ++ (textB x.f2 ++ (num4 x.f3 ++ rest))) := by unfold opB; simp
  have h1 := one_app x.f0 (textB x.f1 ++ (textB x.f2 ++ (num4 x.f3 ++ rest))) h.1.1.1 h.1.1.2
  have h2 := text_app x.f1 (textB x.f2 ++ (num4 x.f3 ++ rest)) (by omega)
  have h3 := text_app x.f2 (num4 x.f3 ++ rest) (by omega)
  have h4 := num4_app x.f3 rest h.1.2.1 h.1.2.2
  have hm : x.f0 % 256 = x.f0 := by have := h.1.1; unfold u8Ok at this; omega
  unfold opR opS
  rw [e, h1.1, h1.2, h2.1, h2.2, h3.1, h3.2, h4.1, h4.2, hm]
  exact ⟨rfl, rfl⟩
theorem row_app (x : RowT) (rest : List Int) (h : rowFit x) : rowR (rowB x ++ rest, false) = x ∧ rowS (rowB x ++ rest, false) = (rest, false) := by
  have hs := isKey_size x.f0 h.2
  have e : rowB x ++ rest = textB x.f0 ++ (num4 x.f1 ++ rest) := by unfold rowB; simp
  have h1 := text_app x.f0 (num4 x.f1 ++ rest) (by omega)
  have h3 := num4_app x.f1 rest h.1.1 h.1.2
  unfold rowR rowS
  rw [e, h1.1, h1.2, h3.1, h3.2]
  exact ⟨rfl, rfl⟩
theorem res_app (x : ResultT) (rest : List Int) (h : resFit x) : resR (resultB x ++ rest, false) = x ∧ resS (resultB x ++ rest, false) = (rest, false) := by
  have ⟨hm, hl⟩ := result_ok x h.2
  have hg : ∀ r ∈ x.f0, rowFit r := fun r hr => ⟨h.1 r hr, by
    unfold mayRows at hm
    rw [List.all_eq_true] at hm
    exact hm r hr⟩
  have := sev_flat rowR rowS rowB rowFit row_app rest x.f0 hg (by omega)
  unfold resR resS resultB rowsB
  rw [this.1, this.2]
  exact ⟨rfl, rfl⟩

/-! ### a list that may be put is got back -/
theorem putList_ok {α : Type} {may : α → Int} (hmay : ∀ x, may x = 0 ∨ may x = 1 ∨ may x = 3) {most : Nat} {one : α → List Int} {l : List α} (h : (putList may most one l).2 = 0) :
    (∀ x ∈ l, may x = 0) ∧ l.length ≤ most ∧ (putList may most one l).1 = num2 l.length ++ l.flatMap one := by
  unfold putList at h ⊢
  split at h
  · cases h
  · rename_i h1
    rw [if_neg h1]
    split at h
    · cases h
    · rename_i h2
      rw [if_neg h2]
      refine ⟨fun x hx => ?_, ?_, rfl⟩
      · rcases hmay x with e | e | e
        · exact e
        · exact absurd (List.any_eq_true.2 ⟨x, hx, by simp [e]⟩) h1
        · exact absurd (by rw [List.any_eq_true.2 ⟨x, hx, by simp [e]⟩]; rfl) h2
      · rcases Nat.lt_or_ge most l.length with hl | hl
        · exact absurd (by rw [decide_eq_true hl]; simp) h2
        · exact hl
theorem putList_err {α : Type} {may : α → Int} {most : Nat} {one : α → List Int} {l : List α} (h : (putList may most one l).2 ≠ 0) : (putList may most one l).1 = [] := by
  unfold putList at h ⊢
  split
  · rfl
  · rename_i h1
    rw [if_neg h1] at h
    split
    · rfl
    · rename_i h2
      rw [if_neg h2] at h
      exact absurd rfl h
theorem opE_cases (x : OpT) : opE x = 0 ∨ opE x = 1 ∨ opE x = 3 := by unfold opE; split <;> simp
theorem resultE_cases (x : ResultT) : resultE x = 0 ∨ resultE x = 1 ∨ resultE x = 3 := by unfold resultE; split <;> (try split) <;> simp
theorem getR_put {α : Type} (r : RdS → α) (st : RdS → RdS) (B : α → List Int) (good : α → Prop) (h : ∀ x rest, good x → r (B x ++ rest, false) = x ∧ st (B x ++ rest, false) = (rest, false))
    (put : List α → List Int × Int) (l : List α) (hg : ∀ x ∈ l, good x) (hl : l.length ≤ 65535) (hp : put l = (num2 l.length ++ l.flatMap B, 0)) : getR r st put (num2 l.length ++ l.flatMap B) = (l, 0) := by
  have h1 := sev_flat r st B good h [] l hg hl
  rw [List.append_nil] at h1
  unfold getR
  rw [h1.1, h1.2, hp]
  simp
theorem getOps_put (l : List OpT) (hok : ∀ x ∈ l, opOk x) (h : (putOps l).2 = 0) : getR opR opS putOps (putOps l).1 = (l, 0) := by
  obtain ⟨h1, h2, h3⟩ := putList_ok opE_cases h
  have e : (putOps l).1 = num2 l.length ++ l.flatMap opB := h3
  rw [e]
  exact getR_put opR opS opB opFit op_app putOps l (fun x hx => ⟨hok x hx, h1 x hx⟩) (by omega) (Prod.ext e h)
theorem getResults_put (l : List ResultT) (hok : ∀ x ∈ l, resultOk x) (h : (putResults l).2 = 0) : getR resR resS putResults (putResults l).1 = (l, 0) := by
  obtain ⟨h1, h2, h3⟩ := putList_ok resultE_cases h
  have e : (putResults l).1 = num2 l.length ++ l.flatMap resultB := h3
  rw [e]
  exact getR_put resR resS resultB resFit res_app putResults l (fun x hx => ⟨hok x hx, h1 x hx⟩) (by omega) (Prod.ext e h)

/-! ### what is got was put so -/
def inB (l : List Int) : Prop := ∀ x ∈ l, 0 ≤ x ∧ x < 256
theorem inB_app {a b : List Int} (h : inB a) (k : inB b) : inB (a ++ b) := fun x hx => by
  rcases List.mem_append.1 hx with hx | hx
  · exact h x hx
  · exact k x hx
theorem inB_flat {α : Type} {B : α → List Int} : ∀ {l : List α}, (∀ x ∈ l, inB (B x)) → inB (l.flatMap B)
  | [], _ => fun x hx => by cases hx
  | y :: l, h => by
    rw [List.flatMap_cons]
    exact inB_app (h y List.mem_cons_self) (inB_flat (fun x hx => h x (List.mem_cons_of_mem _ hx)))
theorem inB_num2 (n : Int) : inB (num2 n) := fun x hx => by
  simp only [num2, List.mem_cons, List.not_mem_nil, or_false] at hx
  rcases hx with rfl | rfl <;> omega
theorem inB_num4 (n : Int) : inB (num4 n) := fun x hx => by
  simp only [num4, List.mem_cons, List.not_mem_nil, or_false] at hx
  rcases hx with rfl | rfl | rfl | rfl <;> omega
theorem inB_bytes (s : ByteArray) : inB (bytesOf s) := fun x hx => by
  unfold bytesOf at hx
  obtain ⟨b, _, rfl⟩ := List.mem_map.1 hx
  have := b.toNat_lt
  omega
theorem inB_text (s : ByteArray) : inB (textB s) := fun x hx => by
  rcases List.mem_cons.1 hx with rfl | hx
  · omega
  · exact inB_bytes s x hx
theorem inB_one {n : Int} (h0 : 0 ≤ n) (h1 : n ≤ 255) : inB [n] := fun x hx => by
  simp only [List.mem_cons, List.not_mem_nil, or_false] at hx
  omega
theorem inB_op (x : OpT) (h : opOk x) : inB (opB x) := inB_app (inB_app (inB_app (inB_one h.1.1 h.1.2) (inB_text _)) (inB_text _)) (inB_num4 _)
theorem inB_row (x : RowT) : inB (rowB x) := inB_app (inB_text _) (inB_num4 _)
theorem inB_result (x : ResultT) : inB (resultB x) := inB_app (inB_num2 _) (inB_flat (fun r _ => inB_row r))
theorem strInj {a b : List Int} (ha : inB a) (hb : inB b) (h : ((strOfNums a).toList == (strOfNums b).toList) = true) : a = b := by
  have h1 : (strOfNums a).toList = (strOfNums b).toList := by simpa using h
  rw [ByteArray.toList_eq, ByteArray.toList_eq, strOfNums_data, strOfNums_data] at h1
  have back : ∀ l : List Int, inB l → (l.map fun n => UInt8.ofNat n.toNat).map (fun b => (b.toNat : Int)) = l := by
    intro l hl
    rw [List.map_map]
    conv => rhs; rw [← List.map_id l]
    refine List.map_congr_left fun x hx => ?_
    have := hl x hx
    simp
    omega
  rw [← back a ha, ← back b hb, h1]
theorem getR_got {α : Type} {r : RdS → α} {st : RdS → RdS} {put : List α → List Int × Int} {l0 : List Int} {m : List α} {e : Int} (h : getR r st put l0 = (m, e)) (hb : inB l0) :
    (e = 4 ∧ m = []) ∨ (e = 0 ∧ m = sevR r st (l0, false) ∧ (put m).2 = 0 ∧ (inB (put m).1 → (put m).1 = l0)) := by
  unfold getR at h
  split at h
  · injection h with h1 h2
    exact .inl ⟨h2.symm, h1.symm⟩
  · split at h
    · rename_i hp
      split at h
      · rename_i he
        injection h with h1 h2
        subst h1
        exact .inr ⟨h2.symm, rfl, hp, fun hi => (strInj hb hi he).symm⟩
      · injection h with h1 h2
        exact .inl ⟨h2.symm, h1.symm⟩
    · injection h with h1 h2
      exact .inl ⟨h2.symm, h1.symm⟩
theorem put_inB {α : Type} {may : α → Int} (hmay : ∀ x, may x = 0 ∨ may x = 1 ∨ may x = 3) {most : Nat} {one : α → List Int} {l : List α} (h : (putList may most one l).2 = 0) (hb : ∀ x ∈ l, inB (one x)) : inB (putList may most one l).1 := by
  rw [(putList_ok hmay h).2.2]
  exact inB_app (inB_num2 _) (inB_flat hb)
theorem opR_ok (s : RdS) : opOk (opR s) := by
  have h := numR_range (textS (textS (takeS s 1))) 4
  unfold opR opOk u8Ok u32Ok
  dsimp only
  generalize numR (textS (textS (takeS s 1))) 4 = a at *
  generalize numR s 1 = b
  omega
theorem gotOps {l0 : List Int} {m : List OpT} {e : Int} (h : getR opR opS putOps l0 = (m, e)) (hb : inB l0) : (e = 4 ∧ m = []) ∨ (e = 0 ∧ m.length ≤ 16 ∧ (putOps m).2 = 0 ∧ (putOps m).1 = l0) := by
  rcases getR_got h hb with h1 | ⟨h1, h2, h3, h4⟩
  · exact .inl h1
  · refine .inr ⟨h1, (putList_ok opE_cases h3).2.1, h3, h4 (put_inB opE_cases h3 (fun x hx => inB_op x ?_))⟩
    rw [h2] at hx
    exact sevN_all (p := opOk) (fun _ h => h.op) (fun s _ => opR_ok s) _ _ (Bts.take (show Bts (l0, false) from hb) 2) x hx
theorem gotResults {l0 : List Int} {m : List ResultT} {e : Int} (h : getR resR resS putResults l0 = (m, e)) (hb : inB l0) : (e = 4 ∧ m = []) ∨ (e = 0 ∧ m.length ≤ 16 ∧ (putResults m).2 = 0 ∧ (putResults m).1 = l0 ∧ ∀ x ∈ m, x.f0.length ≤ 9223372036854775807) := by
  rcases getR_got h hb with h1 | ⟨h1, h2, h3, h4⟩
  · exact .inl h1
  · exact .inr ⟨h1, (putList_ok resultE_cases h3).2.1, h3, h4 (put_inB resultE_cases h3 (fun x _ => inB_result x)), fun x hx => by rw [h2] at hx; exact sevRes_rows (l0, false) hb x hx⟩

end Go.Proofs.YtcohodkpppmaoaaDoor.Q
