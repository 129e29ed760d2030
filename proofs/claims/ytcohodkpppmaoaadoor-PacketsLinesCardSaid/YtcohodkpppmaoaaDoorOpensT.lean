
/-
  How arguments of the types of this program are read: rows, ops, changes, results.
-/
import Derived.Test.YtcohodkpppmaoaaDoorOpens
import Derived.Test.YtcohodkpppmaoaaDoorSpec
namespace Go.Proofs.YtcohodkpppmaoaaDoor
open Go.RowKit Go.ChangeShapes Go.WideShapes Go.Proofs.YtcohodkpppmaoaaDoorW.PrintWords Q

theorem u32_of_wf {n : Int} (h : (Lit.int .u32 n).wf = true) : u32Ok n := by
  simp only [Lit.wf, Bool.and_eq_true, decide_eq_true_eq] at h
  exact ⟨h.1, h.2⟩
theorem u8_of_wf {n : Int} (h : (Lit.int .u8 n).wf = true) : u8Ok n := by
  simp only [Lit.wf, Bool.and_eq_true, decide_eq_true_eq] at h
  exact ⟨h.1, h.2⟩
/-- Texts that are within the reach. -/
def sOk (s : ByteArray) : Prop := s.size ≤ 140737488351232
def rowGood (x : RowT) : Prop := sOk x.f0 ∧ rowOk x
def opGood (x : OpT) : Prop := sOk x.f1 ∧ sOk x.f2 ∧ opOk x
def rowsGood (l : List RowT) : Prop := (∀ x ∈ l, rowGood x) ∧ l.length * 24 ≤ 140737488351232
def resultGood (x : ResultT) : Prop := rowsGood x.f0

theorem opens_u8 : Opens Tryd.prog 5 (Kd.int .u8) (fun n => (Lit.int .u8 n).wf = true) := opens_int Tryd.underlying5 (by kernel_rfl)
theorem opens_u32 : Opens Tryd.prog 23 (Kd.int .u32) (fun n => (Lit.int .u32 n).wf = true) := opens_int Tryd.underlying23 (by kernel_rfl)
theorem opens_bool' : Opens Tryd.prog 4 Kd.bool (fun _ => True) := opens_bool Tryd.underlying4 (by kernel_rfl)
theorem opens_str : Opens Tryd.prog 9 Kd.string sOk := opens_string Tryd.underlying9 (by kernel_rfl)
theorem opens_kind : Opens Tryd.prog 60 (Kd.int .u8) (fun n => (Lit.int .u8 n).wf = true) := opens_int Tryd.underlying60 (by kernel_rfl)

theorem opens_row : Opens Tryd.prog 93 k93 rowGood := by
  have h := opens_struct (P := Tryd.prog) (t := 93) Tryd.underlying93 (by kernel_rfl) (opensF_cons opens_str rfl (opensF_one opens_u32 rfl))
  exact opens_iso (fun x : RowT => (x.f0, x.f1)) (fun a => ⟨a.1, a.2⟩) (fun _ => rfl) (fun _ h => ⟨h.1, u32_of_wf h.2⟩) h
theorem opens_op : Opens Tryd.prog 62 k62 opGood := by
  have h := opens_struct (P := Tryd.prog) (t := 62) Tryd.underlying62 (by kernel_rfl) (opensF_cons opens_kind rfl (opensF_cons opens_str rfl (opensF_cons opens_str rfl (opensF_one opens_u32 rfl))))
  exact opens_iso (fun x : OpT => (x.f0, x.f1, x.f2, x.f3)) (fun a => ⟨a.1, a.2.1, a.2.2.1, a.2.2.2⟩) (fun _ => rfl) (fun _ h => ⟨h.2.1, h.2.2.1, u8_of_wf h.1, u32_of_wf h.2.2.2⟩) h
theorem opens_rows : Opens Tryd.prog 57 (Kd.slice 93 k93) rowsGood :=
  opens_slice Tryd.underlying57 (by kernel_rfl) (by kernel_rfl) (by decide) opens_row
theorem opens_result : Opens Tryd.prog 59 k59 resultGood := by
  have h := opens_struct (P := Tryd.prog) (t := 59) Tryd.underlying59 (by kernel_rfl) (opensF_one opens_rows rfl)
  exact opens_iso (fun x : ResultT => x.f0) (fun a => ⟨a⟩) (fun _ => rfl) (fun _ h => h) h
theorem opens_ops : Opens Tryd.prog 24 (Kd.slice 62 k62) (fun l => (∀ x ∈ l, opGood x) ∧ l.length * 48 ≤ 140737488351232) :=
  opens_slice Tryd.underlying24 (by kernel_rfl) (by kernel_rfl) (by decide) opens_op
theorem opens_results : Opens Tryd.prog 25 (Kd.slice 59 k59) (fun l => (∀ x ∈ l, resultGood x) ∧ l.length * 24 ≤ 140737488351232) :=
  opens_slice Tryd.underlying25 (by kernel_rfl) (by kernel_rfl) (by decide) opens_result
theorem opens_bytes : Opens Tryd.prog 32 (Kd.slice 5 (Kd.int .u8)) (fun l => (∀ x ∈ l, (Lit.int .u8 x).wf = true) ∧ l.length * 1 ≤ 140737488351232) :=
  opens_slice Tryd.underlying32 (by kernel_rfl) (by kernel_rfl) (by decide) opens_u8

/-- A slice argument, opened. -/
theorem opens_arg {H : Type} {enc : TypeId × Value → H} {w : World} {base : Nat} {spare : Nat → Bool} {held : Bool} {P : Program} {t e : TypeId} {α : Type} {d : Kd α} {Good : List α → Prop} (ho : Opens P t (Kd.slice e d) Good)
    {a : Option Addr} {len cap : Nat} {dt : DataW H} {p : List MemPlace} (h : DataW.Trod enc P w base spare held t (.slice a len cap) dt p) (hw : ∀ n ∈ dt.weights P t, n ≤ reachBytes) :
    ∃ l : List α, len = l.length ∧ d.C w a l.length l ∧ l.length ≤ cap ∧ Good l := by
  obtain ⟨fuel, hf⟩ := h
  obtain ⟨l, ⟨A, c, hc, hl, hC⟩, hG⟩ := ho.opened hf hw
  simp [Value.cells] at hc
  obtain ⟨rfl, rfl, rfl⟩ := hc
  exact ⟨l, rfl, hC, hl, hG⟩
/-- A struct argument, opened. -/
theorem opens_agg {H : Type} {enc : TypeId × Value → H} {w : World} {base : Nat} {spare : Nat → Bool} {held : Bool} {P : Program} {t : TypeId} {α : Type} {d : Kd α} {Good : α → Prop} (ho : Opens P t d Good)
    {cs : Array Value} {dt : DataW H} {p : List MemPlace} (h : DataW.Trod enc P w base spare held t (.agg cs) dt p) (hw : ∀ n ∈ dt.weights P t, n ≤ reachBytes) :
    ∃ x : α, d.K w x cs.toList ∧ Good x := by
  obtain ⟨fuel, hf⟩ := h
  exact ho.opened hf hw
end Go.Proofs.YtcohodkpppmaoaaDoor
