/-
  How arguments of the types of this program are read: rows, ops, changes, results.
-/
import Derived.Test.YtcohodkpppmaoaaOpens
import Derived.Test.YtcohodkpppmaoaaSpec
namespace Go.Proofs.Ytcohodkpppmaoaa
open Go.RowKit Go.ChangeShapes Go.WideShapes Go.Proofs.YtcohodkpppmaoaaW.PrintWords Q

theorem u32_of_wf {n : Int} (h : (Lit.int .u32 n).wf = true) : u32Ok n := by
  simp only [Lit.wf, Bool.and_eq_true, decide_eq_true_eq] at h
  exact ⟨h.1, h.2⟩
theorem u8_of_wf {n : Int} (h : (Lit.int .u8 n).wf = true) : u8Ok n := by
  simp only [Lit.wf, Bool.and_eq_true, decide_eq_true_eq] at h
  exact ⟨h.1, h.2⟩
/-- Texts that are within the reach. -/
def sOk (s : ByteArray) : Prop := s.size ≤ 140737488351232
def rowGood (x : RowT) : Prop := sOk x.f0 ∧ rowOk x
def changeGood (x : ChangeT) : Prop := sOk x.f0 ∧ changeOk x
def opGood (x : OpT) : Prop := sOk x.f1 ∧ sOk x.f2 ∧ opOk x
def rowsGood (l : List RowT) : Prop := (∀ x ∈ l, rowGood x) ∧ l.length * 24 ≤ 140737488351232
def resultGood (x : ResultT) : Prop := rowsGood x.f0

theorem opens_u8 : Opens Try.prog 5 (Kd.int .u8) (fun n => (Lit.int .u8 n).wf = true) := opens_int Try.underlying5 (by kernel_rfl)
theorem opens_u32 : Opens Try.prog 24 (Kd.int .u32) (fun n => (Lit.int .u32 n).wf = true) := opens_int Try.underlying24 (by kernel_rfl)
theorem opens_bool' : Opens Try.prog 4 Kd.bool (fun _ => True) := opens_bool Try.underlying4 (by kernel_rfl)
theorem opens_str : Opens Try.prog 9 Kd.string sOk := opens_string Try.underlying9 (by kernel_rfl)
theorem opens_kind : Opens Try.prog 66 (Kd.int .u8) (fun n => (Lit.int .u8 n).wf = true) := opens_int Try.underlying66 (by kernel_rfl)

theorem opens_row : Opens Try.prog 73 k73 rowGood := by
  have h := opens_struct (P := Try.prog) (t := 73) Try.underlying73 (by kernel_rfl) (opensF_cons opens_str rfl (opensF_one opens_u32 rfl))
  exact opens_iso (fun x : RowT => (x.f0, x.f1)) (fun a => ⟨a.1, a.2⟩) (fun _ => rfl) (fun _ h => ⟨h.1, u32_of_wf h.2⟩) h
theorem opens_change : Opens Try.prog 26 k26 changeGood := by
  have h := opens_struct (P := Try.prog) (t := 26) Try.underlying26 (by kernel_rfl) (opensF_cons opens_str rfl (opensF_cons opens_u32 rfl (opensF_one opens_bool' rfl)))
  exact opens_iso (fun x : ChangeT => (x.f0, x.f1, x.f2)) (fun a => ⟨a.1, a.2.1, a.2.2⟩) (fun _ => rfl) (fun _ h => ⟨h.1, u32_of_wf h.2.1⟩) h
theorem opens_op : Opens Try.prog 68 k68 opGood := by
  have h := opens_struct (P := Try.prog) (t := 68) Try.underlying68 (by kernel_rfl) (opensF_cons opens_kind rfl (opensF_cons opens_str rfl (opensF_cons opens_str rfl (opensF_one opens_u32 rfl))))
  exact opens_iso (fun x : OpT => (x.f0, x.f1, x.f2, x.f3)) (fun a => ⟨a.1, a.2.1, a.2.2.1, a.2.2.2⟩) (fun _ => rfl) (fun _ h => ⟨h.2.1, h.2.2.1, u8_of_wf h.1, u32_of_wf h.2.2.2⟩) h
theorem opens_rows : Opens Try.prog 69 (Kd.slice 73 k73) rowsGood :=
  opens_slice Try.underlying69 (by kernel_rfl) (by kernel_rfl) (by decide) opens_row
theorem opens_result : Opens Try.prog 71 k71 resultGood := by
  have h := opens_struct (P := Try.prog) (t := 71) Try.underlying71 (by kernel_rfl) (opensF_one opens_rows rfl)
  exact opens_iso (fun x : ResultT => x.f0) (fun a => ⟨a⟩) (fun _ => rfl) (fun _ h => h) h
theorem opens_ops : Opens Try.prog 35 (Kd.slice 68 k68) (fun l => (∀ x ∈ l, opGood x) ∧ l.length * 48 ≤ 140737488351232) :=
  opens_slice Try.underlying35 (by kernel_rfl) (by kernel_rfl) (by decide) opens_op
theorem opens_changes : Opens Try.prog 27 (Kd.slice 26 k26) (fun l => (∀ x ∈ l, changeGood x) ∧ l.length * 24 ≤ 140737488351232) :=
  opens_slice Try.underlying27 (by kernel_rfl) (by kernel_rfl) (by decide) opens_change
theorem opens_results : Opens Try.prog 36 (Kd.slice 71 k71) (fun l => (∀ x ∈ l, resultGood x) ∧ l.length * 24 ≤ 140737488351232) :=
  opens_slice Try.underlying36 (by kernel_rfl) (by kernel_rfl) (by decide) opens_result
theorem opens_bytes : Opens Try.prog 28 (Kd.slice 5 (Kd.int .u8)) (fun l => (∀ x ∈ l, (Lit.int .u8 x).wf = true) ∧ l.length * 1 ≤ 140737488351232) :=
  opens_slice Try.underlying28 (by kernel_rfl) (by kernel_rfl) (by decide) opens_u8

/-- A slice argument, opened. -/
theorem opens_arg {H : Type} {enc : TypeId × Value → H} {w : World} {base : Nat} {spare : Nat → Bool} {held : Bool} {P : Program} {t e : TypeId} {α : Type} {d : Kd α} {Good : List α → Prop} (ho : Opens P t (Kd.slice e d) Good)
    {a : Option Addr} {len cap : Nat} {dt : DataW H} {p : List MemPlace} (h : DataW.Trod enc P w base spare held t (.slice a len cap) dt p) (hw : ∀ n ∈ dt.weights P t, n ≤ reachBytes) :
    ∃ l : List α, len = l.length ∧ d.C w a l.length l ∧ l.length ≤ cap ∧ Good l := by
  obtain ⟨fuel, hf⟩ := h
  obtain ⟨l, ⟨A, c, hc, hl, hC⟩, hG⟩ := ho.opened hf hw
  simp [Value.cells] at hc
  obtain ⟨rfl, rfl, rfl⟩ := hc
  exact ⟨l, rfl, hC, hl, hG⟩
/-- A struct argument, opened. -/
theorem opens_agg {H : Type} {enc : TypeId × Value → H} {w : World} {base : Nat} {spare : Nat → Bool} {held : Bool} {P : Program} {t : TypeId} {α : Type} {d : Kd α} {Good : α → Prop} (ho : Opens P t d Good)
    {cs : Array Value} {dt : DataW H} {p : List MemPlace} (h : DataW.Trod enc P w base spare held t (.agg cs) dt p) (hw : ∀ n ∈ dt.weights P t, n ≤ reachBytes) :
    ∃ x : α, d.K w x cs.toList ∧ Good x := by
  obtain ⟨fuel, hf⟩ := h
  exact ho.opened hf hw
end Go.Proofs.Ytcohodkpppmaoaa
