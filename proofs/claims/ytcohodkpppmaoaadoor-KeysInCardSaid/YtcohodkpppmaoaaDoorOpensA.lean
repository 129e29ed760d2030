/-
  Small arrays as arguments, opened.
-/
import Derived.Test.YtcohodkpppmaoaaDoorOpens
import Derived.OpenShut
import Derived.WideShapes
namespace Go.Proofs.YtcohodkpppmaoaaDoor
open Go.RowKit Go.Proofs.YtcohodkpppmaoaaDoorW.PrintWords
set_option linter.unusedVariables false
section
variable {P : Program} {t e : TypeId}
/-- An array's places, as a struct's fields. -/
def arrFields (n : Nat) (e : TypeId) (sz : Nat) : List Field := (List.range n).map fun i => { name := "", type := e, offset := i * sz, embedded := false, tag := "", pkgPath := "", byteOffset := 0 }
theorem opens_array {n : Nat} {α : Type} {d : Kd α} {Good : α → Prop} (ht : P.underlying t = some (.array n e)) (hc : P.cellsOf t = d.sz) (h : OpensF P (arrFields n e (P.cellsOf e)) 0 d Good) : Opens P t d Good := by
  refine ⟨hc, fun {H enc w base spare held fuel cs x} hr hw => ?_⟩
  obtain ⟨xs, m, _, rfl, hl, hx, hf⟩ := DataW.trod_array ht hr
  have hw' : ∀ k ∈ (DataW.agg (xs.map (·.1)) : DataW H).weights P t, k ≤ reachBytes := hw
  simp only [DataW.weights, ht] at hw'
  have hfl : (arrFields n e (P.cellsOf e)).length = n := by unfold arrFields; simp
  have hget : ∀ (i : Nat) (f : Field), (arrFields n e (P.cellsOf e))[i]? = some f → i < n ∧ f.type = e ∧ f.offset = i * P.cellsOf e := by
    intro i f hi
    have hin : i < n := by
      have := (List.getElem?_eq_some_iff.1 hi).1
      omega
    unfold arrFields at hi
    rw [List.getElem?_map, List.getElem?_range hin] at hi
    simp at hi
    subst hi
    exact ⟨hin, rfl, rfl⟩
  have := h.go (enc := enc) (w := w) (base := base) (spare := spare) (held := held) (n := m) cs xs (by omega) (by omega) (fun i f hi => by
    obtain ⟨h1, h2, h3⟩ := hget i f hi
    rw [h2, h3]
    exact hf i h1) (fun i f y hi hy k hk => by
    obtain ⟨h1, h2, h3⟩ := hget i f hi
    rw [h2] at hk
    refine hw' k ?_
    refine weightsAll_mem (d := y.1) (List.mem_map.2 ⟨y, List.mem_of_getElem? hy, rfl⟩) hk)
  simpa using this
theorem opens_arr2 {α : Type} {d : Kd α} {G : α → Prop} (ht : P.underlying t = some (.array 2 e)) (hc : P.cellsOf t = d.sz + d.sz) (h : Opens P e d G) : Opens P t (Kd.pair d d) (fun x => G x.1 ∧ G x.2) := by
  refine opens_array ht hc ?_
  rw [h.cells]
  exact opensF_cons h (Nat.zero_mul _) (opensF_one h (by show 1 * d.sz = 0 + d.sz; omega))
theorem opens_arr3 {α : Type} {d : Kd α} {G : α → Prop} (ht : P.underlying t = some (.array 3 e)) (hc : P.cellsOf t = d.sz + (d.sz + d.sz)) (h : Opens P e d G) : Opens P t (Kd.pair d (Kd.pair d d)) (fun x => G x.1 ∧ G x.2.1 ∧ G x.2.2) := by
  refine opens_array ht hc ?_
  rw [h.cells]
  exact opensF_cons h (Nat.zero_mul _) (opensF_cons h (by show 1 * d.sz = 0 + d.sz; omega) (opensF_one h (by show 2 * d.sz = 0 + d.sz + d.sz; omega)))
theorem opens_agr {H : Type} {enc : TypeId × Value → H} {w : World} {base : Nat} {spare : Nat → Bool} {held : Bool} {α : Type} {d : Kd α} {Good : α → Prop} (ho : Opens P t d Good)
    {cs : Array Value} {dt : DataW H} {p : List MemPlace} (h : DataW.Trod enc P w base spare held t (.agg cs) dt p) (hw : ∀ n ∈ dt.weights P t, n ≤ reachBytes) :
    ∃ x : α, d.K w x cs.toList ∧ Good x := by
  obtain ⟨fuel, hf⟩ := h
  exact ho.opened hf hw
theorem okWide_arr {n : Nat} {w : World} {r : Reach} {base : Nat} {v : Value} (ht : P.underlying t = some (.array n e)) (h : Value.okWide P w r base t v) : ∃ cs, v = .agg cs := by
  simp only [Value.okWide, ht] at h
  obtain ⟨cs, h1, _⟩ := h
  exact ⟨cs, h1⟩
theorem arr3_int {k : IntKind} {w : World} {x : Int × Int × Int} {cs : List Value} (h : (Kd.pair (Kd.int k) (Kd.pair (Kd.int k) (Kd.int k))).K w x cs) : cs = [.int k x.1, .int k x.2.1, .int k x.2.2] := by
  obtain ⟨_, _, rfl, rfl, ⟨_, _, rfl, rfl, rfl⟩⟩ := h
  rfl
theorem arr3_str {w : World} {x : ByteArray × ByteArray × ByteArray} {cs : List Value} (h : (Kd.pair Kd.string (Kd.pair Kd.string Kd.string)).K w x cs) : cs = [.string x.1, .string x.2.1, .string x.2.2] := by
  obtain ⟨_, _, rfl, rfl, ⟨_, _, rfl, rfl, rfl⟩⟩ := h
  rfl
theorem arr2_str {w : World} {x : ByteArray × ByteArray} {cs : List Value} (h : (Kd.pair Kd.string Kd.string).K w x cs) : cs = [.string x.1, .string x.2] := by
  obtain ⟨_, _, rfl, rfl, rfl⟩ := h
  rfl
end
end Go.Proofs.YtcohodkpppmaoaaDoor
