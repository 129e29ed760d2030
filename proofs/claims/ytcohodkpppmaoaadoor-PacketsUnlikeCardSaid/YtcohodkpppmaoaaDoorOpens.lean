/-
  From a row's reading of an argument (DataW.trod) to the printed words' facts (Kd.K): numbers, texts, structs, slices, of whatever depth.
-/
import Derived.Test.YtcohodkpppmaoaaDoorWWords
import Derived.ProofKit
import Derived.OpenShut
import Derived.SizedLaws
import Derived.Deep.Slices
namespace Go.Proofs.YtcohodkpppmaoaaDoor
open Go.RowKit Go.ChangeShapes Go.WideShapes Go.Proofs.YtcohodkpppmaoaaDoorW.PrintWords

structure Opens (P : Program) (t : TypeId) {α : Type} (d : Kd α) (Good : α → Prop) : Prop where
  cells : P.cellsOf t = d.sz
  opened : ∀ {H : Type} {enc : TypeId × Value → H} {w : World} {base : Nat} {spare : Nat → Bool} {held : Bool} {fuel : Nat} {cs : List Value} {x : DataW H × List MemPlace},
    DataW.trod enc P w base spare held fuel t cs = some x → (∀ n ∈ x.1.weights P t, n ≤ reachBytes) → ∃ a, d.K w a cs ∧ Good a

section
variable {P : Program} {t : TypeId}
theorem opens_int {k : IntKind} (ht : P.underlying t = some (.int k)) (hc : P.cellsOf t = 1) : Opens P t (Kd.int k) (fun n => (Lit.int k n).wf = true) :=
  ⟨hc, fun h _ => by
    obtain ⟨n, rfl, rfl, hn⟩ := DataW.trod_int ht h
    exact ⟨n, rfl, hn⟩⟩
theorem opens_bool (ht : P.underlying t = some .bool) (hc : P.cellsOf t = 1) : Opens P t Kd.bool (fun _ => True) :=
  ⟨hc, fun h _ => by
    obtain ⟨n, rfl, rfl⟩ := DataW.trod_bool ht h
    exact ⟨n, rfl, trivial⟩⟩
theorem opens_string (ht : P.underlying t = some .string) (hc : P.cellsOf t = 1) : Opens P t Kd.string (fun s => s.size ≤ 140737488351232) :=
  ⟨hc, fun h hw => by
    obtain ⟨s, rfl, rfl, hs⟩ := DataW.trod_string ht h
    refine ⟨s, rfl, ?_⟩
    have := hw s.data.toList.length (by simp [DataW.weights])
    rw [Array.length_toList] at this
    exact this⟩

theorem weightsAll_mem {H : Type} {e : TypeId} : ∀ {l : List (DataW H)} {d : DataW H} {n : Nat}, d ∈ l → n ∈ d.weights P e → n ∈ DataW.weightsAll P e l
  | _ :: _, _, _, .head _, hn => by
    simp only [DataW.weightsAll, List.mem_append]
    exact .inl hn
  | _ :: _, _, _, .tail _ h, hn => by
    simp only [DataW.weightsAll, List.mem_append]
    exact .inr (weightsAll_mem h hn)

theorem opens_slice {α : Type} {e : TypeId} {d : Kd α} {Good : α → Prop} {b : Nat} (ht : P.underlying t = some (.slice e)) (hc : P.cellsOf t = 1) (hb : P.bytesOf e = b) (hb0 : 0 < b) (ho : Opens P e d Good) :
    Opens P t (Kd.slice e d) (fun l => (∀ x ∈ l, Good x) ∧ l.length * b ≤ 140737488351232) := by
  refine ⟨hc, fun {H enc w base spare held fuel cs x} h hw => ?_⟩
  rcases Deep.open_slice ht h with ⟨rfl, rfl⟩ | ⟨a, len, cap, m, n, D, Pl, rfl, _, hl, hm, hmm, rfl, hx⟩
  · exact ⟨[], ⟨none, 0, rfl, by simp, rfl, by simp, fun h => absurd h (by simp)⟩, fun x hx => by simp at hx, by simp⟩
  · have hlm : len ≤ m := by rw [hmm]; split <;> omega
    have hw' : ∀ n ∈ (DataW.slice ((List.range len).map D) ((List.range (m - len)).map fun j => D (len + j)) : DataW H).weights P t, n ≤ reachBytes := hw
    simp only [DataW.weights, ht] at hw'
    have hlen : len * b ≤ 140737488351232 := by
      have := hw' _ (List.mem_cons_self)
      rw [hb] at this
      simp only [List.length_map, List.length_range] at this
      have h2 : len * b ≤ (len + (m - len)) * b := Nat.mul_le_mul_right _ (by omega)
      unfold reachBytes at this
      omega
    have hel : ∀ i : Nat, i < len → ∃ (y : α) (c : List Value), (c.length = d.sz ∧ ∀ j u, c[j]? = some u → w.cell? (a.add (i * d.sz + j)) = some u) ∧ d.K w y c ∧ Good y := by
      intro i hi
      obtain ⟨cs', h1, h2⟩ := hx i (by omega)
      obtain ⟨y, hK, hG⟩ := ho.opened h2 (fun k hk => hw' k (List.mem_cons_of_mem _ (List.mem_append_left _ (weightsAll_mem (d := D i) (List.mem_map.2 ⟨i, List.mem_range.2 hi, rfl⟩) hk))))
      refine ⟨y, cs', ⟨d.K_len hK, ?_⟩, hK, hG⟩
      intro j u hj
      rw [ho.cells] at h1
      unfold World.cells? at h1
      split at h1
      · have hjl : j < d.sz := by
          have := (List.getElem?_eq_some_iff.1 hj).1
          rw [d.K_len hK] at this
          exact this
        have := mapM_some_get h1 j j (by simp [hjl])
        rw [Deep.add_add] at this
        rw [this, hj]
      · cases h1
    obtain ⟨f, hf⟩ := Classical.axiomOfChoice (r := fun (i : Fin len) (y : α) => ∃ c : List Value, (c.length = d.sz ∧ ∀ j u, c[j]? = some u → w.cell? (a.add (i.1 * d.sz + j)) = some u) ∧ d.K w y c ∧ Good y)
      (fun i => by obtain ⟨y, c, h⟩ := hel i.1 i.2; exact ⟨y, c, h⟩)
    refine ⟨List.ofFn f, ⟨some a, cap, by simp, by simpa using hl, ?_⟩, ?_, by simpa using hlen⟩
    · refine ⟨rfl, by rw [List.length_ofFn]; unfold maxLen at hm; omega, fun _ => ⟨a, rfl, fun j p hp => ?_⟩⟩
      have hj : j < len := by
        have := (List.getElem?_eq_some_iff.1 hp).1
        simpa using this
      have hp' : f ⟨j, hj⟩ = p := by
        rw [List.getElem?_ofFn, dif_pos hj] at hp
        exact Option.some.inj hp
      obtain ⟨c, ⟨hc1, hc2⟩, hK, _⟩ := hf ⟨j, hj⟩
      exact ⟨c, hc1, hp' ▸ hK, hc2⟩
    · intro y hy
      obtain ⟨i, rfl⟩ := List.mem_ofFn.1 hy
      obtain ⟨c, _, _, hG⟩ := hf i
      exact hG

/-- The fields of a struct, from a place on. -/
structure OpensF (P : Program) (fs : List Field) (off : Nat) {α : Type} (d : Kd α) (Good : α → Prop) : Prop where
  go : ∀ {H : Type} {enc : TypeId × Value → H} {w : World} {base : Nat} {spare : Nat → Bool} {held : Bool} {n : Nat} (cs : List Value) (xs : List (DataW H × List MemPlace)),
    cs.length = off + d.sz → xs.length = fs.length → (∀ (i : Nat) (f : Field), fs[i]? = some f → DataW.trod enc P w base spare held n f.type ((cs.drop f.offset).take (P.cellsOf f.type)) = xs[i]?) →
    (∀ (i : Nat) (f : Field) (x : DataW H × List MemPlace), fs[i]? = some f → xs[i]? = some x → ∀ k ∈ x.1.weights P f.type, k ≤ reachBytes) → ∃ a, d.K w a (cs.drop off) ∧ Good a
theorem opensF_one {f : Field} {off : Nat} {α : Type} {d : Kd α} {Good : α → Prop} (h : Opens P f.type d Good) (hf : f.offset = off) : OpensF P [f] off d Good := by
  constructor
  intro H enc w base spare held n cs xs hl hx ht hw
  obtain ⟨x, rfl⟩ : ∃ x, xs = [x] := List.length_eq_one_iff.1 hx
  have h0 := ht 0 f rfl
  rw [h.cells, hf, List.take_of_length_le (by rw [List.length_drop]; omega)] at h0
  exact h.opened h0 (hw 0 f x rfl rfl)
theorem opensF_cons {f : Field} {fs : List Field} {off : Nat} {α β : Type} {d : Kd α} {e : Kd β} {G : α → Prop} {G' : β → Prop} (h : Opens P f.type d G) (hf : f.offset = off) (hs : OpensF P fs (off + d.sz) e G') :
    OpensF P (f :: fs) off (Kd.pair d e) (fun x => G x.1 ∧ G' x.2) := by
  constructor
  intro H enc w base spare held n cs xs hl hx ht hw
  have hl' : cs.length = off + (d.sz + e.sz) := hl
  obtain ⟨x, xs, rfl⟩ : ∃ y ys, xs = y :: ys := by
    cases xs with
    | nil => simp at hx
    | cons y ys => exact ⟨y, ys, rfl⟩
  have h0 := ht 0 f rfl
  rw [h.cells, hf] at h0
  obtain ⟨a, hK, hG⟩ := h.opened h0 (hw 0 f x rfl rfl)
  obtain ⟨b, hK', hG'⟩ := hs.go (enc := enc) (w := w) (base := base) (spare := spare) (held := held) (n := n) cs xs (by omega) (by simpa using hx) (fun i g hg => ht (i + 1) g hg) (fun i g y hg hy => hw (i + 1) g y hg hy)
  refine ⟨(a, b), ⟨(cs.drop off).take d.sz, cs.drop (off + d.sz), ?_, hK, hK'⟩, hG, hG'⟩
  rw [← List.drop_drop, List.take_append_drop]
theorem weightsEach_mem {H : Type} {ts : List TypeId} {ds : List (DataW H)} {j : Nat} {t : TypeId} {d : DataW H} (ht : ts[j]? = some t) (hd : ds[j]? = some d) (n : Nat) (hn : n ∈ d.weights P t) : n ∈ DataW.weightsEach P ts ds := DataW.weights_mem_each ht hd n hn
theorem opens_struct {fs : Array Field} {α : Type} {d : Kd α} {Good : α → Prop} (ht : P.underlying t = some (.struct fs)) (hc : P.cellsOf t = d.sz) (h : OpensF P fs.toList 0 d Good) : Opens P t d Good := by
  refine ⟨hc, fun {H enc w base spare held fuel cs x} hr hw => ?_⟩
  obtain ⟨xs, n, _, rfl, hl, hx, hf⟩ := DataW.trod_struct ht hr
  have hw' : ∀ k ∈ (DataW.agg (xs.map (·.1)) : DataW H).weights P t, k ≤ reachBytes := hw
  simp only [DataW.weights, ht] at hw'
  have := h.go (enc := enc) (w := w) (base := base) (spare := spare) (held := held) (n := n) cs xs (by omega) (by rw [hx]; simp) (fun i f hi => hf i f (by simpa using hi)) (fun i f y hi hy k hk => hw' k (weightsEach_mem (j := i) (t := f.type) (d := y.1) (by simp at hi; simp [hi]) (by simp [hy]) k hk))
  simpa using this
theorem opens_iso {α β : Type} {d : Kd α} {Good : α → Prop} {G : β → Prop} (f : β → α) (g : α → β) (hfg : ∀ a, f (g a) = a) (hG : ∀ a, Good a → G (g a)) (h : Opens P t d Good) : Opens P t (Kd.iso d f) G := by
  refine ⟨h.cells, fun hr hw => ?_⟩
  obtain ⟨a, hK, hg⟩ := h.opened hr hw
  exact ⟨g a, by show d.K _ (f (g a)) _; rw [hfg]; exact hK, hG a hg⟩
theorem opens_imp {α : Type} {d : Kd α} {Good G : α → Prop} (h : Opens P t d Good) (hG : ∀ a, Good a → G a) : Opens P t d G :=
  ⟨h.cells, fun hr hw => by
    obtain ⟨a, hK, hg⟩ := h.opened hr hw
    exact ⟨a, hK, hG a hg⟩⟩
end
end Go.Proofs.YtcohodkpppmaoaaDoor
