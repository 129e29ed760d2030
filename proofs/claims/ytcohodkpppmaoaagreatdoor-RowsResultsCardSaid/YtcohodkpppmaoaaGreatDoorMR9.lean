/-
  The book keeps results: each one's rows, and the list of them.
-/
import Derived.Test.YtcohodkpppmaoaaGreatDoorMR7
import Derived.Test.YtcohodkpppmaoaaGreatDoorMR8
set_option linter.unusedSimpArgs false
set_option linter.unusedVariables false
namespace Go.Proofs.YtcohodkpppmaoaaGreatDoor.Q
open Go.RowKit Go.Proofs.YtcohodkpppmaoaaGreatDoorW.PrintWords Go.Proofs.YtcohodkpppmaoaaGreatDoorW.PrintLast Go.Proofs.YtcohodkpppmaoaaGreatDoorW.PrintMore
set_option linter.unusedVariables false
/-- A slice of so many, of which no more is told. -/
def kLoose : Kd Nat where
  sz := 1
  E := []
  K := fun _ n cs => ∃ A c, cs = [.slice A n c]
  M := fun _ _ _ n cs => ∃ A c, cs = [.slice A n c]
  K_len := by
    rintro w n cs ⟨A, c, rfl⟩
    rfl
  K_one := by
    rintro w n cs ⟨A, c, rfl⟩ u hu
    simp only [List.mem_cons, List.not_mem_nil, or_false] at hu
    subst hu
    rfl
  K_below := fun _ h => h
  K_of_M := fun h => h
  M_mono := fun _ h => h
  M_bound := fun h => h
  M_move := fun _ h => h
  M_lower := fun _ h => h
/-- A row (elements of type e, sz cells each) of which the length alone is told. -/
def fdLoose (e : TypeId) (sz : Nat) : Fd Nat where
  k := kLoose
  M := fun w F n cs => ∃ A c inner, cs = [.slice A n c] ∧ w.ownsRow 0 e sz (.slice A n c) n inner ∧ F = (Value.slice A n c).ownBlock.toList
  read := by
    rintro w F n cs ⟨A, c, inner, rfl, _⟩
    exact ⟨A, c, rfl⟩
  move := by
    rintro w w1 F n cs hm ⟨A, c, inner, rfl, h, rfl⟩
    exact ⟨A, c, inner, rfl, own_move h (fun k hk => hm k (by simp [hk])), rfl⟩
  lt := by
    rintro w F n cs ⟨A, c, inner, rfl, h, rfl⟩ b hb
    exact own_lt h b (by simpa using hb)
section
variable {α β : Type} {d : Fd α} {d' : Fd β} {f : α → β} {w : World} {e : Nat} {v : Value} {F : List Nat}
theorem els_map (hM : ∀ {F x cs}, d.M w F x cs → d'.M w F (f x) cs) : ∀ {xs : List α} {cs : List Value} {F : List Nat}, Fd.Els d w xs cs F → Fd.Els d' w (xs.map f) cs F
  | [], _, _, h => h
  | x :: xs, _, _, h => by
    obtain ⟨c, r, F0, F1, rfl, rfl, h1, h2⟩ := h
    exact ⟨c, r, F0, F1, rfl, rfl, hM h1, els_map hM h2⟩
theorem row_map (hsz : d.k.sz = d'.k.sz) (hM : ∀ {F x cs}, d.M w F x cs → d'.M w F (f x) cs) {xs : List α} (h : Fd.Row d e w F v xs) : Fd.Row d' e w F v (xs.map f) := by
  obtain ⟨inner, G, ho, he, rfl⟩ := h
  exact ⟨inner, G, by rw [List.length_map, ← hsz]; exact ho, els_map hM he, rfl⟩
theorem els_none {k : Kd α} {hk : ∀ {w w1 : World} {x cs}, k.K w x cs → k.K w1 x cs} : ∀ {xs : List α} {cs : List Value} {F : List Nat}, Fd.Els (Fd.flat k hk) w xs cs F → F = []
  | [], _, _, h => h.2
  | x :: xs, _, _, h => by
    obtain ⟨c, r, F0, F1, rfl, rfl, h1, h2⟩ := h
    rw [h1.1, els_none h2]
    rfl
end
theorem els_row {w : World} {xs : List RowT'} {cs : List Value} {F : List Nat} (h : Fd.Els fdRow w xs cs F) : F = [] := els_none (hk := fun {w w1 x cs} h => by rw [k148_open h]; exact k148_mk w1 x) h
theorem loose_result {w : World} {F : List Nat} {x : ResT'} {cs : List Value} (h : fdResult.M w F x cs) : (fdLoose 148 2).M w F x.f0.length cs := by
  obtain ⟨v, rfl, h⟩ := h
  obtain ⟨A, c, ev, _, _⟩ := Fd.row_reads h
  subst ev
  obtain ⟨inner, G, ho, he, rfl⟩ := h
  rw [els_row he, List.append_nil]
  exact ⟨A, c, inner, rfl, ho, rfl⟩
theorem loose_twin {w : World} {F : List Nat} {x : TRes} {cs : List Value} (h : fdTR.M w F x cs) : (fdLoose 148 2).M w F x.1.f0.length cs := by
  obtain ⟨A, c, rfl, hc, inner, G, ho, he, rfl⟩ := h
  rw [els_row he, List.append_nil]
  rw [List.length_append] at ho
  exact ⟨A, c, _, rfl, own_take ho (Nat.le_add_right _ _), by cases A <;> rfl⟩
/-- Results as they are answered. -/
theorem loose_row {w : World} {F : List Nat} {v : Value} {xs : List ResT'} (h : Fd.Row fdResult 145 w F v xs) : Fd.Row (fdLoose 148 2) 145 w F v (xs.map (·.f0.length)) := row_map (d' := fdLoose 148 2) (f := fun x : ResT' => x.f0.length) rfl (fun h => loose_result h) h
/-- Copies with marks behind them: without the last mark. -/
theorem loose_tw {w : World} {F : List Nat} {A : Option Addr} {n c : Nat} {l : List ResT'} (h : Twin fdTR 145 w F (.slice A n c) (l.map twOf) spareRes) (hn : F.Nodup) : ∃ F', Fd.Row (fdLoose 148 2) 145 w F' (.slice A l.length c) (l.map (·.f0.length)) ∧ F'.Nodup ∧ ∀ b ∈ F', b ∈ F := by
  obtain ⟨A', c', ev, h2, inner, G, ho, he, rfl⟩ := h
  injection ev with e1 _ e3
  subst e1 e3
  rw [List.length_append, List.length_singleton, List.length_map] at ho
  rw [List.length_map] at hn
  obtain ⟨c0, c1, F0, F1, rfl, rfl, h0, h1⟩ := Fd.els_split he
  have hl0 : c0.length = l.length := by rw [Fd.els_len h0, List.length_map]; exact Nat.mul_one _
  have ho2 := own_take ho (Nat.le_succ l.length)
  rw [show l.length * fdTR.k.sz = c0.length from (Nat.mul_one _).trans hl0.symm, List.take_left' rfl] at ho2
  have hm := els_map (d' := fdLoose 148 2) (f := fun x : TRes => x.1.f0.length) (fun h => loose_twin h) h0
  rw [List.map_map] at hm
  have hbk : (Value.slice A l.length c).ownBlock = (Value.slice A (l.length + 1) c).ownBlock := by cases A <;> rfl
  refine ⟨(Value.slice A l.length c).ownBlock.toList ++ F0, ⟨c0, F0, by rw [List.length_map]; exact ho2, hm, rfl⟩, ?_, fun b hb => ?_⟩
  · rw [hbk]
    rw [← List.append_assoc] at hn
    exact (List.nodup_append.1 hn).1
  · rw [hbk] at hb
    rw [List.length_map, ← List.append_assoc]
    exact List.mem_append_left _ hb
theorem Spared.trans {G : List Nat → Nat} {H : Nat} {L L' : List Nat} {a b c : World} (h : Spared H L a b) (k : Spared H L' b c) (hL : ∀ x ∈ L', x ∈ L) : Spared H L a c :=
  fun x hx hn => (k x hx (fun h => hn (hL x h))).trans (h x hx hn)
theorem Spared.of_below {H : Nat} {L : List Nat} {a b : World} (h : Below a.heap.size a b) (hH : H ≤ a.heap.size) : Spared H L a b := fun x hx _ => h.block x (Nat.lt_of_lt_of_le hx hH)
theorem Spared.mono {H : Nat} {L L' : List Nat} {a b : World} (h : Spared H L a b) (hL : ∀ x ∈ L, x ∈ L') : Spared H L' a b := fun x hx hn => h x hx (fun h => hn (hL x h))
theorem Pile.size {w0 w : World} {g G : Nat} {n : Int} {L : List Nat} (h : Pile w0 w g n G L) : G ≤ w.heap.size := by
  obtain ⟨F, _, _, h⟩ := h
  exact h
set_option maxRecDepth 100000 in
theorem Pile.Result {w0 w : World} {g G : Nat} {n : Int} {L : List Nat} (h : Pile w0 w g n G L) (hn : n ≤ 1000000000) (A : Option Addr) (len c : Nat) (inner : List Value) (ho : w.ownsRow 0 148 2 (.slice A len c) len inner) (hl : ∀ b ∈ (Value.slice A len c).ownBlock.toList, (b < G ∧ b ∉ L) ∧ w0.heap.size ≤ b) (hlen : len ≤ 1000000000) :
    Calls Tryz.prog 149 #[.pointer (some ⟨g, 0, none⟩), .agg #[.slice A len c]] w fun e w' => e = .returned (.tuple #[]) ∧ Pile w0 w' g (n + 1) G (L ++ (Value.slice A len c).ownBlock.toList) ∧ Spared G L w w' := by
  have hu := Tryz.underlying145
  have hba := below_alloc (Below.refl w.heap.size w) (.cells #[.slice A len c] 145)
  have HS := Aside0.mk (Spared.of_below (L := L) hba h.size)
  have H := Aside0.mk (h.below hba)
  have HO := Aside0.mk (pw_own_below ho hba)
  have HL := Aside0.mk hl
  clear h ho hl hba
  go_enter Tryz.func149, Tryz.ntmps149
  go_wp2_with fail
  refine (H.out.Rows hn A len c inner HO.out HL.out hlen).mono ?_
  rintro e w2 ⟨rfl, hp, hs⟩
  have HP := Aside0.mk hp
  have HSS := Aside0.mk (HS.out.trans (G := fun _ => 0) hs (fun _ h => h))
  clear hp hs
  go_wp2
  go_end0
  exact ⟨rfl, HP.out, HSS.out⟩
set_option maxHeartbeats 3200000 in
set_option maxRecDepth 100000 in
theorem Pile.Results {w0 w : World} {g G : Nat} {n : Int} {L : List Nat} (h : Pile w0 w g n G L) (A : Option Addr) (c : Nat) (lens : List Nat) (F : List Nat) (hn : n + (lens.length : Int) ≤ 1000000000) (hr : Fd.Row (fdLoose 148 2) 145 w F (.slice A lens.length c) lens) (hnd : F.Nodup) (hl : ∀ b ∈ F, (b < G ∧ b ∉ L) ∧ w0.heap.size ≤ b) (hlen : lens.length ≤ 1000000000) (hlens : ∀ x ∈ lens, x ≤ 1000000000) :
    Calls Tryz.prog 59 #[.pointer (some ⟨g, 0, none⟩), .slice A lens.length c] w fun e w' => e = .returned (.tuple #[]) ∧ ∃ L', Pile w0 w' g (n + (lens.length : Int) + 1) G L' ∧ (∀ b ∈ L', b ∈ L ∨ b ∈ F) ∧ Spared G (L ++ F) w w' := by
  obtain ⟨inner, GG, ho, he, rfl⟩ := hr
  have HL := Aside0.mk hl
  have HND := Aside0.mk hnd
  have HLS := Aside0.mk hlens
  have HI0 := Aside0.mk (show ∃ c0 c1 G0 G1, inner = c0 ++ c1 ∧ c0.length = 0 ∧ GG = G0 ++ G1 ∧ w.ownsRow 0 145 1 (.slice A lens.length c) lens.length inner ∧ Fd.Els (fdLoose 148 2) w (lens.drop 0) c1 G1 ∧ ∃ Lk, Pile w0 w g (n + ((0 : Nat) : Int)) G Lk ∧ (∀ b ∈ Lk, b ∈ L ∨ b ∈ G0) ∧ Spared G (L ++ G0) w w from
    ⟨[], inner, [], GG, rfl, rfl, rfl, ho, he, L, by simpa using h, fun b hb => .inl hb, fun _ _ _ => rfl⟩)
  clear h ho he hl hnd hlens
  go_enter Tryz.func59, Tryz.ntmps59
  go_wp2
  go_loopw [4] (fun i wr => ∃ k : Nat, k ≤ lens.length ∧ i = .int .i64 k ∧ Aside0 (∃ c0 c1 G0 G1, inner = c0 ++ c1 ∧ c0.length = k ∧ GG = G0 ++ G1 ∧ wr.ownsRow 0 145 1 (.slice A lens.length c) lens.length inner ∧ Fd.Els (fdLoose 148 2) wr (lens.drop k) c1 G1 ∧ ∃ Lk, Pile w0 wr g (n + (k : Int)) G Lk ∧ (∀ b ∈ Lk, b ∈ L ∨ b ∈ G0) ∧ Spared G (L ++ G0) w wr)) (fun i _ => lens.length - (intOf i).toNat)
  case atStart => exact ⟨0, Nat.zero_le _, rfl, HI0⟩
  case round =>
    clear HI0
    obtain ⟨wq, hwq⟩ : ∃ wq, wq = wr := ⟨_, rfl⟩
    subst hwq
    obtain ⟨k, hk, rfl, ⟨c0, c1, G0, G1, hin, hc0, hGG, ho, he, Lk, hp, hLk, hsp⟩⟩ := hrel
    subst hGG
    have hnd := HND.out
    by_cases hlt : k < lens.length
    · have hlt' : (k : Int) < (lens.length : Int) := by omega
      have hk0 : (0 : Int) ≤ (k : Int) := by omega
      rw [List.drop_eq_getElem_cons hlt] at he
      obtain ⟨cc, r, Fi, Gr, rfl, rfl, ⟨Ai, ci, ii, rfl, hoi, rfl⟩, he2⟩ := he
      obtain ⟨gg, cap, ev, _, _⟩ := ho.form (by omega)
      injection ev with e1 _ e3
      subst e1 e3
      have hx := ho.cells (g := gg) rfl k (.slice Ai lens[k] ci) (by rw [hin, List.getElem?_append_right (by omega), hc0, Nat.sub_self]; rfl)
      rw [add_plain] at hx
      have hlx := HLS.out _ (List.getElem_mem hlt)
      obtain ⟨len, hlen2⟩ : ∃ len, lens[k] = len := ⟨_, rfl⟩
      rw [hlen2] at hoi hx hlx
      have hin2 : ∀ b ∈ (Value.slice Ai len ci).ownBlock.toList, b ∈ (Value.slice (some ⟨gg, 0, none⟩) lens.length c).ownBlock.toList ++ (G0 ++ ((Value.slice Ai lens[k] ci).ownBlock.toList ++ Gr)) := fun b hb => by rw [hlen2]; exact List.mem_append_right _ (List.mem_append_right _ (List.mem_append_left _ hb))
      have hofL : ∀ b ∈ (Value.slice Ai len ci).ownBlock.toList, b ∉ Lk := fun b hb hx => by
        rcases hLk b hx with h | h
        · exact (HL.out b (hin2 b hb)).1.2 h
        · have h3 := (List.nodup_append.1 hnd).2.1
          exact (List.nodup_append.1 h3).2.2 b h b (by rw [hlen2]; exact List.mem_append_left _ hb) rfl
      have C1 := Aside0.mk (hp.Result (by omega) Ai len ci ii hoi (fun b hb => ⟨⟨(HL.out b (hin2 b hb)).1.1, hofL b hb⟩, (HL.out b (hin2 b hb)).2⟩) hlx)
      have HO := Aside0.mk ho
      have HE := Aside0.mk he2
      have HP := Aside0.mk hp
      have HLK := Aside0.mk hLk
      have HSP := Aside0.mk hsp
      have HIN := Aside0.mk hin
      have HN2 := Aside0.mk hnd
      have HL2 := Aside0.mk hlen2
      clear ho he2 hp hLk hsp hin hnd hoi hofL hin2 hlen2
      go_wp2_with fail
      refine C1.out.mono ?_
      rintro e w2 ⟨rfl, hp2, hs2⟩
      have HP2 := Aside0.mk hp2
      have HS2 := Aside0.mk hs2
      clear hp2 hs2 C1
      go_wp2
      refine ⟨⟨k + 1, by omega, by first | rfl | simp, ⟨c0 ++ [.slice Ai len ci], r, G0 ++ (Value.slice Ai len ci).ownBlock.toList, Gr, by rw [HIN.out, HL2.out]; simp, by rw [List.length_append, hc0]; rfl, by rw [HL2.out]; simp, ?_, ?_, _, by rw [show n + ((k + 1 : Nat) : Int) = n + (k : Int) + 1 by omega]; exact HP2.out, ?_, ?_⟩⟩, ?_⟩
      · refine HS2.out.own HO.out (fun b hb => ?_)
        have hmem : b ∈ (Value.slice (some ⟨gg, 0, none⟩) lens.length c).ownBlock.toList ++ (G0 ++ ((Value.slice Ai lens[k] ci).ownBlock.toList ++ Gr)) := List.mem_append_left _ hb
        refine ⟨(HL.out b hmem).1.1, fun hx => ?_⟩
        rcases HLK.out b hx with h | h
        · exact (HL.out b hmem).1.2 h
        · exact (List.nodup_append.1 HN2.out).2.2 b hb b (List.mem_append_left _ h) rfl
      · refine Fd.els_move (fun b hb => HS2.out b ?_ ?_) HE.out
        · exact (HL.out b (by simp [hb])).1.1
        · intro hx
          rcases HLK.out b hx with h | h
          · exact (HL.out b (by simp [hb])).1.2 h
          · have h3 := (List.nodup_append.1 HN2.out).2.1
            exact (List.nodup_append.1 h3).2.2 b h b (List.mem_append_right _ hb) rfl
      · intro b hb
        rcases List.mem_append.1 hb with hb | hb
        · exact (HLK.out b hb).imp_right (fun h => List.mem_append_left _ h)
        · exact .inr (List.mem_append_right _ hb)
      · intro b hb hx
        rw [HS2.out b hb (fun h => hx (by
          rcases HLK.out b h with h | h
          · exact List.mem_append_left _ h
          · exact List.mem_append_right _ (List.mem_append_left _ h)))]
        exact HSP.out b hb (fun h => hx (by
          rcases List.mem_append.1 h with h | h
          · exact List.mem_append_left _ h
          · exact List.mem_append_right _ (List.mem_append_left _ h)))
      · try simp only [intOf]
        omega
    · obtain rfl : k = lens.length := by omega
      have hlt' : ¬ ((lens.length : Int) < (lens.length : Int)) := by omega
      rw [List.drop_length] at he
      obtain ⟨rfl, rfl⟩ := he
      rw [List.append_nil] at hnd
      have hofL : ∀ b ∈ (Value.slice A lens.length c).ownBlock.toList, b ∉ Lk := fun b hb hx => by
        rcases hLk b hx with h | h
        · exact (HL.out b (List.mem_append_left _ hb)).1.2 h
        · exact (List.nodup_append.1 hnd).2.2 b hb b h rfl
      have C1 := Aside0.mk (hp.keepResult (by omega) A lens.length c inner ho (fun b hb => ⟨⟨(HL.out b (List.mem_append_left _ hb)).1.1, hofL b hb⟩, (HL.out b (List.mem_append_left _ hb)).2⟩) hlen)
      have HLK := Aside0.mk hLk
      have HSP := Aside0.mk hsp
      clear ho hp hLk hsp hofL
      go_wp2_with fail
      refine C1.out.mono ?_
      rintro e w2 ⟨rfl, hp2, hs2⟩
      have HP2 := Aside0.mk hp2
      have HS2 := Aside0.mk hs2
      clear hp2 hs2 C1
      go_wp2
      go_end0
      refine ⟨rfl, _, HP2.out, fun b hb => ?_, fun b hb hx => ?_⟩
      · rcases List.mem_append.1 hb with hb | hb
        · exact (HLK.out b hb).imp_right (fun h => List.mem_append_right _ (List.mem_append_left _ h))
        · exact .inr (List.mem_append_left _ hb)
      · rw [HS2.out b hb (fun h => hx (by
          rcases HLK.out b h with h | h
          · exact List.mem_append_left _ h
          · exact List.mem_append_right _ (List.mem_append_right _ (List.mem_append_left _ h))))]
        exact HSP.out b hb (fun h => hx (by
          rcases List.mem_append.1 h with h | h
          · exact List.mem_append_left _ h
          · exact List.mem_append_right _ (List.mem_append_right _ (List.mem_append_left _ h))))
end Go.Proofs.YtcohodkpppmaoaaGreatDoor.Q
