/-
  The pure statement of RowsMany: as many copies of one change as near 4096, put by the program and by the reference: the same answer.
-/
import Derived.Test.YtcohodkpppmaoaaQLrowsmany1
import Derived.Test.YtcohodkpppmaoaaEvRefChanges
namespace Go.Proofs.Ytcohodkpppmaoaa.Q
open Go.RowKit Go.Proofs.YtcohodkpppmaoaaW.PrintWords Go.Proofs.YtcohodkpppmaoaaW.PrintLast Go.Proofs.YtcohodkpppmaoaaW.PrintMore

theorem many_from (x : ChangeT) (hx : changeOk x) (hs : x.f0.size ≤ 140737488351232) (n : Nat) (hn : n ≤ 5000) (d : Nat) : ∀ (i : Nat), i ≤ n → n - i = d →
    Ev (fun k => concordatlaw02_RowsMany.l0 k (List.replicate i x ++ List.replicate (n - i) z26) (i : Int) x.f0 x.f1 x.f2) true := by
  induction d with
  | zero =>
    intro i h0 h1
    obtain rfl : i = n := by omega
    have e : List.replicate i x ++ List.replicate (i - i) z26 = List.replicate i x := by simp
    rw [e]
    have hl : (List.replicate i x).length = i := List.length_replicate
    have hm : ∀ y ∈ List.replicate i x, y = x := fun y hy => (List.mem_replicate.1 hy).2
    refine Ev.step (f := fun k => (rows_PutChanges.f k (List.replicate i x)).bind fun p => ((concordatref02_PutChanges.f k (List.replicate i x)).bind fun q => (if (x.f0.size : Int) > 100 then (some true) else ((concordatlaw01_SameBytes.f k p.1 q.1).bind fun t => (if t = true then (some (p.2 == q.2)) else (some false)))))) (fun k => ?_) ?_
    · simp only [concordatlaw02_RowsMany.l0]
      rw [if_neg (by rw [hl]; omega)]
    · refine Ev.bind (ev_putChanges _ (by rw [hl]; omega)) ?_
      refine Ev.bind (ev_refPutChanges _ (by rw [hl]; omega) (fun y hy => by rw [hm y hy]; exact hs) (fun y hy => by rw [hm y hy]; exact hx)) ?_
      by_cases c : (x.f0.size : Int) > 100
      · simp only [if_pos c]
        exact Ev.now _
      · simp only [if_neg c]
        refine Ev.bind (ev_SameBytes _ _ ?_) ?_
        · unfold putChanges putList
          split
          · simp
          · split
            · simp
            · rename_i h1 h3
              have hok : ∀ y ∈ List.replicate i x, changeE y = 0 := by
                intro y hy
                rw [List.any_eq_true] at h1
                have : changeE y ≠ 1 := fun e => h1 ⟨y, hy, by simp [e]⟩
                unfold changeE at *
                split at this <;> simp_all
              have := flatMap_len_le changeB 64 (List.replicate i x) (fun y hy => change_len y (hok y hy))
              rw [hl] at this
              simp only [List.length_append, num2_length]
              omega
        · simp only [decide_true, if_true, beq_self_eq_true]
          exact Ev.now _
  | succ d ih =>
    intro i h0 h1
    have hl : (List.replicate i x ++ List.replicate (n - i) z26).length = n := by simp; omega
    refine Ev.step (f := fun k => concordatlaw02_RowsMany.l0 k (List.replicate (i + 1) x ++ List.replicate (n - (i + 1)) z26) (wrap64 ((i : Int) + 1)) x.f0 x.f1 x.f2) (fun k => ?_) ?_
    · simp only [concordatlaw02_RowsMany.l0]
      rw [if_pos (by rw [hl]; omega), if_pos (by omega)]
      congr 1
      rw [Int.toNat_natCast, List.set_append_right _ _ (by simp), List.length_replicate, Nat.sub_self]
      obtain ⟨m, hm⟩ : ∃ m, n - i = m + 1 := ⟨n - i - 1, by omega⟩
      have hm2 : n - (i + 1) = m := by omega
      rw [hm, hm2, List.replicate_succ, List.set_cons_zero, List.replicate_succ', List.append_assoc]
      rfl
    · rw [wrap_id _ (by omega) (by omega)]
      exact ih (i + 1) (by omega) (by omega)

theorem RowsMany_ev (near : Int) (h0 : 0 ≤ near) (h1 : near ≤ 255) (x : ChangeT) (hx : changeOk x) (hs : x.f0.size ≤ 140737488351232) : ∃ k, concordatlaw02_RowsMany.f k near x.f0 x.f1 x.f2 = some true := by
  refine Ev.rounds (g := fun k => concordatlaw02_RowsMany.f k near x.f0 x.f1 x.f2) ?_
  unfold concordatlaw02_RowsMany.f
  have e : wrap64 (4094 + wrap64 (Int.tmod near 5)) = ((4094 + (near % 5).toNat : Nat) : Int) := by
    rw [Int.tmod_eq_emod_of_nonneg h0, wrap_id (near % 5) (by omega) (by omega), wrap_id _ (by omega) (by omega)]
    omega
  rw [e]
  have hb : (near % 5).toNat ≤ 4 := by omega
  generalize (near % 5).toNat = m at *
  simp only [if_pos (show (0 : Int) ≤ ((4094 + m : Nat) : Int) by omega), Int.toNat_natCast, if_pos (show 4094 + m ≤ 11728124029610 by omega)]
  have := many_from x hx hs (4094 + m) (by omega) (4094 + m) 0 (by omega) (by omega)
  simpa using this

end Go.Proofs.Ytcohodkpppmaoaa.Q
