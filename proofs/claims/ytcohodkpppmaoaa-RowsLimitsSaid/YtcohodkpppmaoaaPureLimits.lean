/-
  The pure statement of RowsLimits.
-/
import Derived.Test.YtcohodkpppmaoaaQLrowslimits1
import Derived.Test.YtcohodkpppmaoaaPureRows
namespace Go.Proofs.Ytcohodkpppmaoaa.Q
open Go.RowKit Go.Proofs.YtcohodkpppmaoaaW.PrintWords Go.Proofs.YtcohodkpppmaoaaW.PrintLast Go.Proofs.YtcohodkpppmaoaaW.PrintMore
set_option linter.unusedVariables false

def tk : ByteArray := ⟨#[107]⟩
def opK : OpT := ⟨1, ⟨#[107]⟩, ⟨#[]⟩, 0⟩
theorem opK_may : mayOp opK = true := by decide
theorem tk_key : isKey (⟨#[107]⟩ : ByteArray) = true := by decide
def rowsK (i : Nat) : List RowT := (List.range i).map fun (j : Nat) => (⟨⟨#[107]⟩, (j : Int) % 4294967296⟩ : RowT)
theorem rowsK_succ (i : Nat) : rowsK (i + 1) = rowsK i ++ [⟨⟨#[107]⟩, (i : Int) % 4294967296⟩] := by unfold rowsK; rw [List.range_succ, List.map_append]; rfl
theorem rowsK_length (i : Nat) : (rowsK i).length = i := by unfold rowsK; simp
theorem rowsK_may (i : Nat) : mayRows (rowsK i) = true := by
  unfold mayRows rowsK
  rw [List.all_eq_true]
  intro x hx
  obtain ⟨j, _, rfl⟩ := List.mem_map.1 hx
  exact tk_key
def resL (m i : Nat) : List ResultT := List.replicate (m / 2) z71 ++ ⟨rowsK i⟩ :: List.replicate (m - m / 2 - 1) z71
theorem resL_length (m i : Nat) (h : 1 ≤ m) : (resL m i).length = m := by unfold resL; simp; omega
theorem resL_zero (m : Nat) (h : 1 ≤ m) : resL m 0 = List.replicate m z71 := by
  unfold resL
  have : (⟨rowsK 0⟩ : ResultT) = z71 := rfl
  rw [this, ← List.replicate_succ, List.replicate_append_replicate]
  congr 1
  omega
theorem resL_at (m i : Nat) : rd_T71 (resL m i) ((m / 2 : Nat) : Int) = ⟨rowsK i⟩ := by
  unfold rd_T71 resL
  rw [Int.toNat_natCast, List.getD_eq_getElem?_getD, List.getElem?_append_right (by simp)]
  simp
theorem resL_set (m i : Nat) (y : ResultT) : (resL m i).set (m / 2) y = List.replicate (m / 2) z71 ++ y :: List.replicate (m - m / 2 - 1) z71 := by
  unfold resL
  rw [List.set_append_right _ _ (by simp)]
  simp
theorem resL_mem {m i : Nat} {x : ResultT} (h : x ∈ resL m i) : x = z71 ∨ x = ⟨rowsK i⟩ := by
  unfold resL at h
  rcases List.mem_append.1 h with h | h
  · exact .inl (List.mem_replicate.1 h).2
  · rcases List.mem_cons.1 h with h | h
    · exact .inr h
    · exact .inl (List.mem_replicate.1 h).2
theorem resL_ok (m i : Nat) : ∀ x ∈ resL m i, resultOk x := by
  intro x hx
  rcases resL_mem hx with rfl | rfl
  · intro r hr; cases hr
  · intro r hr
    unfold rowsK at hr
    obtain ⟨j, _, rfl⟩ := List.mem_map.1 hr
    exact ⟨by show 0 ≤ (j : Int) % 4294967296; omega, by show (j : Int) % 4294967296 ≤ 4294967295; omega⟩
theorem resL_few (m i : Nat) (hi : i ≤ 1000) : ∀ x ∈ resL m i, x.f0.length ≤ 9223372036854775807 := by
  intro x hx
  rcases resL_mem hx with rfl | rfl
  · show ([] : List RowT).length ≤ _; simp
  · show (rowsK i).length ≤ _; rw [rowsK_length]; omega
theorem resK_E (i : Nat) : resultE ⟨rowsK i⟩ = if i ≤ 256 then 0 else 3 := by
  unfold resultE
  rw [rowsK_may, if_pos rfl, rowsK_length]
theorem resZ_E : resultE z71 = 0 := by decide
theorem limits_put (m i : Nat) (h : 1 ≤ m) : (putResults (resL m i)).2 = if m ≤ 16 ∧ i ≤ 256 then 0 else 3 := by
  have a1 : (resL m i).any (fun x => resultE x == 1) = false := by
    rw [List.any_eq_false]
    intro x hx
    rcases resL_mem hx with rfl | rfl
    · rw [resZ_E]; decide
    · rw [resK_E]; split <;> decide
  unfold putResults putList
  rw [a1, if_neg (by decide), resL_length m i h]
  by_cases hi : i ≤ 256
  · have a3 : (resL m i).any (fun x => resultE x == 3) = false := by
      rw [List.any_eq_false]
      intro x hx
      rcases resL_mem hx with rfl | rfl
      · rw [resZ_E]; decide
      · rw [resK_E, if_pos hi]; decide
    rw [a3, Bool.false_or]
    by_cases hm : m ≤ 16
    · rw [decide_eq_false (by omega), if_neg (by decide), if_pos ⟨hm, hi⟩]
    · rw [decide_eq_true (by omega), if_pos rfl, if_neg (by omega)]
  · have a3 : (resL m i).any (fun x => resultE x == 3) = true := by
      refine List.any_eq_true.2 ⟨⟨rowsK i⟩, ?_, ?_⟩
      · unfold resL
        exact List.mem_append_right _ List.mem_cons_self
      · rw [resK_E, if_neg hi]; decide
    rw [a3, Bool.true_or, if_pos rfl, if_neg (by omega)]

theorem limits_j2 (m i : Nat) (hm : 14 ≤ m ∧ m ≤ 18) (hi : i ≤ 300) : Ev (fun k => concordatlaw02_RowsLimits.j2 k (m : Int) (i : Int) (putResults (resL m i)).1 (putResults (resL m i)).2 false) true := by
  refine Ev.step (f := fun k => if (putResults (resL m i)).2 = 0 then ((rows_GetResults.f (putResults (resL m i)).1).bind fun bt309 => ((concordatlaw02_alive.f).bind fun t313 => (if t313 = true then (if bt309.2 = 0 then (if (bt309.1.length : Int) = m then (if 0 ≤ (wrap64 (Int.tdiv m 2)) then (if (wrap64 (Int.tdiv m 2)) < (bt309.1.length : Int) then (some ((((rd_T71 bt309.1 (wrap64 (Int.tdiv m 2))).f0).length : Int) == i)) else (none)) else (none)) else (some false)) else (some false)) else (some false)))) else ((concordatlaw02_alive.f).bind fun t315 => (some t315))) (fun k => ?_) (ev_const ?_)
  · rw [concordatlaw02_RowsLimits.j2, if_neg (by decide)]
  · by_cases c : (putResults (resL m i)).2 = 0
    · obtain ⟨h1, h2, h3⟩ := putList_ok resultE_cases c
      have hb : inB (putResults (resL m i)).1 := put_inB resultE_cases c (fun x hx => inB_result x)
      have hd : wrap64 (Int.tdiv (m : Int) 2) = ((m / 2 : Nat) : Int) := by
        rw [Int.tdiv_eq_ediv_of_nonneg (by omega), wrap_id _ (by omega) (by omega)]
        rfl
      rw [if_pos c, getResults_f hb, getResults_put _ (resL_ok m i) c, Option.bind_some]
      unfold concordatlaw02_alive.f
      rw [Option.bind_some, if_pos rfl, if_pos rfl, resL_length m i (by omega), if_pos rfl, hd, if_pos (by omega), if_pos (by omega), resL_at, rowsK_length]
      simp
    · rw [if_neg c]
      rfl

theorem limits_l1 (n m c : Nat) (hn : n ≤ 18) (hm : 14 ≤ m ∧ m ≤ 18) (hc : c ≤ 300) (x : List OpT) (hxl : x.length ≤ 100) (hx : (putOps x).2 = if n ≤ 16 then 0 else 3) (d : Nat) : ∀ (i : Nat), i ≤ c → c - i = d →
    Ev (fun k => concordatlaw02_RowsLimits.l1 k (n : Int) (m : Int) (c : Int) x (resL m i) (i : Int)) true := by
  have hd : wrap64 (Int.tdiv (m : Int) 2) = ((m / 2 : Nat) : Int) := by
    rw [Int.tdiv_eq_ediv_of_nonneg (by omega), wrap_id _ (by omega) (by omega)]
    rfl
  induction d with
  | zero =>
    intro i h0 h1
    obtain rfl : i = c := by omega
    refine Ev.step (f := fun k => ((rows_PutOps.f k x).bind fun bt301 => ((rows_PutResults.f k (resL m i)).bind fun bt305 => (if ((bt301.2 == 0) != (decide ((n : Int) ≤ 16))) = true then (concordatlaw02_RowsLimits.j2 k (m : Int) (i : Int) bt305.1 bt305.2 true) else (if bt301.2 = 0 then (if (m : Int) ≤ 16 then (if ((bt305.2 == 0) != (decide ((i : Int) ≤ 256))) = true then (concordatlaw02_RowsLimits.j2 k (m : Int) (i : Int) bt305.1 bt305.2 true) else (if bt305.2 = 0 then (concordatlaw02_RowsLimits.j2 k (m : Int) (i : Int) bt305.1 bt305.2 false) else (concordatlaw02_RowsLimits.j2 k (m : Int) (i : Int) bt305.1 bt305.2 (bt305.2 != 3)))) else (if ((bt305.2 == 0) != false) = true then (concordatlaw02_RowsLimits.j2 k (m : Int) (i : Int) bt305.1 bt305.2 true) else (if bt305.2 = 0 then (concordatlaw02_RowsLimits.j2 k (m : Int) (i : Int) bt305.1 bt305.2 false) else (concordatlaw02_RowsLimits.j2 k (m : Int) (i : Int) bt305.1 bt305.2 (bt305.2 != 3))))) else (if bt301.2 = 3 then (if (m : Int) ≤ 16 then (if ((bt305.2 == 0) != (decide ((i : Int) ≤ 256))) = true then (concordatlaw02_RowsLimits.j2 k (m : Int) (i : Int) bt305.1 bt305.2 true) else (if bt305.2 = 0 then (concordatlaw02_RowsLimits.j2 k (m : Int) (i : Int) bt305.1 bt305.2 false) else (concordatlaw02_RowsLimits.j2 k (m : Int) (i : Int) bt305.1 bt305.2 (bt305.2 != 3)))) else (if ((bt305.2 == 0) != false) = true then (concordatlaw02_RowsLimits.j2 k (m : Int) (i : Int) bt305.1 bt305.2 true) else (if bt305.2 = 0 then (concordatlaw02_RowsLimits.j2 k (m : Int) (i : Int) bt305.1 bt305.2 false) else (concordatlaw02_RowsLimits.j2 k (m : Int) (i : Int) bt305.1 bt305.2 (bt305.2 != 3))))) else (concordatlaw02_RowsLimits.j2 k (m : Int) (i : Int) bt305.1 bt305.2 true))))))) (fun k => ?_) ?_
    · rw [concordatlaw02_RowsLimits.l1, if_neg (by omega)]
    · refine Ev.bind (ev_putOps x (by omega)) (Ev.bind (ev_putResults (resL m i) (by rw [resL_length m i (by omega)]; omega) (resL_few m i (by omega))) ?_)
      have hq := limits_put m i (by omega)
      have hj := limits_j2 m i hm (by omega)
      generalize putOps x = p at *
      generalize putResults (resL m i) = q at *
      obtain ⟨p1, p2⟩ := p
      obtain ⟨q1, q2⟩ := q
      dsimp only at hx hq hj ⊢
      by_cases n16 : n ≤ 16
      · have dn : ((n : Int) ≤ 16) = True := eq_true (by omega)
        rw [if_pos n16] at hx
        subst hx
        by_cases m16 : m ≤ 16
        · have dm : ((m : Int) ≤ 16) = True := eq_true (by omega)
          by_cases i256 : i ≤ 256
          · have di : ((i : Int) ≤ 256) = True := eq_true (by omega)
            rw [if_pos ⟨m16, i256⟩] at hq
            subst hq
            simpa [dn, dm, di] using hj
          · have di : ((i : Int) ≤ 256) = False := eq_false (by omega)
            rw [if_neg (by omega)] at hq
            subst hq
            simpa [dn, dm, di] using hj
        · have dm : ((m : Int) ≤ 16) = False := eq_false (by omega)
          rw [if_neg (by omega)] at hq
          subst hq
          simpa [dn, dm] using hj
      · have dn : ((n : Int) ≤ 16) = False := eq_false (by omega)
        rw [if_neg n16] at hx
        subst hx
        by_cases m16 : m ≤ 16
        · have dm : ((m : Int) ≤ 16) = True := eq_true (by omega)
          by_cases i256 : i ≤ 256
          · have di : ((i : Int) ≤ 256) = True := eq_true (by omega)
            rw [if_pos ⟨m16, i256⟩] at hq
            subst hq
            simpa [dn, dm, di] using hj
          · have di : ((i : Int) ≤ 256) = False := eq_false (by omega)
            rw [if_neg (by omega)] at hq
            subst hq
            simpa [dn, dm, di] using hj
        · have dm : ((m : Int) ≤ 16) = False := eq_false (by omega)
          rw [if_neg (by omega)] at hq
          subst hq
          simpa [dn, dm] using hj
  | succ d ih =>
    intro i h0 h1
    refine Ev.step (f := fun k => concordatlaw02_RowsLimits.l1 k (n : Int) (m : Int) (c : Int) x (resL m (i + 1)) ((i + 1 : Nat) : Int)) (fun k => ?_) (ih (i + 1) (by omega) (by omega))
    rw [concordatlaw02_RowsLimits.l1, if_pos (by omega), hd, if_pos (by omega), resL_length m i (by omega), if_pos (by omega), resL_at, rowsK_length, if_pos (by omega), Int.toNat_natCast, resL_set, wrap_id _ (by omega) (by omega)]
    have : (⟨rowsK i ++ [⟨⟨#[107]⟩, (i : Int) % 4294967296⟩]⟩ : ResultT) = ⟨rowsK (i + 1)⟩ := by rw [rowsK_succ]
    rw [this]
    rfl

theorem limits_l0 (n m c : Nat) (hn : n ≤ 18) (hm : 14 ≤ m ∧ m ≤ 18) (hc : c ≤ 300) (d : Nat) : ∀ (i : Nat), i ≤ n → n - i = d →
    Ev (fun k => concordatlaw02_RowsLimits.l0 k (n : Int) (m : Int) (c : Int) (List.replicate i opK ++ List.replicate (n - i) z68) (i : Int)) true := by
  induction d with
  | zero =>
    intro i h0 h1
    obtain rfl : i = n := by omega
    have e : List.replicate i opK ++ List.replicate (i - i) z68 = List.replicate i opK := by simp
    rw [e]
    have ha : (List.replicate i opK).all mayOp = true := by
      rw [List.all_eq_true]
      intro x hx
      rw [(List.mem_replicate.1 hx).2]
      exact opK_may
    have hp := op_all _ ha
    rw [List.length_replicate] at hp
    refine Ev.step (f := fun k => concordatlaw02_RowsLimits.l1 k (i : Int) (m : Int) (c : Int) (List.replicate i opK) (resL m 0) ((0 : Nat) : Int)) (fun k => ?_) (limits_l1 i m c hn hm hc _ (by simp; omega) ?_ c 0 (by omega) (by omega))
    · rw [concordatlaw02_RowsLimits.l0, if_neg (by omega), if_pos (by omega), Int.toNat_natCast, if_pos (by omega), resL_zero m (by omega)]
      rfl
    · rw [hp]
      split <;> rfl
  | succ d ih =>
    intro i h0 h1
    have hl : (List.replicate i opK ++ List.replicate (n - i) z68).length = n := by simp; omega
    refine Ev.step (f := fun k => concordatlaw02_RowsLimits.l0 k (n : Int) (m : Int) (c : Int) (List.replicate (i + 1) opK ++ List.replicate (n - (i + 1)) z68) ((i + 1 : Nat) : Int)) (fun k => ?_) (ih (i + 1) (by omega) (by omega))
    rw [concordatlaw02_RowsLimits.l0, if_pos (by omega), if_pos (by omega), hl, if_pos (by omega), wrap_id _ (by omega) (by omega), Int.toNat_natCast, List.set_append_right _ _ (by simp), List.length_replicate, Nat.sub_self]
    obtain ⟨r, hr⟩ : ∃ r, n - i = r + 1 := ⟨n - i - 1, by omega⟩
    have hr2 : n - (i + 1) = r := by omega
    rw [hr, hr2, List.replicate_succ, List.set_cons_zero, List.replicate_succ', List.append_assoc]
    rfl

theorem RowsLimits_ev (a b c : Int) (ha : 0 ≤ a ∧ a ≤ 255) (hb : 0 ≤ b ∧ b ≤ 255) (hc : 0 ≤ c ∧ c ≤ 255) : ∃ k, concordatlaw02_RowsLimits.f k a b c = some true := by
  refine Ev.rounds (g := fun k => concordatlaw02_RowsLimits.f k a b c) ?_
  have e : ∀ (z x : Int), 0 ≤ x → 0 ≤ z → z ≤ 1000 → wrap64 (z + wrap64 (Int.tmod x 5)) = ((z.toNat + (x % 5).toNat : Nat) : Int) := by
    intro z x h0 h1 h2
    rw [Int.tmod_eq_emod_of_nonneg h0, wrap_id (x % 5) (by omega) (by omega), wrap_id _ (by omega) (by omega)]
    omega
  unfold concordatlaw02_RowsLimits.f
  rw [e 14 a ha.1 (by omega) (by omega), e 14 b hb.1 (by omega) (by omega), e 254 c hc.1 (by omega) (by omega)]
  have h1 : (a % 5).toNat ≤ 4 := by omega
  have h2 : (b % 5).toNat ≤ 4 := by omega
  have h3 : (c % 5).toNat ≤ 4 := by omega
  generalize (a % 5).toNat = n at *
  generalize (b % 5).toNat = m at *
  generalize (c % 5).toNat = r at *
  simp only [if_pos (show (0 : Int) ≤ (((14 : Int).toNat + n : Nat) : Int) by omega), Int.toNat_natCast, if_pos (show (14 : Int).toNat + n ≤ 5864062014805 by omega)]
  have := limits_l0 (14 + n) (14 + m) (254 + r) (by omega) (by omega) (by omega) (14 + n) 0 (by omega) (by omega)
  simpa using this

end Go.Proofs.Ytcohodkpppmaoaa.Q
