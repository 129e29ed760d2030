/-
  Contracts of layer 1 (keys.Check$1, keys.all, keys.Check, keys.Reserved): what they answer, for every text; nothing that was there changes.
  rows.text: a text's length, as one byte, and its bytes are put behind a row of bytes that the caller owns; and a law on append of a text that tells where the new row lies.
-/
import Derived.Test.YtcohodkpppmaoaaGreatDoorProg
import Derived.Below
import Derived.Deep.Draws
import Derived.Deep.AppendLies
import Derived.Maps.AppendAt
import Derived.OwnWalk
import Derived.Laws.BytesArg
import Derived.Laws.MakeOwn
import Derived.Laws.OwnMore
import Derived.Deep.OwnRows
import Derived.Tactics
import Derived.Lib.ConvBytes
import Derived.Laws.Slices
import Derived.WalkKit
import Derived.KernelRfl
import Derived.RowKit3
import Derived.Deep.LoopGhost
import Derived.Deep.QuietTactic
import Derived.BigQuiet
import Derived.WideLaws
import Derived.Deep.DeepCutAuto
import Derived.Deep.CutBlock
import Derived.Deep.RegionHeld3
import Derived.Laws.Rows
import Derived.Lib.AppendStr
import Derived.ArgAppend
import Derived.Laws.IdiomCopy
import Derived.OrdersHeld
import Derived.Laws.BitsLemmas
import Derived.RowKit
import Derived.Test.YtcohodkpppmaoaaGreatDoorWWords
import Derived.Test.YtcohodkpppmaoaaGreatDoorWLast
import Derived.Test.YtcohodkpppmaoaaGreatDoorWTab
import Derived.Test.YtcohodkpppmaoaaGreatDoorWQPut
import Derived.Test.YtcohodkpppmaoaaGreatDoorWApart
import Derived.Test.YtcohodkpppmaoaaGreatDoorWArr
import Derived.Test.YtcohodkpppmaoaaGreatDoorWZeros
import Derived.Test.YtcohodkpppmaoaaGreatDoorWFoot
import Derived.Test.YtcohodkpppmaoaaGreatDoorWKept
import Derived.Test.YtcohodkpppmaoaaGreatDoorWShare
import Derived.Test.YtcohodkpppmaoaaGreatDoorWN
import Derived.Test.YtcohodkpppmaoaaGreatDoorWEqStruct
import Derived.Test.YtcohodkpppmaoaaGreatDoorWRepsOne
import Derived.Test.YtcohodkpppmaoaaGreatDoorWGuard
import Derived.Test.YtcohodkpppmaoaaGreatDoorWNEv
import Derived.Test.YtcohodkpppmaoaaGreatDoorWMore
import Derived.Lib.Hide
set_option linter.unusedSimpArgs false
set_option linter.unusedVariables false
namespace Go.Proofs.YtcohodkpppmaoaaGreatDoor.Q
open Go.RowKit Go.Proofs.YtcohodkpppmaoaaGreatDoorW.PrintWords Go.Proofs.YtcohodkpppmaoaaGreatDoorW.PrintLast Go.Proofs.YtcohodkpppmaoaaGreatDoorW.PrintMore
attribute [local go_sem] max2_int min2_int max_two min_two max_three min_three max_four min_four   -- for this text's walks alone
set_option linter.unusedVariables false
set_option linter.unusedSimpArgs false



def errW : Option Int → Value
  | none => .nilIface
  | some c => .iface 0 (.int .i64 c)
theorem errW_none : errW none = .nilIface := rfl
theorem errW_some (c : Int) : errW (some c) = .iface 0 (.int .i64 c) := rfl

theorem info5 : (Tryz.prog.info? 5).map (fun i => (i.zero, i.size, i.bytes)) = some (some (.int .u8 0), 1, 1) := by kernel_rfl
-- the values' own types
structure S148 where
  f0 : ByteArray
  f1 : Int
def z148 : S148 := ⟨(⟨#[]⟩ : ByteArray), (0 : Int)⟩
def k148 : Kd S148 := Kd.iso (Kd.pair Kd.string (Kd.int .u32)) (fun x : S148 => (x.f0, x.f1))
theorem k148_open {w : World} {x : S148} {cs : List Value} (h : k148.K w x cs) : cs = [.string x.f0, .int .u32 x.f1] := by
  obtain ⟨_, _, rfl, rfl, rfl⟩ := h
  exact rfl
theorem k148_mk (w : World) (x : S148)  : k148.K w x [.string x.f0, .int .u32 x.f1] := ⟨[.string x.f0], [.int .u32 x.f1], rfl, rfl, rfl⟩
def rd_T148 (xs : List S148) (i : Int) : S148 := xs.getD i.toNat z148
theorem at_T148 {w : World} {A : Option Addr} {n : Nat} {xs : List S148} (h : Kd.C k148 w A n xs) (i : Int) (h0 : 0 ≤ i) (h1 : i < n) : ∃ ad , A = some ad ∧ w.cell? (ad.add (i.toNat * 2)) = some (.string (rd_T148 xs i).f0) ∧ w.cell? ⟨(ad.add (i.toNat * 2)).block, (ad.add (i.toNat * 2)).off + 1, none⟩ = some (.int .u32 (rd_T148 xs i).f1) := by
  obtain ⟨ad, c, e, _, hK, hc0⟩ := Kd.C_get h z148 i h0 h1
  have hc : ∀ j u, c[j]? = some u → w.cell? (ad.add (i.toNat * 2 + j)) = some u := hc0
  obtain rfl := k148_open hK
  exact ⟨ad, e, hc 0 _ rfl, by rw [← add_field _ _ 1 (by omega)]; exact hc 1 _ rfl⟩

structure S116 where
  f0 : ByteArray
  f1 : Int
  f2 : Bool
def k116 : Kd S116 := Kd.iso (Kd.pair Kd.string (Kd.pair (Kd.int .u32) Kd.bool)) (fun x : S116 => (x.f0, x.f1, x.f2))
theorem k116_open {w : World} {x : S116} {cs : List Value} (h : k116.K w x cs) : cs = [.string x.f0, .int .u32 x.f1, .bool x.f2] := by
  obtain ⟨_, _, rfl, rfl, ⟨_, _, rfl, rfl, rfl⟩⟩ := h
  exact rfl
theorem k116_mk (w : World) (x : S116)  : k116.K w x [.string x.f0, .int .u32 x.f1, .bool x.f2] := ⟨[.string x.f0], [.int .u32 x.f1, .bool x.f2], rfl, rfl, ⟨[.int .u32 x.f1], [.bool x.f2], rfl, rfl, rfl⟩⟩
structure S82 where
  f0 : Int
  f1 : ByteArray
  f2 : ByteArray
  f3 : Int
def z82 : S82 := ⟨(0 : Int), (⟨#[]⟩ : ByteArray), (⟨#[]⟩ : ByteArray), (0 : Int)⟩
def k82 : Kd S82 := Kd.iso (Kd.pair (Kd.int .u8) (Kd.pair Kd.string (Kd.pair Kd.string (Kd.int .u32)))) (fun x : S82 => (x.f0, x.f1, x.f2, x.f3))
theorem k82_open {w : World} {x : S82} {cs : List Value} (h : k82.K w x cs) : cs = [.int .u8 x.f0, .string x.f1, .string x.f2, .int .u32 x.f3] := by
  obtain ⟨_, _, rfl, rfl, ⟨_, _, rfl, rfl, ⟨_, _, rfl, rfl, rfl⟩⟩⟩ := h
  exact rfl
theorem k82_mk (w : World) (x : S82)  : k82.K w x [.int .u8 x.f0, .string x.f1, .string x.f2, .int .u32 x.f3] := ⟨[.int .u8 x.f0], [.string x.f1, .string x.f2, .int .u32 x.f3], rfl, rfl, ⟨[.string x.f1], [.string x.f2, .int .u32 x.f3], rfl, rfl, ⟨[.string x.f2], [.int .u32 x.f3], rfl, rfl, rfl⟩⟩⟩
theorem k82_mkM (w : World) (base : Nat) (ok : Nat → Prop) (x : S82)  : k82.M w base ok x [.int .u8 x.f0, .string x.f1, .string x.f2, .int .u32 x.f3] := ⟨[.int .u8 x.f0], [.string x.f1, .string x.f2, .int .u32 x.f3], rfl, rfl, ⟨[.string x.f1], [.string x.f2, .int .u32 x.f3], rfl, rfl, ⟨[.string x.f2], [.int .u32 x.f3], rfl, rfl, rfl⟩⟩⟩
def rd_T82 (xs : List S82) (i : Int) : S82 := xs.getD i.toNat z82
theorem at_T82 {w : World} {A : Option Addr} {n : Nat} {xs : List S82} (h : Kd.C k82 w A n xs) (i : Int) (h0 : 0 ≤ i) (h1 : i < n) : ∃ ad , A = some ad ∧ w.cell? (ad.add (i.toNat * 4)) = some (.int .u8 (rd_T82 xs i).f0) ∧ w.cell? ⟨(ad.add (i.toNat * 4)).block, (ad.add (i.toNat * 4)).off + 1, none⟩ = some (.string (rd_T82 xs i).f1) ∧ w.cell? ⟨(ad.add (i.toNat * 4)).block, (ad.add (i.toNat * 4)).off + 2, none⟩ = some (.string (rd_T82 xs i).f2) ∧ w.cell? ⟨(ad.add (i.toNat * 4)).block, (ad.add (i.toNat * 4)).off + 3, none⟩ = some (.int .u32 (rd_T82 xs i).f3) := by
  obtain ⟨ad, c, e, _, hK, hc0⟩ := Kd.C_get h z82 i h0 h1
  have hc : ∀ j u, c[j]? = some u → w.cell? (ad.add (i.toNat * 4 + j)) = some u := hc0
  obtain rfl := k82_open hK
  exact ⟨ad, e, hc 0 _ rfl, by rw [← add_field _ _ 1 (by omega)]; exact hc 1 _ rfl, by rw [← add_field _ _ 2 (by omega)]; exact hc 2 _ rfl, by rw [← add_field _ _ 3 (by omega)]; exact hc 3 _ rfl⟩

structure S145 where
  f0 : (List S148)
def k145 : Kd S145 := Kd.iso (Kd.slice 148 k148) (fun x : S145 => x.f0)
theorem k145_open {w : World} {x : S145} {cs : List Value} (h : k145.K w x cs) : ∃ A0 c0, cs = [.slice A0 x.f0.length c0] ∧ x.f0.length ≤ c0 ∧ k148.C w A0 x.f0.length x.f0 := by
  obtain ⟨A0, c0, rfl, l0, g0⟩ := h
  exact ⟨A0, c0, rfl, l0, g0⟩
theorem k145_mk (w : World) (x : S145) {A0 : Option Addr} {c0 : Nat} (l0 : x.f0.length ≤ c0) (g0 : k148.C w A0 x.f0.length x.f0) : k145.K w x [.slice A0 x.f0.length c0] := ⟨A0, c0, rfl, l0, g0⟩
structure S50 where
  f0 : Int
  f1 : Int
  f2 : Int
  f3 : Int
  f4 : (List S82)
  f5 : (List S145)
def k50 : Kd S50 := Kd.iso (Kd.pair (Kd.int .u8) (Kd.pair (Kd.int .u8) (Kd.pair (Kd.int .u8) (Kd.pair (Kd.int .u32) (Kd.pair (Kd.slice 82 k82) (Kd.slice 145 k145)))))) (fun x : S50 => (x.f0, x.f1, x.f2, x.f3, x.f4, x.f5))
theorem k50_open {w : World} {x : S50} {cs : List Value} (h : k50.K w x cs) : ∃ A4 c4 A5 c5, cs = [.int .u8 x.f0, .int .u8 x.f1, .int .u8 x.f2, .int .u32 x.f3, .slice A4 x.f4.length c4, .slice A5 x.f5.length c5] ∧ x.f4.length ≤ c4 ∧ k82.C w A4 x.f4.length x.f4 ∧ x.f5.length ≤ c5 ∧ k145.C w A5 x.f5.length x.f5 := by
  obtain ⟨_, _, rfl, rfl, ⟨_, _, rfl, rfl, ⟨_, _, rfl, rfl, ⟨_, _, rfl, rfl, ⟨_, _, rfl, ⟨A4, c4, rfl, l4, g4⟩, ⟨A5, c5, rfl, l5, g5⟩⟩⟩⟩⟩⟩ := h
  exact ⟨A4, c4, A5, c5, rfl, l4, g4, l5, g5⟩
theorem k50_mk (w : World) (x : S50) {A4 : Option Addr} {c4 : Nat} (l4 : x.f4.length ≤ c4) (g4 : k82.C w A4 x.f4.length x.f4) {A5 : Option Addr} {c5 : Nat} (l5 : x.f5.length ≤ c5) (g5 : k145.C w A5 x.f5.length x.f5) : k50.K w x [.int .u8 x.f0, .int .u8 x.f1, .int .u8 x.f2, .int .u32 x.f3, .slice A4 x.f4.length c4, .slice A5 x.f5.length c5] := ⟨[.int .u8 x.f0], [.int .u8 x.f1, .int .u8 x.f2, .int .u32 x.f3, .slice A4 x.f4.length c4, .slice A5 x.f5.length c5], rfl, rfl, ⟨[.int .u8 x.f1], [.int .u8 x.f2, .int .u32 x.f3, .slice A4 x.f4.length c4, .slice A5 x.f5.length c5], rfl, rfl, ⟨[.int .u8 x.f2], [.int .u32 x.f3, .slice A4 x.f4.length c4, .slice A5 x.f5.length c5], rfl, rfl, ⟨[.int .u32 x.f3], [.slice A4 x.f4.length c4, .slice A5 x.f5.length c5], rfl, rfl, ⟨[.slice A4 x.f4.length c4], [.slice A5 x.f5.length c5], rfl, ⟨A4, c4, rfl, l4, g4⟩, ⟨A5, c5, rfl, l5, g5⟩⟩⟩⟩⟩⟩
end Go.Proofs.YtcohodkpppmaoaaGreatDoor.Q
namespace Go.Proofs.YtcohodkpppmaoaaGreatDoor
open Go.RowKit

def keyByte (c : UInt8) : Bool := (97 ≤ c.toNat && c.toNat ≤ 122) || (48 ≤ c.toNat && c.toNat ≤ 57) || c.toNat == 95
def keyRune (c : Int) : Bool := (decide (97 ≤ c) && decide (c ≤ 122)) || (decide (48 ≤ c) && decide (c ≤ 57)) || (c == 95)
def keyChars (l : List UInt8) : Bool := l.all keyByte
def isKey (s : ByteArray) : Bool := decide (1 ≤ s.size) && decide (s.size ≤ 16) && keyChars s.data.toList
theorem keyRune_byte (c : UInt8) : keyRune (c.toNat : Int) = keyByte c := by
  unfold keyRune keyByte
  rw [Bool.eq_iff_iff]
  simp
  omega
theorem keyRune_high (c : Int) (h : 128 ≤ c) : keyRune c = false := by
  unfold keyRune
  rw [Bool.eq_false_iff]
  simp
  omega


theorem ret_bool {a b : Bool} (h : a = b) : Ending.returned (.bool a) = Ending.returned (.bool b) := by rw [h]
theorem below_iter {B : Nat} {a w : World} (h : Below B a w) (hB : B ≤ w.heap.size) (s : ByteArray) (p : Nat) : Below B a (w.iter s p) := h.alloc hB _

theorem keyRune_calls (c : Int) (w : World) :
    Calls Tryz.prog 189 #[.int .i32 c] w fun e w' => e = .returned (.bool (keyRune c)) ∧ w = w' := by
  go_enter Tryz.func189, Tryz.ntmps189
  go_wp2
  all_goals
    go_ret
    refine ⟨ret_bool ?_, rfl⟩
    unfold keyRune
    rw [Bool.eq_iff_iff]
    simp
    omega


theorem keyChars_take_succ (s : ByteArray) (p : Nat) (h : p < s.size) : keyChars (s.data.toList.take (p + 1)) = (keyChars (s.data.toList.take p) && keyByte (s[p]'h)) := by
  have e : s.data.toList.take (p + 1) = s.data.toList.take p ++ [s[p]'h] := by
    rw [List.take_succ_eq_append_getElem (by simpa using h)]; rfl
  rw [e]
  simp [keyChars]
theorem keyChars_no (s : ByteArray) (p : Nat) (h : p < s.size) (hk : keyByte (s[p]'h) = false) : keyChars s.data.toList = false := by
  rw [Bool.eq_false_iff]
  intro ha
  unfold keyChars at ha
  rw [List.all_eq_true] at ha
  have := ha (s[p]'h) (by
    have : s[p]'h = s.data.toList[p]'(by simpa using h) := rfl
    rw [this]; exact List.getElem_mem _)
  rw [hk] at this
  cases this

set_option maxRecDepth 100000 in
theorem all_calls (s : ByteArray) (w : World) (hs : s.size ≤ maxLen) :
    Calls Tryz.prog 188 #[.string s, .func (.func 189) #[] #[]] w fun e w' => e = .returned (.bool (keyChars s.data.toList)) ∧ Below w.heap.size w w' := by
  unfold maxLen at hs
  go_enter Tryz.func188, Tryz.ntmps188
  go_wp2
  go_loopw [4] (fun n wr => ∃ pos : Nat, wr = w.iter s pos ∧ n = .bool false ∧ pos ≤ s.size ∧ keyChars (s.data.toList.take pos) = true) (fun _ wr => s.size - wr.iterPos w.heap.size)
  case atStart => exact ⟨0, rfl, rfl, by omega, rfl⟩
  case round =>
    obtain ⟨pos, rfl, rfl, hp, hk⟩ := hrel
    have HK := Lib.hid hk; clear hk
    by_cases hlt : pos < s.size
    · by_cases ha : (s[pos]'hlt).toNat < 128
      · have hnx : ∀ ty, (Instr.next (.pointer (some ⟨w.heap.size, 0, none⟩)) true ty).run Tryz.prog (w.iter s pos) = _ := fun ty => run_next_ascii w s pos ty hlt ha
        obtain ⟨c, hc⟩ : ∃ c : Int, c = ((s[pos]'hlt).toNat : Int) := ⟨_, rfl⟩
        rw [← hc] at hnx
        have HC := Lib.hid hc; clear hc
        cases hb : keyRune c with
        | true =>
          have HB := Lib.hid hb; clear hb
          go_wp2_with fail
          refine (keyRune_calls c _).mono ?_
          rintro e w' ⟨rfl, rfl⟩
          rw [HB.out]
          go_wp2
          go_roundw
          case rel => exact ⟨pos + 1, rfl, rfl, by omega, by rw [keyChars_take_succ s pos hlt, HK.out, ← keyRune_byte, ← HC.out, HB.out]; rfl⟩
          case measure => simp; omega
        | false =>
          have HB := Lib.hid hb; clear hb
          go_wp2_with fail
          refine (keyRune_calls c _).mono ?_
          rintro e w' ⟨rfl, rfl⟩
          rw [HB.out]
          go_wp2
          go_ret
          exact ⟨ret_bool (by rw [keyChars_no s pos hlt (by rw [← keyRune_byte, ← HC.out, HB.out])]), below_iter (Below.refl _ _) (Nat.le_refl _) _ _⟩
      · have hnx : ∀ ty, (Instr.next (.pointer (some ⟨w.heap.size, 0, none⟩)) true ty).run Tryz.prog (w.iter s pos) = _ := fun ty => run_next_any w s pos ty hlt
        have hh := decode_high s pos hlt (by omega)
        have hno : keyChars s.data.toList = false := keyChars_no s pos hlt (by rw [← keyRune_byte]; exact keyRune_high _ (by omega))
        obtain ⟨c, hc⟩ : ∃ c : Nat, c = (Utf8.decode s pos).1 := ⟨_, rfl⟩
        rw [← hc] at hnx hh
        have HC := Lib.hid hc; clear hc
        have HN := Lib.hid hno; clear hno
        have HR := Lib.hid (keyRune_high (c : Int) (by omega))
        go_wp2_with fail
        refine (keyRune_calls (c : Int) _).mono ?_
        rintro e w' ⟨rfl, rfl⟩
        rw [HR.out]
        go_wp2
        go_ret
        exact ⟨ret_bool (by rw [HN.out]), below_iter (Below.refl _ _) (Nat.le_refl _) _ _⟩
    · have hnx : ∀ ty, (Instr.next (.pointer (some ⟨w.heap.size, 0, none⟩)) true ty).run Tryz.prog (w.iter s pos) = _ := fun ty => run_next_end w s pos ty hlt
      go_wp2
      go_ret
      have e1 : s.data.toList.take pos = s.data.toList := List.take_of_length_le (by simp; omega)
      have hk := HK.out
      rw [e1] at hk
      exact ⟨ret_bool hk.symm, below_iter (Below.refl _ _) (Nat.le_refl _) _ _⟩


theorem isKey_empty (s : ByteArray) (h : s.size = 0) : isKey s = false := by unfold isKey; simp [h]


theorem toList_size (s : ByteArray) (h : s.toList = []) : s.size = 0 := by
  rw [ByteArray.toList_eq] at h
  have h2 := congrArg List.length h
  rw [Array.length_toList] at h2
  exact h2
theorem size_toList (s : ByteArray) (h : s.size = 0) : s.toList = [] := by
  rw [ByteArray.toList_eq]
  exact List.eq_nil_of_length_eq_zero (by rw [Array.length_toList]; exact h)

set_option maxRecDepth 100000 in
theorem check_calls (s : ByteArray) (w : World) :
    Calls Tryz.prog 112 #[.string s] w fun e w' => e = .returned (.bool (isKey s)) ∧ Below w.heap.size w w' := by
  by_cases h0 : s.toList = []
  · have H := Lib.hid (isKey_empty s (toList_size s h0))
    go_enter Tryz.func112, Tryz.ntmps112
    go_wp2
    go_ret
    exact ⟨ret_bool H.out.symm, Below.refl _ _⟩
  · have h0' : !s.toList.isEmpty := by simpa using h0
    by_cases h1 : (s.size : Int) ≤ 16
    · have hs : s.size ≤ maxLen := by unfold maxLen; omega
      have hz : 1 ≤ s.size := by
        rcases Nat.eq_zero_or_pos s.size with h | h
        · exact absurd (size_toList s h) h0
        · exact h
      have H := Lib.hid (show keyChars s.data.toList = isKey s by unfold isKey; simp [hz, show s.size ≤ 16 by omega])
      clear hz
      go_enter Tryz.func112, Tryz.ntmps112
      go_wp2_with fail
      refine (all_calls s _ hs).mono ?_
      rintro e w' ⟨rfl, hb⟩
      rw [H.out]
      go_wp2
      go_ret
      exact ⟨rfl, hb⟩
    · have H := Lib.hid (show isKey s = false by unfold isKey; simp [show ¬ s.size ≤ 16 by omega])
      go_enter Tryz.func112, Tryz.ntmps112
      go_wp2
      go_ret
      exact ⟨ret_bool H.out.symm, Below.refl _ _⟩

namespace Q
/-- keys.Check, as the printed texts call it. -/
def keys_Check.f (a0 : ByteArray) : Option Bool := some (isKey a0)
theorem keys_Check.calls (a0 : ByteArray) (r : Bool) (w : World) (h : keys_Check.f a0 = some r) :
    Calls Tryz.prog 112 #[.string a0] w fun e w' => e = .returned (.bool r) ∧ Below w.heap.size w w' := by
  have e : isKey a0 = r := Option.some.inj h
  subst e
  exact check_calls a0 w
end Q
end Go.Proofs.YtcohodkpppmaoaaGreatDoor
namespace Go.Proofs.YtcohodkpppmaoaaGreatDoor.Q
open Go.RowKit Go.Proofs.YtcohodkpppmaoaaGreatDoorW.PrintWords Go.Proofs.YtcohodkpppmaoaaGreatDoorW.PrintLast Go.Proofs.YtcohodkpppmaoaaGreatDoorW.PrintMore
set_option linter.unusedVariables false

/-- Where the row lies behind an append of a text: where it lay, or in a new block. -/
theorem str_block {P : Program} (w : World) (base : Nat) (t u ty e : TypeId) (i : TypeInfo) (ht : P.underlying t = some (.slice e)) (hu : P.underlying u = some .string) (hi : P.info? e = some i) (hz : i.zero = some (.int .u8 0))
    (hsize : i.size = 1) (hby : i.bytes = 1) (v : Value) (n : Nat) (xs : List Value) (hown : w.ownsRow base e 1 v n xs) (s : ByteArray) (hbytes : n + s.size ≤ 140737488355328)
    {v' : Value} {w' : World} (hr : (Builtin.append_ #[t, u] ty #[v, .string s]).run P w = .ok v' w') : v'.ownBlock = v.ownBlock ∨ v'.ownBlock = some w.heap.size := by
  have hxl : xs.length = n := by simpa using hown.1
  rcases hown.2 with ⟨rfl, rfl⟩ | ⟨g, cap, cur, rfl, hbg, hg, hnc, hcm, hcs, htake⟩
  · by_cases hm : s.size = 0
    · have hf := Lib.run_firstCells_string (P := P) w 1 s
      rw [hm] at hf
      simp [Builtin.append_, run_underlying ht, run_underlying hu, sizeOf, typeInfo, hi, hsize, Builtin.lenOf, hm, hf] at hr
      obtain ⟨rfl, _⟩ := hr
      exact .inl rfl
    · have h2 := run_append_nil_string (P := P) w t u ty e i (.int .u8 0) ht hu hi hz s (by omega) (by omega) (by rw [hby]; omega)
      rw [h2] at hr
      injection hr with h3 h4
      subst h3
      exact .inr rfl
  · by_cases hroom : n + s.size ≤ cap
    · have h2 := Lib.run_append_room_string (P := P) w t u ty e i ht hu hi hsize g n cap cur hg s hroom (by omega)
      rw [h2] at hr
      injection hr with h3 h4
      subst h3
      exact .inl rfl
    · have holds : ∀ j u, xs[j]? = some u → w.cell? ((⟨g, 0, none⟩ : Addr).add j) = some u := hown.cells (g := g) rfl
      have h2 := Lib.run_append_grow_string (P := P) w t u ty e i (.int .u8 0) ht hu hi hz ⟨g, 0, none⟩ n cap xs (by rw [hsize]; simpa using hxl) holds s (by omega) (by omega) (by rw [hby]; exact growslice_fits (by omega) (by omega))
      rw [h2] at hr
      injection hr with h3 h4
      subst h3
      exact .inr rfl

section
variable {P : Program} {ops : Array Oper} {rest : List Oper} {o : Oper} {a : Act} {Q : Exit → Act → World → Prop}
theorem R_append_str {w0 W : World} (base : Nat) (hgd : o.guard = none) (s x : Operand) (t u e : TypeId)
    (ho : o.op = .call { callee := .builtin .append, args := #[s, x], argTypes := #[t, u] })
    (ht : P.underlying t = some (.slice e)) (hu : P.underlying u = some .string) (hinfo : (P.info? e).map (fun i => (i.zero, i.size, i.bytes)) = some (some (.int .u8 0), 1, 1))
    (v : Value) (xs : List Int) (y : ByteArray) (hs : a.eval s = v) (hx : a.eval x = .string y) (ok : Nat → Prop) (hnew : ∀ k, W.heap.size ≤ k → ok k)
    (HO : Kd.R (Kd.int .u8) e W base ok v xs) (HB : Below base w0 W) (hbase : base ≤ W.heap.size) (hl : xs.length + y.size ≤ 140737488355328)
    (h : ∀ v1 w1, Kd.R (Kd.int .u8) e w1 base ok v1 (xs ++ bytesOf y) → Below base w0 w1 → W.grownBy w1 v.ownBlock → wpList P ops Q rest (a.put o.dst v1) w1) :
    wpList P ops Q (o :: rest) a W := by
  obtain ⟨i0, hi, hzz⟩ := Option.map_eq_some_iff.1 hinfo
  simp only [Prod.mk.injEq] at hzz
  obtain ⟨hz0, hz1, hz2⟩ := hzz
  have hown : W.ownsRow base e 1 v xs.length (nums .u8 xs) := Kd.own_of_R HO
  refine wpList_plain hgd fun K hK => ?_
  obtain ⟨v1, w1, hr, h2, h3, h4⟩ := Lib.run_append_own_string (P := P) W base t u o.type e i0 ht hu hi hz0 hz1 hz2 v xs.length (nums .u8 xs) hown y (by simp only [maxLen]; omega) hl hbase
  have hat := str_block W base t u o.type e i0 ht hu hi hz0 hz1 hz2 v xs.length (nums .u8 xs) hown y hl hr
  unfold Oper.wp execOp
  simp only [ho, resolve, invoke, builtin, Sem.run_bind, Sem.run_pure, Result.andThen_ok, List.map_toArray, List.map_cons, List.map_nil, hs, hx, hr]
  refine hK _ _ (h v1 w1 ?_ (HB.grown h3 hbase (own_base hown)) h3)
  have hc : encs (Value.int .u8) (xs ++ bytesOf y) = nums .u8 xs ++ Lib.strCells y := by
    simp [encs, nums, bytesOf, Lib.strCells]
  refine Kd.R_of_own (enc := Value.int .u8) (h1 := fun _ => rfl) ?_ ?_
  · rw [hc]
    have hl2 : (xs ++ bytesOf y).length = xs.length + y.size := by rw [List.length_append, bytesOf_length]
    rw [hl2]
    exact h2
  · intro k hk
    rcases hat with hat | hat
    · exact HO.1 k (by rw [← hat]; exact hk)
    · rw [hat] at hk
      injection hk with hk
      exact hnew k (by omega)
end

def rows_text.f (l0 : List Int) (a1 : ByteArray) : Option (List Int) := if l0.length + 1 + a1.size < 140737488355328 then some (l0 ++ [(a1.size : Int) % 256] ++ bytesOf a1) else none

set_option maxHeartbeats 800000 in
set_option maxRecDepth 100000 in
theorem rows_text.calls (P0_ : Nat → Prop) (u9000_ : Value) (l0 : List Int) (a1 : ByteArray) (r : List Int) (w0 w : World) (hB : Below w0.heap.size w0 w) (ho0 : Kd.R (Kd.int .u8) 5 w w0.heap.size P0_ u9000_ l0) (h : rows_text.f l0 a1 = some r) :
    Calls Tryz.prog 116 #[u9000_, .string a1] w fun e w' => ∃ v0_ : Value, e = .returned (v0_) ∧ Kd.R (Kd.int .u8) 5 w' w0.heap.size (fun k_ => (P0_ k_ ∨ w.heap.size ≤ k_)) v0_ r ∧ Below w0.heap.size w0 w' ∧ Kept w w' (fun k_ => P0_ k_) := by
  have HO0 := Aside0.mk (show Kd.R (Kd.int .u8) 5 w w0.heap.size (fun k_ => (P0_ k_ ∨ w.heap.size ≤ k_)) u9000_ l0 from Kd.R_mono ho0 (fun k_ hk => (.inl hk)))
  have HP := Aside0.mk ho0
  have HK := Aside0.mk (Kept.refl w (fun k_ => P0_ k_))
  have HW0 := Aside0.mk hB.size
  have HB := Aside0.mk hB
  clear hB ho0
  unfold rows_text.f at h
  by_cases hb : l0.length + 1 + a1.size < 140737488355328
  · rw [if_pos hb] at h
    have e := Option.some.inj h
    have HE := Aside0.mk e
    have HL := Aside0.mk hb
    clear h e hb
    go_enter Tryz.func116, Tryz.ntmps116
    go_wp2_with (first | (at_builtin; refine Kd.R_append (Kd.int .u8) (w0 := w0) w0.heap.size rfl (.tmp 5) (.tmp 9) 67 5 (.int .u8 0) 1 rfl Tryz.underlying67 info5 rfl (by decide) (by omega) u9000_ l0 ((a1.size : Int) % 256) [.int .u8 ((a1.size : Int) % 256)] (fun k_ => (P0_ k_ ∨ w.heap.size ≤ k_)) (fun _ => False) rfl rfl rfl (fun _ hk => hk.elim) (fun k_ hk => .inr hk) HO0.out HB.out HW0.out (by have := HL.out; omega) ?_; intro v1 w1 ho hb hg hat; have HO1 := Aside0.mk ho; have HB1 := Aside0.mk hb; have HG1 := Aside0.mk hg; have HS1 := Aside0.mk hg.size; clear ho hb hg hat) | (at_builtin; refine R_append_str (w0 := w0) w0.heap.size rfl (.tmp 10) (.tmp 11) 67 9 5 rfl Tryz.underlying67 Tryz.underlying9 info5 v1 (l0 ++ [(a1.size : Int) % 256]) a1 rfl rfl (fun k_ => (P0_ k_ ∨ w.heap.size ≤ k_)) (fun k_ hk => .inr (Nat.le_trans HS1.out hk)) HO1.out HB1.out (Nat.le_trans HW0.out HS1.out) (by rw [List.length_append]; have := HL.out; simp; omega) ?_; intro v2 w2 ho2 hb2 hg2; have HO2 := Aside0.mk ho2; have HB2 := Aside0.mk hb2; have HG2 := Aside0.mk hg2; clear ho2 hb2 hg2))
    go_ret
    refine ⟨_, rfl, by rw [← HE.out]; exact HO2.out, HB2.out, ?_⟩
    have K1 : Kept w w1 (fun k_ => P0_ k_) := Kept.of_grown HG1.out HK.out (fun k_ e_ => HO0.out.1 k_ e_)
    exact Kept.of_grown HG2.out K1 (fun k_ e_ => HO1.out.1 k_ e_)
  · rw [if_neg hb] at h
    cases h

end Go.Proofs.YtcohodkpppmaoaaGreatDoor.Q
