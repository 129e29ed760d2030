
/-
  What the bytes of ops, results and changes are, in plain words: the common answer of the program's and the reference's texts. No program in sight.
-/
import Derived.Test.YtcohodkpppmaoaaDoorKeys
import Derived.Test.YtcohodkpppmaoaaDoorQT0
namespace Go.Proofs.YtcohodkpppmaoaaDoor.Q
open Go.RowKit Go.Proofs.YtcohodkpppmaoaaDoorW.PrintWords Go.Proofs.YtcohodkpppmaoaaDoorW.PrintLast Go.Proofs.YtcohodkpppmaoaaDoorW.PrintMore

abbrev OpT := S62
abbrev RowT := S93
abbrev ResultT := S59

def num2 (n : Int) : List Int := [n / 256 % 256, n % 256]
def num4 (n : Int) : List Int := [n / 16777216 % 256, n / 65536 % 256, n / 256 % 256, n % 256]
def textB (s : ByteArray) : List Int := ((s.size : Int) % 256) :: bytesOf s
theorem num2_length (n : Int) : (num2 n).length = 2 := rfl
theorem num4_length (n : Int) : (num4 n).length = 4 := rfl
theorem textB_length (s : ByteArray) : (textB s).length = s.size + 1 := by simp [textB, bytesOf_length]

def rowB (x : RowT) : List Int := textB x.f0 ++ num4 x.f1
def rowsB (l : List RowT) : List Int := num2 l.length ++ l.flatMap rowB
def resultB (x : ResultT) : List Int := rowsB x.f0
def mayRows (l : List RowT) : Bool := l.all (fun r => isKey r.f0)
def opB (x : OpT) : List Int := [x.f0] ++ textB x.f1 ++ textB x.f2 ++ num4 x.f3
def mayOp (x : OpT) : Bool :=
  isKey x.f1 && decide (1 ≤ x.f0) && decide (x.f0 ≤ 4) && (if x.f0 = 4 then isKey x.f2 else x.f2.size == 0) && (x.f3 == 0 || x.f0 == 2)

/-- A list, its parts put behind its count; what may not be, what is too much. -/
def putList {α : Type} (may : α → Int) (most : Nat) (one : α → List Int) (l : List α) : List Int × Int :=
  if l.any (fun x => may x == 1) then ([], 1)
  else if l.any (fun x => may x == 3) || decide (most < l.length) then ([], 3)
  else (num2 l.length ++ l.flatMap one, 0)

def opE (x : OpT) : Int := if mayOp x then 0 else 1
def resultE (x : ResultT) : Int := if mayRows x.f0 then (if x.f0.length ≤ 256 then 0 else 3) else 1

def putOps (l : List OpT) : List Int × Int := putList opE 16 opB l
def putResults (l : List ResultT) : List Int × Int := putList resultE 16 resultB l

/-! ### numbers that fit their kinds -/
def u32Ok (n : Int) : Prop := 0 ≤ n ∧ n ≤ 4294967295
def u8Ok (n : Int) : Prop := 0 ≤ n ∧ n ≤ 255
def rowOk (x : RowT) : Prop := u32Ok x.f1
def resultOk (x : ResultT) : Prop := ∀ r ∈ x.f0, rowOk r
def opOk (x : OpT) : Prop := u8Ok x.f0 ∧ u32Ok x.f3

theorem flatMap_len_le {α : Type} (f : α → List Int) (c : Nat) : ∀ (l : List α), (∀ x ∈ l, (f x).length ≤ c) → (l.flatMap f).length ≤ c * l.length
  | [], _ => by simp
  | x :: l, h => by
    rw [List.flatMap_cons, List.length_append, List.length_cons, Nat.mul_add, Nat.mul_one]
    have h1 := h x (List.mem_cons_self)
    have h2 := flatMap_len_le f c l (fun y hy => h y (List.mem_cons_of_mem _ hy))
    omega

end Go.Proofs.YtcohodkpppmaoaaDoor.Q
