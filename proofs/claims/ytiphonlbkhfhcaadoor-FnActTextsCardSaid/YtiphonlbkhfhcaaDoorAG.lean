/- What the functions with loops compute, by hand. -/
import Derived.Test.YtiphonlbkhfhcaaDoorMG
import Derived.Test.YtiphonlbkhfhcaaDoorMF
import Derived.Lib.Atoi
set_option linter.unusedVariables false
namespace Go.M
open Go
noncomputable section
/-- The pieces of a text between blanks, none of them empty; cur: what stands before. -/
def wordsL : List UInt8 → List UInt8 → List (List UInt8)
  | cur, [] => if cur = [] then [] else [cur]
  | cur, c :: r => if c = 32 then (if cur = [] then wordsL [] r else cur :: wordsL [] r) else wordsL (cur ++ [c]) r
/-- The first place from i where p holds; -1: none. -/
def firstAt (p : ByteArray → Bool) : List ByteArray → Int → Int
  | [], _ => -1
  | x :: xs, i => bif p x then i else firstAt p xs (i + 1)
/-- A decimal number without sign of at most 18 digits, no zero ahead. -/
def magOf (neg : Bool) (m : List UInt8) : Option Nat :=
  match m with
  | [] => none
  | c :: r => if 18 < (c :: r).length then none else if c = 48 ∧ (r ≠ [] ∨ neg = true) then none else Lib.decFrom 0 (c :: r)
def numOf (l : List UInt8) : Option Int :=
  match l with
  | [] => none
  | c :: r => if c = 45 then (magOf true r).map (fun (m : Nat) => -(m : Int)) else (magOf false (c :: r)).map (fun (m : Nat) => (m : Int))
def numOut (o : Option Int) : Int × Bool := match o with
  | some n => (n, true)
  | none => (0, false)
def G_s_l00Words (s : ByteArray) : Option (List ByteArray) := if s.size ≤ 1048576 then some ((wordsL [] s.data.toList).map B) else none
def G_s_l13Place (xs : List ByteArray) (x : ByteArray) : Option Int := some (firstAt (fun e => e.toList == x.toList) xs 0)
def G_s_l00Number (s : ByteArray) : Option (Int × Bool) := some (numOut (numOf s.data.toList))
def G_slices_IndexFunc_Sstring_string_at_i_wordsOf_c1 (xs : List ByteArray) : Option Int := some (firstAt (fun e => e.toList == (.empty : ByteArray).toList) xs 0)
def G_slices_DeleteFunc_Sstring_string_at_i_wordsOf_c1 (xs : List ByteArray) : Option (List ByteArray) := some (xs.filter (fun e => !(e.toList == (.empty : ByteArray).toList)))
def G_slices_Index_Sstring_string (xs : List ByteArray) (x : ByteArray) : Option Int := some (firstAt (fun e => x.toList == e.toList) xs 0)
end
end Go.M
