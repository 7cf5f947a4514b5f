/- AF: made by program for this claim. -/
import Derived.Test.YtiphonlbkhfhcaaDoorMF
import Derived.Test.YtiphonlbkhfhcaaDoorAG
set_option linter.unusedVariables false
set_option maxRecDepth 100000
namespace Go.M
open Go
noncomputable section
noncomputable def F_s_l01In (x0 : Int) (x1 : Int) (x2 : Int) : Option (Bool) :=
  bif (decide (x0 ≥ x1)) then
    some (decide (x0 ≤ x2))
  else
    some false


noncomputable def F_s_l01Cell (x0 : Int) : Option (Bool) :=
  (F_s_l01In x0 (-2147483648 : Int) (2147483647 : Int)).bind fun r1 =>
  some r1


noncomputable def F_s_ActOK (x0 : Int) (x1 : Int) (x2 : ByteArray) : Option (Bool) :=
  bif (x0 != (6 : Int)) then
    bif (!(x2.toList == (.empty : ByteArray).toList)) then
      some false
    else
    bif (decide ((toInt x2.size) > (400 : Int))) then
      some false
    else
    bif (x0 == (1 : Int)) then
      (F_s_l01In x1 (0 : Int) (3 : Int)).bind fun r1 =>
      some r1
    else
    bif (x0 == (2 : Int)) then
      (F_s_l01In x1 (0 : Int) (3 : Int)).bind fun r2 =>
      some r2
    else
    bif (x0 == (3 : Int)) then
      (F_s_l01In x1 (1 : Int) (4000 : Int)).bind fun r3 =>
      some r3
    else
    bif (x0 == (4 : Int)) then
      (F_s_l01Cell x1).bind fun r4 =>
      some r4
    else
    bif (x0 == (5 : Int)) then
      (F_s_l01In x1 (1 : Int) (1000 : Int)).bind fun r5 =>
      some r5
    else
    bif (x0 == (6 : Int)) then
      some (x1 == (0 : Int))
    else
      some false
  else
  bif (decide ((toInt x2.size) > (400 : Int))) then
    some false
  else
  bif (x0 == (1 : Int)) then
    (F_s_l01In x1 (0 : Int) (3 : Int)).bind fun r6 =>
    some r6
  else
  bif (x0 == (2 : Int)) then
    (F_s_l01In x1 (0 : Int) (3 : Int)).bind fun r7 =>
    some r7
  else
  bif (x0 == (3 : Int)) then
    (F_s_l01In x1 (1 : Int) (4000 : Int)).bind fun r8 =>
    some r8
  else
  bif (x0 == (4 : Int)) then
    (F_s_l01Cell x1).bind fun r9 =>
    some r9
  else
  bif (x0 == (5 : Int)) then
    (F_s_l01In x1 (1 : Int) (1000 : Int)).bind fun r10 =>
    some r10
  else
  bif (x0 == (6 : Int)) then
    some (x1 == (0 : Int))
  else
    some false


/-- One round of loop 4 of loop.example/g00787/spec.l00Words. -/
noncomputable def B_s_l00Words_L4 (N n : Nat) (L4 : Nat → ByteArray → Int → Int → (List ByteArray) → Option ((List ByteArray))) (p0 : ByteArray) (p1 : Int) (p2 : Int) (p3 : List ByteArray) : Option ((List ByteArray)) :=
  bif (decide (p2 ≤ (toInt p0.size))) then
    bif (p2 == (toInt p0.size)) then
      bif (decide (p2 > p1)) then
        bif ((((decide ((0 : Int) ≤ p2) && decide (p2 ≤ (toInt p0.size))) && decide ((0 : Int) ≤ p1)) && decide (p1 ≤ p2))) then
          bif (decide ((p3.length + 1) * 16 ≤ maxBytes)) then
            L4 n p0 (w64 (p2 + (1 : Int))) (w64 (p2 + (1 : Int))) (p3 ++ ([(p0.extract p1.toNat p2.toNat)] : List ByteArray))
          else
            none
        else
          none
      else
        L4 n p0 (w64 (p2 + (1 : Int))) (w64 (p2 + (1 : Int))) p3
    else
      (bidx p0 p2).bind fun b1 =>
      bif (b1 == (32 : Int)) then
        bif (decide (p2 > p1)) then
          bif ((((decide ((0 : Int) ≤ p2) && decide (p2 ≤ (toInt p0.size))) && decide ((0 : Int) ≤ p1)) && decide (p1 ≤ p2))) then
            bif (decide ((p3.length + 1) * 16 ≤ maxBytes)) then
              L4 n p0 (w64 (p2 + (1 : Int))) (w64 (p2 + (1 : Int))) (p3 ++ ([(p0.extract p1.toNat p2.toNat)] : List ByteArray))
            else
              none
          else
            none
        else
          L4 n p0 (w64 (p2 + (1 : Int))) (w64 (p2 + (1 : Int))) p3
      else
        L4 n p0 p1 (w64 (p2 + (1 : Int))) p3
  else
    some p3

noncomputable def FB_s_l00Words (N : Nat) (L4 : Nat → ByteArray → Int → Int → (List ByteArray) → Option ((List ByteArray))) (x0 : ByteArray) : Option ((List ByteArray)) :=
  L4 N x0 (0 : Int) (0 : Int) ([] : List ByteArray)

noncomputable def L_s_l00Words_L4 (N : Nat) : Nat → ByteArray → Int → Int → (List ByteArray) → Option ((List ByteArray))
  | 0, _, _, _, _ => none
  | n + 1, p0, p1, p2, p3 => B_s_l00Words_L4 N n (fun _ p0 p1 p2 p3 => L_s_l00Words_L4 N n p0 p1 p2 p3) p0 p1 p2 p3
noncomputable def F_s_l00Words (N : Nat) (x0 : ByteArray) : Option ((List ByteArray)) := FB_s_l00Words N (L_s_l00Words_L4 N) x0

noncomputable def F_s_l13Acts  : Option ((List ByteArray)) :=
  some ([(B [103, 114, 97, 110, 116]), (B [114, 101, 118, 111, 107, 101]), (B [114, 101, 102, 117, 101, 108]), (B [97, 110, 115, 119, 101, 114]), (B [116, 105, 99, 107]), (B [101, 118, 97, 108])] : List ByteArray)


/-- One round of loop 2 of loop.example/g00787/spec.l13Place. -/
noncomputable def B_s_l13Place_L2 (N n : Nat) (L2 : Nat → (List ByteArray) → ByteArray → Int → Option (Int)) (p0 : List ByteArray) (p1 : ByteArray) (p2 : Int) : Option (Int) :=
  bif (decide (p2 < (toInt p0.length))) then
    (idx p0 p2).bind fun e1 =>
    bif (e1.toList == p1.toList) then
      some p2
    else
      L2 n p0 p1 (w64 (p2 + (1 : Int)))
  else
    some (-1 : Int)

noncomputable def FB_s_l13Place (N : Nat) (L2 : Nat → (List ByteArray) → ByteArray → Int → Option (Int)) (x0 : List ByteArray) (x1 : ByteArray) : Option (Int) :=
  L2 N x0 x1 (0 : Int)

noncomputable def L_s_l13Place_L2 (N : Nat) : Nat → (List ByteArray) → ByteArray → Int → Option (Int)
  | 0, _, _, _ => none
  | n + 1, p0, p1, p2 => B_s_l13Place_L2 N n (fun _ p0 p1 p2 => L_s_l13Place_L2 N n p0 p1 p2) p0 p1 p2
noncomputable def F_s_l13Place (N : Nat) (x0 : List ByteArray) (x1 : ByteArray) : Option (Int) := FB_s_l13Place N (L_s_l13Place_L2 N) x0 x1

noncomputable def F_s_l13Caps  : Option ((List ByteArray)) :=
  some ([(B [114, 101, 97, 100]), (B [119, 114, 105, 116, 101]), (B [97, 115, 107]), (B [116, 105, 109, 101])] : List ByteArray)


/-- One round of loop 9 of loop.example/g00787/spec.l00Number. -/
noncomputable def B_s_l00Number_L9 (N n : Nat) (L9 : Nat → ByteArray → Int → Int → Int → Option (Int × Bool)) (p0 : ByteArray) (p1 : Int) (p2 : Int) (p3 : Int) : Option (Int × Bool) :=
  bif (decide (p3 < (toInt p0.size))) then
    (bidx p0 p3).bind fun b1 =>
    bif (decide (b1 < (48 : Int))) then
      some ((0 : Int), false)
    else
      (bidx p0 p3).bind fun b2 =>
      bif (decide (b2 > (57 : Int))) then
        some ((0 : Int), false)
      else
        (bidx p0 p3).bind fun b3 =>
        L9 n p0 p1 (w64 ((w64 ((w64 (p2 * (10 : Int))) + (w64 b3))) - (48 : Int))) (w64 (p3 + (1 : Int)))
  else
    some ((w64 (p1 * p2)), true)

noncomputable def FB_s_l00Number (N : Nat) (L9 : Nat → ByteArray → Int → Int → Int → Option (Int × Bool)) (x0 : ByteArray) : Option (Int × Bool) :=
  bif (decide ((toInt x0.size) > (0 : Int))) then
    (bidx x0 (0 : Int)).bind fun b1 =>
    bif (b1 == (45 : Int)) then
      bif ((decide ((0 : Int) ≤ (1 : Int)) && decide ((1 : Int) ≤ (toInt x0.size)))) then
        bif ((toInt (x0.extract 1 x0.size).size) == (0 : Int)) then
          some ((0 : Int), false)
        else
        bif (decide ((toInt (x0.extract 1 x0.size).size) > (18 : Int))) then
          some ((0 : Int), false)
        else
          (bidx (x0.extract 1 x0.size) (0 : Int)).bind fun b2 =>
          bif (b2 == (48 : Int)) then
            bif (decide ((toInt (x0.extract 1 x0.size).size) > (1 : Int))) then
              some ((0 : Int), false)
            else
              some ((0 : Int), false)
          else
            L9 N (x0.extract 1 x0.size) (-1 : Int) (0 : Int) (0 : Int)
      else
        none
    else
    bif ((toInt x0.size) == (0 : Int)) then
      some ((0 : Int), false)
    else
    bif (decide ((toInt x0.size) > (18 : Int))) then
      some ((0 : Int), false)
    else
      (bidx x0 (0 : Int)).bind fun b3 =>
      bif (b3 == (48 : Int)) then
        bif (decide ((toInt x0.size) > (1 : Int))) then
          some ((0 : Int), false)
        else
          L9 N x0 (1 : Int) (0 : Int) (0 : Int)
      else
        L9 N x0 (1 : Int) (0 : Int) (0 : Int)
  else
  bif ((toInt x0.size) == (0 : Int)) then
    some ((0 : Int), false)
  else
  bif (decide ((toInt x0.size) > (18 : Int))) then
    some ((0 : Int), false)
  else
    (bidx x0 (0 : Int)).bind fun b4 =>
    bif (b4 == (48 : Int)) then
      bif (decide ((toInt x0.size) > (1 : Int))) then
        some ((0 : Int), false)
      else
        L9 N x0 (1 : Int) (0 : Int) (0 : Int)
    else
      L9 N x0 (1 : Int) (0 : Int) (0 : Int)

noncomputable def L_s_l00Number_L9 (N : Nat) : Nat → ByteArray → Int → Int → Int → Option (Int × Bool)
  | 0, _, _, _, _ => none
  | n + 1, p0, p1, p2, p3 => B_s_l00Number_L9 N n (fun _ p0 p1 p2 p3 => L_s_l00Number_L9 N n p0 p1 p2 p3) p0 p1 p2 p3
noncomputable def F_s_l00Number (N : Nat) (x0 : ByteArray) : Option (Int × Bool) := FB_s_l00Number N (L_s_l00Number_L9 N) x0

noncomputable def F_s_l13Read (x0 : ByteArray) : Option (Int × Int × ByteArray × Bool) :=
  bif (decide ((toInt x0.size) ≥ (5 : Int))) then
    bif ((decide ((0 : Int) ≤ (5 : Int)) && decide ((5 : Int) ≤ (toInt x0.size)))) then
      bif ((x0.extract 0 5).toList == (B [101, 118, 97, 108, 32]).toList) then
        bif ((decide ((0 : Int) ≤ (5 : Int)) && decide ((5 : Int) ≤ (toInt x0.size)))) then
          (F_s_ActOK (6 : Int) (0 : Int) (x0.extract 5 x0.size)).bind fun r1 =>
          some ((6 : Int), (0 : Int), (x0.extract 5 x0.size), r1)
        else
          none
      else
        (G_s_l00Words x0).bind fun r2 =>
        bif ((toInt r2.length) != (2 : Int)) then
          some ((0 : Int), (0 : Int), (.empty : ByteArray), false)
        else
          (F_s_l13Acts).bind fun r3 =>
          (idx r2 (0 : Int)).bind fun e4 =>
          (G_s_l13Place r3 e4).bind fun r5 =>
          bif ((w64 (r5 + (1 : Int))) == (0 : Int)) then
            some ((0 : Int), (0 : Int), (.empty : ByteArray), false)
          else
          bif ((w64 (r5 + (1 : Int))) == (6 : Int)) then
            some ((0 : Int), (0 : Int), (.empty : ByteArray), false)
          else
          bif (decide ((w64 (r5 + (1 : Int))) ≤ (2 : Int))) then
            (F_s_l13Caps).bind fun r6 =>
            (idx r2 (1 : Int)).bind fun e7 =>
            (G_s_l13Place r6 e7).bind fun r8 =>
            (F_s_ActOK (w64 (r5 + (1 : Int))) r8 (.empty : ByteArray)).bind fun r9 =>
            some ((w64 (r5 + (1 : Int))), r8, (.empty : ByteArray), r9)
          else
            (idx r2 (1 : Int)).bind fun e10 =>
            (G_s_l00Number e10).bind fun r11 =>
            bif r11.2 then
              (F_s_ActOK (w64 (r5 + (1 : Int))) r11.1 (.empty : ByteArray)).bind fun r12 =>
              some ((w64 (r5 + (1 : Int))), r11.1, (.empty : ByteArray), r12)
            else
              some ((w64 (r5 + (1 : Int))), r11.1, (.empty : ByteArray), false)
    else
      none
  else
    (G_s_l00Words x0).bind fun r13 =>
    bif ((toInt r13.length) != (2 : Int)) then
      some ((0 : Int), (0 : Int), (.empty : ByteArray), false)
    else
      (F_s_l13Acts).bind fun r14 =>
      (idx r13 (0 : Int)).bind fun e15 =>
      (G_s_l13Place r14 e15).bind fun r16 =>
      bif ((w64 (r16 + (1 : Int))) == (0 : Int)) then
        some ((0 : Int), (0 : Int), (.empty : ByteArray), false)
      else
      bif ((w64 (r16 + (1 : Int))) == (6 : Int)) then
        some ((0 : Int), (0 : Int), (.empty : ByteArray), false)
      else
      bif (decide ((w64 (r16 + (1 : Int))) ≤ (2 : Int))) then
        (F_s_l13Caps).bind fun r17 =>
        (idx r13 (1 : Int)).bind fun e18 =>
        (G_s_l13Place r17 e18).bind fun r19 =>
        (F_s_ActOK (w64 (r16 + (1 : Int))) r19 (.empty : ByteArray)).bind fun r20 =>
        some ((w64 (r16 + (1 : Int))), r19, (.empty : ByteArray), r20)
      else
        (idx r13 (1 : Int)).bind fun e21 =>
        (G_s_l00Number e21).bind fun r22 =>
        bif r22.2 then
          (F_s_ActOK (w64 (r16 + (1 : Int))) r22.1 (.empty : ByteArray)).bind fun r23 =>
          some ((w64 (r16 + (1 : Int))), r22.1, (.empty : ByteArray), r23)
        else
          some ((w64 (r16 + (1 : Int))), r22.1, (.empty : ByteArray), false)


noncomputable def F_s_ReadAct (x0 : ByteArray) : Option (Int × Int × ByteArray × Int) :=
  bif (decide ((toInt x0.size) > (65536 : Int))) then
    some ((0 : Int), (0 : Int), (.empty : ByteArray), (2 : Int))
  else
    (F_s_l13Read x0).bind fun r1 =>
    bif (!r1.2.2.2) then
      some ((0 : Int), (0 : Int), (.empty : ByteArray), (3 : Int))
    else
      some (r1.1, r1.2.1, r1.2.2.1, (0 : Int))


noncomputable def F_stringslite_HasPrefix (x0 : ByteArray) (x1 : ByteArray) : Option (Bool) :=
  bif (decide ((toInt x0.size) ≥ (toInt x1.size))) then
    bif ((decide ((0 : Int) ≤ (toInt x1.size)) && decide ((toInt x1.size) ≤ (toInt x0.size)))) then
      some ((x0.extract 0 (toInt x1.size).toNat).toList == x1.toList)
    else
      none
  else
    some false


noncomputable def F_stringslite_CutPrefix (x0 : ByteArray) (x1 : ByteArray) : Option (ByteArray × Bool) :=
  (F_stringslite_HasPrefix x0 x1).bind fun r1 =>
  bif (!r1) then
    some (x0, false)
  else
  bif ((decide ((0 : Int) ≤ (toInt x1.size)) && decide ((toInt x1.size) ≤ (toInt x0.size)))) then
    some ((x0.extract (toInt x1.size).toNat x0.size), true)
  else
    none


noncomputable def F_strings_CutPrefix (x0 : ByteArray) (x1 : ByteArray) : Option (ByteArray × Bool) :=
  (F_stringslite_CutPrefix x0 x1).bind fun r1 =>
  some (r1.1, r1.2)


noncomputable def F_i_in (x0 : Int) (x1 : Int) (x2 : Int) : Option (Bool) :=
  bif (decide (x1 ≤ x0)) then
    some (decide (x0 ≤ x2))
  else
    some false


noncomputable def F_i_isCap (x0 : Int) : Option (Bool) :=
  (F_i_in x0 (0 : Int) (3 : Int)).bind fun r1 =>
  some r1


noncomputable def F_i_WrapCell (x0 : Int) : Option (Int) :=
  some (w64 (w32 x0))


noncomputable def F_i_CellOK (x0 : Int) : Option (Bool) :=
  (F_i_WrapCell x0).bind fun r1 =>
  some (r1 == x0)


noncomputable def F_i_ActOK (x0 : Int) (x1 : Int) (x2 : ByteArray) : Option (Bool) :=
  bif (x0 == (1 : Int)) then
    (F_i_isCap x1).bind fun r1 =>
    bif r1 then
      some (x2.toList == (.empty : ByteArray).toList)
    else
      some false
  else
  bif (x0 == (2 : Int)) then
    (F_i_isCap x1).bind fun r2 =>
    bif r2 then
      some (x2.toList == (.empty : ByteArray).toList)
    else
      some false
  else
  bif (x0 == (3 : Int)) then
    (F_i_in x1 (1 : Int) (4000 : Int)).bind fun r3 =>
    bif r3 then
      some (x2.toList == (.empty : ByteArray).toList)
    else
      some false
  else
  bif (x0 == (4 : Int)) then
    (F_i_CellOK x1).bind fun r4 =>
    bif r4 then
      some (x2.toList == (.empty : ByteArray).toList)
    else
      some false
  else
  bif (x0 == (5 : Int)) then
    (F_i_in x1 (1 : Int) (1000 : Int)).bind fun r5 =>
    bif r5 then
      some (x2.toList == (.empty : ByteArray).toList)
    else
      some false
  else
  bif (x0 == (6 : Int)) then
    bif (x1 == (0 : Int)) then
      some (decide ((toInt x2.size) ≤ (400 : Int)))
    else
      some false
  else
    some false


noncomputable def F_i_wordsOf_c1 (x0 : ByteArray) : Option (Bool) :=
  some (x0.toList == (.empty : ByteArray).toList)


/-- One round of loop 2 of slices.IndexFunc[[]string,string]. -/
noncomputable def B_slices_IndexFunc_Sstring_string_at_i_wordsOf_c1_L2 (N n : Nat) (L2 : Nat → (List ByteArray) → Int → Int → Option (Int)) (p0 : List ByteArray) (p1 : Int) (p2 : Int) : Option (Int) :=
  bif (decide (p2 < p1)) then
    (idx p0 p2).bind fun e1 =>
    (F_i_wordsOf_c1 e1).bind fun r2 =>
    bif r2 then
      some p2
    else
      L2 n p0 p1 (w64 (p2 + (1 : Int)))
  else
    some (-1 : Int)

noncomputable def FB_slices_IndexFunc_Sstring_string_at_i_wordsOf_c1 (N : Nat) (L2 : Nat → (List ByteArray) → Int → Int → Option (Int)) (x0 : List ByteArray) : Option (Int) :=
  L2 N x0 (toInt x0.length) (0 : Int)

noncomputable def L_slices_IndexFunc_Sstring_string_at_i_wordsOf_c1_L2 (N : Nat) : Nat → (List ByteArray) → Int → Int → Option (Int)
  | 0, _, _, _ => none
  | n + 1, p0, p1, p2 => B_slices_IndexFunc_Sstring_string_at_i_wordsOf_c1_L2 N n (fun _ p0 p1 p2 => L_slices_IndexFunc_Sstring_string_at_i_wordsOf_c1_L2 N n p0 p1 p2) p0 p1 p2
noncomputable def F_slices_IndexFunc_Sstring_string_at_i_wordsOf_c1 (N : Nat) (x0 : List ByteArray) : Option (Int) := FB_slices_IndexFunc_Sstring_string_at_i_wordsOf_c1 N (L_slices_IndexFunc_Sstring_string_at_i_wordsOf_c1_L2 N) x0

/-- One round of loop 5 of slices.DeleteFunc[[]string,string]. -/
noncomputable def B_slices_DeleteFunc_Sstring_string_at_i_wordsOf_c1_L5 (N n : Nat) (L5 : Nat → Int → Int → (List ByteArray) → Option ((List ByteArray))) (p0 : Int) (p1 : Int) (p2 : List ByteArray) : Option ((List ByteArray)) :=
  bif (decide (p1 < (toInt p2.length))) then
    (idx p2 p1).bind fun e1 =>
    (F_i_wordsOf_c1 e1).bind fun r2 =>
    bif (!r2) then
      (idx p2 p0).bind fun e3 =>
      L5 n (w64 (p0 + (1 : Int))) (w64 (p1 + (1 : Int))) (p2.set p0.toNat e1)
    else
      L5 n p0 (w64 (p1 + (1 : Int))) p2
  else
  bif ((decide ((0 : Int) ≤ p0) && decide (p0 ≤ (toInt p2.length)))) then
    bif ((decide ((0 : Int) ≤ p0) && decide (p0 ≤ (toInt (p2.take (0 + p0.toNat) ++ (List.replicate (drop' (0 + p0.toNat) p2).length (.empty : ByteArray)) ++ p2.drop ((0 + p0.toNat) + (List.replicate (drop' (0 + p0.toNat) p2).length (.empty : ByteArray)).length)).length)))) then
      some ((p2.take (0 + p0.toNat) ++ (List.replicate (drop' (0 + p0.toNat) p2).length (.empty : ByteArray)) ++ p2.drop ((0 + p0.toNat) + (List.replicate (drop' (0 + p0.toNat) p2).length (.empty : ByteArray)).length)).take p0.toNat)
    else
      none
  else
    none

noncomputable def FB_slices_DeleteFunc_Sstring_string_at_i_wordsOf_c1 (N : Nat) (L5 : Nat → Int → Int → (List ByteArray) → Option ((List ByteArray))) (x0 : List ByteArray) : Option ((List ByteArray)) :=
  (G_slices_IndexFunc_Sstring_string_at_i_wordsOf_c1 x0).bind fun r1 =>
  bif (r1 == (-1 : Int)) then
    some x0
  else
    L5 N r1 (w64 (r1 + (1 : Int))) x0

noncomputable def L_slices_DeleteFunc_Sstring_string_at_i_wordsOf_c1_L5 (N : Nat) : Nat → Int → Int → (List ByteArray) → Option ((List ByteArray))
  | 0, _, _, _ => none
  | n + 1, p0, p1, p2 => B_slices_DeleteFunc_Sstring_string_at_i_wordsOf_c1_L5 N n (fun _ p0 p1 p2 => L_slices_DeleteFunc_Sstring_string_at_i_wordsOf_c1_L5 N n p0 p1 p2) p0 p1 p2
noncomputable def F_slices_DeleteFunc_Sstring_string_at_i_wordsOf_c1 (N : Nat) (x0 : List ByteArray) : Option ((List ByteArray)) := FB_slices_DeleteFunc_Sstring_string_at_i_wordsOf_c1 N (L_slices_DeleteFunc_Sstring_string_at_i_wordsOf_c1_L5 N) x0

noncomputable def F_i_wordsOf (x0 : ByteArray) : Option ((List ByteArray)) :=
  (G_strings_Split x0 (B [32])).bind fun r1 =>
  (G_slices_DeleteFunc_Sstring_string_at_i_wordsOf_c1 r1).bind fun r2 =>
  some r2


noncomputable def F_i_actWords  : Option ((List ByteArray)) :=
  some ([(B [103, 114, 97, 110, 116]), (B [114, 101, 118, 111, 107, 101]), (B [114, 101, 102, 117, 101, 108]), (B [97, 110, 115, 119, 101, 114]), (B [116, 105, 99, 107])] : List ByteArray)


/-- One round of loop 2 of slices.Index[[]string,string]. -/
noncomputable def B_slices_Index_Sstring_string_L2 (N n : Nat) (L2 : Nat → (List ByteArray) → ByteArray → Int → Int → Option (Int)) (p0 : List ByteArray) (p1 : ByteArray) (p2 : Int) (p3 : Int) : Option (Int) :=
  bif (decide (p3 < p2)) then
    (idx p0 p3).bind fun e1 =>
    bif (p1.toList == e1.toList) then
      some p3
    else
      L2 n p0 p1 p2 (w64 (p3 + (1 : Int)))
  else
    some (-1 : Int)

noncomputable def FB_slices_Index_Sstring_string (N : Nat) (L2 : Nat → (List ByteArray) → ByteArray → Int → Int → Option (Int)) (x0 : List ByteArray) (x1 : ByteArray) : Option (Int) :=
  L2 N x0 x1 (toInt x0.length) (0 : Int)

noncomputable def L_slices_Index_Sstring_string_L2 (N : Nat) : Nat → (List ByteArray) → ByteArray → Int → Int → Option (Int)
  | 0, _, _, _, _ => none
  | n + 1, p0, p1, p2, p3 => B_slices_Index_Sstring_string_L2 N n (fun _ p0 p1 p2 p3 => L_slices_Index_Sstring_string_L2 N n p0 p1 p2 p3) p0 p1 p2 p3
noncomputable def F_slices_Index_Sstring_string (N : Nat) (x0 : List ByteArray) (x1 : ByteArray) : Option (Int) := FB_slices_Index_Sstring_string N (L_slices_Index_Sstring_string_L2 N) x0 x1

noncomputable def F_i_capWords  : Option ((List ByteArray)) :=
  some ([(B [114, 101, 97, 100]), (B [119, 114, 105, 116, 101]), (B [97, 115, 107]), (B [116, 105, 109, 101])] : List ByteArray)


noncomputable def F_stringslite_TrimPrefix (x0 : ByteArray) (x1 : ByteArray) : Option (ByteArray) :=
  (F_stringslite_HasPrefix x0 x1).bind fun r1 =>
  bif r1 then
    bif ((decide ((0 : Int) ≤ (toInt x1.size)) && decide ((toInt x1.size) ≤ (toInt x0.size)))) then
      some (x0.extract (toInt x1.size).toNat x0.size)
    else
      none
  else
    some x0


noncomputable def F_strings_TrimPrefix (x0 : ByteArray) (x1 : ByteArray) : Option (ByteArray) :=
  (F_stringslite_TrimPrefix x0 x1).bind fun r1 =>
  some r1


noncomputable def F_i_readInt (x0 : ByteArray) : Option (Int × Bool) :=
  (G_strconv_Atoi x0).bind fun r1 =>
  bif r1.2 then
    (G_strconv_Itoa r1.1).bind fun r2 =>
    bif (r2.toList == x0.toList) then
      (F_strings_TrimPrefix x0 (B [45])).bind fun r3 =>
      some (r1.1, (decide ((toInt r3.size) ≤ (18 : Int))))
    else
      some (r1.1, false)
  else
    some (r1.1, false)


noncomputable def F_i_readAct (x0 : ByteArray) : Option (Int × Int × ByteArray × Bool) :=
  (F_strings_CutPrefix x0 (B [101, 118, 97, 108, 32])).bind fun r1 =>
  bif r1.2 then
    (F_i_ActOK (6 : Int) (0 : Int) r1.1).bind fun r2 =>
    some ((6 : Int), (0 : Int), r1.1, r2)
  else
    (F_i_wordsOf x0).bind fun r3 =>
    bif ((toInt r3.length) != (2 : Int)) then
      some ((0 : Int), (0 : Int), (.empty : ByteArray), false)
    else
      (F_i_actWords).bind fun r4 =>
      (idx r3 (0 : Int)).bind fun e5 =>
      (G_slices_Index_Sstring_string r4 e5).bind fun r6 =>
      bif (decide ((w64 (r6 + (1 : Int))) ≥ (1 : Int))) then
        bif (decide ((w64 (r6 + (1 : Int))) ≤ (2 : Int))) then
          (F_i_capWords).bind fun r7 =>
          (idx r3 (1 : Int)).bind fun e8 =>
          (G_slices_Index_Sstring_string r7 e8).bind fun r9 =>
          bif (decide ((w64 (r6 + (1 : Int))) ≥ (1 : Int))) then
            (F_i_ActOK (w64 (r6 + (1 : Int))) r9 (.empty : ByteArray)).bind fun r10 =>
            some ((w64 (r6 + (1 : Int))), r9, (.empty : ByteArray), r10)
          else
            some ((w64 (r6 + (1 : Int))), r9, (.empty : ByteArray), false)
        else
          (idx r3 (1 : Int)).bind fun e11 =>
          (F_i_readInt e11).bind fun r12 =>
          bif (decide ((w64 (r6 + (1 : Int))) ≥ (1 : Int))) then
            bif r12.2 then
              (F_i_ActOK (w64 (r6 + (1 : Int))) r12.1 (.empty : ByteArray)).bind fun r13 =>
              some ((w64 (r6 + (1 : Int))), r12.1, (.empty : ByteArray), r13)
            else
              some ((w64 (r6 + (1 : Int))), r12.1, (.empty : ByteArray), false)
          else
            some ((w64 (r6 + (1 : Int))), r12.1, (.empty : ByteArray), false)
      else
        (idx r3 (1 : Int)).bind fun e14 =>
        (F_i_readInt e14).bind fun r15 =>
        bif (decide ((w64 (r6 + (1 : Int))) ≥ (1 : Int))) then
          bif r15.2 then
            (F_i_ActOK (w64 (r6 + (1 : Int))) r15.1 (.empty : ByteArray)).bind fun r16 =>
            some ((w64 (r6 + (1 : Int))), r15.1, (.empty : ByteArray), r16)
          else
            some ((w64 (r6 + (1 : Int))), r15.1, (.empty : ByteArray), false)
        else
          some ((w64 (r6 + (1 : Int))), r15.1, (.empty : ByteArray), false)


noncomputable def F_i_ReadAct (x0 : ByteArray) : Option (Int × Int × ByteArray × Int) :=
  bif (decide ((toInt x0.size) > (65536 : Int))) then
    some ((0 : Int), (0 : Int), (.empty : ByteArray), (2 : Int))
  else
    (F_i_readAct x0).bind fun r1 =>
    bif (!r1.2.2.2) then
      some ((0 : Int), (0 : Int), (.empty : ByteArray), (3 : Int))
    else
      some (r1.1, r1.2.1, r1.2.2.1, (0 : Int))


noncomputable def F_l_eqAct (x0 : Int) (x1 : Int) (x2 : ByteArray) (x3 : Int) (x4 : Int) (x5 : ByteArray) : Option (Bool) :=
  bif (x0 != x3) then
    some false
  else
  bif (x1 != x4) then
    some false
  else
  bif (!(x2.toList == x5.toList)) then
    some false
  else
    some true


noncomputable def F_l_FnExactReadAct (x0 : ByteArray) : Option (Bool) :=
  bif (decide ((toInt x0.size) > (1048576 : Int))) then
    some true
  else
    (F_s_ReadAct x0).bind fun r1 =>
    (F_i_ReadAct x0).bind fun r2 =>
    (F_l_eqAct r2.1 r2.2.1 r2.2.2.1 r1.1 r1.2.1 r1.2.2.1).bind fun r3 =>
    bif (!r3) then
      some false
    else
    bif (r2.2.2.2 != r1.2.2.2) then
      some false
    else
      some true


noncomputable def F_s_l00Source (x0 : List Int) : Option ((List Int) × Int × Int) :=
  some (x0, (0 : Int), ((toInt x0.length).tmod (1000 : Int)))


noncomputable def F_s_l00Src_byte (x0 : List Int) (x1 : Int) (x2 : Int) : Option (Int × (List Int) × Int × Int) :=
  bif (decide ((w64 (x1 + (1 : Int))) ≤ (toInt x0.length))) then
    (idx x0 (w64 ((w64 (x1 + (1 : Int))) - (1 : Int)))).bind fun e1 =>
    (idx x0 (w64 ((w64 (x1 + (1 : Int))) - (1 : Int)))).bind fun e2 =>
    some ((w64 e2), x0, (w64 (x1 + (1 : Int))), ((w64 ((w64 ((w64 (x2 * (31 : Int))) + (w64 e1))) + (7 : Int))).tmod (2147483648 : Int)))
  else
  bif (decide ((w64 (x1 + (1 : Int))) > (3000 : Int))) then
    some ((0 : Int), x0, (w64 (x1 + (1 : Int))), x2)
  else
    some (((w64 (((w64 ((w64 (x2 * (1103515245 : Int))) + (12345 : Int))).tmod (2147483648 : Int)).tdiv (65536 : Int))).tmod (256 : Int)), x0, (w64 (x1 + (1 : Int))), ((w64 ((w64 (x2 * (1103515245 : Int))) + (12345 : Int))).tmod (2147483648 : Int)))


noncomputable def F_s_l00Src_next (x0 : List Int) (x1 : Int) (x2 : Int) (x3 : Int) : Option (Int × (List Int) × Int × Int) :=
  bif (decide (x3 ≤ (1 : Int))) then
    some ((0 : Int), x0, x1, x2)
  else
  bif (decide (x3 ≤ (256 : Int))) then
    (F_s_l00Src_byte x0 x1 x2).bind fun r1 =>
    bif (x3 != 0) then
      some ((r1.1.tmod x3), r1.2.1, r1.2.2.1, r1.2.2.2)
    else
      none
  else
    (F_s_l00Src_byte x0 x1 x2).bind fun r2 =>
    (F_s_l00Src_byte r2.2.1 r2.2.2.1 r2.2.2.2).bind fun r3 =>
    (F_s_l00Src_byte r3.2.1 r3.2.2.1 r3.2.2.2).bind fun r4 =>
    bif (x3 != 0) then
      some (((w64 ((w64 ((w64 (r2.1 * (65536 : Int))) + (w64 (r3.1 * (256 : Int))))) + r4.1)).tmod x3), r4.2.1, r4.2.2.1, r4.2.2.2)
    else
      none


noncomputable def F_s_l01Wrap (x0 : Int) : Option (Int) :=
  some (w64 (w32 (wu32 (wu64 x0))))


noncomputable def F_s_l00Src_cell (x0 : List Int) (x1 : Int) (x2 : Int) : Option (Int × (List Int) × Int × Int) :=
  (F_s_l00Src_next x0 x1 x2 (8 : Int)).bind fun r1 =>
  bif (r1.1 == (0 : Int)) then
    (F_s_l00Src_next r1.2.1 r1.2.2.1 r1.2.2.2 (3 : Int)).bind fun r2 =>
    some ((w64 ((2147483647 : Int) - r2.1)), r2.2.1, r2.2.2.1, r2.2.2.2)
  else
  bif (r1.1 == (1 : Int)) then
    (F_s_l00Src_next r1.2.1 r1.2.2.1 r1.2.2.2 (3 : Int)).bind fun r3 =>
    some ((w64 ((-2147483648 : Int) + r3.1)), r3.2.1, r3.2.2.1, r3.2.2.2)
  else
  bif (r1.1 == (2 : Int)) then
    (F_s_l00Src_byte r1.2.1 r1.2.2.1 r1.2.2.2).bind fun r4 =>
    (F_s_l00Src_byte r4.2.1 r4.2.2.1 r4.2.2.2).bind fun r5 =>
    (F_s_l00Src_byte r5.2.1 r5.2.2.1 r5.2.2.2).bind fun r6 =>
    (F_s_l00Src_byte r6.2.1 r6.2.2.1 r6.2.2.2).bind fun r7 =>
    (F_s_l01Wrap (w64 ((w64 ((w64 ((w64 (r4.1 * (16777216 : Int))) + (w64 (r5.1 * (65536 : Int))))) + (w64 (r6.1 * (256 : Int))))) + r7.1))).bind fun r8 =>
    some (r8, r7.2.1, r7.2.2.1, r7.2.2.2)
  else
  bif (r1.1 == (3 : Int)) then
    (F_s_l00Src_next r1.2.1 r1.2.2.1 r1.2.2.2 (40 : Int)).bind fun r9 =>
    some ((w64 (0 - r9.1)), r9.2.1, r9.2.2.1, r9.2.2.2)
  else
    (F_s_l00Src_next r1.2.1 r1.2.2.1 r1.2.2.2 (40 : Int)).bind fun r10 =>
    some (r10.1, r10.2.1, r10.2.2.1, r10.2.2.2)


noncomputable def F_s_l00Src_pick (x0 : List Int) (x1 : Int) (x2 : Int) (x3 : List ByteArray) : Option (ByteArray × (List Int) × Int × Int) :=
  bif ((toInt x3.length) == (0 : Int)) then
    some ((.empty : ByteArray), x0, x1, x2)
  else
    (F_s_l00Src_next x0 x1 x2 (toInt x3.length)).bind fun r1 =>
    (idx x3 r1.1).bind fun e2 =>
    some (e2, r1.2.1, r1.2.2.1, r1.2.2.2)


noncomputable def F_s_l00Src_plain (x0 : List Int) (x1 : Int) (x2 : Int) : Option (ByteArray × (List Int) × Int × Int) :=
  (F_s_l00Src_pick x0 x1 x2 ([(B [49]), (B [50]), (B [51]), (B [45, 49]), (B [55]), (B [100, 117, 112]), (B [100, 114, 111, 112]), (B [115, 119, 97, 112]), (B [111, 118, 101, 114]), (B [43]), (B [45]), (B [42]), (B [47]), (B [109, 111, 100]), (B [46]), (B [99, 114]), (B [101, 109, 105, 116]), (B [64]), (B [33]), (B [104, 101, 114, 101]), (B [61]), (B [60]), (B [48, 61]), (B [49, 43]), (B [100, 101, 112, 116, 104]), (B [115, 113]), (B [120]), (B [118]), (B [99]), (B [104, 114, 101, 97, 100]), (B [104, 119, 114, 105, 116, 101]), (B [104, 97, 115, 107]), (B [104, 116, 105, 109, 101]), (B [62, 114]), (B [114, 62]), (B [99, 97, 116, 99, 104]), (B [116, 104, 114, 111, 119]), (B [101, 120, 101, 99, 117, 116, 101]), (B [104, 101, 120]), (B [100, 101, 99, 105, 109, 97, 108]), (B [110, 101, 103, 97, 116, 101]), (B [109, 97, 120])] : List ByteArray)).bind fun r1 =>
  some (r1.1, r1.2.1, r1.2.2.1, r1.2.2.2)


noncomputable def F_s_l00Src_chance (x0 : List Int) (x1 : Int) (x2 : Int) (x3 : Int) : Option (Bool × (List Int) × Int × Int) :=
  (F_s_l00Src_next x0 x1 x2 x3).bind fun r1 =>
  some ((r1.1 == (w64 (x3 - (1 : Int)))), r1.2.1, r1.2.2.1, r1.2.2.2)


/-- One round of loop 3 of (*loop.example/g00787/spec.l00Src).inside. -/
noncomputable def B_s_l00Src_inside_L3 (Fr : (List Int) → Int → Int → Int → Option (ByteArray × (List Int) × Int × Int)) (N n : Nat) (L3 : Nat → Int → ByteArray → Int → (List Int) → Int → Int → Option (ByteArray × (List Int) × Int × Int)) (p0 : Int) (p1 : ByteArray) (p2 : Int) (p3 : List Int) (p4 : Int) (p5 : Int) : Option (ByteArray × (List Int) × Int × Int) :=
  bif (decide (p2 > (0 : Int))) then
    bif (p0 == (0 : Int)) then
      (F_s_l00Src_plain p3 p4 p5).bind fun r1 =>
      bif (decide (r1.1.size + (B [32]).size ≤ 9223372036854775807)) then
        bif (decide (p1.size + (r1.1 ++ (B [32])).size ≤ 9223372036854775807)) then
          L3 n p0 (p1 ++ (r1.1 ++ (B [32]))) (w64 (p2 - (1 : Int))) r1.2.1 r1.2.2.1 r1.2.2.2
        else
          none
      else
        none
    else
      (F_s_l00Src_chance p3 p4 p5 (4 : Int)).bind fun r2 =>
      bif (!r2.1) then
        (F_s_l00Src_plain r2.2.1 r2.2.2.1 r2.2.2.2).bind fun r3 =>
        bif (decide (r3.1.size + (B [32]).size ≤ 9223372036854775807)) then
          bif (decide (p1.size + (r3.1 ++ (B [32])).size ≤ 9223372036854775807)) then
            L3 n p0 (p1 ++ (r3.1 ++ (B [32]))) (w64 (p2 - (1 : Int))) r3.2.1 r3.2.2.1 r3.2.2.2
          else
            none
        else
          none
      else
        (F_s_l00Src_next r2.2.1 r2.2.2.1 r2.2.2.2 (6 : Int)).bind fun r4 =>
        bif (r4.1 == (0 : Int)) then
          (Fr r4.2.1 r4.2.2.1 r4.2.2.2 (w64 (p0 - (1 : Int)))).bind fun r5 =>
          bif (decide ((B [105, 102, 32]).size + r5.1.size ≤ 9223372036854775807)) then
            bif (decide (((B [105, 102, 32]) ++ r5.1).size + (B [116, 104, 101, 110, 32]).size ≤ 9223372036854775807)) then
              bif (decide (p1.size + (((B [105, 102, 32]) ++ r5.1) ++ (B [116, 104, 101, 110, 32])).size ≤ 9223372036854775807)) then
                L3 n p0 (p1 ++ (((B [105, 102, 32]) ++ r5.1) ++ (B [116, 104, 101, 110, 32]))) (w64 (p2 - (1 : Int))) r5.2.1 r5.2.2.1 r5.2.2.2
              else
                none
            else
              none
          else
            none
        else
        bif (r4.1 == (1 : Int)) then
          (Fr r4.2.1 r4.2.2.1 r4.2.2.2 (w64 (p0 - (1 : Int)))).bind fun r6 =>
          bif (decide ((B [105, 102, 32]).size + r6.1.size ≤ 9223372036854775807)) then
            bif (decide (((B [105, 102, 32]) ++ r6.1).size + (B [101, 108, 115, 101, 32]).size ≤ 9223372036854775807)) then
              (Fr r6.2.1 r6.2.2.1 r6.2.2.2 (w64 (p0 - (1 : Int)))).bind fun r7 =>
              bif (decide ((((B [105, 102, 32]) ++ r6.1) ++ (B [101, 108, 115, 101, 32])).size + r7.1.size ≤ 9223372036854775807)) then
                bif (decide (((((B [105, 102, 32]) ++ r6.1) ++ (B [101, 108, 115, 101, 32])) ++ r7.1).size + (B [116, 104, 101, 110, 32]).size ≤ 9223372036854775807)) then
                  bif (decide (p1.size + (((((B [105, 102, 32]) ++ r6.1) ++ (B [101, 108, 115, 101, 32])) ++ r7.1) ++ (B [116, 104, 101, 110, 32])).size ≤ 9223372036854775807)) then
                    L3 n p0 (p1 ++ (((((B [105, 102, 32]) ++ r6.1) ++ (B [101, 108, 115, 101, 32])) ++ r7.1) ++ (B [116, 104, 101, 110, 32]))) (w64 (p2 - (1 : Int))) r7.2.1 r7.2.2.1 r7.2.2.2
                  else
                    none
                else
                  none
              else
                none
            else
              none
          else
            none
        else
        bif (r4.1 == (2 : Int)) then
          bif (decide (p1.size + (B [51, 32, 98, 101, 103, 105, 110, 32, 49, 45, 32, 100, 117, 112, 32, 48, 61, 32, 117, 110, 116, 105, 108, 32, 100, 114, 111, 112, 32]).size ≤ 9223372036854775807)) then
            L3 n p0 (p1 ++ (B [51, 32, 98, 101, 103, 105, 110, 32, 49, 45, 32, 100, 117, 112, 32, 48, 61, 32, 117, 110, 116, 105, 108, 32, 100, 114, 111, 112, 32])) (w64 (p2 - (1 : Int))) r4.2.1 r4.2.2.1 r4.2.2.2
          else
            none
        else
        bif (r4.1 == (3 : Int)) then
          (Fr r4.2.1 r4.2.2.1 r4.2.2.2 (w64 (p0 - (1 : Int)))).bind fun r8 =>
          bif (decide ((B [51, 32, 48, 32, 100, 111, 32, 105, 32]).size + r8.1.size ≤ 9223372036854775807)) then
            bif (decide (((B [51, 32, 48, 32, 100, 111, 32, 105, 32]) ++ r8.1).size + (B [108, 111, 111, 112, 32]).size ≤ 9223372036854775807)) then
              bif (decide (p1.size + (((B [51, 32, 48, 32, 100, 111, 32, 105, 32]) ++ r8.1) ++ (B [108, 111, 111, 112, 32])).size ≤ 9223372036854775807)) then
                L3 n p0 (p1 ++ (((B [51, 32, 48, 32, 100, 111, 32, 105, 32]) ++ r8.1) ++ (B [108, 111, 111, 112, 32]))) (w64 (p2 - (1 : Int))) r8.2.1 r8.2.2.1 r8.2.2.2
              else
                none
            else
              none
          else
            none
        else
        bif (r4.1 == (4 : Int)) then
          bif (decide (p1.size + (B [98, 101, 103, 105, 110, 32, 100, 117, 112, 32, 119, 104, 105, 108, 101, 32, 49, 45, 32, 114, 101, 112, 101, 97, 116, 32]).size ≤ 9223372036854775807)) then
            L3 n p0 (p1 ++ (B [98, 101, 103, 105, 110, 32, 100, 117, 112, 32, 119, 104, 105, 108, 101, 32, 49, 45, 32, 114, 101, 112, 101, 97, 116, 32])) (w64 (p2 - (1 : Int))) r4.2.1 r4.2.2.1 r4.2.2.2
          else
            none
        else
        bif (r4.1 == (5 : Int)) then
          (F_s_l00Src_pick r4.2.1 r4.2.2.1 r4.2.2.2 ([(B [115, 113]), (B [100, 117, 112]), (B [120]), (B [43])] : List ByteArray)).bind fun r9 =>
          bif (decide ((B [91, 39, 93, 32]).size + r9.1.size ≤ 9223372036854775807)) then
            bif (decide (((B [91, 39, 93, 32]) ++ r9.1).size + (B [32, 99, 97, 116, 99, 104, 32]).size ≤ 9223372036854775807)) then
              bif (decide (p1.size + (((B [91, 39, 93, 32]) ++ r9.1) ++ (B [32, 99, 97, 116, 99, 104, 32])).size ≤ 9223372036854775807)) then
                L3 n p0 (p1 ++ (((B [91, 39, 93, 32]) ++ r9.1) ++ (B [32, 99, 97, 116, 99, 104, 32]))) (w64 (p2 - (1 : Int))) r9.2.1 r9.2.2.1 r9.2.2.2
              else
                none
            else
              none
          else
            none
        else
          L3 n p0 p1 (w64 (p2 - (1 : Int))) r4.2.1 r4.2.2.1 r4.2.2.2
  else
    some (p1, p3, p4, p5)

noncomputable def FB_s_l00Src_inside (Fr : (List Int) → Int → Int → Int → Option (ByteArray × (List Int) × Int × Int)) (N : Nat) (L3 : Nat → Int → ByteArray → Int → (List Int) → Int → Int → Option (ByteArray × (List Int) × Int × Int)) (x0 : List Int) (x1 : Int) (x2 : Int) (x3 : Int) : Option (ByteArray × (List Int) × Int × Int) :=
  (F_s_l00Src_next x0 x1 x2 (4 : Int)).bind fun r1 =>
  L3 N x3 (.empty : ByteArray) (w64 ((1 : Int) + r1.1)) r1.2.1 r1.2.2.1 r1.2.2.2

noncomputable def L_s_l00Src_inside_L3 (Fr : (List Int) → Int → Int → Int → Option (ByteArray × (List Int) × Int × Int)) (N : Nat) : Nat → Int → ByteArray → Int → (List Int) → Int → Int → Option (ByteArray × (List Int) × Int × Int)
  | 0, _, _, _, _, _, _ => none
  | n + 1, p0, p1, p2, p3, p4, p5 => B_s_l00Src_inside_L3 Fr N n (fun _ p0 p1 p2 p3 p4 p5 => L_s_l00Src_inside_L3 Fr N n p0 p1 p2 p3 p4 p5) p0 p1 p2 p3 p4 p5
noncomputable def F_s_l00Src_inside (N : Nat) : Nat → (List Int) → Int → Int → Int → Option (ByteArray × (List Int) × Int × Int)
  | 0, _, _, _, _ => none
  | d + 1, x0, x1, x2, x3 => FB_s_l00Src_inside (F_s_l00Src_inside N d) N (L_s_l00Src_inside_L3 (F_s_l00Src_inside N d) N) x0 x1 x2 x3

noncomputable def G_s_l00Src_inside (x0 : List Int) (x1 : Int) (x2 : Int) (x3 : Int) : Option (ByteArray × (List Int) × Int × Int) := F_s_l00Src_inside 10 5 x0 x1 x2 x3
theorem G_s_l00Src_inside_ok (x0 : List Int) (x1 : Int) (x2 : Int) (x3 : Int) (h0 : x0.length ≤ maxLen) {r} (h : G_s_l00Src_inside x0 x1 x2 x3 = some r) : ∃ N d, F_s_l00Src_inside N d x0 x1 x2 x3 = some r := ⟨_, _, h⟩
noncomputable def F_s_l00Src_forthLine (x0 : List Int) (x1 : Int) (x2 : Int) : Option (ByteArray × (List Int) × Int × Int) :=
  (F_s_l00Src_next x0 x1 x2 (9 : Int)).bind fun r1 =>
  bif (r1.1 == (0 : Int)) then
    (F_s_l00Src_pick r1.2.1 r1.2.2.1 r1.2.2.2 ([(B [115, 113]), (B [120]), (B [105, 110, 99]), (B [100, 117, 112])] : List ByteArray)).bind fun r2 =>
    bif (decide ((B [58, 32]).size + r2.1.size ≤ 9223372036854775807)) then
      bif (decide (((B [58, 32]) ++ r2.1).size + (B [32]).size ≤ 9223372036854775807)) then
        (G_s_l00Src_inside r2.2.1 r2.2.2.1 r2.2.2.2 (2 : Int)).bind fun r3 =>
        bif (decide ((w64 ((toInt (((B [58, 32]) ++ r2.1) ++ (B [32])).size) + (toInt r3.1.size))) ≥ (400 : Int))) then
          (G_s_l00Src_inside r3.2.1 r3.2.2.1 r3.2.2.2 (0 : Int)).bind fun r4 =>
          bif (decide ((((B [58, 32]) ++ r2.1) ++ (B [32])).size + r4.1.size ≤ 9223372036854775807)) then
            bif (decide (((((B [58, 32]) ++ r2.1) ++ (B [32])) ++ r4.1).size + (B [59]).size ≤ 9223372036854775807)) then
              some ((((((B [58, 32]) ++ r2.1) ++ (B [32])) ++ r4.1) ++ (B [59])), r4.2.1, r4.2.2.1, r4.2.2.2)
            else
              none
          else
            none
        else
        bif (decide ((((B [58, 32]) ++ r2.1) ++ (B [32])).size + r3.1.size ≤ 9223372036854775807)) then
          bif (decide (((((B [58, 32]) ++ r2.1) ++ (B [32])) ++ r3.1).size + (B [59]).size ≤ 9223372036854775807)) then
            some ((((((B [58, 32]) ++ r2.1) ++ (B [32])) ++ r3.1) ++ (B [59])), r3.2.1, r3.2.2.1, r3.2.2.2)
          else
            none
        else
          none
      else
        none
    else
      none
  else
  bif (r1.1 == (1 : Int)) then
    (F_s_l00Src_pick r1.2.1 r1.2.2.1 r1.2.2.2 ([(B [115, 113]), (B [120]), (B [105, 110, 99]), (B [100, 117, 112])] : List ByteArray)).bind fun r5 =>
    bif (decide ((B [58, 32]).size + r5.1.size ≤ 9223372036854775807)) then
      bif (decide (((B [58, 32]) ++ r5.1).size + (B [32]).size ≤ 9223372036854775807)) then
        (G_s_l00Src_inside r5.2.1 r5.2.2.1 r5.2.2.2 (2 : Int)).bind fun r6 =>
        bif (decide ((w64 ((toInt (((B [58, 32]) ++ r5.1) ++ (B [32])).size) + (toInt r6.1.size))) ≥ (400 : Int))) then
          (G_s_l00Src_inside r6.2.1 r6.2.2.1 r6.2.2.2 (0 : Int)).bind fun r7 =>
          bif (decide ((((B [58, 32]) ++ r5.1) ++ (B [32])).size + r7.1.size ≤ 9223372036854775807)) then
            bif (decide (((((B [58, 32]) ++ r5.1) ++ (B [32])) ++ r7.1).size + (B [59]).size ≤ 9223372036854775807)) then
              some ((((((B [58, 32]) ++ r5.1) ++ (B [32])) ++ r7.1) ++ (B [59])), r7.2.1, r7.2.2.1, r7.2.2.2)
            else
              none
          else
            none
        else
        bif (decide ((((B [58, 32]) ++ r5.1) ++ (B [32])).size + r6.1.size ≤ 9223372036854775807)) then
          bif (decide (((((B [58, 32]) ++ r5.1) ++ (B [32])) ++ r6.1).size + (B [59]).size ≤ 9223372036854775807)) then
            some ((((((B [58, 32]) ++ r5.1) ++ (B [32])) ++ r6.1) ++ (B [59])), r6.2.1, r6.2.2.1, r6.2.2.2)
          else
            none
        else
          none
      else
        none
    else
      none
  else
  bif (r1.1 == (2 : Int)) then
    (F_s_l00Src_pick r1.2.1 r1.2.2.1 r1.2.2.2 ([(B [118]), (B [119]), (B [120])] : List ByteArray)).bind fun r8 =>
    bif (decide ((B [118, 97, 114, 105, 97, 98, 108, 101, 32]).size + r8.1.size ≤ 9223372036854775807)) then
      bif (decide (((B [118, 97, 114, 105, 97, 98, 108, 101, 32]) ++ r8.1).size + (B [32, 53, 32, 118, 32, 33]).size ≤ 9223372036854775807)) then
        some ((((B [118, 97, 114, 105, 97, 98, 108, 101, 32]) ++ r8.1) ++ (B [32, 53, 32, 118, 32, 33])), r8.2.1, r8.2.2.1, r8.2.2.2)
      else
        none
    else
      none
  else
  bif (r1.1 == (3 : Int)) then
    (F_s_l00Src_pick r1.2.1 r1.2.2.1 r1.2.2.2 ([(B [55, 32, 99, 111, 110, 115, 116, 97, 110, 116, 32, 99]), (B [39, 32, 115, 113, 32, 99, 97, 116, 99, 104, 32, 46]), (B [39, 32, 120, 32, 101, 120, 101, 99, 117, 116, 101]), (B [49, 32, 50, 32, 43, 32, 46]), (B [58, 32, 114, 101, 99, 32, 100, 117, 112, 32, 105, 102, 32, 49, 45, 32, 114, 101, 99, 117, 114, 115, 101, 32, 116, 104, 101, 110, 32, 59]), (B [53, 32, 114, 101, 99, 32, 46]), (B [58, 32, 111, 112, 101, 110, 32, 49, 32, 50]), (B [51, 32, 59]), (B [40, 32, 114, 101, 109, 97, 114, 107, 32, 41, 32, 49, 32, 92, 32, 50, 32, 51]), (B [40, 32, 111, 112, 101, 110]), (B [122, 97, 112]), (B [58, 32, 105, 102, 32, 49, 32, 59]), (B [39, 32, 105, 102]), (B [58, 32, 97, 32, 58, 32, 98, 32, 59]), (B [108, 111, 111, 112]), (B [118, 97, 114, 105, 97, 98, 108, 101]), (B [104, 101, 120, 32, 102, 102, 32, 46, 32, 100, 101, 99, 105, 109, 97, 108])] : List ByteArray)).bind fun r9 =>
    some (r9.1, r9.2.1, r9.2.2.1, r9.2.2.2)
  else
    (G_s_l00Src_inside r1.2.1 r1.2.2.1 r1.2.2.2 (0 : Int)).bind fun r10 =>
    some (r10.1, r10.2.1, r10.2.2.1, r10.2.2.2)


noncomputable def F_s_l00Src_act (x0 : List Int) (x1 : Int) (x2 : Int) : Option (Int × Int × ByteArray × (List Int) × Int × Int) :=
  (F_s_l00Src_next x0 x1 x2 (11 : Int)).bind fun r1 =>
  (idx ([(1 : Int), (2 : Int), (3 : Int), (4 : Int), (5 : Int), (6 : Int), (6 : Int), (6 : Int), (6 : Int), (6 : Int), (6 : Int)] : List Int) r1.1).bind fun e2 =>
  bif (e2 == (1 : Int)) then
    (F_s_l00Src_next r1.2.1 r1.2.2.1 r1.2.2.2 (4 : Int)).bind fun r3 =>
    some (e2, r3.1, (.empty : ByteArray), r3.2.1, r3.2.2.1, r3.2.2.2)
  else
  bif (e2 == (2 : Int)) then
    (F_s_l00Src_next r1.2.1 r1.2.2.1 r1.2.2.2 (4 : Int)).bind fun r4 =>
    some (e2, r4.1, (.empty : ByteArray), r4.2.1, r4.2.2.1, r4.2.2.2)
  else
  bif (e2 == (3 : Int)) then
    (F_s_l00Src_next r1.2.1 r1.2.2.1 r1.2.2.2 (300 : Int)).bind fun r5 =>
    some (e2, (w64 ((1 : Int) + r5.1)), (.empty : ByteArray), r5.2.1, r5.2.2.1, r5.2.2.2)
  else
  bif (e2 == (4 : Int)) then
    (F_s_l00Src_cell r1.2.1 r1.2.2.1 r1.2.2.2).bind fun r6 =>
    some (e2, r6.1, (.empty : ByteArray), r6.2.1, r6.2.2.1, r6.2.2.2)
  else
  bif (e2 == (5 : Int)) then
    (F_s_l00Src_next r1.2.1 r1.2.2.1 r1.2.2.2 (50 : Int)).bind fun r7 =>
    some (e2, (w64 ((1 : Int) + r7.1)), (.empty : ByteArray), r7.2.1, r7.2.2.1, r7.2.2.2)
  else
    (F_s_l00Src_forthLine r1.2.1 r1.2.2.1 r1.2.2.2).bind fun r8 =>
    some (e2, (0 : Int), r8.1, r8.2.1, r8.2.2.1, r8.2.2.2)


noncomputable def FB_s_l00Digits (Fr : Int → Option (ByteArray)) (x0 : Int) : Option (ByteArray) :=
  bif (x0 == (-9223372036854775808 : Int)) then
    some (B [45, 57, 50, 50, 51, 51, 55, 50, 48, 51, 54, 56, 53, 52, 55, 55, 53, 56, 48, 56])
  else
  bif (decide (x0 < (0 : Int))) then
    (Fr (w64 (0 - x0))).bind fun r1 =>
    bif (decide ((B [45]).size + r1.size ≤ 9223372036854775807)) then
      some ((B [45]) ++ r1)
    else
      none
  else
  bif (decide (x0 < (10 : Int))) then
    some (bytesOfInts ([(w8 (w64 ((48 : Int) + x0)))] : List Int))
  else
    (Fr (w64 (x0.tdiv (10 : Int)))).bind fun r2 =>
    bif (decide (r2.size + (bytesOfInts ([(w8 (w64 ((48 : Int) + (x0.tmod (10 : Int)))))] : List Int)).size ≤ 9223372036854775807)) then
      some (r2 ++ (bytesOfInts ([(w8 (w64 ((48 : Int) + (x0.tmod (10 : Int)))))] : List Int)))
    else
      none

noncomputable def F_s_l00Digits (N : Nat) : Nat → Int → Option (ByteArray)
  | 0, _ => none
  | d + 1, x0 => FB_s_l00Digits (F_s_l00Digits N d) x0

noncomputable def G_s_l00Digits (x0 : Int) : Option (ByteArray) := F_s_l00Digits 0 25 x0
theorem G_s_l00Digits_ok (x0 : Int)  {r} (h : G_s_l00Digits x0 = some r) : ∃ N d, F_s_l00Digits N d x0 = some r := ⟨_, _, h⟩
noncomputable def F_s_l13Act (x0 : Int) (x1 : Int) (x2 : ByteArray) : Option (ByteArray) :=
  (F_s_l13Acts).bind fun r1 =>
  (idx r1 (w64 (x0 - (1 : Int)))).bind fun e2 =>
  bif (x0 == (1 : Int)) then
    bif (decide (e2.size + (B [32]).size ≤ 9223372036854775807)) then
      (F_s_l13Caps).bind fun r3 =>
      (idx r3 x1).bind fun e4 =>
      bif (decide ((e2 ++ (B [32])).size + e4.size ≤ 9223372036854775807)) then
        some ((e2 ++ (B [32])) ++ e4)
      else
        none
    else
      none
  else
  bif (x0 == (2 : Int)) then
    bif (decide (e2.size + (B [32]).size ≤ 9223372036854775807)) then
      (F_s_l13Caps).bind fun r5 =>
      (idx r5 x1).bind fun e6 =>
      bif (decide ((e2 ++ (B [32])).size + e6.size ≤ 9223372036854775807)) then
        some ((e2 ++ (B [32])) ++ e6)
      else
        none
    else
      none
  else
  bif (x0 == (6 : Int)) then
    bif (decide (e2.size + (B [32]).size ≤ 9223372036854775807)) then
      bif (decide ((e2 ++ (B [32])).size + x2.size ≤ 9223372036854775807)) then
        some ((e2 ++ (B [32])) ++ x2)
      else
        none
    else
      none
  else
  bif (decide (e2.size + (B [32]).size ≤ 9223372036854775807)) then
    (G_s_l00Digits x1).bind fun r7 =>
    bif (decide ((e2 ++ (B [32])).size + r7.size ≤ 9223372036854775807)) then
      some ((e2 ++ (B [32])) ++ r7)
    else
      none
  else
    none


noncomputable def F_s_l00Src_actLine (x0 : List Int) (x1 : Int) (x2 : Int) : Option (ByteArray × (List Int) × Int × Int) :=
  (F_s_l00Src_act x0 x1 x2).bind fun r1 =>
  (F_s_l13Act r1.1 r1.2.1 r1.2.2.1).bind fun r2 =>
  (F_s_l00Src_next r1.2.2.2.1 r1.2.2.2.2.1 r1.2.2.2.2.2 (10 : Int)).bind fun r3 =>
  bif (r3.1 == (0 : Int)) then
    bif (decide ((B [32, 32]).size + r2.size ≤ 9223372036854775807)) then
      bif (decide (((B [32, 32]) ++ r2).size + (B [32]).size ≤ 9223372036854775807)) then
        some ((((B [32, 32]) ++ r2) ++ (B [32])), r3.2.1, r3.2.2.1, r3.2.2.2)
      else
        none
    else
      none
  else
  bif (r3.1 == (1 : Int)) then
    bif (decide (r2.size + (B [32, 49]).size ≤ 9223372036854775807)) then
      some ((r2 ++ (B [32, 49])), r3.2.1, r3.2.2.1, r3.2.2.2)
    else
      none
  else
  bif (r3.1 == (2 : Int)) then
    (F_s_l00Src_pick r3.2.1 r3.2.2.1 r3.2.2.2 ([(.empty : ByteArray), (B [101, 118, 97, 108]), (B [101, 118, 97, 108, 32]), (B [103, 114, 97, 110, 116]), (B [103, 114, 97, 110, 116, 32, 97, 108, 108]), (B [114, 101, 102, 117, 101, 108, 32, 48]), (B [114, 101, 102, 117, 101, 108, 32, 52, 48, 48, 49]), (B [116, 105, 99, 107, 32, 48, 49]), (B [97, 110, 115, 119, 101, 114, 32, 50, 49, 52, 55, 52, 56, 51, 54, 52, 56]), (B [103, 111, 32, 49]), (B [114, 101, 118, 111, 107, 101, 32, 114, 101, 97, 100, 32, 110, 111, 119])] : List ByteArray)).bind fun r4 =>
    some (r4.1, r4.2.1, r4.2.2.1, r4.2.2.2)
  else
    some (r2, r3.2.1, r3.2.2.1, r3.2.2.2)


noncomputable def F_s_ActLine (x0 : List Int) : Option (ByteArray) :=
  (F_s_l00Source x0).bind fun r1 =>
  (F_s_l00Src_actLine r1.1 r1.2.1 r1.2.2).bind fun r2 =>
  some r2.1


noncomputable def F_s_ActDrawn (x0 : List Int) : Option (Int × Int × ByteArray) :=
  (F_s_l00Source x0).bind fun r1 =>
  (F_s_l00Src_act r1.1 r1.2.1 r1.2.2).bind fun r2 =>
  some (r2.1, r2.2.1, r2.2.2.1)


/-- One round of loop 3 of loop.example/g00787/impl.spaced. -/
noncomputable def B_i_spaced_L3 (N n : Nat) (L3 : Nat → ByteArray → (List Int) → Int → Int → Option (ByteArray)) (p0 : ByteArray) (p1 : List Int) (p2 : Int) (p3 : Int) : Option (ByteArray) :=
  bif (decide (p3 < p2)) then
    (idx p1 p3).bind fun e1 =>
    (G_strconv_Itoa e1).bind fun r2 =>
    bif (decide ((B [32]).size + r2.size ≤ 9223372036854775807)) then
      bif (decide (p0.size + ((B [32]) ++ r2).size ≤ 9223372036854775807)) then
        L3 n (p0 ++ ((B [32]) ++ r2)) p1 p2 (w64 (p3 + (1 : Int)))
      else
        none
    else
      none
  else
    some p0

noncomputable def FB_i_spaced (N : Nat) (L3 : Nat → ByteArray → (List Int) → Int → Int → Option (ByteArray)) (x0 : List Int) : Option (ByteArray) :=
  L3 N (.empty : ByteArray) x0 (toInt x0.length) (0 : Int)

noncomputable def L_i_spaced_L3 (N : Nat) : Nat → ByteArray → (List Int) → Int → Int → Option (ByteArray)
  | 0, _, _, _, _ => none
  | n + 1, p0, p1, p2, p3 => B_i_spaced_L3 N n (fun _ p0 p1 p2 p3 => L_i_spaced_L3 N n p0 p1 p2 p3) p0 p1 p2 p3
noncomputable def F_i_spaced (N : Nat) (x0 : List Int) : Option (ByteArray) := FB_i_spaced N (L_i_spaced_L3 N) x0

noncomputable def G_i_spaced (x0 : List Int) : Option (ByteArray) := F_i_spaced (x0.length + 1) x0
theorem G_i_spaced_ok (x0 : List Int) (h0 : x0.length ≤ maxLen) {r} (h : G_i_spaced x0 = some r) : ∃ N, F_i_spaced N x0 = some r := ⟨_, h⟩
noncomputable def F_i_ActText (x0 : Int) (x1 : Int) (x2 : ByteArray) : Option (ByteArray × Int) :=
  (F_i_ActOK x0 x1 x2).bind fun r1 =>
  bif (!r1) then
    some ((.empty : ByteArray), (1 : Int))
  else
  bif (x0 == (6 : Int)) then
    bif (decide ((B [101, 118, 97, 108, 32]).size + x2.size ≤ 9223372036854775807)) then
      some (((B [101, 118, 97, 108, 32]) ++ x2), (0 : Int))
    else
      none
  else
  bif (decide (x0 ≤ (2 : Int))) then
    (F_i_actWords).bind fun r2 =>
    (idx r2 (w64 (x0 - (1 : Int)))).bind fun e3 =>
    bif (decide (e3.size + (B [32]).size ≤ 9223372036854775807)) then
      (F_i_capWords).bind fun r4 =>
      (idx r4 x1).bind fun e5 =>
      bif (decide ((e3 ++ (B [32])).size + e5.size ≤ 9223372036854775807)) then
        some (((e3 ++ (B [32])) ++ e5), (0 : Int))
      else
        none
    else
      none
  else
    (F_i_actWords).bind fun r6 =>
    (idx r6 (w64 (x0 - (1 : Int)))).bind fun e7 =>
    (G_i_spaced ([x1] : List Int)).bind fun r8 =>
    bif (decide (e7.size + r8.size ≤ 9223372036854775807)) then
      some ((e7 ++ r8), (0 : Int))
    else
      none


noncomputable def F_s_ActText (x0 : Int) (x1 : Int) (x2 : ByteArray) : Option (ByteArray × Int) :=
  (F_s_ActOK x0 x1 x2).bind fun r1 =>
  bif (!r1) then
    some ((.empty : ByteArray), (1 : Int))
  else
    (F_s_l13Act x0 x1 x2).bind fun r2 =>
    some (r2, (0 : Int))


noncomputable def F_l_FnActTexts (x0 : List Int) (x1 : List Int) : Option (Bool) :=
  bif (decide ((toInt x0.length) > (1048576 : Int))) then
    some true
  else
  bif (decide ((toInt x1.length) > (1048576 : Int))) then
    some true
  else
    (F_s_ActLine x0).bind fun r1 =>
    (F_i_ReadAct r1).bind fun r2 =>
    (F_s_ReadAct r1).bind fun r3 =>
    (F_s_ActDrawn x1).bind fun r4 =>
    (F_i_ActText r4.1 r4.2.1 r4.2.2).bind fun r5 =>
    (F_s_ActText r4.1 r4.2.1 r4.2.2).bind fun r6 =>
    (F_i_ReadAct r5.1).bind fun r7 =>
    bif (decide ((B [101, 118, 97, 108, 117, 97, 116, 101, 32]).size + r5.1.size ≤ 9223372036854775807)) then
      (F_i_ReadAct ((B [101, 118, 97, 108, 117, 97, 116, 101, 32]) ++ r5.1)).bind fun r8 =>
      bif (r2.2.2.2 == r3.2.2.2) then
        bif ((r2.1 == r3.1) && ((r2.2.1 == r3.2.1) && ((r2.2.2.1 == r3.2.2.1) && true))) then
          bif (r5.2 == (0 : Int)) then
            bif (r5.1.toList == r6.1.toList) then
              (F_i_ActOK r4.1 r4.2.1 r4.2.2).bind fun r9 =>
              bif r9 then
                bif (r7.2.2.2 == (0 : Int)) then
                  bif ((r7.1 == r4.1) && ((r7.2.1 == r4.2.1) && ((r7.2.2.1 == r4.2.2) && true))) then
                    some (r8.2.2.2 == (3 : Int))
                  else
                    some false
                else
                  some false
              else
                some false
            else
              some false
          else
            some false
        else
          some false
      else
        some false
    else
      none


end
end Go.M
