/- AF: made by program for this claim. -/
import Derived.Test.YtiphonlbkhfhcaaDoorMF
import Derived.Test.YtiphonlbkhfhcaaDoorAG
set_option linter.unusedVariables false
set_option maxRecDepth 100000
namespace Go.M
open Go
noncomputable section
noncomputable def F_s_l01In (x0 : Int) (x1 : Int) (x2 : Int) : Option (Bool) :=
  bif (decide (x0 ≥ x1)) then
    some (decide (x0 ≤ x2))
  else
    some false


noncomputable def F_s_l01Cell (x0 : Int) : Option (Bool) :=
  (F_s_l01In x0 (-2147483648 : Int) (2147483647 : Int)).bind fun r1 =>
  some r1


noncomputable def F_s_ActOK (x0 : Int) (x1 : Int) (x2 : ByteArray) : Option (Bool) :=
  bif (x0 != (6 : Int)) then
    bif (!(x2.toList == (.empty : ByteArray).toList)) then
      some false
    else
    bif (decide ((toInt x2.size) > (400 : Int))) then
      some false
    else
    bif (x0 == (1 : Int)) then
      (F_s_l01In x1 (0 : Int) (3 : Int)).bind fun r1 =>
      some r1
    else
    bif (x0 == (2 : Int)) then
      (F_s_l01In x1 (0 : Int) (3 : Int)).bind fun r2 =>
      some r2
    else
    bif (x0 == (3 : Int)) then
      (F_s_l01In x1 (1 : Int) (4000 : Int)).bind fun r3 =>
      some r3
    else
    bif (x0 == (4 : Int)) then
      (F_s_l01Cell x1).bind fun r4 =>
      some r4
    else
    bif (x0 == (5 : Int)) then
      (F_s_l01In x1 (1 : Int) (1000 : Int)).bind fun r5 =>
      some r5
    else
    bif (x0 == (6 : Int)) then
      some (x1 == (0 : Int))
    else
      some false
  else
  bif (decide ((toInt x2.size) > (400 : Int))) then
    some false
  else
  bif (x0 == (1 : Int)) then
    (F_s_l01In x1 (0 : Int) (3 : Int)).bind fun r6 =>
    some r6
  else
  bif (x0 == (2 : Int)) then
    (F_s_l01In x1 (0 : Int) (3 : Int)).bind fun r7 =>
    some r7
  else
  bif (x0 == (3 : Int)) then
    (F_s_l01In x1 (1 : Int) (4000 : Int)).bind fun r8 =>
    some r8
  else
  bif (x0 == (4 : Int)) then
    (F_s_l01Cell x1).bind fun r9 =>
    some r9
  else
  bif (x0 == (5 : Int)) then
    (F_s_l01In x1 (1 : Int) (1000 : Int)).bind fun r10 =>
    some r10
  else
  bif (x0 == (6 : Int)) then
    some (x1 == (0 : Int))
  else
    some false


/-- One round of loop 4 of loop.example/g00787/spec.l00Words. -/
noncomputable def B_s_l00Words_L4 (N n : Nat) (L4 : Nat → ByteArray → Int → Int → (List ByteArray) → Option ((List ByteArray))) (p0 : ByteArray) (p1 : Int) (p2 : Int) (p3 : List ByteArray) : Option ((List ByteArray)) :=
  bif (decide (p2 ≤ (toInt p0.size))) then
    bif (p2 == (toInt p0.size)) then
      bif (decide (p2 > p1)) then
        bif ((((decide ((0 : Int) ≤ p2) && decide (p2 ≤ (toInt p0.size))) && decide ((0 : Int) ≤ p1)) && decide (p1 ≤ p2))) then
          bif (decide ((p3.length + 1) * 16 ≤ maxBytes)) then
            L4 n p0 (w64 (p2 + (1 : Int))) (w64 (p2 + (1 : Int))) (p3 ++ ([(p0.extract p1.toNat p2.toNat)] : List ByteArray))
          else
            none
        else
          none
      else
        L4 n p0 (w64 (p2 + (1 : Int))) (w64 (p2 + (1 : Int))) p3
    else
      (bidx p0 p2).bind fun b1 =>
      bif (b1 == (32 : Int)) then
        bif (decide (p2 > p1)) then
          bif ((((decide ((0 : Int) ≤ p2) && decide (p2 ≤ (toInt p0.size))) && decide ((0 : Int) ≤ p1)) && decide (p1 ≤ p2))) then
            bif (decide ((p3.length + 1) * 16 ≤ maxBytes)) then
              L4 n p0 (w64 (p2 + (1 : Int))) (w64 (p2 + (1 : Int))) (p3 ++ ([(p0.extract p1.toNat p2.toNat)] : List ByteArray))
            else
              none
          else
            none
        else
          L4 n p0 (w64 (p2 + (1 : Int))) (w64 (p2 + (1 : Int))) p3
      else
        L4 n p0 p1 (w64 (p2 + (1 : Int))) p3
  else
    some p3

noncomputable def FB_s_l00Words (N : Nat) (L4 : Nat → ByteArray → Int → Int → (List ByteArray) → Option ((List ByteArray))) (x0 : ByteArray) : Option ((List ByteArray)) :=
  L4 N x0 (0 : Int) (0 : Int) ([] : List ByteArray)

noncomputable def L_s_l00Words_L4 (N : Nat) : Nat → ByteArray → Int → Int → (List ByteArray) → Option ((List ByteArray))
  | 0, _, _, _, _ => none
  | n + 1, p0, p1, p2, p3 => B_s_l00Words_L4 N n (fun _ p0 p1 p2 p3 => L_s_l00Words_L4 N n p0 p1 p2 p3) p0 p1 p2 p3
noncomputable def F_s_l00Words (N : Nat) (x0 : ByteArray) : Option ((List ByteArray)) := FB_s_l00Words N (L_s_l00Words_L4 N) x0

noncomputable def F_s_l13Acts  : Option ((List ByteArray)) :=
  some ([(B [103, 114, 97, 110, 116]), (B [114, 101, 118, 111, 107, 101]), (B [114, 101, 102, 117, 101, 108]), (B [97, 110, 115, 119, 101, 114]), (B [116, 105, 99, 107]), (B [101, 118, 97, 108])] : List ByteArray)


/-- One round of loop 2 of loop.example/g00787/spec.l13Place. -/
noncomputable def B_s_l13Place_L2 (N n : Nat) (L2 : Nat → (List ByteArray) → ByteArray → Int → Option (Int)) (p0 : List ByteArray) (p1 : ByteArray) (p2 : Int) : Option (Int) :=
  bif (decide (p2 < (toInt p0.length))) then
    (idx p0 p2).bind fun e1 =>
    bif (e1.toList == p1.toList) then
      some p2
    else
      L2 n p0 p1 (w64 (p2 + (1 : Int)))
  else
    some (-1 : Int)

noncomputable def FB_s_l13Place (N : Nat) (L2 : Nat → (List ByteArray) → ByteArray → Int → Option (Int)) (x0 : List ByteArray) (x1 : ByteArray) : Option (Int) :=
  L2 N x0 x1 (0 : Int)

noncomputable def L_s_l13Place_L2 (N : Nat) : Nat → (List ByteArray) → ByteArray → Int → Option (Int)
  | 0, _, _, _ => none
  | n + 1, p0, p1, p2 => B_s_l13Place_L2 N n (fun _ p0 p1 p2 => L_s_l13Place_L2 N n p0 p1 p2) p0 p1 p2
noncomputable def F_s_l13Place (N : Nat) (x0 : List ByteArray) (x1 : ByteArray) : Option (Int) := FB_s_l13Place N (L_s_l13Place_L2 N) x0 x1

noncomputable def F_s_l13Caps  : Option ((List ByteArray)) :=
  some ([(B [114, 101, 97, 100]), (B [119, 114, 105, 116, 101]), (B [97, 115, 107]), (B [116, 105, 109, 101])] : List ByteArray)


/-- One round of loop 9 of loop.example/g00787/spec.l00Number. -/
noncomputable def B_s_l00Number_L9 (N n : Nat) (L9 : Nat → ByteArray → Int → Int → Int → Option (Int × Bool)) (p0 : ByteArray) (p1 : Int) (p2 : Int) (p3 : Int) : Option (Int × Bool) :=
  bif (decide (p3 < (toInt p0.size))) then
    (bidx p0 p3).bind fun b1 =>
    bif (decide (b1 < (48 : Int))) then
      some ((0 : Int), false)
    else
      (bidx p0 p3).bind fun b2 =>
      bif (decide (b2 > (57 : Int))) then
        some ((0 : Int), false)
      else
        (bidx p0 p3).bind fun b3 =>
        L9 n p0 p1 (w64 ((w64 ((w64 (p2 * (10 : Int))) + (w64 b3))) - (48 : Int))) (w64 (p3 + (1 : Int)))
  else
    some ((w64 (p1 * p2)), true)

noncomputable def FB_s_l00Number (N : Nat) (L9 : Nat → ByteArray → Int → Int → Int → Option (Int × Bool)) (x0 : ByteArray) : Option (Int × Bool) :=
  bif (decide ((toInt x0.size) > (0 : Int))) then
    (bidx x0 (0 : Int)).bind fun b1 =>
    bif (b1 == (45 : Int)) then
      bif ((decide ((0 : Int) ≤ (1 : Int)) && decide ((1 : Int) ≤ (toInt x0.size)))) then
        bif ((toInt (x0.extract 1 x0.size).size) == (0 : Int)) then
          some ((0 : Int), false)
        else
        bif (decide ((toInt (x0.extract 1 x0.size).size) > (18 : Int))) then
          some ((0 : Int), false)
        else
          (bidx (x0.extract 1 x0.size) (0 : Int)).bind fun b2 =>
          bif (b2 == (48 : Int)) then
            bif (decide ((toInt (x0.extract 1 x0.size).size) > (1 : Int))) then
              some ((0 : Int), false)
            else
              some ((0 : Int), false)
          else
            L9 N (x0.extract 1 x0.size) (-1 : Int) (0 : Int) (0 : Int)
      else
        none
    else
    bif ((toInt x0.size) == (0 : Int)) then
      some ((0 : Int), false)
    else
    bif (decide ((toInt x0.size) > (18 : Int))) then
      some ((0 : Int), false)
    else
      (bidx x0 (0 : Int)).bind fun b3 =>
      bif (b3 == (48 : Int)) then
        bif (decide ((toInt x0.size) > (1 : Int))) then
          some ((0 : Int), false)
        else
          L9 N x0 (1 : Int) (0 : Int) (0 : Int)
      else
        L9 N x0 (1 : Int) (0 : Int) (0 : Int)
  else
  bif ((toInt x0.size) == (0 : Int)) then
    some ((0 : Int), false)
  else
  bif (decide ((toInt x0.size) > (18 : Int))) then
    some ((0 : Int), false)
  else
    (bidx x0 (0 : Int)).bind fun b4 =>
    bif (b4 == (48 : Int)) then
      bif (decide ((toInt x0.size) > (1 : Int))) then
        some ((0 : Int), false)
      else
        L9 N x0 (1 : Int) (0 : Int) (0 : Int)
    else
      L9 N x0 (1 : Int) (0 : Int) (0 : Int)

noncomputable def L_s_l00Number_L9 (N : Nat) : Nat → ByteArray → Int → Int → Int → Option (Int × Bool)
  | 0, _, _, _, _ => none
  | n + 1, p0, p1, p2, p3 => B_s_l00Number_L9 N n (fun _ p0 p1 p2 p3 => L_s_l00Number_L9 N n p0 p1 p2 p3) p0 p1 p2 p3
noncomputable def F_s_l00Number (N : Nat) (x0 : ByteArray) : Option (Int × Bool) := FB_s_l00Number N (L_s_l00Number_L9 N) x0

noncomputable def F_s_l13Read (x0 : ByteArray) : Option (Int × Int × ByteArray × Bool) :=
  bif (decide ((toInt x0.size) ≥ (5 : Int))) then
    bif ((decide ((0 : Int) ≤ (5 : Int)) && decide ((5 : Int) ≤ (toInt x0.size)))) then
      bif ((x0.extract 0 5).toList == (B [101, 118, 97, 108, 32]).toList) then
        bif ((decide ((0 : Int) ≤ (5 : Int)) && decide ((5 : Int) ≤ (toInt x0.size)))) then
          (F_s_ActOK (6 : Int) (0 : Int) (x0.extract 5 x0.size)).bind fun r1 =>
          some ((6 : Int), (0 : Int), (x0.extract 5 x0.size), r1)
        else
          none
      else
        (G_s_l00Words x0).bind fun r2 =>
        bif ((toInt r2.length) != (2 : Int)) then
          some ((0 : Int), (0 : Int), (.empty : ByteArray), false)
        else
          (F_s_l13Acts).bind fun r3 =>
          (idx r2 (0 : Int)).bind fun e4 =>
          (G_s_l13Place r3 e4).bind fun r5 =>
          bif ((w64 (r5 + (1 : Int))) == (0 : Int)) then
            some ((0 : Int), (0 : Int), (.empty : ByteArray), false)
          else
          bif ((w64 (r5 + (1 : Int))) == (6 : Int)) then
            some ((0 : Int), (0 : Int), (.empty : ByteArray), false)
          else
          bif (decide ((w64 (r5 + (1 : Int))) ≤ (2 : Int))) then
            (F_s_l13Caps).bind fun r6 =>
            (idx r2 (1 : Int)).bind fun e7 =>
            (G_s_l13Place r6 e7).bind fun r8 =>
            (F_s_ActOK (w64 (r5 + (1 : Int))) r8 (.empty : ByteArray)).bind fun r9 =>
            some ((w64 (r5 + (1 : Int))), r8, (.empty : ByteArray), r9)
          else
            (idx r2 (1 : Int)).bind fun e10 =>
            (G_s_l00Number e10).bind fun r11 =>
            bif r11.2 then
              (F_s_ActOK (w64 (r5 + (1 : Int))) r11.1 (.empty : ByteArray)).bind fun r12 =>
              some ((w64 (r5 + (1 : Int))), r11.1, (.empty : ByteArray), r12)
            else
              some ((w64 (r5 + (1 : Int))), r11.1, (.empty : ByteArray), false)
    else
      none
  else
    (G_s_l00Words x0).bind fun r13 =>
    bif ((toInt r13.length) != (2 : Int)) then
      some ((0 : Int), (0 : Int), (.empty : ByteArray), false)
    else
      (F_s_l13Acts).bind fun r14 =>
      (idx r13 (0 : Int)).bind fun e15 =>
      (G_s_l13Place r14 e15).bind fun r16 =>
      bif ((w64 (r16 + (1 : Int))) == (0 : Int)) then
        some ((0 : Int), (0 : Int), (.empty : ByteArray), false)
      else
      bif ((w64 (r16 + (1 : Int))) == (6 : Int)) then
        some ((0 : Int), (0 : Int), (.empty : ByteArray), false)
      else
      bif (decide ((w64 (r16 + (1 : Int))) ≤ (2 : Int))) then
        (F_s_l13Caps).bind fun r17 =>
        (idx r13 (1 : Int)).bind fun e18 =>
        (G_s_l13Place r17 e18).bind fun r19 =>
        (F_s_ActOK (w64 (r16 + (1 : Int))) r19 (.empty : ByteArray)).bind fun r20 =>
        some ((w64 (r16 + (1 : Int))), r19, (.empty : ByteArray), r20)
      else
        (idx r13 (1 : Int)).bind fun e21 =>
        (G_s_l00Number e21).bind fun r22 =>
        bif r22.2 then
          (F_s_ActOK (w64 (r16 + (1 : Int))) r22.1 (.empty : ByteArray)).bind fun r23 =>
          some ((w64 (r16 + (1 : Int))), r22.1, (.empty : ByteArray), r23)
        else
          some ((w64 (r16 + (1 : Int))), r22.1, (.empty : ByteArray), false)


noncomputable def F_s_ReadAct (x0 : ByteArray) : Option (Int × Int × ByteArray × Int) :=
  bif (decide ((toInt x0.size) > (65536 : Int))) then
    some ((0 : Int), (0 : Int), (.empty : ByteArray), (2 : Int))
  else
    (F_s_l13Read x0).bind fun r1 =>
    bif (!r1.2.2.2) then
      some ((0 : Int), (0 : Int), (.empty : ByteArray), (3 : Int))
    else
      some (r1.1, r1.2.1, r1.2.2.1, (0 : Int))


noncomputable def F_stringslite_HasPrefix (x0 : ByteArray) (x1 : ByteArray) : Option (Bool) :=
  bif (decide ((toInt x0.size) ≥ (toInt x1.size))) then
    bif ((decide ((0 : Int) ≤ (toInt x1.size)) && decide ((toInt x1.size) ≤ (toInt x0.size)))) then
      some ((x0.extract 0 (toInt x1.size).toNat).toList == x1.toList)
    else
      none
  else
    some false


noncomputable def F_stringslite_CutPrefix (x0 : ByteArray) (x1 : ByteArray) : Option (ByteArray × Bool) :=
  (F_stringslite_HasPrefix x0 x1).bind fun r1 =>
  bif (!r1) then
    some (x0, false)
  else
  bif ((decide ((0 : Int) ≤ (toInt x1.size)) && decide ((toInt x1.size) ≤ (toInt x0.size)))) then
    some ((x0.extract (toInt x1.size).toNat x0.size), true)
  else
    none


noncomputable def F_strings_CutPrefix (x0 : ByteArray) (x1 : ByteArray) : Option (ByteArray × Bool) :=
  (F_stringslite_CutPrefix x0 x1).bind fun r1 =>
  some (r1.1, r1.2)


noncomputable def F_i_in (x0 : Int) (x1 : Int) (x2 : Int) : Option (Bool) :=
  bif (decide (x1 ≤ x0)) then
    some (decide (x0 ≤ x2))
  else
    some false


noncomputable def F_i_isCap (x0 : Int) : Option (Bool) :=
  (F_i_in x0 (0 : Int) (3 : Int)).bind fun r1 =>
  some r1


noncomputable def F_i_WrapCell (x0 : Int) : Option (Int) :=
  some (w64 (w32 x0))


noncomputable def F_i_CellOK (x0 : Int) : Option (Bool) :=
  (F_i_WrapCell x0).bind fun r1 =>
  some (r1 == x0)


noncomputable def F_i_ActOK (x0 : Int) (x1 : Int) (x2 : ByteArray) : Option (Bool) :=
  bif (x0 == (1 : Int)) then
    (F_i_isCap x1).bind fun r1 =>
    bif r1 then
      some (x2.toList == (.empty : ByteArray).toList)
    else
      some false
  else
  bif (x0 == (2 : Int)) then
    (F_i_isCap x1).bind fun r2 =>
    bif r2 then
      some (x2.toList == (.empty : ByteArray).toList)
    else
      some false
  else
  bif (x0 == (3 : Int)) then
    (F_i_in x1 (1 : Int) (4000 : Int)).bind fun r3 =>
    bif r3 then
      some (x2.toList == (.empty : ByteArray).toList)
    else
      some false
  else
  bif (x0 == (4 : Int)) then
    (F_i_CellOK x1).bind fun r4 =>
    bif r4 then
      some (x2.toList == (.empty : ByteArray).toList)
    else
      some false
  else
  bif (x0 == (5 : Int)) then
    (F_i_in x1 (1 : Int) (1000 : Int)).bind fun r5 =>
    bif r5 then
      some (x2.toList == (.empty : ByteArray).toList)
    else
      some false
  else
  bif (x0 == (6 : Int)) then
    bif (x1 == (0 : Int)) then
      some (decide ((toInt x2.size) ≤ (400 : Int)))
    else
      some false
  else
    some false


noncomputable def F_i_wordsOf_c1 (x0 : ByteArray) : Option (Bool) :=
  some (x0.toList == (.empty : ByteArray).toList)


/-- One round of loop 2 of slices.IndexFunc[[]string,string]. -/
noncomputable def B_slices_IndexFunc_Sstring_string_at_i_wordsOf_c1_L2 (N n : Nat) (L2 : Nat → (List ByteArray) → Int → Int → Option (Int)) (p0 : List ByteArray) (p1 : Int) (p2 : Int) : Option (Int) :=
  bif (decide (p2 < p1)) then
    (idx p0 p2).bind fun e1 =>
    (F_i_wordsOf_c1 e1).bind fun r2 =>
    bif r2 then
      some p2
    else
      L2 n p0 p1 (w64 (p2 + (1 : Int)))
  else
    some (-1 : Int)

noncomputable def FB_slices_IndexFunc_Sstring_string_at_i_wordsOf_c1 (N : Nat) (L2 : Nat → (List ByteArray) → Int → Int → Option (Int)) (x0 : List ByteArray) : Option (Int) :=
  L2 N x0 (toInt x0.length) (0 : Int)

noncomputable def L_slices_IndexFunc_Sstring_string_at_i_wordsOf_c1_L2 (N : Nat) : Nat → (List ByteArray) → Int → Int → Option (Int)
  | 0, _, _, _ => none
  | n + 1, p0, p1, p2 => B_slices_IndexFunc_Sstring_string_at_i_wordsOf_c1_L2 N n (fun _ p0 p1 p2 => L_slices_IndexFunc_Sstring_string_at_i_wordsOf_c1_L2 N n p0 p1 p2) p0 p1 p2
noncomputable def F_slices_IndexFunc_Sstring_string_at_i_wordsOf_c1 (N : Nat) (x0 : List ByteArray) : Option (Int) := FB_slices_IndexFunc_Sstring_string_at_i_wordsOf_c1 N (L_slices_IndexFunc_Sstring_string_at_i_wordsOf_c1_L2 N) x0

/-- One round of loop 5 of slices.DeleteFunc[[]string,string]. -/
noncomputable def B_slices_DeleteFunc_Sstring_string_at_i_wordsOf_c1_L5 (N n : Nat) (L5 : Nat → Int → Int → (List ByteArray) → Option ((List ByteArray))) (p0 : Int) (p1 : Int) (p2 : List ByteArray) : Option ((List ByteArray)) :=
  bif (decide (p1 < (toInt p2.length))) then
    (idx p2 p1).bind fun e1 =>
    (F_i_wordsOf_c1 e1).bind fun r2 =>
    bif (!r2) then
      (idx p2 p0).bind fun e3 =>
      L5 n (w64 (p0 + (1 : Int))) (w64 (p1 + (1 : Int))) (p2.set p0.toNat e1)
    else
      L5 n p0 (w64 (p1 + (1 : Int))) p2
  else
  bif ((decide ((0 : Int) ≤ p0) && decide (p0 ≤ (toInt p2.length)))) then
    bif ((decide ((0 : Int) ≤ p0) && decide (p0 ≤ (toInt (p2.take (0 + p0.toNat) ++ (List.replicate (drop' (0 + p0.toNat) p2).length (.empty : ByteArray)) ++ p2.drop ((0 + p0.toNat) + (List.replicate (drop' (0 + p0.toNat) p2).length (.empty : ByteArray)).length)).length)))) then
      some ((p2.take (0 + p0.toNat) ++ (List.replicate (drop' (0 + p0.toNat) p2).length (.empty : ByteArray)) ++ p2.drop ((0 + p0.toNat) + (List.replicate (drop' (0 + p0.toNat) p2).length (.empty : ByteArray)).length)).take p0.toNat)
    else
      none
  else
    none

noncomputable def FB_slices_DeleteFunc_Sstring_string_at_i_wordsOf_c1 (N : Nat) (L5 : Nat → Int → Int → (List ByteArray) → Option ((List ByteArray))) (x0 : List ByteArray) : Option ((List ByteArray)) :=
  (G_slices_IndexFunc_Sstring_string_at_i_wordsOf_c1 x0).bind fun r1 =>
  bif (r1 == (-1 : Int)) then
    some x0
  else
    L5 N r1 (w64 (r1 + (1 : Int))) x0

noncomputable def L_slices_DeleteFunc_Sstring_string_at_i_wordsOf_c1_L5 (N : Nat) : Nat → Int → Int → (List ByteArray) → Option ((List ByteArray))
  | 0, _, _, _ => none
  | n + 1, p0, p1, p2 => B_slices_DeleteFunc_Sstring_string_at_i_wordsOf_c1_L5 N n (fun _ p0 p1 p2 => L_slices_DeleteFunc_Sstring_string_at_i_wordsOf_c1_L5 N n p0 p1 p2) p0 p1 p2
noncomputable def F_slices_DeleteFunc_Sstring_string_at_i_wordsOf_c1 (N : Nat) (x0 : List ByteArray) : Option ((List ByteArray)) := FB_slices_DeleteFunc_Sstring_string_at_i_wordsOf_c1 N (L_slices_DeleteFunc_Sstring_string_at_i_wordsOf_c1_L5 N) x0

noncomputable def F_i_wordsOf (x0 : ByteArray) : Option ((List ByteArray)) :=
  (G_strings_Split x0 (B [32])).bind fun r1 =>
  (G_slices_DeleteFunc_Sstring_string_at_i_wordsOf_c1 r1).bind fun r2 =>
  some r2


noncomputable def F_i_actWords  : Option ((List ByteArray)) :=
  some ([(B [103, 114, 97, 110, 116]), (B [114, 101, 118, 111, 107, 101]), (B [114, 101, 102, 117, 101, 108]), (B [97, 110, 115, 119, 101, 114]), (B [116, 105, 99, 107])] : List ByteArray)


/-- One round of loop 2 of slices.Index[[]string,string]. -/
noncomputable def B_slices_Index_Sstring_string_L2 (N n : Nat) (L2 : Nat → (List ByteArray) → ByteArray → Int → Int → Option (Int)) (p0 : List ByteArray) (p1 : ByteArray) (p2 : Int) (p3 : Int) : Option (Int) :=
  bif (decide (p3 < p2)) then
    (idx p0 p3).bind fun e1 =>
    bif (p1.toList == e1.toList) then
      some p3
    else
      L2 n p0 p1 p2 (w64 (p3 + (1 : Int)))
  else
    some (-1 : Int)

noncomputable def FB_slices_Index_Sstring_string (N : Nat) (L2 : Nat → (List ByteArray) → ByteArray → Int → Int → Option (Int)) (x0 : List ByteArray) (x1 : ByteArray) : Option (Int) :=
  L2 N x0 x1 (toInt x0.length) (0 : Int)

noncomputable def L_slices_Index_Sstring_string_L2 (N : Nat) : Nat → (List ByteArray) → ByteArray → Int → Int → Option (Int)
  | 0, _, _, _, _ => none
  | n + 1, p0, p1, p2, p3 => B_slices_Index_Sstring_string_L2 N n (fun _ p0 p1 p2 p3 => L_slices_Index_Sstring_string_L2 N n p0 p1 p2 p3) p0 p1 p2 p3
noncomputable def F_slices_Index_Sstring_string (N : Nat) (x0 : List ByteArray) (x1 : ByteArray) : Option (Int) := FB_slices_Index_Sstring_string N (L_slices_Index_Sstring_string_L2 N) x0 x1

noncomputable def F_i_capWords  : Option ((List ByteArray)) :=
  some ([(B [114, 101, 97, 100]), (B [119, 114, 105, 116, 101]), (B [97, 115, 107]), (B [116, 105, 109, 101])] : List ByteArray)


noncomputable def F_stringslite_TrimPrefix (x0 : ByteArray) (x1 : ByteArray) : Option (ByteArray) :=
  (F_stringslite_HasPrefix x0 x1).bind fun r1 =>
  bif r1 then
    bif ((decide ((0 : Int) ≤ (toInt x1.size)) && decide ((toInt x1.size) ≤ (toInt x0.size)))) then
      some (x0.extract (toInt x1.size).toNat x0.size)
    else
      none
  else
    some x0


noncomputable def F_strings_TrimPrefix (x0 : ByteArray) (x1 : ByteArray) : Option (ByteArray) :=
  (F_stringslite_TrimPrefix x0 x1).bind fun r1 =>
  some r1


noncomputable def F_i_readInt (x0 : ByteArray) : Option (Int × Bool) :=
  (G_strconv_Atoi x0).bind fun r1 =>
  bif r1.2 then
    (G_strconv_Itoa r1.1).bind fun r2 =>
    bif (r2.toList == x0.toList) then
      (F_strings_TrimPrefix x0 (B [45])).bind fun r3 =>
      some (r1.1, (decide ((toInt r3.size) ≤ (18 : Int))))
    else
      some (r1.1, false)
  else
    some (r1.1, false)


noncomputable def F_i_readAct (x0 : ByteArray) : Option (Int × Int × ByteArray × Bool) :=
  (F_strings_CutPrefix x0 (B [101, 118, 97, 108, 32])).bind fun r1 =>
  bif r1.2 then
    (F_i_ActOK (6 : Int) (0 : Int) r1.1).bind fun r2 =>
    some ((6 : Int), (0 : Int), r1.1, r2)
  else
    (F_i_wordsOf x0).bind fun r3 =>
    bif ((toInt r3.length) != (2 : Int)) then
      some ((0 : Int), (0 : Int), (.empty : ByteArray), false)
    else
      (F_i_actWords).bind fun r4 =>
      (idx r3 (0 : Int)).bind fun e5 =>
      (G_slices_Index_Sstring_string r4 e5).bind fun r6 =>
      bif (decide ((w64 (r6 + (1 : Int))) ≥ (1 : Int))) then
        bif (decide ((w64 (r6 + (1 : Int))) ≤ (2 : Int))) then
          (F_i_capWords).bind fun r7 =>
          (idx r3 (1 : Int)).bind fun e8 =>
          (G_slices_Index_Sstring_string r7 e8).bind fun r9 =>
          bif (decide ((w64 (r6 + (1 : Int))) ≥ (1 : Int))) then
            (F_i_ActOK (w64 (r6 + (1 : Int))) r9 (.empty : ByteArray)).bind fun r10 =>
            some ((w64 (r6 + (1 : Int))), r9, (.empty : ByteArray), r10)
          else
            some ((w64 (r6 + (1 : Int))), r9, (.empty : ByteArray), false)
        else
          (idx r3 (1 : Int)).bind fun e11 =>
          (F_i_readInt e11).bind fun r12 =>
          bif (decide ((w64 (r6 + (1 : Int))) ≥ (1 : Int))) then
            bif r12.2 then
              (F_i_ActOK (w64 (r6 + (1 : Int))) r12.1 (.empty : ByteArray)).bind fun r13 =>
              some ((w64 (r6 + (1 : Int))), r12.1, (.empty : ByteArray), r13)
            else
              some ((w64 (r6 + (1 : Int))), r12.1, (.empty : ByteArray), false)
          else
            some ((w64 (r6 + (1 : Int))), r12.1, (.empty : ByteArray), false)
      else
        (idx r3 (1 : Int)).bind fun e14 =>
        (F_i_readInt e14).bind fun r15 =>
        bif (decide ((w64 (r6 + (1 : Int))) ≥ (1 : Int))) then
          bif r15.2 then
            (F_i_ActOK (w64 (r6 + (1 : Int))) r15.1 (.empty : ByteArray)).bind fun r16 =>
            some ((w64 (r6 + (1 : Int))), r15.1, (.empty : ByteArray), r16)
          else
            some ((w64 (r6 + (1 : Int))), r15.1, (.empty : ByteArray), false)
        else
          some ((w64 (r6 + (1 : Int))), r15.1, (.empty : ByteArray), false)


noncomputable def F_i_ReadAct (x0 : ByteArray) : Option (Int × Int × ByteArray × Int) :=
  bif (decide ((toInt x0.size) > (65536 : Int))) then
    some ((0 : Int), (0 : Int), (.empty : ByteArray), (2 : Int))
  else
    (F_i_readAct x0).bind fun r1 =>
    bif (!r1.2.2.2) then
      some ((0 : Int), (0 : Int), (.empty : ByteArray), (3 : Int))
    else
      some (r1.1, r1.2.1, r1.2.2.1, (0 : Int))


noncomputable def F_l_eqAct (x0 : Int) (x1 : Int) (x2 : ByteArray) (x3 : Int) (x4 : Int) (x5 : ByteArray) : Option (Bool) :=
  bif (x0 != x3) then
    some false
  else
  bif (x1 != x4) then
    some false
  else
  bif (!(x2.toList == x5.toList)) then
    some false
  else
    some true


noncomputable def F_l_FnExactReadAct (x0 : ByteArray) : Option (Bool) :=
  bif (decide ((toInt x0.size) > (1048576 : Int))) then
    some true
  else
    (F_s_ReadAct x0).bind fun r1 =>
    (F_i_ReadAct x0).bind fun r2 =>
    (F_l_eqAct r2.1 r2.2.1 r2.2.2.1 r1.1 r1.2.1 r1.2.2.1).bind fun r3 =>
    bif (!r3) then
      some false
    else
    bif (r2.2.2.2 != r1.2.2.2) then
      some false
    else
      some true


end
end Go.M
