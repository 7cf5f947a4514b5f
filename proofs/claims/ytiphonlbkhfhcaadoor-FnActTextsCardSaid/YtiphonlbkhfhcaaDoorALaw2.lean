/- The law FnExactReadAct answers true at every text. -/
import Derived.Test.YtiphonlbkhfhcaaDoorALaw
set_option linter.unusedVariables false
set_option maxRecDepth 100000
namespace Go.M
open Go
noncomputable section
theorem idx0 {α : Type} (a : α) (xs : List α) : idx (a :: xs) 0 = some a := rfl
theorem idx1 {α : Type} (a b : α) (xs : List α) : idx (a :: b :: xs) 1 = some b := rfl
theorem firstAt_comm (x : ByteArray) (xs : List ByteArray) (i : Int) : firstAt (fun e => x.toList == e.toList) xs i = firstAt (fun e => e.toList == x.toList) xs i := by
  congr 1
  funext e
  exact beq_comm' _ _
/-- The part of both readings behind the words. -/
theorem num_part (k : Int) (hk : k = 1 ∨ k = 2 ∨ k = 3 ∨ k = 4 ∨ k = 5) (w1 : ByteArray) (hs : w1.size ≤ 1048576) :
    Agree ((G_s_l00Number w1).bind fun r11 => bif r11.2 then (F_s_ActOK k r11.1 .empty).bind fun r12 => some (k, r11.1, .empty, r12) else some (k, r11.1, .empty, false))
      ((F_i_readInt w1).bind fun r12 => bif r12.2 then (F_i_ActOK k r12.1 .empty).bind fun r13 => some (k, r12.1, .empty, r13) else some (k, r12.1, .empty, false)) := by
  rcases readInt_eq w1 hs with ⟨n, h1, h2⟩ | ⟨h1, v, h2⟩
  · obtain ⟨b, h3, h4⟩ := act_eq k n hk
    simp only [G_s_l00Number, h1, numOut, h2, Option.bind_some, cond_true, h3, h4]
    exact agree_same
  · simp only [G_s_l00Number, h1, numOut, h2, Option.bind_some, cond_false]
    exact agree_no
theorem cap_part (k : Int) (hk : k = 1 ∨ k = 2) (w1 : ByteArray) (xs : List ByteArray) :
    Agree ((G_s_l13Place xs w1).bind fun r8 => (F_s_ActOK k r8 .empty).bind fun r9 => some (k, r8, .empty, r9))
      ((G_slices_Index_Sstring_string xs w1).bind fun r9 => (F_i_ActOK k r9 .empty).bind fun r10 => some (k, r9, .empty, r10)) := by
  simp only [G_s_l13Place, G_slices_Index_Sstring_string, Option.bind_some, firstAt_comm]
  obtain ⟨b, h3, h4⟩ := act_eq k (firstAt (fun e => e.toList == w1.toList) xs 0) (by rcases hk with h | h <;> simp [h])
  simp only [h3, h4, Option.bind_some]
  exact agree_same
def wordS (r2 : List ByteArray) : Option (Int × Int × ByteArray × Bool) :=
  bif ((toInt r2.length) != (2 : Int)) then
    some ((0 : Int), (0 : Int), (.empty : ByteArray), false)
  else
    (F_s_l13Acts).bind fun r3 =>
    (idx r2 (0 : Int)).bind fun e4 =>
    (G_s_l13Place r3 e4).bind fun r5 =>
    bif ((w64 (r5 + (1 : Int))) == (0 : Int)) then
      some ((0 : Int), (0 : Int), (.empty : ByteArray), false)
    else
    bif ((w64 (r5 + (1 : Int))) == (6 : Int)) then
      some ((0 : Int), (0 : Int), (.empty : ByteArray), false)
    else
    bif (decide ((w64 (r5 + (1 : Int))) ≤ (2 : Int))) then
      (F_s_l13Caps).bind fun r6 =>
      (idx r2 (1 : Int)).bind fun e7 =>
      (G_s_l13Place r6 e7).bind fun r8 =>
      (F_s_ActOK (w64 (r5 + (1 : Int))) r8 (.empty : ByteArray)).bind fun r9 =>
      some ((w64 (r5 + (1 : Int))), r8, (.empty : ByteArray), r9)
    else
      (idx r2 (1 : Int)).bind fun e10 =>
      (G_s_l00Number e10).bind fun r11 =>
      bif r11.2 then
        (F_s_ActOK (w64 (r5 + (1 : Int))) r11.1 (.empty : ByteArray)).bind fun r12 =>
        some ((w64 (r5 + (1 : Int))), r11.1, (.empty : ByteArray), r12)
      else
        some ((w64 (r5 + (1 : Int))), r11.1, (.empty : ByteArray), false)
def wordI (r3 : List ByteArray) : Option (Int × Int × ByteArray × Bool) :=
    bif ((toInt r3.length) != (2 : Int)) then
      some ((0 : Int), (0 : Int), (.empty : ByteArray), false)
    else
      (F_i_actWords).bind fun r4 =>
      (idx r3 (0 : Int)).bind fun e5 =>
      (G_slices_Index_Sstring_string r4 e5).bind fun r6 =>
      bif (decide ((w64 (r6 + (1 : Int))) ≥ (1 : Int))) then
        bif (decide ((w64 (r6 + (1 : Int))) ≤ (2 : Int))) then
          (F_i_capWords).bind fun r7 =>
          (idx r3 (1 : Int)).bind fun e8 =>
          (G_slices_Index_Sstring_string r7 e8).bind fun r9 =>
          bif (decide ((w64 (r6 + (1 : Int))) ≥ (1 : Int))) then
            (F_i_ActOK (w64 (r6 + (1 : Int))) r9 (.empty : ByteArray)).bind fun r10 =>
            some ((w64 (r6 + (1 : Int))), r9, (.empty : ByteArray), r10)
          else
            some ((w64 (r6 + (1 : Int))), r9, (.empty : ByteArray), false)
        else
          (idx r3 (1 : Int)).bind fun e11 =>
          (F_i_readInt e11).bind fun r12 =>
          bif (decide ((w64 (r6 + (1 : Int))) ≥ (1 : Int))) then
            bif r12.2 then
              (F_i_ActOK (w64 (r6 + (1 : Int))) r12.1 (.empty : ByteArray)).bind fun r13 =>
              some ((w64 (r6 + (1 : Int))), r12.1, (.empty : ByteArray), r13)
            else
              some ((w64 (r6 + (1 : Int))), r12.1, (.empty : ByteArray), false)
          else
            some ((w64 (r6 + (1 : Int))), r12.1, (.empty : ByteArray), false)
      else
        (idx r3 (1 : Int)).bind fun e14 =>
        (F_i_readInt e14).bind fun r15 =>
        bif (decide ((w64 (r6 + (1 : Int))) ≥ (1 : Int))) then
          bif r15.2 then
            (F_i_ActOK (w64 (r6 + (1 : Int))) r15.1 (.empty : ByteArray)).bind fun r16 =>
            some ((w64 (r6 + (1 : Int))), r15.1, (.empty : ByteArray), r16)
          else
            some ((w64 (r6 + (1 : Int))), r15.1, (.empty : ByteArray), false)
        else
          some ((w64 (r6 + (1 : Int))), r15.1, (.empty : ByteArray), false)
theorem word_part (ws : List ByteArray) (hs : ∀ w ∈ ws, w.size ≤ 1048576) : Agree (wordS ws) (wordI ws) := by
  unfold wordS wordI
  by_cases hl : ws.length = 2
  · match ws, hl with
    | [w0, w1], _ =>
    have h1 := hs w1 (by simp)
    have e2 : ((toInt [w0, w1].length) != (2 : Int)) = false := rfl
    simp only [e2, cond_false, F_s_l13Acts, F_i_actWords, F_s_l13Caps, F_i_capWords, Option.bind_some, idx0, idx1]
    have g1 : ∀ xs, G_s_l13Place xs w0 = some (firstAt (fun e => e.toList == w0.toList) xs 0) := fun _ => rfl
    have g2 : ∀ xs, G_slices_Index_Sstring_string xs w0 = some (firstAt (fun e => e.toList == w0.toList) xs 0) := fun xs => by rw [G_slices_Index_Sstring_string, firstAt_comm]
    simp only [g1, g2, Option.bind_some, acts6]
    generalize hr : firstAt (fun e => e.toList == w0.toList) _ 0 = r
    have c0 : w64 (0 + 1) = 1 := by decide
    have c1 : w64 (1 + 1) = 2 := by decide
    have c2 : w64 (2 + 1) = 3 := by decide
    have c3 : w64 (3 + 1) = 4 := by decide
    have c4 : w64 (4 + 1) = 5 := by decide
    have c5 : w64 (5 + 1) = 6 := by decide
    have cm : w64 (-1 + 1) = 0 := by decide
    rcases acts5 _ _ _ _ _ _ r hr with rfl | rfl | rfl | rfl | rfl | rfl
    · have d1 : (decide ((0 : Int) ≥ 1)) = false := by decide
      have d6 : ((6 : Int) == 0) = false := by decide
      have hi : ∃ v b, F_i_readInt w1 = some (v, b) := by
        rcases readInt_eq w1 h1 with ⟨n, h1, h2⟩ | ⟨h1, v, h2⟩
        · exact ⟨_, _, h2⟩
        · exact ⟨_, _, h2⟩
      obtain ⟨v, b, hi⟩ := hi
      simp only [beq_self_eq_true, cond_true, cm, d1, cond_false, hi, Option.bind_some]
      cases ((B [101, 118, 97, 108]).toList == w0.toList)
      · simp only [cond_false, cm, beq_self_eq_true, cond_true]
        exact agree_no
      · simp only [cond_true, c5, d6, cond_false, beq_self_eq_true]
        exact agree_no
    · have d0 : ((0 : Int) == -1) = false := by decide
      have d1 : ((1 : Int) == 0) = false := by decide
      have d2 : ((1 : Int) == 6) = false := by decide
      have d3 : (decide ((1 : Int) ≤ 2)) = true := by decide
      have d4 : (decide ((1 : Int) ≥ 1)) = true := by decide
      simp only [d0, cond_false, c0, d1, d2, d3, d4, cond_true]
      exact cap_part 1 (.inl rfl) w1 _
    · have d0 : ((1 : Int) == -1) = false := by decide
      have d1 : ((2 : Int) == 0) = false := by decide
      have d2 : ((2 : Int) == 6) = false := by decide
      have d3 : (decide ((2 : Int) ≤ 2)) = true := by decide
      have d4 : (decide ((2 : Int) ≥ 1)) = true := by decide
      simp only [d0, cond_false, c1, d1, d2, d3, d4, cond_true]
      exact cap_part 2 (.inr rfl) w1 _
    · have d0 : ((2 : Int) == -1) = false := by decide
      have d1 : ((3 : Int) == 0) = false := by decide
      have d2 : ((3 : Int) == 6) = false := by decide
      have d3 : (decide ((3 : Int) ≤ 2)) = false := by decide
      have d4 : (decide ((3 : Int) ≥ 1)) = true := by decide
      simp only [d0, cond_false, c2, d1, d2, d3, d4, cond_true]
      exact num_part 3 (by simp) w1 h1
    · have d0 : ((3 : Int) == -1) = false := by decide
      have d1 : ((4 : Int) == 0) = false := by decide
      have d2 : ((4 : Int) == 6) = false := by decide
      have d3 : (decide ((4 : Int) ≤ 2)) = false := by decide
      have d4 : (decide ((4 : Int) ≥ 1)) = true := by decide
      simp only [d0, cond_false, c3, d1, d2, d3, d4, cond_true]
      exact num_part 4 (by simp) w1 h1
    · have d0 : ((4 : Int) == -1) = false := by decide
      have d1 : ((5 : Int) == 0) = false := by decide
      have d2 : ((5 : Int) == 6) = false := by decide
      have d3 : (decide ((5 : Int) ≤ 2)) = false := by decide
      have d4 : (decide ((5 : Int) ≥ 1)) = true := by decide
      simp only [d0, cond_false, c4, d1, d2, d3, d4, cond_true]
      exact num_part 5 (by simp) w1 h1
  · have e2 : ((toInt ws.length) != (2 : Int)) = true := by
      rw [bne_iff_ne]
      simp only [toInt]
      omega
    simp only [e2, cond_true]
    exact agree_same
theorem words_small : ∀ (l cur w : List UInt8), w ∈ wordsL cur l → w.length ≤ cur.length + l.length
  | [], cur, w, h => by
    unfold wordsL at h
    split at h
    · cases h
    · simp at h; subst h; simp
  | c :: r, cur, w, h => by
    unfold wordsL at h
    split at h
    · split at h
      · have := words_small r [] w h
        simp at this ⊢
        omega
      · rcases List.mem_cons.1 h with rfl | h
        · simp
        · have := words_small r [] w h
          simp at this ⊢
          omega
    · have := words_small r _ w h
      simp at this ⊢
      omega
theorem read_agree (s : ByteArray) (hs : s.size ≤ 1048576) : Agree (F_s_l13Read s) (F_i_readAct s) := by
  have hsz := Lib.size_eq s
  have hw : G_s_l00Words s = some ((wordsL [] s.data.toList).map B) := if_pos hs
  have hp : (B [101, 118, 97, 108, 32]).size = 5 := rfl
  have hwp : Agree (wordS ((wordsL [] s.data.toList).map B)) (wordI ((wordsL [] s.data.toList).map B)) := word_part _ (fun w h => by
    obtain ⟨l, hl, rfl⟩ := List.mem_map.1 h
    have := words_small _ _ _ hl
    have e : (B l).size = l.length := Lib.size_eq _
    simp at this
    omega)
  have hi : F_i_readAct s = bif (decide (5 ≤ s.size) && (s.data.toList.take 5 == [101, 118, 97, 108, 32])) then (F_i_ActOK 6 0 (s.extract 5 s.size)).bind fun r2 => some ((6 : Int), (0 : Int), s.extract 5 s.size, r2) else wordI ((wordsL [] s.data.toList).map B) := by
    simp only [F_i_readAct, F_strings_CutPrefix, F_stringslite_CutPrefix, pre_eq, Option.bind_some, hp, wordsOf_i s hs]
    change (Option.bind (Option.bind (bif !(decide (5 ≤ s.size) && (s.data.toList.take 5 == [101, 118, 97, 108, 32])) then _ else _) _) _) = _
    cases hc : (decide (5 ≤ s.size) && (s.data.toList.take 5 == [101, 118, 97, 108, 32]))
    · rfl
    · have h5 : 5 ≤ s.size := by simp only [Bool.and_eq_true, decide_eq_true_eq] at hc; exact hc.1
      have h3 : (0 : Int) ≤ toInt 5 := by decide
      have h4 : toInt 5 ≤ toInt s.size := by simp only [toInt]; omega
      have h5 : (toInt 5).toNat = 5 := rfl
      simp only [Bool.not_true, cond_false, h3, h4, h5, decide_true, Bool.and_self, cond_true, Option.bind_some]
  have hsp : F_s_l13Read s = bif (decide (5 ≤ s.size) && (s.data.toList.take 5 == [101, 118, 97, 108, 32])) then (F_s_ActOK 6 0 (s.extract 5 s.size)).bind fun r2 => some ((6 : Int), (0 : Int), s.extract 5 s.size, r2) else wordS ((wordsL [] s.data.toList).map B) := by
    unfold F_s_l13Read
    by_cases h5 : 5 ≤ s.size
    · have h1 : toInt s.size ≥ 5 := by simp only [toInt]; omega
      have h2 : (0 : Int) ≤ 5 := by decide
      have h3 : (5 : Int) ≤ toInt s.size := h1
      have e1 : ((s.extract 0 5).toList == (B [101, 118, 97, 108, 32]).toList) = (s.data.toList.take 5 == [101, 118, 97, 108, 32]) := by
        rw [Lib.extract_toList, Lib.toList_data]
        rfl
      simp only [h1, h2, decide_true, cond_true, Bool.and_self, e1, h5, Bool.true_and, hw, Option.bind_some]
      cases (s.data.toList.take 5 == [101, 118, 97, 108, 32])
      · rfl
      · rfl
    · have h1 : ¬ (toInt s.size ≥ 5) := by simp only [toInt]; omega
      simp only [h1, h5, decide_false, cond_false, Bool.false_and, hw, Option.bind_some]
      rfl
  rw [hi, hsp]
  cases (decide (5 ≤ s.size) && (s.data.toList.take 5 == [101, 118, 97, 108, 32]))
  · exact hwp
  · obtain ⟨b, h1, h2⟩ := eval_eq (s.extract 5 s.size)
    simp only [cond_true, h1, h2, Option.bind_some]
    exact agree_same
theorem law_FnExactReadAct (s : ByteArray) : F_l_FnExactReadAct s = some true := by
  unfold F_l_FnExactReadAct
  by_cases hs : toInt s.size > 1048576
  · simp only [hs, decide_true, cond_true]
  · simp only [hs, decide_false, cond_false]
    have key : ∃ r, F_s_ReadAct s = some r ∧ F_i_ReadAct s = some r := by
      unfold F_s_ReadAct F_i_ReadAct
      by_cases h6 : toInt s.size > 65536
      · simp only [h6, decide_true, cond_true]
        exact ⟨_, rfl, rfl⟩
      · simp only [h6, decide_false, cond_false]
        obtain ⟨x, y, h1, h2, h3, h4⟩ := read_agree s (by simp only [toInt] at hs; omega)
        rw [h1, h2]
        simp only [Option.bind_some, ← h3]
        cases hb : x.2.2.2
        · exact ⟨_, rfl, rfl⟩
        · rw [h4 hb]
          exact ⟨_, rfl, rfl⟩
    obtain ⟨r, h1, h2⟩ := key
    have e1 : ∀ n : Int, (n != n) = false := fun n => by simp
    have e2 : ∀ b : ByteArray, (!(b.toList == b.toList)) = false := fun b => by simp
    simp only [h1, h2, Option.bind_some, F_l_eqAct, e1, e2, cond_false, Bool.not_true]
end
end Go.M
