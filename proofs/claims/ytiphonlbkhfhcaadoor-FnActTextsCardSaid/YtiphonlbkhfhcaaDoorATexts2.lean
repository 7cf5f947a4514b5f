/- The law FnActTexts answers true at every two rows of bytes. -/
import Derived.Test.YtiphonlbkhfhcaaDoorATexts
import Derived.Lib.ItoaLen
set_option linter.unusedVariables false
set_option maxRecDepth 100000
namespace Go.M
open Go
noncomputable section
/-! ### What stands where in a text -/
theorem decDigits_ge (u : Nat) : ∀ c ∈ Lib.decDigits u, 48 ≤ c.toNat := by
  induction u using Nat.strongRecOn with
  | _ u ih =>
    intro c hc
    by_cases h : u < 10
    · rw [Lib.decDigits_one h, List.mem_singleton] at hc
      subst hc
      simp
      omega
    · rw [Lib.decDigits, dif_neg h, List.mem_append, List.mem_singleton] at hc
      rcases hc with hc | rfl
      · exact ih (u / 10) (by omega) c hc
      · simp
        omega
theorem itoa_no32 (n : Int) : (32 : UInt8) ∉ Lib.itoa n := by
  intro h
  unfold Lib.itoa at h
  split at h
  · rcases List.mem_cons.1 h with h | h
    · cases h
    · have := decDigits_ge _ _ h
      simp at this
  · have := decDigits_ge _ _ h
    simp at this
theorem itoa_ne (n : Int) : Lib.itoa n ≠ [] := by
  unfold Lib.itoa
  split
  · simp
  · obtain ⟨c, r, hc, _⟩ := decDigits_head n.toNat
    rw [hc]
    simp
theorem wordsL_end : ∀ (a cur : List UInt8), (32 : UInt8) ∉ a → cur ++ a ≠ [] → wordsL cur a = [cur ++ a]
  | [], cur, _, h => by
    unfold wordsL
    rw [if_neg (by simpa using h)]
    simp
  | c :: a, cur, h32, h => by
    have hc : c ≠ 32 := fun e => h32 (by simp [e])
    unfold wordsL
    rw [if_neg hc, wordsL_end a _ (fun e => h32 (by simp [e])) (by simp)]
    simp
theorem wordsL_cut : ∀ (a b cur : List UInt8), (32 : UInt8) ∉ a → cur ++ a ≠ [] → wordsL cur (a ++ 32 :: b) = (cur ++ a) :: wordsL [] b
  | [], b, cur, _, h => by
    rw [List.nil_append, wordsL, if_pos rfl, if_neg (by simpa using h)]
    simp
  | c :: a, b, cur, h32, h => by
    have hc : c ≠ 32 := fun e => h32 (by simp [e])
    rw [List.cons_append, wordsL, if_neg hc, wordsL_cut a b _ (fun e => h32 (by simp [e])) (by simp)]
    simp
theorem readAct_eq (s : ByteArray) (hs : s.size ≤ 1048576) : F_i_readAct s = bif (decide (5 ≤ s.size) && (s.data.toList.take 5 == [101, 118, 97, 108, 32])) then (F_i_ActOK 6 0 (s.extract 5 s.size)).bind fun r2 => some ((6 : Int), (0 : Int), s.extract 5 s.size, r2) else wordI ((wordsL [] s.data.toList).map B) := by
  have hp : (B [101, 118, 97, 108, 32]).size = 5 := rfl
  simp only [F_i_readAct, F_strings_CutPrefix, F_stringslite_CutPrefix, pre_eq, Option.bind_some, hp, wordsOf_i s hs]
  change (Option.bind (Option.bind (bif !(decide (5 ≤ s.size) && (s.data.toList.take 5 == [101, 118, 97, 108, 32])) then _ else _) _) _) = _
  cases hc : (decide (5 ≤ s.size) && (s.data.toList.take 5 == [101, 118, 97, 108, 32]))
  · rfl
  · have h5 : 5 ≤ s.size := by simp only [Bool.and_eq_true, decide_eq_true_eq] at hc; exact hc.1
    have h3 : (0 : Int) ≤ toInt 5 := by decide
    have h4 : toInt 5 ≤ toInt s.size := by simp only [toInt]; omega
    have h5 : (toInt 5).toNat = 5 := rfl
    simp only [Bool.not_true, cond_false, h3, h4, h5, decide_true, Bool.and_self, cond_true, Option.bind_some]
/-- The first place of a row of bytes among such rows. -/
def firstL (x : List UInt8) : List (List UInt8) → Int → Int
  | [], _ => -1
  | y :: ys, i => bif x == y then i else firstL x ys (i + 1)
theorem first_L (x : List UInt8) : ∀ (ys : List (List UInt8)) (i : Int), firstAt (fun e => (B x).toList == e.toList) (ys.map B) i = firstL x ys i
  | [], _ => rfl
  | y :: ys, i => by
    rw [List.map_cons, firstAt, firstL, first_L x ys, Lib.toList_data, Lib.toList_data, data_B, data_B]
def actsL : List (List UInt8) := [[103, 114, 97, 110, 116], [114, 101, 118, 111, 107, 101], [114, 101, 102, 117, 101, 108], [97, 110, 115, 119, 101, 114], [116, 105, 99, 107]]
def capsL : List (List UInt8) := [[114, 101, 97, 100], [119, 114, 105, 116, 101], [97, 115, 107], [116, 105, 109, 101]]
theorem acts_L : F_i_actWords = some (actsL.map B) := rfl
theorem caps_L : F_i_capWords = some (capsL.map B) := rfl
theorem place_L (x : List UInt8) (ys : List (List UInt8)) : G_slices_Index_Sstring_string (ys.map B) (B x) = some (firstL x ys 0) := by rw [G_slices_Index_Sstring_string, first_L]

/-! ### Reading a text that was written -/
/-- A text of two words is no "eval ..". -/
theorem readAct_two (a b : List UInt8) (ha : (32 : UInt8) ∉ a) (hb : (32 : UInt8) ∉ b) (ha0 : a ≠ []) (hb0 : b ≠ []) (hl : a.length + b.length ≤ 1000) (hev : ((a ++ 32 :: b).take 5 == [101, 118, 97, 108, 32]) = false) :
    F_i_readAct (B (a ++ 32 :: b)) = wordI [B a, B b] := by
  have hsz := size_B (a ++ 32 :: b)
  simp at hsz
  rw [readAct_eq _ (by omega), data_B, hev, Bool.and_false, cond_false, wordsL_cut a b [] ha (by simpa using ha0), wordsL_end b [] hb (by simpa using hb0)]
  rfl
theorem wordI_cap (k n : Int) (a b : List UInt8) (hk : k = 1 ∨ k = 2) (hf : firstL a actsL 0 = k - 1) (hn : firstL b capsL 0 = n) (h0 : 0 ≤ n) (h3 : n ≤ 3) : wordI [B a, B b] = (F_i_ActOK k n .empty).bind fun r => some (k, n, .empty, r) := by
  have e2 : ((toInt [B a, B b].length) != (2 : Int)) = false := rfl
  have hw : w64 (k - 1 + 1) = k := by rw [w64_id (by omega) (by omega)]; omega
  simp only [wordI, e2, cond_false, acts_L, caps_L, Option.bind_some, idx0, idx1, place_L, hf, hn, hw]
  rw [cond_of (by omega), cond_of (by omega), cond_of (by omega)]
theorem wordI_num (k n : Int) (a : List UInt8) (hk : k = 3 ∨ k = 4 ∨ k = 5) (hf : firstL a actsL 0 = k - 1) (h0 : -1000000000000 ≤ n) (h1 : n ≤ 1000000000000) : wordI [B a, B (Lib.itoa n)] = (F_i_ActOK k n .empty).bind fun r => some (k, n, .empty, r) := by
  have e2 : ((toInt [B a, B (Lib.itoa n)].length) != (2 : Int)) = false := rfl
  have hw : w64 (k - 1 + 1) = k := by rw [w64_id (by omega) (by omega)]; omega
  have hlen : (Lib.itoa n).length ≤ 21 := Lib.itoa_length_le n (by omega) (by omega)
  have hmag : (magL (Lib.itoa n)).length ≤ 18 := by
    by_cases hn : n < 0
    · obtain ⟨u, rfl⟩ : ∃ u : Nat, n = -(u : Int) := ⟨n.natAbs, by omega⟩
      rw [Lib.itoa_neg u (by omega)]
      have := nDigits_small_of 13 u (by omega)
      simp only [magL, if_pos]
      omega
    · obtain ⟨u, rfl⟩ : ∃ u : Nat, n = (u : Int) := ⟨n.toNat, by omega⟩
      rw [Lib.itoa_nonneg]
      have := nDigits_small_of 13 u (by omega)
      obtain ⟨c, r, hc, h1, _⟩ := decDigits_head u
      rw [hc] at this ⊢
      simp only [magL, if_neg h1]
      omega
  have hr : F_i_readInt (B (Lib.itoa n)) = some (n, true) := by
    have hnum := numOf_itoa n hmag
    rcases readInt_eq (B (Lib.itoa n)) (by rw [size_B]; omega) with ⟨m, h1, h2⟩ | ⟨h1, _⟩
    · rw [data_B, hnum] at h1
      cases h1
      exact h2
    · rw [data_B, hnum] at h1
      cases h1
  simp only [wordI, e2, cond_false, acts_L, caps_L, Option.bind_some, idx0, idx1, place_L, hf, hw, hr]
  rw [cond_of (by omega), cond_not (by omega)]
  simp only [cond_true]
  rw [cond_of (by omega)]
/-- No act is read from "evaluate .." -/
theorem wordI_none (ws : List (List UInt8)) (hs : ∀ w ∈ ws, w.length ≤ 1048576) : ∃ k n t, wordI (B [101, 118, 97, 108, 117, 97, 116, 101] :: ws.map B) = some (k, n, t, false) := by
  match ws, hs with
  | [w], hs =>
    have e2 : ((toInt (B [101, 118, 97, 108, 117, 97, 116, 101] :: List.map B [w]).length) != (2 : Int)) = false := rfl
    have hf : firstL [101, 118, 97, 108, 117, 97, 116, 101] actsL 0 = -1 := by decide
    have hw : w64 (-1 + 1) = 0 := by decide
    have d1 : (decide ((0 : Int) ≥ 1)) = false := by decide
    have hr : ∃ v b, F_i_readInt (B w) = some (v, b) := by
      rcases readInt_eq (B w) (by rw [size_B]; exact hs w (by simp)) with ⟨m, _, h2⟩ | ⟨_, v, h2⟩
      · exact ⟨_, _, h2⟩
      · exact ⟨_, _, h2⟩
    obtain ⟨v, b, hr⟩ := hr
    simp only [wordI, cond_false, acts_L, Option.bind_some, List.map_cons, List.map_nil, idx0, idx1, place_L, hf, hw, d1, hr]
    exact ⟨_, _, _, rfl⟩
  | [], _ =>
    have e2 : ((toInt (B [101, 118, 97, 108, 117, 97, 116, 101] :: List.map B []).length) != (2 : Int)) = true := rfl
    simp only [wordI, e2, cond_true]
    exact ⟨_, _, _, rfl⟩
  | a :: b :: r, _ =>
    have e2 : ((toInt (B [101, 118, 97, 108, 117, 97, 116, 101] :: List.map B (a :: b :: r)).length) != (2 : Int)) = true := by
      rw [bne_iff_ne]
      simp [toInt]
      omega
    simp only [wordI, e2, cond_true]
    exact ⟨_, _, _, rfl⟩
theorem evaluate_none (t : ByteArray) (ht : t.size ≤ 2000) : F_i_ReadAct (B [101, 118, 97, 108, 117, 97, 116, 101, 32] ++ t) = some (0, 0, .empty, 3) := by
  obtain ⟨l, rfl⟩ : ∃ l, t = B l := ⟨t.data.toList, (B_data t).symm⟩
  rw [size_B] at ht
  have hsz : (B [101, 118, 97, 108, 117, 97, 116, 101, 32] ++ B l).size = 9 + l.length := by rw [size_cat, size_B, size_B]; rfl
  unfold F_i_ReadAct
  rw [cond_not (by simp only [toInt, hsz]; omega), readAct_eq _ (by omega), B_app, data_B]
  have hev : (([101, 118, 97, 108, 117, 97, 116, 101, 32] ++ l).take 5 == [101, 118, 97, 108, 32]) = false := by
    show (([101, 118, 97, 108, 117] : List UInt8) == [101, 118, 97, 108, 32]) = false
    decide
  rw [hev, Bool.and_false, cond_false, show ([101, 118, 97, 108, 117, 97, 116, 101, 32] ++ l : List UInt8) = [101, 118, 97, 108, 117, 97, 116, 101] ++ 32 :: l from rfl, wordsL_cut _ _ [] (by decide) (by decide), List.map_cons]
  obtain ⟨k, n, u, e⟩ := wordI_none (wordsL [] l) (fun w hw => by have := words_small _ _ _ hw; simp at this; omega)
  rw [List.nil_append, e]
  rfl
end
end Go.M
