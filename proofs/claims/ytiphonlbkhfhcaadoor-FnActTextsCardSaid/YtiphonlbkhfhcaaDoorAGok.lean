/- slices.DeleteFunc, spec.l00Words, spec.l00Number: their loops. -/
import Derived.Test.YtiphonlbkhfhcaaDoorAGok1
import Derived.Lib.Strings
import Derived.Lib.IndexBytes
set_option linter.unusedVariables false
set_option maxRecDepth 100000
namespace Go.M
open Go
noncomputable section
theorem B_data (s : ByteArray) : B s.data.toList = s := by obtain ⟨⟨l⟩⟩ := s; rfl
theorem data_B (l : List UInt8) : (B l).data.toList = l := rfl
theorem extract_B (s : ByteArray) (a b : Nat) : s.extract a b = B ((s.data.toList.drop a).take (b - a)) := by rw [← Lib.extract_data, B_data]

theorem first_filter (p : ByteArray → Bool) : ∀ (xs : List ByteArray) (i : Int), 0 ≤ i →
    (firstAt p xs i = -1 ∧ xs.filter (fun e => !p e) = xs) ∨ ∃ m : Nat, firstAt p xs i = i + m ∧ m < xs.length ∧ xs.take m ++ (xs.drop (m + 1)).filter (fun e => !p e) = xs.filter (fun e => !p e)
  | [], i, hi => .inl ⟨rfl, rfl⟩
  | x :: xs, i, hi => by
    unfold firstAt
    cases hp : p x
    · rcases first_filter p xs (i + 1) (by omega) with ⟨h1, h2⟩ | ⟨m, h1, h2, h3⟩
      · refine .inl ⟨by simpa using h1, by simp [hp, h2]⟩
      · refine .inr ⟨m + 1, by simp only [cond_false]; rw [h1]; omega, by simp; omega, by simp [hp, h3]⟩
    · exact .inr ⟨0, by simp, by simp, by simp [hp]⟩

theorem del_loop (N : Nat) : ∀ (k i j n : Nat) (xs : List ByteArray), xs.length ≤ maxLen → i ≤ j → j + k = xs.length → k < n →
    L_slices_DeleteFunc_Sstring_string_at_i_wordsOf_c1_L5 N n (i : Int) (j : Int) xs = some (xs.take i ++ (xs.drop j).filter (fun e => !(e.toList == (.empty : ByteArray).toList)))
  | 0, i, j, n, xs, hl, hij, hj, hn => by
    obtain ⟨n, rfl⟩ : ∃ m, n = m + 1 := ⟨n - 1, by omega⟩
    rw [L_slices_DeleteFunc_Sstring_string_at_i_wordsOf_c1_L5, B_slices_DeleteFunc_Sstring_string_at_i_wordsOf_c1_L5, show xs.drop j = [] from List.drop_eq_nil_of_le (by omega)]
    have h1 : ¬ ((j : Int) < toInt xs.length) := by simp only [toInt]; omega
    have h2 : ((i : Int) ≤ toInt xs.length) := by simp only [toInt]; omega
    have h3 : (0 : Int) ≤ (i : Int) := by omega
    have hd : (drop' (0 + i) xs).length = xs.length - i := by rw [drop'_eq]; simp
    have h4 : ((i : Int) ≤ toInt (xs.take (0 + i) ++ List.replicate (drop' (0 + i) xs).length (ByteArray.empty) ++ xs.drop (0 + i + (List.replicate (drop' (0 + i) xs).length (ByteArray.empty)).length)).length) := by
      simp only [toInt, hd]; simp; omega
    simp only [Int.toNat_natCast, h1, h2, h3, h4, decide_true, decide_false, cond_true, cond_false, Bool.and_self, List.filter_nil, List.append_nil]
    rw [List.append_assoc, List.take_append_of_le_length (by simp; omega), List.take_take]
    simp
  | k + 1, i, j, n, xs, hl, hij, hj, hn => by
    obtain ⟨n, rfl⟩ : ∃ m, n = m + 1 := ⟨n - 1, by omega⟩
    have hlt : j < xs.length := by omega
    have h1 : ((j : Int) < toInt xs.length) := by simp only [toInt]; omega
    unfold maxLen at hl
    have hw : w64 ((j : Int) + 1) = ((j + 1 : Nat) : Int) := by rw [w64_id] <;> omega
    have hw2 : w64 ((i : Int) + 1) = ((i + 1 : Nat) : Int) := by rw [w64_id] <;> omega
    have hi : i < xs.length := by omega
    rw [L_slices_DeleteFunc_Sstring_string_at_i_wordsOf_c1_L5, B_slices_DeleteFunc_Sstring_string_at_i_wordsOf_c1_L5, List.drop_eq_getElem_cons hlt, idx_nat, List.getElem?_eq_getElem hlt, hw, hw2, idx_nat, List.getElem?_eq_getElem hi]
    simp only [h1, decide_true, cond_true, Option.bind_some, F_i_wordsOf_c1, Int.toNat_natCast, List.filter_cons]
    cases hb : (xs[j].toList == (.empty : ByteArray).toList)
    · simp only [Bool.not_false, cond_true]
      rw [del_loop N k (i + 1) (j + 1) n _ (by simpa [maxLen] using hl) (by omega) (by simp; omega) (by omega)]
      rw [List.drop_set_of_lt (by omega), List.take_add_one]
      simp [List.take_set_of_le, hi]
    · simp only [Bool.not_true, cond_false]
      rw [del_loop N k i (j + 1) n xs hl (by omega) (by omega) (by omega)]
      simp

theorem G_slices_DeleteFunc_Sstring_string_at_i_wordsOf_c1_ok (x0 : List ByteArray) (h0 : x0.length ≤ maxLen) {r} (h : G_slices_DeleteFunc_Sstring_string_at_i_wordsOf_c1 x0 = some r) : ∃ N, F_slices_DeleteFunc_Sstring_string_at_i_wordsOf_c1 N x0 = some r := by
  refine ⟨x0.length + 1, ?_⟩
  rw [← h, F_slices_DeleteFunc_Sstring_string_at_i_wordsOf_c1, FB_slices_DeleteFunc_Sstring_string_at_i_wordsOf_c1, G_slices_DeleteFunc_Sstring_string_at_i_wordsOf_c1, G_slices_IndexFunc_Sstring_string_at_i_wordsOf_c1]
  simp only [Option.bind_some]
  have hm : x0.length ≤ 9223372036854775807 := h0
  rcases first_filter (fun e => e.toList == (.empty : ByteArray).toList) x0 0 (by omega) with ⟨h1, h2⟩ | ⟨m, h1, h2, h3⟩
  · rw [h1, h2]; rfl
  · rw [h1]
    have e1 : ((0 : Int) + m == -1) = false := by rw [beq_eq_false_iff_ne]; omega
    rw [e1, cond_false, Int.zero_add, show w64 ((m : Int) + 1) = ((m + 1 : Nat) : Int) by rw [w64_id] <;> omega]
    rw [del_loop _ (x0.length - (m + 1)) m (m + 1) _ x0 h0 (by omega) (by omega) (by omega), h3]

theorem words_loop (N : Nat) (s : ByteArray) (hs : s.size ≤ 1048576) : ∀ (k st i n : Nat) (acc : List ByteArray), i + k = s.size → st ≤ i → acc.length ≤ i → k + 2 ≤ n →
    L_s_l00Words_L4 N n s (st : Int) (i : Int) acc = some (acc ++ (wordsL ((s.data.toList.drop st).take (i - st)) (s.data.toList.drop i)).map B)
  | 0, st, i, n, acc, hi, hst, ha, hn => by
    obtain ⟨n, rfl⟩ : ∃ m, n = m + 1 + 1 := ⟨n - 2, by omega⟩
    have hsz := Lib.size_eq s
    have hw : w64 ((i : Int) + 1) = ((i + 1 : Nat) : Int) := by rw [w64_id] <;> omega
    have h1 : ((i : Int) ≤ toInt s.size) := by simp only [toInt]; omega
    have h2 : ((i : Int) == toInt s.size) = true := by rw [beq_iff_eq]; simp only [toInt]; omega
    have hend : ∀ (a : Int) (xs : List ByteArray), L_s_l00Words_L4 N (n + 1) s a ((i + 1 : Nat) : Int) xs = some xs := fun a xs => by
      rw [L_s_l00Words_L4, B_s_l00Words_L4]
      have : ¬ (((i + 1 : Nat) : Int) ≤ toInt s.size) := by simp only [toInt]; omega
      simp only [this, decide_false, cond_false]
    rw [L_s_l00Words_L4, B_s_l00Words_L4, hw, show s.data.toList.drop i = [] from List.drop_eq_nil_of_le (by omega)]
    simp only [h1, h2, decide_true, cond_true, hend]
    by_cases hlt : st < i
    · have h3 : ((i : Int) > (st : Int)) := by omega
      have h4 : (0 : Int) ≤ (i : Int) := by omega
      have h5 : (0 : Int) ≤ (st : Int) := by omega
      have h6 : (st : Int) ≤ (i : Int) := by omega
      have h7 : (acc.length + 1) * 16 ≤ maxBytes := by unfold maxBytes; omega
      have hne : (s.data.toList.drop st).take (i - st) ≠ [] := by
        intro e
        have := congrArg List.length e
        simp at this
        omega
      simp only [h3, h4, h5, h6, h7, decide_true, cond_true, Bool.and_self, Int.toNat_natCast, extract_B s, wordsL, if_neg hne, List.map_cons, List.map_nil]
    · have h3 : ¬ ((i : Int) > (st : Int)) := by omega
      simp only [h3, decide_false, cond_false, wordsL, show i - st = 0 by omega, List.take_zero, if_pos, List.map_nil, List.append_nil]
  | k + 1, st, i, n, acc, hi, hst, ha, hn => by
    obtain ⟨n, rfl⟩ : ∃ m, n = m + 1 := ⟨n - 1, by omega⟩
    have hsz := Lib.size_eq s
    have hlt : i < s.data.toList.length := by omega
    have hw : w64 ((i : Int) + 1) = ((i + 1 : Nat) : Int) := by rw [w64_id] <;> omega
    have h1 : ((i : Int) ≤ toInt s.size) := by simp only [toInt]; omega
    have h2 : ((i : Int) == toInt s.size) = false := by rw [beq_eq_false_iff_ne]; simp only [toInt]; omega
    rw [L_s_l00Words_L4, B_s_l00Words_L4, hw, List.drop_eq_getElem_cons hlt, bidx_nat, List.getElem?_eq_getElem hlt]
    simp only [h1, h2, decide_true, cond_true, cond_false, Option.map_some, Option.bind_some]
    by_cases hc : s.data.toList[i] = 32
    · have h8 : (((s.data.toList[i].toNat : Nat) : Int) == 32) = true := by rw [hc]; rfl
      have hw2 : w64 ((i : Int) + 1) = ((i + 1 : Nat) : Int) := hw
      simp only [h8, cond_true, wordsL, if_pos hc]
      by_cases hlt2 : st < i
      · have h3 : ((i : Int) > (st : Int)) := by omega
        have h4 : (0 : Int) ≤ (i : Int) := by omega
        have h5 : (0 : Int) ≤ (st : Int) := by omega
        have h6 : (st : Int) ≤ (i : Int) := by omega
        have h7 : (acc.length + 1) * 16 ≤ maxBytes := by unfold maxBytes; omega
        have hne : (s.data.toList.drop st).take (i - st) ≠ [] := by
          intro e
          have := congrArg List.length e
          simp at this
          omega
        simp only [h3, h4, h5, h6, h7, decide_true, cond_true, Bool.and_self, Int.toNat_natCast, extract_B s, if_neg hne, List.map_cons]
        rw [words_loop N s hs k (i + 1) (i + 1) n _ (by omega) (by omega) (by simp; omega) (by omega)]
        simp
      · have h3 : ¬ ((i : Int) > (st : Int)) := by omega
        simp only [h3, decide_false, cond_false, show i - st = 0 by omega, List.take_zero, if_pos]
        rw [words_loop N s hs k (i + 1) (i + 1) n _ (by omega) (by omega) (by omega) (by omega)]
        simp
    · have h8 : (((s.data.toList[i].toNat : Nat) : Int) == 32) = false := by
        rw [beq_eq_false_iff_ne]
        intro e
        exact hc (UInt8.toNat_inj.1 (by rw [show (32 : UInt8).toNat = 32 from rfl]; omega))
      simp only [h8, cond_false, wordsL, if_neg hc]
      rw [words_loop N s hs k st (i + 1) n _ (by omega) (by omega) (by omega) (by omega)]
      congr 4
      rw [show i + 1 - st = (i - st) + 1 by omega, List.take_add_one, List.getElem?_drop, show st + (i - st) = i by omega, List.getElem?_eq_getElem hlt]
      rfl
theorem G_s_l00Words_ok (x0 : ByteArray) {r} (h : G_s_l00Words x0 = some r) : ∃ N, F_s_l00Words N x0 = some r := by
  unfold G_s_l00Words at h
  split at h
  · rename_i hs
    refine ⟨x0.size + 2, ?_⟩
    rw [← h, F_s_l00Words, FB_s_l00Words]
    rw [show (0 : Int) = ((0 : Nat) : Int) from rfl, words_loop _ x0 hs x0.size 0 0 _ [] (by omega) (by omega) (by simp) (by omega)]
    simp
  · cases h

theorem num_loop (N : Nat) (s : ByteArray) (sg : Int) (hsg : sg = 1 ∨ sg = -1) (hs : s.size ≤ 18) : ∀ (k i n acc : Nat), i + k = s.size → acc < 10 ^ i → k < n →
    L_s_l00Number_L9 N n s sg (acc : Int) (i : Int) = some (match Lib.decFrom acc (s.data.toList.drop i) with | some v => (sg * (v : Int), true) | none => (0, false))
  | 0, i, n, acc, hi, ha, hn => by
    obtain ⟨n, rfl⟩ : ∃ m, n = m + 1 := ⟨n - 1, by omega⟩
    have hsz := Lib.size_eq s
    have hp : 10 ^ i ≤ 10 ^ 18 := Nat.pow_le_pow_right (by decide) (by omega)
    have e18 : (10 : Nat) ^ 18 = 1000000000000000000 := by decide
    rw [L_s_l00Number_L9, B_s_l00Number_L9, show s.data.toList.drop i = [] from List.drop_eq_nil_of_le (by omega)]
    have h1 : ¬ ((i : Int) < toInt s.size) := by simp only [toInt]; omega
    simp only [h1, decide_false, cond_false, Lib.decFrom]
    rw [w64_id (by rcases hsg with rfl | rfl <;> omega) (by rcases hsg with rfl | rfl <;> omega)]
  | k + 1, i, n, acc, hi, ha, hn => by
    obtain ⟨n, rfl⟩ : ∃ m, n = m + 1 := ⟨n - 1, by omega⟩
    have hsz := Lib.size_eq s
    have hlt : i < s.data.toList.length := by omega
    have hw : w64 ((i : Int) + 1) = ((i + 1 : Nat) : Int) := by rw [w64_id] <;> omega
    have h1 : ((i : Int) < toInt s.size) := by simp only [toInt]; omega
    have hp : 10 ^ i ≤ 10 ^ 17 := Nat.pow_le_pow_right (by decide) (by omega)
    have e17 : (10 : Nat) ^ 17 = 100000000000000000 := by decide
    rw [L_s_l00Number_L9, B_s_l00Number_L9, List.drop_eq_getElem_cons hlt, bidx_nat, List.getElem?_eq_getElem hlt, hw]
    simp only [h1, decide_true, cond_true, Option.map_some, Option.bind_some, Lib.decFrom, Lib.digitVal]
    generalize s.data.toList[i] = c
    by_cases hc1 : (c.toNat : Int) < 48
    · simp only [hc1, decide_true, cond_true]
      rw [if_neg (by omega)]
    · by_cases hc2 : (c.toNat : Int) > 57
      · simp only [hc1, hc2, decide_true, decide_false, cond_true, cond_false]
        rw [if_neg (by omega)]
      · simp only [hc1, hc2, decide_false, cond_false]
        rw [if_pos (by omega)]
        have e : w64 (w64 (w64 ((acc : Int) * 10) + w64 (c.toNat : Int)) - 48) = ((acc * 10 + (c.toNat - 48) : Nat) : Int) := by
          rw [w64_id (n := (acc : Int) * 10) (by omega) (by omega), w64_id (n := (c.toNat : Int)) (by omega) (by omega), w64_id (n := (acc : Int) * 10 + c.toNat) (by omega) (by omega), w64_id (by omega) (by omega)]
          omega
        rw [e, num_loop N s sg hsg hs k (i + 1) n _ (by omega) (by rw [Nat.pow_succ]; omega) (by omega)]

theorem G_s_l00Number_ok (x0 : ByteArray) {r} (h : G_s_l00Number x0 = some r) : ∃ N, F_s_l00Number N x0 = some r := by
  refine ⟨x0.size + 1, ?_⟩
  rw [← h, F_s_l00Number, FB_s_l00Number, G_s_l00Number]
  have hsz := Lib.size_eq x0
  cases hl : x0.data.toList with
  | nil =>
    rw [hl] at hsz
    have h0 : x0.size = 0 := by simpa using hsz
    simp [toInt, h0, numOf, numOut]
  | cons c r =>
    rw [hl] at hsz
    have hlen : x0.size = r.length + 1 := by simpa using hsz
    have hb : bidx x0 0 = some (c.toNat : Int) := by rw [show (0 : Int) = ((0 : Nat) : Int) from rfl, bidx_nat, hl]; rfl
    have h1 : toInt x0.size > 0 := by simp only [toInt]; omega
    simp only [h1, decide_true, cond_true, hb, Option.bind_some]
    by_cases hc : c = 45
    · subst hc
      have h2 : ((((45 : UInt8).toNat : Nat) : Int) == 45) = true := rfl
      have hel : (x0.extract 1 x0.size).data.toList = r := by rw [Lib.extract_to_end, hl]; rfl
      have hes : (x0.extract 1 x0.size).size = r.length := by rw [Lib.size_eq, hel]
      have h3 : (1 : Int) ≤ toInt x0.size := by simp only [toInt]; omega
      simp only [h2, cond_true, h3, decide_true, Bool.and_self, hes, show ((0 : Int) ≤ 1) = True by simp, numOf, if_pos]
      cases r with
      | nil => simp [toInt, magOf, numOut]
      | cons d r =>
        have hb2 : bidx (x0.extract 1 x0.size) 0 = some (d.toNat : Int) := by rw [show (0 : Int) = ((0 : Nat) : Int) from rfl, bidx_nat, hel]; rfl
        have h4 : (toInt (d :: r).length == 0) = false := by rw [beq_eq_false_iff_ne]; simp [toInt]; omega
        simp only [h4, cond_false, hb2, Option.bind_some, magOf]
        by_cases h18 : 18 < (d :: r).length
        · have h5 : toInt (d :: r).length > 18 := by simp only [toInt]; omega
          simp only [h5, decide_true, cond_true, if_pos h18, Option.map_none, numOut]
        · have h5 : ¬ (toInt (d :: r).length > 18) := by simp only [toInt]; omega
          simp only [h5, decide_false, cond_false, if_neg h18]
          by_cases h48 : d = 48
          · subst h48
            have h6 : ((((48 : UInt8).toNat : Nat) : Int) == 48) = true := rfl
            simp only [h6, cond_true]
            simp [numOut]
          · have h6 : (((d.toNat : Nat) : Int) == 48) = false := by
              rw [beq_eq_false_iff_ne]; intro e; exact h48 (UInt8.toNat_inj.1 (by rw [show (48 : UInt8).toNat = 48 from rfl]; omega))
            simp only [h6, cond_false, h48, false_and, if_false]
            have hlp := num_loop (x0.size + 1) (x0.extract 1 x0.size) (-1) (.inr rfl) (by rw [hes]; omega) (d :: r).length 0 (x0.size + 1) 0 (by rw [hes]; omega) (by decide) (by omega)
            rw [show (0 : Int) = ((0 : Nat) : Int) from rfl, hlp, List.drop_zero, hel]
            cases Lib.decFrom 0 (d :: r) <;> simp [numOut]
    · have h2 : (((c.toNat : Nat) : Int) == 45) = false := by
        rw [beq_eq_false_iff_ne]; intro e; exact hc (UInt8.toNat_inj.1 (by rw [show (45 : UInt8).toNat = 45 from rfl]; omega))
      have h4 : (toInt x0.size == 0) = false := by rw [beq_eq_false_iff_ne]; simp only [toInt]; omega
      simp only [h2, cond_false, h4, numOf, if_neg hc, magOf]
      by_cases h18 : 18 < (c :: r).length
      · have h5 : toInt x0.size > 18 := by simp only [toInt]; simp at h18; omega
        simp only [h5, decide_true, cond_true, if_pos h18, Option.map_none, numOut]
      · have h5 : ¬ (toInt x0.size > 18) := by simp only [toInt]; simp at h18; omega
        have hlp := num_loop (x0.size + 1) x0 1 (.inl rfl) (by simp at h18; omega) x0.size 0 (x0.size + 1) 0 (by omega) (by decide) (by omega)
        rw [List.drop_zero, hl] at hlp
        simp only [h5, decide_false, cond_false, if_neg h18]
        have hlp' : L_s_l00Number_L9 (x0.size + 1) (x0.size + 1) x0 1 0 0 = some (numOut ((Lib.decFrom 0 (c :: r)).map (fun (m : Nat) => (m : Int)))) := by
          rw [show (0 : Int) = ((0 : Nat) : Int) from rfl, hlp]
          cases Lib.decFrom 0 (c :: r) <;> simp [numOut]
        by_cases h48 : c = 48
        · subst h48
          have h6 : ((((48 : UInt8).toNat : Nat) : Int) == 48) = true := rfl
          simp only [h6, cond_true]
          by_cases hr : r = []
          · subst hr
            have h7 : ¬ (toInt x0.size > 1) := by simp only [toInt]; simp at hlen; omega
            simp only [h7, decide_false, cond_false]
            rw [hlp']
            simp
          · have h7 : (toInt x0.size > 1) := by
              have := List.length_pos_iff.2 hr
              simp only [toInt]; omega
            simp only [h7, decide_true, cond_true]
            simp [hr, numOut]
        · have h6 : (((c.toNat : Nat) : Int) == 48) = false := by
            rw [beq_eq_false_iff_ne]; intro e; exact h48 (UInt8.toNat_inj.1 (by rw [show (48 : UInt8).toNat = 48 from rfl]; omega))
          simp only [h6, cond_false, h48, false_and, if_false]
          exact hlp'
end
end Go.M
