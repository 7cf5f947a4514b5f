/- The law FnExactReadAct in plain terms: it answers true at every text. -/
import Derived.Test.YtiphonlbkhfhcaaDoorANum
set_option linter.unusedVariables false
set_option maxRecDepth 100000
namespace Go.M
open Go
noncomputable section
theorem beq_comm' (a b : List UInt8) : (a == b) = (b == a) := by
  by_cases h : a = b
  · subst h; rfl
  · rw [beq_eq_false_iff_ne.2 h, beq_eq_false_iff_ne.2 (Ne.symm h)]
theorem wordsOf_i (s : ByteArray) (hs : s.size ≤ 1048576) : F_i_wordsOf s = some ((wordsL [] s.data.toList).map B) := by
  have h1 : s.size < 4294967281 ∧ 1 ≤ (B [32]).size := ⟨by omega, by decide⟩
  simp only [F_i_wordsOf, G_strings_Split, if_pos h1, Option.bind_some, G_slices_DeleteFunc_Sstring_string_at_i_wordsOf_c1, words_split]
theorem pre_eq (s p : ByteArray) : F_stringslite_HasPrefix s p = some (decide (p.size ≤ s.size) && (s.data.toList.take p.size == p.data.toList)) := by
  unfold F_stringslite_HasPrefix
  by_cases h : p.size ≤ s.size
  · have h1 : toInt s.size ≥ toInt p.size := by simp only [toInt]; omega
    have h2 : (0 : Int) ≤ toInt p.size := by simp only [toInt]; omega
    have h3 : (toInt p.size).toNat = p.size := by simp [toInt]
    have h4 : toInt p.size ≤ toInt s.size := h1
    simp only [h1, h2, h3, decide_true, cond_true, Bool.and_self, h, Bool.true_and, Lib.extract_toList, Lib.toList_data p, List.drop_zero, Nat.sub_zero]
  · have h1 : ¬ (toInt s.size ≥ toInt p.size) := by simp only [toInt]; omega
    simp only [h1, h, decide_false, cond_false, Bool.false_and]
theorem trim_eq (s : ByteArray) : F_strings_TrimPrefix s (B [45]) = some (B (magL s.data.toList)) := by
  have hsz := Lib.size_eq s
  have hp : (B [45]).size = 1 := rfl
  simp only [F_strings_TrimPrefix, F_stringslite_TrimPrefix, pre_eq, Option.bind_some, hp]
  cases hl : s.data.toList with
  | nil =>
    rw [hl] at hsz
    have : ¬ (1 ≤ s.size) := by rw [hsz]; exact Nat.not_succ_le_zero 0
    simp only [this, decide_false, Bool.false_and, cond_false, Option.bind_some, magL, ← hl, B_data]
  | cons c r =>
    rw [hl] at hsz
    have h1 : 1 ≤ s.size := by rw [hsz, List.length_cons]; omega
    have h2 : (List.take 1 (c :: r) == (B [45]).data.toList) = (c == 45) := by
      show (([c] : List UInt8) == [45]) = _
      cases h : (c == 45) <;> simp [h]
    simp only [h1, decide_true, Bool.true_and, h2, magL]
    by_cases hc : c = 45
    · subst hc
      have h3 : (0 : Int) ≤ toInt 1 := by decide
      have h4 : toInt 1 ≤ toInt s.size := by simp only [toInt]; omega
      have h5 : (toInt 1).toNat = 1 := rfl
      simp only [h3, h4, h5, decide_true, Bool.and_self, cond_true, beq_self_eq_true, Option.bind_some, if_pos]
      rw [← B_data (s.extract 1 s.size), Lib.extract_to_end, hl]
      rfl
    · have : (c == 45) = false := beq_eq_false_iff_ne.2 hc
      simp only [this, cond_false, Option.bind_some, if_neg hc]
      rw [← hl, B_data]
theorem readInt_eq (s : ByteArray) (hs : s.size ≤ 1048576) : (∃ n, numOf s.data.toList = some n ∧ F_i_readInt s = some (n, true)) ∨ (numOf s.data.toList = none ∧ ∃ v, F_i_readInt s = some (v, false)) := by
  have hg : s.size ≤ 281474976710656 := by omega
  cases hn : numOf s.data.toList with
  | some n =>
    refine .inl ⟨n, rfl, ?_⟩
    obtain ⟨h1, h2, h3⟩ := numOf_some hn
    have hb := Lib.atoiAll_bounds h2
    have hlen : (B (magL s.data.toList)).size = (magL s.data.toList).length := Lib.size_eq _
    have e1 : ((⟨(Lib.itoa n).toArray⟩ : ByteArray).toList == s.toList) = true := by rw [beq_iff_eq, Lib.toList_data, Lib.toList_data, ← h1]
    have e2 : toInt (B (magL s.data.toList)).size ≤ 18 := by simp only [toInt]; omega
    simp only [F_i_readInt, G_strconv_Atoi, if_pos hg, h2, Option.bind_some, cond_true, G_strconv_Itoa, if_pos hb, e1, trim_eq, e2, decide_true]
  | none =>
    refine .inr ⟨rfl, ?_⟩
    cases ha : Lib.atoiAll s.data.toList with
    | range => exact ⟨Lib.atoiSat s.data.toList, by simp only [F_i_readInt, G_strconv_Atoi, if_pos hg, ha, Option.bind_some, cond_false]⟩
    | ok v =>
      refine ⟨v, ?_⟩
      have hb := Lib.atoiAll_bounds ha
      have hlen : (B (magL s.data.toList)).size = (magL s.data.toList).length := Lib.size_eq _
      simp only [F_i_readInt, G_strconv_Atoi, if_pos hg, ha, Option.bind_some, cond_true, G_strconv_Itoa, if_pos hb, trim_eq]
      cases he : ((⟨(Lib.itoa v).toArray⟩ : ByteArray).toList == s.toList) with
      | false => simp only [cond_false]
      | true =>
        have hi : Lib.itoa v = s.data.toList := by
          have := beq_iff_eq.1 he
          rw [Lib.toList_data, Lib.toList_data] at this
          exact this
        have h18 : ¬ (toInt (B (magL s.data.toList)).size ≤ 18) := by
          intro h
          have := numOf_itoa v (by rw [hi]; simp only [toInt] at h; omega)
          rw [hi, hn] at this
          cases this
        simp only [cond_true, h18, decide_false]
    | _ => exact ⟨0, by simp only [F_i_readInt, G_strconv_Atoi, if_pos hg, ha, Option.bind_some, cond_false]⟩
theorem acts5 (p : ByteArray → Bool) (a b c d e : ByteArray) : ∀ r, firstAt p [a, b, c, d, e] 0 = r → r = -1 ∨ r = 0 ∨ r = 1 ∨ r = 2 ∨ r = 3 ∨ r = 4 := by
  intro r hr
  subst hr
  simp only [firstAt]
  cases p a <;> cases p b <;> cases p c <;> cases p d <;> cases p e <;> decide
theorem acts6 (p : ByteArray → Bool) (a b c d e f : ByteArray) : firstAt p [a, b, c, d, e, f] 0 = bif firstAt p [a, b, c, d, e] 0 == -1 then (bif p f then 5 else -1) else firstAt p [a, b, c, d, e] 0 := by
  simp only [firstAt]
  cases p a <;> cases p b <;> cases p c <;> cases p d <;> cases p e <;> cases p f <;> decide
theorem empty_eq : ((ByteArray.empty).toList == (ByteArray.empty).toList) = true := beq_self_eq_true _
theorem cell_eq (n : Int) : F_i_CellOK n = F_s_l01Cell n := by
  simp only [F_i_CellOK, F_i_WrapCell, F_s_l01Cell, F_s_l01In, Option.bind_some]
  have hw : -2147483648 ≤ w32 n ∧ w32 n ≤ 2147483647 := by
    unfold w32 IntKind.wrap
    simp [IntKind.bits, IntKind.signed]
    omega
  have h64 : w64 (w32 n) = w32 n := w64_id (by omega) (by omega)
  rw [h64]
  by_cases h1 : n ≥ -2147483648
  · by_cases h2 : n ≤ 2147483647
    · have : w32 n = n := by
        unfold w32 IntKind.wrap
        simp [IntKind.bits, IntKind.signed]
        omega
      simp [h1, h2, this]
    · have : (w32 n == n) = false := by rw [beq_eq_false_iff_ne]; omega
      simp [h1, h2, this]
  · have : (w32 n == n) = false := by rw [beq_eq_false_iff_ne]; omega
    simp [h1, this]
theorem act_eq (k n : Int) (hk : k = 1 ∨ k = 2 ∨ k = 3 ∨ k = 4 ∨ k = 5) : ∃ b, F_s_ActOK k n .empty = some b ∧ F_i_ActOK k n .empty = some b := by
  have h0 : ¬ (400 < toInt 0) := by decide

  have hin : ∀ a b : Int, F_i_in n a b = F_s_l01In n a b := fun a b => by
    simp only [F_i_in, F_s_l01In]
  have hsin : ∀ a b : Int, ∃ x, F_s_l01In n a b = some x := fun a b => by
    unfold F_s_l01In
    cases decide (n ≥ a)
    · exact ⟨_, rfl⟩
    · exact ⟨_, rfl⟩
  have hcell : ∃ x, F_s_l01Cell n = some x := by
    unfold F_s_l01Cell
    obtain ⟨x, hx⟩ := hsin (-2147483648) 2147483647
    exact ⟨x, by rw [hx]; rfl⟩
  have ebool : ∀ b : Bool, (bif b then some true else some false) = some b := fun b => by cases b <;> rfl
  rcases hk with rfl | rfl | rfl | rfl | rfl
  · obtain ⟨x, hx⟩ := hsin 0 3
    refine ⟨x, by simp [F_s_ActOK, h0, hx], by simp [F_i_ActOK, F_i_isCap, hin, hx, ebool]⟩
  · obtain ⟨x, hx⟩ := hsin 0 3
    refine ⟨x, by simp [F_s_ActOK, h0, hx], by simp [F_i_ActOK, F_i_isCap, hin, hx, ebool]⟩
  · obtain ⟨x, hx⟩ := hsin 1 4000
    refine ⟨x, by simp [F_s_ActOK, h0, hx], by simp [F_i_ActOK, hin, hx, ebool]⟩
  · obtain ⟨x, hx⟩ := hcell
    refine ⟨x, by simp [F_s_ActOK, h0, hx], by simp [F_i_ActOK, cell_eq, hx, ebool]⟩
  · obtain ⟨x, hx⟩ := hsin 1 1000
    refine ⟨x, by simp [F_s_ActOK, h0, hx], by simp [F_i_ActOK, hin, hx, ebool]⟩
theorem eval_eq (t : ByteArray) : ∃ b, F_s_ActOK 6 0 t = some b ∧ F_i_ActOK 6 0 t = some b := by
  refine ⟨decide (toInt t.size ≤ 400), ?_, ?_⟩
  · by_cases h : toInt t.size > 400
    · have h2 : ¬ (toInt t.size ≤ 400) := by omega
      simp [F_s_ActOK, h, h2]
    · have h2 : (toInt t.size ≤ 400) := by omega
      simp [F_s_ActOK, h, h2]
  · simp [F_i_ActOK]

/-- Both readings give an answer; they agree on whether there is an act, and on the act. -/
def Agree (a b : Option (Int × Int × ByteArray × Bool)) : Prop := ∃ x y, a = some x ∧ b = some y ∧ x.2.2.2 = y.2.2.2 ∧ (x.2.2.2 = true → x = y)
theorem agree_same {x} : Agree (some x) (some x) := ⟨x, x, rfl, rfl, rfl, fun _ => rfl⟩
theorem agree_no {k k' n n' : Int} {t t' : ByteArray} : Agree (some (k, n, t, false)) (some (k', n', t', false)) := ⟨_, _, rfl, rfl, rfl, fun h => by cases h⟩
end
end Go.M
