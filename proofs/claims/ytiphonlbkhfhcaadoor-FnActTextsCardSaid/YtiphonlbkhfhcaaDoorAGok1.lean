/- The loops of the seat compute what AG says. -/
import Derived.Test.YtiphonlbkhfhcaaDoorAF
set_option linter.unusedVariables false
set_option maxRecDepth 100000
namespace Go.M
open Go
noncomputable section
theorem w64_id {n : Int} (h0 : -9223372036854775808 ≤ n) (h1 : n ≤ 9223372036854775807) : w64 n = n := by
  unfold w64 IntKind.wrap
  simp [IntKind.bits, IntKind.signed]
  omega
theorem idx_nat {α : Type} (xs : List α) (i : Nat) : idx xs (i : Int) = xs[i]? := by simp [idx]
theorem bidx_nat (s : ByteArray) (i : Nat) : bidx s (i : Int) = (s.data.toList[i]?).map (fun b => (b.toNat : Int)) := by simp [bidx]

theorem place_loop (N : Nat) (xs : List ByteArray) (x : ByteArray) (hl : xs.length ≤ maxLen) : ∀ (k i n : Nat), i + k = xs.length → k < n →
    L_s_l13Place_L2 N n xs x (i : Int) = some (firstAt (fun e => e.toList == x.toList) (xs.drop i) (i : Int))
  | 0, i, n, hi, hn => by
    obtain ⟨n, rfl⟩ : ∃ m, n = m + 1 := ⟨n - 1, by omega⟩
    rw [L_s_l13Place_L2, B_s_l13Place_L2, List.drop_eq_nil_of_le (by omega)]
    have : ¬ ((i : Int) < toInt xs.length) := by simp only [toInt]; omega
    simp [this, firstAt]
  | k + 1, i, n, hi, hn => by
    obtain ⟨n, rfl⟩ : ∃ m, n = m + 1 := ⟨n - 1, by omega⟩
    have hlt : i < xs.length := by omega
    have h1 : ((i : Int) < toInt xs.length) := by simp only [toInt]; omega
    unfold maxLen at hl
    have hw : w64 ((i : Int) + 1) = ((i + 1 : Nat) : Int) := by rw [w64_id] <;> omega
    rw [L_s_l13Place_L2, B_s_l13Place_L2, List.drop_eq_getElem_cons hlt, firstAt, idx_nat, List.getElem?_eq_getElem hlt, hw]
    simp only [h1, decide_true, cond_true, Option.bind_some]
    cases hb : (xs[i].toList == x.toList)
    · simp only [cond_false]
      rw [place_loop N xs x hl k (i + 1) n (by omega) (by omega)]
      rfl
    · simp only [cond_true]
theorem G_s_l13Place_ok (x0 : List ByteArray) (x1 : ByteArray) (h0 : x0.length ≤ maxLen) {r} (h : G_s_l13Place x0 x1 = some r) : ∃ N, F_s_l13Place N x0 x1 = some r := by
  refine ⟨x0.length + 1, ?_⟩
  rw [← h, F_s_l13Place, FB_s_l13Place, G_s_l13Place]
  exact place_loop _ x0 x1 h0 x0.length 0 _ (by omega) (by omega)

theorem indexf_loop (N : Nat) (xs : List ByteArray) (hl : xs.length ≤ maxLen) : ∀ (k i n : Nat), i + k = xs.length → k < n →
    L_slices_IndexFunc_Sstring_string_at_i_wordsOf_c1_L2 N n xs (toInt xs.length) (i : Int) = some (firstAt (fun e => e.toList == (.empty : ByteArray).toList) (xs.drop i) (i : Int))
  | 0, i, n, hi, hn => by
    obtain ⟨n, rfl⟩ : ∃ m, n = m + 1 := ⟨n - 1, by omega⟩
    rw [L_slices_IndexFunc_Sstring_string_at_i_wordsOf_c1_L2, B_slices_IndexFunc_Sstring_string_at_i_wordsOf_c1_L2, List.drop_eq_nil_of_le (by omega)]
    have : ¬ ((i : Int) < toInt xs.length) := by simp only [toInt]; omega
    simp [this, firstAt]
  | k + 1, i, n, hi, hn => by
    obtain ⟨n, rfl⟩ : ∃ m, n = m + 1 := ⟨n - 1, by omega⟩
    have hlt : i < xs.length := by omega
    have h1 : ((i : Int) < toInt xs.length) := by simp only [toInt]; omega
    unfold maxLen at hl
    have hw : w64 ((i : Int) + 1) = ((i + 1 : Nat) : Int) := by rw [w64_id] <;> omega
    rw [L_slices_IndexFunc_Sstring_string_at_i_wordsOf_c1_L2, B_slices_IndexFunc_Sstring_string_at_i_wordsOf_c1_L2, List.drop_eq_getElem_cons hlt, firstAt, idx_nat, List.getElem?_eq_getElem hlt, hw]
    simp only [h1, decide_true, cond_true, Option.bind_some, F_i_wordsOf_c1]
    cases hb : (xs[i].toList == (.empty : ByteArray).toList)
    · simp only [cond_false]
      rw [indexf_loop N xs hl k (i + 1) n (by omega) (by omega)]
      rfl
    · simp only [cond_true]
theorem G_slices_IndexFunc_Sstring_string_at_i_wordsOf_c1_ok (x0 : List ByteArray) (h0 : x0.length ≤ maxLen) {r} (h : G_slices_IndexFunc_Sstring_string_at_i_wordsOf_c1 x0 = some r) : ∃ N, F_slices_IndexFunc_Sstring_string_at_i_wordsOf_c1 N x0 = some r := by
  refine ⟨x0.length + 1, ?_⟩
  rw [← h, F_slices_IndexFunc_Sstring_string_at_i_wordsOf_c1, FB_slices_IndexFunc_Sstring_string_at_i_wordsOf_c1, G_slices_IndexFunc_Sstring_string_at_i_wordsOf_c1]
  exact indexf_loop _ x0 h0 x0.length 0 _ (by omega) (by omega)

theorem index_loop (N : Nat) (xs : List ByteArray) (x : ByteArray) (hl : xs.length ≤ maxLen) : ∀ (k i n : Nat), i + k = xs.length → k < n →
    L_slices_Index_Sstring_string_L2 N n xs x (toInt xs.length) (i : Int) = some (firstAt (fun e => x.toList == e.toList) (xs.drop i) (i : Int))
  | 0, i, n, hi, hn => by
    obtain ⟨n, rfl⟩ : ∃ m, n = m + 1 := ⟨n - 1, by omega⟩
    rw [L_slices_Index_Sstring_string_L2, B_slices_Index_Sstring_string_L2, List.drop_eq_nil_of_le (by omega)]
    have : ¬ ((i : Int) < toInt xs.length) := by simp only [toInt]; omega
    simp [this, firstAt]
  | k + 1, i, n, hi, hn => by
    obtain ⟨n, rfl⟩ : ∃ m, n = m + 1 := ⟨n - 1, by omega⟩
    have hlt : i < xs.length := by omega
    have h1 : ((i : Int) < toInt xs.length) := by simp only [toInt]; omega
    unfold maxLen at hl
    have hw : w64 ((i : Int) + 1) = ((i + 1 : Nat) : Int) := by rw [w64_id] <;> omega
    rw [L_slices_Index_Sstring_string_L2, B_slices_Index_Sstring_string_L2, List.drop_eq_getElem_cons hlt, firstAt, idx_nat, List.getElem?_eq_getElem hlt, hw]
    simp only [h1, decide_true, cond_true, Option.bind_some]
    cases hb : (x.toList == xs[i].toList)
    · simp only [cond_false]
      rw [index_loop N xs x hl k (i + 1) n (by omega) (by omega)]
      rfl
    · simp only [cond_true]
theorem G_slices_Index_Sstring_string_ok (x0 : List ByteArray) (x1 : ByteArray) (h0 : x0.length ≤ maxLen) {r} (h : G_slices_Index_Sstring_string x0 x1 = some r) : ∃ N, F_slices_Index_Sstring_string N x0 x1 = some r := by
  refine ⟨x0.length + 1, ?_⟩
  rw [← h, F_slices_Index_Sstring_string, FB_slices_Index_Sstring_string, G_slices_Index_Sstring_string]
  exact index_loop _ x0 x1 h0 x0.length 0 _ (by omega) (by omega)
end
end Go.M
