/- The law FnActTexts answers true at every two rows of bytes. -/
import Derived.Test.YtiphonlbkhfhcaaDoorATexts2
set_option linter.unusedVariables false
set_option maxRecDepth 100000
namespace Go.M
open Go
noncomputable section
theorem actOK_true {k n : Int} {t : ByteArray} (h : ActV k n t) : F_i_ActOK k n t = some true ∧ F_s_ActOK k n t = some true := by
  rcases h with ⟨rfl, h0, h1, rfl⟩ | ⟨rfl, h0, h1, rfl⟩ | ⟨rfl, h0, h1, rfl⟩ | ⟨rfl, h0, h1, rfl⟩ | ⟨rfl, h0, h1, rfl⟩ | ⟨rfl, rfl, h1⟩
  · obtain ⟨b, e1, e2⟩ := act_eq 1 n (by simp)
    have : F_i_ActOK 1 n .empty = some true := by simp [F_i_ActOK, F_i_isCap, F_i_in, h0, h1]
    rw [this] at e2
    cases e2
    exact ⟨this, e1⟩
  · obtain ⟨b, e1, e2⟩ := act_eq 2 n (by simp)
    have : F_i_ActOK 2 n .empty = some true := by simp [F_i_ActOK, F_i_isCap, F_i_in, h0, h1]
    rw [this] at e2
    cases e2
    exact ⟨this, e1⟩
  · obtain ⟨b, e1, e2⟩ := act_eq 3 n (by simp)
    have : F_i_ActOK 3 n .empty = some true := by simp [F_i_ActOK, F_i_in, h0, h1]
    rw [this] at e2
    cases e2
    exact ⟨this, e1⟩
  · obtain ⟨b, e1, e2⟩ := act_eq 4 n (by simp)
    have : F_i_ActOK 4 n .empty = some true := by simp [F_i_ActOK, cell_eq, F_s_l01Cell, F_s_l01In, h0, h1]
    rw [this] at e2
    cases e2
    exact ⟨this, e1⟩
  · obtain ⟨b, e1, e2⟩ := act_eq 5 n (by simp)
    have : F_i_ActOK 5 n .empty = some true := by simp [F_i_ActOK, F_i_in, h0, h1]
    rw [this] at e2
    cases e2
    exact ⟨this, e1⟩
  · obtain ⟨b, e1, e2⟩ := eval_eq t
    have : F_i_ActOK 6 0 t = some true := by
      have : toInt t.size ≤ 400 := by simp only [toInt]; omega
      simp [F_i_ActOK, this]
    rw [this] at e2
    cases e2
    exact ⟨this, e1⟩
/-- All that is asked of an act's text. -/
def TextOK (k n : Int) (t : ByteArray) : Prop := ∃ l : List UInt8, F_s_l13Act k n t = some (B l) ∧ F_i_ActText k n t = some (B l, 0) ∧ l.length ≤ 1000 ∧ F_i_ReadAct (B l) = some (k, n, t, 0)
theorem spaced_one (n : Int) (h0 : -1000000000000 ≤ n) (h1 : n ≤ 1000000000000) : G_i_spaced [n] = some (B (32 :: Lib.itoa n)) := by
  have hlen : (Lib.itoa n).length ≤ 21 := Lib.itoa_length_le n (by omega) (by omega)
  have hg : G_strconv_Itoa n = some (B (Lib.itoa n)) := if_pos ⟨by omega, by omega⟩
  have hw : w64 (0 + 1) = 1 := by decide
  have he : (ByteArray.empty) = B [] := rfl
  rw [G_i_spaced, F_i_spaced, FB_i_spaced, show ([n] : List Int).length + 1 = 1 + 1 from rfl, L_i_spaced_L3, B_i_spaced_L3, cond_of (by simp [toInt]), show idx [n] 0 = some n from rfl]
  simp only [Option.bind_some, hg, hw]
  rw [cond_of (by rw [size_B, size_B]; simp; omega), cond_of (by rw [size_cat, size_B, size_B, he, size_B]; simp; omega), L_i_spaced_L3, B_i_spaced_L3, cond_not (by simp [toInt]), he, B_app, B_app]
  rfl
theorem readAct_back {k n : Int} {t : ByteArray} {l : List UInt8} (hl : l.length ≤ 1000) (h : F_i_readAct (B l) = (F_i_ActOK k n t).bind fun r => some (k, n, t, r)) (hv : ActV k n t) : F_i_ReadAct (B l) = some (k, n, t, 0) := by
  unfold F_i_ReadAct
  rw [cond_not (by simp only [toInt, size_B]; omega), h, (actOK_true hv).1]
  rfl
theorem text_cap (k n : Int) (a b : List UInt8) (hk : k = 1 ∨ k = 2) (hv : ActV k n .empty) (hi : idx ([(B [103, 114, 97, 110, 116]), (B [114, 101, 118, 111, 107, 101]), (B [114, 101, 102, 117, 101, 108]), (B [97, 110, 115, 119, 101, 114]), (B [116, 105, 99, 107]), (B [101, 118, 97, 108])] : List ByteArray) (w64 (k - 1)) = some (B a))
    (hi2 : idx ([(B [103, 114, 97, 110, 116]), (B [114, 101, 118, 111, 107, 101]), (B [114, 101, 102, 117, 101, 108]), (B [97, 110, 115, 119, 101, 114]), (B [116, 105, 99, 107])] : List ByteArray) (w64 (k - 1)) = some (B a))
    (hc : idx ([(B [114, 101, 97, 100]), (B [119, 114, 105, 116, 101]), (B [97, 115, 107]), (B [116, 105, 109, 101])] : List ByteArray) n = some (B b))
    (hf : firstL a actsL 0 = k - 1) (hn : firstL b capsL 0 = n) (h0 : 0 ≤ n) (h3 : n ≤ 3) (ha : (32 : UInt8) ∉ a) (hb : (32 : UInt8) ∉ b) (ha0 : a ≠ []) (hb0 : b ≠ []) (hl : a.length + b.length ≤ 100)
    (hev : ((a ++ 32 :: b).take 5 == [101, 118, 97, 108, 32]) = false) : TextOK k n .empty := by
  have hlen : (a ++ 32 :: b).length ≤ 1000 := by simp; omega
  refine ⟨a ++ 32 :: b, ?_, ?_, hlen, readAct_back hlen ?_ hv⟩
  · have hk6 : k ≠ 6 := by omega
    simp only [F_s_l13Act, F_s_l13Acts, F_s_l13Caps, Option.bind_some, hi, hc]
    rw [cond_of (by rw [size_B, size_B]; simp; omega), cond_of (by rw [size_cat, size_B, size_B, size_B]; simp; omega), B_app, B_app]
    have e : a ++ [32] ++ b = a ++ 32 :: b := by simp
    rw [e]
    rcases hk with rfl | rfl
    · rw [cond_eq rfl]
    · rw [cond_ne (by decide), cond_eq rfl]
  · have hk6 : k ≠ 6 := by omega
    simp only [F_i_ActText, (actOK_true hv).1, Option.bind_some, Bool.not_true, cond_false, F_i_actWords, F_i_capWords, hi2, hc]
    rw [cond_ne hk6, cond_of (by omega), cond_of (by rw [size_B, size_B]; simp; omega), cond_of (by rw [size_cat, size_B, size_B, size_B]; simp; omega), B_app, B_app]
    have e : a ++ [32] ++ b = a ++ 32 :: b := by simp
    rw [e]
  · rw [readAct_two a b ha hb ha0 hb0 (by omega) hev, wordI_cap k n a b hk hf hn h0 h3]
theorem text_num (k n : Int) (a : List UInt8) (hk : k = 3 ∨ k = 4 ∨ k = 5) (hv : ActV k n .empty) (hi : idx ([(B [103, 114, 97, 110, 116]), (B [114, 101, 118, 111, 107, 101]), (B [114, 101, 102, 117, 101, 108]), (B [97, 110, 115, 119, 101, 114]), (B [116, 105, 99, 107]), (B [101, 118, 97, 108])] : List ByteArray) (w64 (k - 1)) = some (B a))
    (hi2 : idx ([(B [103, 114, 97, 110, 116]), (B [114, 101, 118, 111, 107, 101]), (B [114, 101, 102, 117, 101, 108]), (B [97, 110, 115, 119, 101, 114]), (B [116, 105, 99, 107])] : List ByteArray) (w64 (k - 1)) = some (B a))
    (hf : firstL a actsL 0 = k - 1) (h0 : -1000000000000 ≤ n) (h1 : n ≤ 1000000000000) (ha : (32 : UInt8) ∉ a) (ha0 : a ≠ []) (hl : a.length ≤ 100)
    (hev : ((a ++ 32 :: Lib.itoa n).take 5 == [101, 118, 97, 108, 32]) = false) : TextOK k n .empty := by
  have hlen2 : (Lib.itoa n).length ≤ 21 := Lib.itoa_length_le n (by omega) (by omega)
  have hlen : (a ++ 32 :: Lib.itoa n).length ≤ 1000 := by simp; omega
  refine ⟨a ++ 32 :: Lib.itoa n, ?_, ?_, hlen, readAct_back hlen ?_ hv⟩
  · simp only [F_s_l13Act, F_s_l13Acts, F_s_l13Caps, Option.bind_some, hi, digits_eq n (by omega) (by omega)]
    rw [cond_ne (by omega), cond_ne (by omega), cond_ne (by omega), cond_of (by rw [size_B, size_B]; simp; omega), cond_of (by rw [size_cat, size_B, size_B, size_B]; simp; omega), B_app, B_app]
    simp
  · simp only [F_i_ActText, (actOK_true hv).1, Option.bind_some, Bool.not_true, cond_false, F_i_actWords, F_i_capWords, hi2, spaced_one n h0 h1]
    rw [cond_ne (by omega), cond_not (by omega), cond_of (by rw [size_B, size_B]; simp; omega), B_app]
  · rw [readAct_two a _ ha (itoa_no32 n) ha0 (itoa_ne n) (by omega) hev, wordI_num k n a hk hf h0 h1]
theorem text_ok {k n : Int} {t : ByteArray} (h : ActV k n t) : TextOK k n t := by
  have hv := h
  rcases h with ⟨rfl, h0, h1, rfl⟩ | ⟨rfl, h0, h1, rfl⟩ | ⟨rfl, h0, h1, rfl⟩ | ⟨rfl, h0, h1, rfl⟩ | ⟨rfl, h0, h1, rfl⟩ | ⟨rfl, rfl, h1⟩
  · have : n = 0 ∨ n = 1 ∨ n = 2 ∨ n = 3 := by omega
    rcases this with rfl | rfl | rfl | rfl
    · exact text_cap 1 0 [103, 114, 97, 110, 116] [114, 101, 97, 100] (by simp) hv rfl rfl rfl (by decide) (by decide) h0 h1 (by decide) (by decide) (by decide) (by decide) (by decide) (by decide)
    · exact text_cap 1 1 [103, 114, 97, 110, 116] [119, 114, 105, 116, 101] (by simp) hv rfl rfl rfl (by decide) (by decide) h0 h1 (by decide) (by decide) (by decide) (by decide) (by decide) (by decide)
    · exact text_cap 1 2 [103, 114, 97, 110, 116] [97, 115, 107] (by simp) hv rfl rfl rfl (by decide) (by decide) h0 h1 (by decide) (by decide) (by decide) (by decide) (by decide) (by decide)
    · exact text_cap 1 3 [103, 114, 97, 110, 116] [116, 105, 109, 101] (by simp) hv rfl rfl rfl (by decide) (by decide) h0 h1 (by decide) (by decide) (by decide) (by decide) (by decide) (by decide)
  · have : n = 0 ∨ n = 1 ∨ n = 2 ∨ n = 3 := by omega
    rcases this with rfl | rfl | rfl | rfl
    · exact text_cap 2 0 [114, 101, 118, 111, 107, 101] [114, 101, 97, 100] (by simp) hv rfl rfl rfl (by decide) (by decide) h0 h1 (by decide) (by decide) (by decide) (by decide) (by decide) (by decide)
    · exact text_cap 2 1 [114, 101, 118, 111, 107, 101] [119, 114, 105, 116, 101] (by simp) hv rfl rfl rfl (by decide) (by decide) h0 h1 (by decide) (by decide) (by decide) (by decide) (by decide) (by decide)
    · exact text_cap 2 2 [114, 101, 118, 111, 107, 101] [97, 115, 107] (by simp) hv rfl rfl rfl (by decide) (by decide) h0 h1 (by decide) (by decide) (by decide) (by decide) (by decide) (by decide)
    · exact text_cap 2 3 [114, 101, 118, 111, 107, 101] [116, 105, 109, 101] (by simp) hv rfl rfl rfl (by decide) (by decide) h0 h1 (by decide) (by decide) (by decide) (by decide) (by decide) (by decide)
  · exact text_num 3 n [114, 101, 102, 117, 101, 108] (by simp) hv rfl rfl (by decide) (by omega) (by omega) (by decide) (by decide) (by decide) rfl
  · exact text_num 4 n [97, 110, 115, 119, 101, 114] (by simp) hv rfl rfl (by decide) (by omega) (by omega) (by decide) (by decide) (by decide) rfl
  · exact text_num 5 n [116, 105, 99, 107] (by simp) hv rfl rfl (by decide) (by omega) (by omega) (by decide) (by decide) (by decide) rfl
  · obtain ⟨l, rfl⟩ : ∃ l, t = B l := ⟨t.data.toList, (B_data t).symm⟩
    rw [size_B] at h1
    have hi : idx ([(B [103, 114, 97, 110, 116]), (B [114, 101, 118, 111, 107, 101]), (B [114, 101, 102, 117, 101, 108]), (B [97, 110, 115, 119, 101, 114]), (B [116, 105, 99, 107]), (B [101, 118, 97, 108])] : List ByteArray) (w64 (6 - 1)) = some (B [101, 118, 97, 108]) := rfl
    have hlen : ([101, 118, 97, 108, 32] ++ l).length ≤ 1000 := by simp; omega
    refine ⟨[101, 118, 97, 108, 32] ++ l, ?_, ?_, hlen, readAct_back hlen ?_ hv⟩
    · simp only [F_s_l13Act, F_s_l13Acts, F_s_l13Caps, Option.bind_some, hi]
      rw [cond_ne (by decide), cond_ne (by decide), cond_eq rfl, cond_of (by rw [size_B, size_B]; simp), cond_of (by rw [size_cat, size_B, size_B, size_B]; simp; omega), B_app, B_app]
      rfl
    · simp only [F_i_ActText, (actOK_true hv).1, Option.bind_some, Bool.not_true, cond_false]
      rw [cond_eq rfl, cond_of (by rw [size_B, size_B]; simp; omega), B_app]
    · have hsz := size_B ([101, 118, 97, 108, 32] ++ l)
      have hl5 : ([101, 118, 97, 108, 32] ++ l).length = 5 + l.length := by simp; omega
      have e1 : (([101, 118, 97, 108, 32] ++ l).take 5 == [101, 118, 97, 108, 32]) = true := by
        show (([101, 118, 97, 108, 32] : List UInt8) == [101, 118, 97, 108, 32]) = true
        decide
      have e2 : (B ([101, 118, 97, 108, 32] ++ l)).extract 5 (B ([101, 118, 97, 108, 32] ++ l)).size = B l := by
        rw [← B_data ((B ([101, 118, 97, 108, 32] ++ l)).extract 5 (B ([101, 118, 97, 108, 32] ++ l)).size), Lib.extract_to_end, data_B]
        rfl
      rw [readAct_eq _ (by omega), data_B, e1, e2, decide_eq_true (show 5 ≤ (B ([101, 118, 97, 108, 32] ++ l)).size by omega)]
      rfl
theorem readBoth (s : ByteArray) : ∃ r, F_s_ReadAct s = some r ∧ F_i_ReadAct s = some r := by
  unfold F_s_ReadAct F_i_ReadAct
  by_cases h6 : toInt s.size > 65536
  · simp only [h6, decide_true, cond_true]
    exact ⟨_, rfl, rfl⟩
  · simp only [h6, decide_false, cond_false]
    obtain ⟨x, y, h1, h2, h3, h4⟩ := read_agree s (by simp only [toInt] at h6; omega)
    rw [h1, h2]
    simp only [Option.bind_some, ← h3]
    cases hb : x.2.2.2
    · exact ⟨_, rfl, rfl⟩
    · rw [h4 hb]
      exact ⟨_, rfl, rfl⟩
theorem source_at (xs : List Int) (hx : Bytes xs) : AtP 0 0 ((toInt xs.length).tmod 1000) := by
  obtain ⟨t1, t2⟩ := tmod_lt (a := toInt xs.length) (b := 1000) (by simp only [toInt]; omega) (by omega)
  exact ⟨by omega, by omega, t1, by omega, by omega⟩
theorem line_some (xs : List Int) (hx : Bytes xs) : ∃ s, F_s_ActLine xs = some s := by
  obtain ⟨k, n, t, a, s, e, hv, hA⟩ := act_gives hx (source_at xs hx) (by omega)
  obtain ⟨l, e1, _, hl, _⟩ := text_ok hv
  obtain ⟨v, a', s', e2, hv2, b1, b2, b3, b4⟩ := next_gives hx hA (n := 10) (by omega) (by omega) (by omega)
  simp only [F_s_ActLine, F_s_l00Source, Option.bind_some, F_s_l00Src_actLine, e, e1, e2]
  by_cases h0 : v = 0
  · rw [cond_eq h0, cond_of (by rw [size_B, size_B]; simp; omega), cond_of (by rw [size_cat, size_B, size_B, size_B]; simp; omega)]
    exact ⟨_, rfl⟩
  rw [cond_ne h0]
  by_cases h1 : v = 1
  · rw [cond_eq h1, cond_of (by rw [size_B, size_B]; simp; omega)]
    exact ⟨_, rfl⟩
  rw [cond_ne h1]
  by_cases h2 : v = 2
  · rw [cond_eq h2]
    obtain ⟨u, a2, s2, e, hu, _⟩ := pick_gives hx (c := 0 + 5000 + 3) (a := a') (s := s') ⟨b1, b2, b3, b4, by omega⟩ (by omega) [(.empty : ByteArray), (B [101, 118, 97, 108]), (B [101, 118, 97, 108, 32]), (B [103, 114, 97, 110, 116]), (B [103, 114, 97, 110, 116, 32, 97, 108, 108]), (B [114, 101, 102, 117, 101, 108, 32, 48]), (B [114, 101, 102, 117, 101, 108, 32, 52, 48, 48, 49]), (B [116, 105, 99, 107, 32, 48, 49]), (B [97, 110, 115, 119, 101, 114, 32, 50, 49, 52, 55, 52, 56, 51, 54, 52, 56]), (B [103, 111, 32, 49]), (B [114, 101, 118, 111, 107, 101, 32, 114, 101, 97, 100, 32, 110, 111, 119])] (by decide) (by decide) 100 (by simp [size_B])
    rw [e]
    exact ⟨_, rfl⟩
  rw [cond_ne h2]
  exact ⟨_, rfl⟩
theorem law_FnActTexts (xs ys : List Int) (hx : ∀ e ∈ xs, 0 ≤ e ∧ e ≤ 255) (hy : ∀ e ∈ ys, 0 ≤ e ∧ e ≤ 255) : F_l_FnActTexts xs ys = some true := by
  unfold F_l_FnActTexts
  by_cases h1 : toInt xs.length > 1048576
  · rw [cond_of h1]
  rw [cond_not h1]
  by_cases h2 : toInt ys.length > 1048576
  · rw [cond_of h2]
  rw [cond_not h2]
  simp only [toInt] at h1 h2
  have bx : Bytes xs := ⟨hx, by omega⟩
  have by' : Bytes ys := ⟨hy, by omega⟩
  obtain ⟨s, e⟩ := line_some xs bx
  obtain ⟨r, e1, e2⟩ := readBoth s
  obtain ⟨k, n, t, a, s', e3, hv, hA⟩ := act_gives by' (source_at ys by') (by omega)
  have e4 : F_s_ActDrawn ys = some (k, n, t) := by simp only [F_s_ActDrawn, F_s_l00Source, Option.bind_some, e3]
  obtain ⟨l, f1, f2, hl, f3⟩ := text_ok hv
  obtain ⟨g1, g2⟩ := actOK_true hv
  have f4 : F_s_ActText k n t = some (B l, 0) := by simp only [F_s_ActText, g2, Option.bind_some, Bool.not_true, cond_false, f1]
  have f5 := evaluate_none (B l) (by rw [size_B]; omega)
  have q1 : ∀ z : Int, (z == z) = true := fun z => beq_self_eq_true z
  have q2 : ∀ z : ByteArray, (z == z) = true := fun z => by obtain ⟨d⟩ := z; exact beq_self_eq_true d
  simp only [e, e1, e2, e4, f2, f4, f3, Option.bind_some]
  rw [cond_of (by rw [size_B, size_B]; simp; omega), f5]
  simp only [Option.bind_some, g1, q1, q2, Bool.and_self, Bool.and_true, cond_true, beq_self_eq_true]
end
end Go.M
