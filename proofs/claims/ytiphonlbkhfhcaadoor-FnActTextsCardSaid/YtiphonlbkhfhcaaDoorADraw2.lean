/- spec.l00Src: inside, forthLine, cell, act: answers in bounds. -/
import Derived.Test.YtiphonlbkhfhcaaDoorADraw
set_option linter.unusedVariables false
set_option maxRecDepth 100000
namespace Go.M
open Go
noncomputable section
/-- A loop of k rounds: the text grows by at most T a round, the place by at most J. -/
theorem inside_loop {xs : List Int} (hx : Bytes xs) (Fr : (List Int) → Int → Int → Int → Option (ByteArray × (List Int) × Int × Int)) (N : Nat) (p0 : Int) (S I T J : Nat) (h0 : 0 ≤ p0) (h9 : p0 ≤ 9)
    (hFr : p0 = 0 ∨ ∀ c a s : Int, AtP c a s → c + I ≤ 1000000000 → Gives xs (c + I) (Fr xs a s (p0 - 1)) fun v => v.size ≤ S)
    (hS : S ≤ 1000000) (hI : I ≤ 1000000) (hT : 29 ≤ T ∧ 2 * S + 14 ≤ T ∧ T ≤ 10000000) (hJ : 9 ≤ J ∧ 6 + 2 * I ≤ J) :
    ∀ (k n : Nat) (c a s : Int) (p1 : ByteArray), k < n → AtP c a s → c + (k * J : Nat) ≤ 1000000000 → p1.size + k * T ≤ 1000000000 →
      Gives xs (c + (k * J : Nat)) (L_s_l00Src_inside_L3 Fr N n p0 p1 (k : Int) xs a s) fun v => v.size ≤ p1.size + k * T
  | 0, n, c, a, s, p1, hn, hA, hc, hp => by
    obtain ⟨n, rfl⟩ : ∃ m, n = m + 1 := ⟨n - 1, by omega⟩
    obtain ⟨a1, a2, a3, a4, a5⟩ := hA
    rw [L_s_l00Src_inside_L3, B_s_l00Src_inside_L3, cond_not (by omega)]
    exact ⟨_, _, _, rfl, by omega, a1, by omega, a3, a4⟩
  | k + 1, n, c, a, s, p1, hn, hA, hc, hp => by
    obtain ⟨n, rfl⟩ : ∃ m, n = m + 1 := ⟨n - 1, by omega⟩
    have hkJ : (k + 1) * J = k * J + J := Nat.succ_mul _ _
    have hkT : (k + 1) * T = k * T + T := Nat.succ_mul _ _
    rw [hkJ] at hc ⊢
    rw [hkT] at hp ⊢
    have hk1 : 0 ≤ k * J := Nat.zero_le _
    have hk2 : 0 ≤ k * T := Nat.zero_le _
    generalize hKJ : k * J = KJ at hc hk1 ⊢
    generalize hKT : k * T = KT at hp hk2 ⊢
    obtain ⟨T1, T2, T3⟩ := hT
    obtain ⟨J1, J2⟩ := hJ
    have hsmall : k ≤ 1000000000 := by
      rcases Nat.lt_or_ge 1000000000 k with h | h
      · have : 1000000001 * 29 ≤ k * T := Nat.mul_le_mul h T1
        omega
      · exact h
    have hw : w64 (((k + 1 : Nat) : Int) - 1) = (k : Int) := by rw [w64_id (by omega) (by omega)]; omega
    have step : ∀ (q : ByteArray) (a' s' c' : Int), c' + 0 ≤ c + J → q.size ≤ T → 0 ≤ a' → a' ≤ c' → 0 ≤ s' → s' < 2147483648 → Gives xs (c + ((KJ + J : Nat) : Int)) (L_s_l00Src_inside_L3 Fr N n p0 (p1 ++ q) (k : Int) xs a' s') fun v => v.size ≤ p1.size + (KT + T) := by
      intro q a' s' c' h1 h2 h3 h4 h5 h6
      have hq := size_cat p1 q
      obtain ⟨v, a2, s2, e, hv, b1, b2, b3, b4⟩ := inside_loop hx Fr N p0 S I T J h0 h9 hFr hS hI ⟨T1, T2, T3⟩ ⟨J1, J2⟩ k n (c + J) a' s' (p1 ++ q) (by omega) ⟨h3, by omega, h5, h6, by omega⟩ (by rw [hKJ]; omega) (by rw [hKT]; omega)
      rw [hKJ] at b2
      rw [hKT] at hv
      exact ⟨v, a2, s2, e, by omega, b1, by omega, b3, b4⟩
    rw [L_s_l00Src_inside_L3, B_s_l00Src_inside_L3, cond_of (by omega), hw]
    by_cases hz : p0 = 0
    · rw [cond_eq hz]
      obtain ⟨v, a', s', e, hv, b1, b2, b3, b4⟩ := plain_gives hx hA (by omega)
      rw [e]
      simp only [Option.bind_some]
      rw [cond_of (by rw [size_B]; simp; omega), cond_of (by rw [size_cat, size_B]; simp; omega)]
      exact step _ a' s' (c + 3) (by omega) (by rw [size_cat, size_B]; simp; omega) b1 b2 b3 b4
    · rw [cond_ne hz]
      have hFr := hFr.resolve_left hz
      have hp0 : w64 (p0 - 1) = p0 - 1 := w64_id (by omega) (by omega)
      rw [hp0]
      obtain ⟨v, a', s', e, _, b1, b2, b3, b4⟩ := chance_gives hx hA (n := 4) (by omega) (by omega) (by omega)
      rw [e]
      simp only [Option.bind_some]
      cases v
      · simp only [Bool.not_false, cond_true]
        obtain ⟨v, a2, s2, e, hv, c1, c2, c3, c4⟩ := plain_gives hx (c := c + 3) (a := a') (s := s') ⟨b1, b2, b3, b4, by omega⟩ (by omega)
        rw [e]
        simp only [Option.bind_some]
        rw [cond_of (by rw [size_B]; simp; omega), cond_of (by rw [size_cat, size_B]; simp; omega)]
        exact step _ a2 s2 (c + 6) (by omega) (by rw [size_cat, size_B]; simp; omega) c1 (by omega) c3 c4
      · simp only [Bool.not_true, cond_false]
        obtain ⟨v, a2, s2, e, ⟨v1, v2⟩, c1, c2, c3, c4⟩ := next_gives hx (c := c + 3) (a := a') (s := s') (n := 6) ⟨b1, b2, b3, b4, by omega⟩ (by omega) (by omega) (by omega)
        rw [e]
        simp only [Option.bind_some]
        have hA2 : AtP (c + 6) a2 s2 := ⟨c1, by omega, c3, c4, by omega⟩
        have e0 : v = 0 ∨ v = 1 ∨ v = 2 ∨ v = 3 ∨ v = 4 ∨ v = 5 := by omega
        have stop : ∀ (q : ByteArray), q.size ≤ T → (decide (p1.size + q.size ≤ 9223372036854775807)) = true := fun q hq => by rw [decide_eq_true_iff]; omega
        rcases e0 with rfl | rfl | rfl | rfl | rfl | rfl
        · rw [cond_eq rfl]
          obtain ⟨v, a3, s3, e, hv, d1, d2, d3, d4⟩ := hFr (c + 6) a2 s2 hA2 (by omega)
          rw [e]
          simp only [Option.bind_some]
          rw [cond_of (by rw [size_B]; simp; omega), cond_of (by rw [size_cat, size_B, size_B]; simp; omega), cond_of (by rw [size_cat, size_cat, size_B, size_B]; simp; omega)]
          exact step _ a3 s3 (c + 6 + I) (by omega) (by rw [size_cat, size_cat, size_B, size_B]; simp; omega) d1 d2 d3 d4
        · rw [cond_ne (by decide), cond_eq rfl]
          obtain ⟨v, a3, s3, e, hv, d1, d2, d3, d4⟩ := hFr (c + 6) a2 s2 hA2 (by omega)
          rw [e]
          simp only [Option.bind_some]
          rw [cond_of (by rw [size_B]; simp; omega), cond_of (by rw [size_cat, size_B, size_B]; simp; omega)]
          obtain ⟨u, a4, s4, e, hu, f1, f2, f3, f4⟩ := hFr (c + 6 + I) a3 s3 ⟨d1, d2, d3, d4, by omega⟩ (by omega)
          rw [e]
          simp only [Option.bind_some]
          rw [cond_of (by rw [size_cat, size_cat, size_B, size_B]; simp; omega), cond_of (by rw [size_cat, size_cat, size_cat, size_B, size_B, size_B]; simp; omega), cond_of (by rw [size_cat, size_cat, size_cat, size_cat, size_B, size_B, size_B]; simp; omega)]
          exact step _ a4 s4 (c + 6 + I + I) (by omega) (by rw [size_cat, size_cat, size_cat, size_cat, size_B, size_B, size_B]; simp; omega) f1 f2 f3 f4
        · rw [cond_ne (by decide), cond_ne (by decide), cond_eq rfl, cond_of (by rw [size_B]; simp; omega)]
          exact step _ a2 s2 (c + 6) (by omega) (by rw [size_B]; simp; omega) c1 (by omega) c3 c4
        · rw [cond_ne (by decide), cond_ne (by decide), cond_ne (by decide), cond_eq rfl]
          obtain ⟨v, a3, s3, e, hv, d1, d2, d3, d4⟩ := hFr (c + 6) a2 s2 hA2 (by omega)
          rw [e]
          simp only [Option.bind_some]
          rw [cond_of (by rw [size_B]; simp; omega), cond_of (by rw [size_cat, size_B, size_B]; simp; omega), cond_of (by rw [size_cat, size_cat, size_B, size_B]; simp; omega)]
          exact step _ a3 s3 (c + 6 + I) (by omega) (by rw [size_cat, size_cat, size_B, size_B]; simp; omega) d1 d2 d3 d4
        · rw [cond_ne (by decide), cond_ne (by decide), cond_ne (by decide), cond_ne (by decide), cond_eq rfl, cond_of (by rw [size_B]; simp; omega)]
          exact step _ a2 s2 (c + 6) (by omega) (by rw [size_B]; simp; omega) c1 (by omega) c3 c4
        · rw [cond_ne (by decide), cond_ne (by decide), cond_ne (by decide), cond_ne (by decide), cond_ne (by decide), cond_eq rfl]
          obtain ⟨v, a3, s3, e, hv, d1, d2, d3, d4⟩ := pick_gives hx hA2 (by omega) [(B [115, 113]), (B [100, 117, 112]), (B [120]), (B [43])] (by decide) (by decide) 3 (by simp [size_B])
          rw [e]
          simp only [Option.bind_some]
          rw [cond_of (by rw [size_B]; simp; omega), cond_of (by rw [size_cat, size_B, size_B]; simp; omega), cond_of (by rw [size_cat, size_cat, size_B, size_B]; simp; omega)]
          exact step _ a3 s3 (c + 6 + 3) (by omega) (by rw [size_cat, size_cat, size_B, size_B]; simp; omega) d1 d2 d3 d4
/-- One depth: 4 rounds at the most. -/
theorem inside_step {xs : List Int} (hx : Bytes xs) (d : Nat) (p0 : Int) (S I T J : Nat) (h0 : 0 ≤ p0) (h9 : p0 ≤ 9)
    (hFr : p0 = 0 ∨ ∀ c a s : Int, AtP c a s → c + I ≤ 1000000000 → Gives xs (c + I) (F_s_l00Src_inside 10 d xs a s (p0 - 1)) fun v => v.size ≤ S)
    (hS : S ≤ 1000000) (hI : I ≤ 1000000) (hT : 29 ≤ T ∧ 2 * S + 14 ≤ T ∧ T ≤ 10000000) (hJ : 9 ≤ J ∧ 6 + 2 * I ≤ J) (c a s : Int) (hA : AtP c a s) (hc : c + ((3 + 4 * J : Nat) : Int) ≤ 1000000000) :
    Gives xs (c + ((3 + 4 * J : Nat) : Int)) (F_s_l00Src_inside 10 (d + 1) xs a s p0) fun v => v.size ≤ 4 * T := by
  rw [F_s_l00Src_inside, FB_s_l00Src_inside]
  obtain ⟨v, a', s', e, ⟨v1, v2⟩, b1, b2, b3, b4⟩ := next_gives hx hA (n := 4) (by omega) (by omega) (by omega)
  rw [e]
  simp only [Option.bind_some]
  obtain ⟨k, rfl⟩ : ∃ k : Nat, v = (k : Int) := ⟨v.toNat, by omega⟩
  have hw : w64 (1 + (k : Int)) = ((1 + k : Nat) : Int) := by rw [w64_id (by omega) (by omega)]; omega
  have m1 : (1 + k) * J ≤ 4 * J := Nat.mul_le_mul_right _ (by omega)
  have m2 : (1 + k) * T ≤ 4 * T := Nat.mul_le_mul_right _ (by omega)
  have he : (ByteArray.empty).size = 0 := rfl
  rw [hw]
  obtain ⟨u, a2, s2, e, hu, c1, c2, c3, c4⟩ := inside_loop hx (F_s_l00Src_inside 10 d) 10 p0 S I T J h0 h9 hFr hS hI hT hJ (1 + k) 10 (c + 3) a' s' .empty (by omega) ⟨b1, b2, b3, b4, by omega⟩ (by omega) (by rw [he]; omega)
  exact ⟨u, a2, s2, e, by rw [he] at hu; omega, c1, by omega, c3, c4⟩
theorem inside0 {xs : List Int} (hx : Bytes xs) (d : Nat) (c a s : Int) (hA : AtP c a s) (hc : c + 39 ≤ 1000000000) : Gives xs (c + 39) (F_s_l00Src_inside 10 (d + 1) xs a s 0) fun v => v.size ≤ 116 :=
  inside_step hx d 0 0 0 29 9 (by omega) (by omega) (.inl rfl) (by omega) (by omega) ⟨by omega, by omega, by omega⟩ ⟨by omega, by omega⟩ c a s hA hc
theorem inside1 {xs : List Int} (hx : Bytes xs) (d : Nat) (c a s : Int) (hA : AtP c a s) (hc : c + 339 ≤ 1000000000) : Gives xs (c + 339) (F_s_l00Src_inside 10 (d + 2) xs a s 1) fun v => v.size ≤ 984 :=
  inside_step hx (d + 1) 1 116 39 246 84 (by omega) (by omega) (.inr fun c a s h1 h2 => inside0 hx d c a s h1 h2) (by omega) (by omega) ⟨by omega, by omega, by omega⟩ ⟨by omega, by omega⟩ c a s hA hc
theorem inside2 {xs : List Int} (hx : Bytes xs) (d : Nat) (c a s : Int) (hA : AtP c a s) (hc : c + 2739 ≤ 1000000000) : Gives xs (c + 2739) (F_s_l00Src_inside 10 (d + 3) xs a s 2) fun v => v.size ≤ 7928 :=
  inside_step hx (d + 2) 2 984 339 1982 684 (by omega) (by omega) (.inr fun c a s h1 h2 => inside1 hx d c a s h1 h2) (by omega) (by omega) ⟨by omega, by omega, by omega⟩ ⟨by omega, by omega⟩ c a s hA hc
end
end Go.M
