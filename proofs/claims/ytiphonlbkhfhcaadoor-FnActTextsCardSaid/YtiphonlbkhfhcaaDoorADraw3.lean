/- spec.l00Src: forthLine, cell, act: answers in bounds; the law's act is a good one. -/
import Derived.Test.YtiphonlbkhfhcaaDoorADraw2
set_option linter.unusedVariables false
set_option maxRecDepth 100000
namespace Go.M
open Go
noncomputable section
theorem gives_map {α : Type} {xs : List Int} {c c' : Int} {f : Option (α × List Int × Int × Int)} {Q Q' : α → Prop} (h : Gives xs c f Q) (hc : c ≤ c') (hq : ∀ v, Q v → Q' v) : Gives xs c' f Q' := by
  obtain ⟨v, a, s, e, q, b1, b2, b3, b4⟩ := h
  exact ⟨v, a, s, e, hq v q, b1, by omega, b3, b4⟩
theorem def_part {xs : List Int} (hx : Bytes xs) {c a s : Int} (hA : AtP c a s) (hc : c + 4000 ≤ 1000000000) :
    Gives xs (c + 3000) ((F_s_l00Src_pick xs a s ([(B [115, 113]), (B [120]), (B [105, 110, 99]), (B [100, 117, 112])] : List ByteArray)).bind fun r2 =>
    bif (decide ((B [58, 32]).size + r2.1.size ≤ 9223372036854775807)) then
      bif (decide (((B [58, 32]) ++ r2.1).size + (B [32]).size ≤ 9223372036854775807)) then
        (G_s_l00Src_inside r2.2.1 r2.2.2.1 r2.2.2.2 (2 : Int)).bind fun r3 =>
        bif (decide ((w64 ((toInt (((B [58, 32]) ++ r2.1) ++ (B [32])).size) + (toInt r3.1.size))) ≥ (400 : Int))) then
          (G_s_l00Src_inside r3.2.1 r3.2.2.1 r3.2.2.2 (0 : Int)).bind fun r4 =>
          bif (decide ((((B [58, 32]) ++ r2.1) ++ (B [32])).size + r4.1.size ≤ 9223372036854775807)) then
            bif (decide (((((B [58, 32]) ++ r2.1) ++ (B [32])) ++ r4.1).size + (B [59]).size ≤ 9223372036854775807)) then
              some ((((((B [58, 32]) ++ r2.1) ++ (B [32])) ++ r4.1) ++ (B [59])), r4.2.1, r4.2.2.1, r4.2.2.2)
            else
              none
          else
            none
        else
        bif (decide ((((B [58, 32]) ++ r2.1) ++ (B [32])).size + r3.1.size ≤ 9223372036854775807)) then
          bif (decide (((((B [58, 32]) ++ r2.1) ++ (B [32])) ++ r3.1).size + (B [59]).size ≤ 9223372036854775807)) then
            some ((((((B [58, 32]) ++ r2.1) ++ (B [32])) ++ r3.1) ++ (B [59])), r3.2.1, r3.2.2.1, r3.2.2.2)
          else
            none
        else
          none
      else
        none
    else
      none) fun v => v.size ≤ 400 := by
  obtain ⟨v, a', s', e, hv, b1, b2, b3, b4⟩ := pick_gives hx hA (by omega) [(B [115, 113]), (B [120]), (B [105, 110, 99]), (B [100, 117, 112])] (by decide) (by decide) 3 (by simp [size_B])
  have hpre : (((B [58, 32]) ++ v) ++ (B [32])).size = v.size + 3 := by rw [size_cat, size_cat, size_B, size_B]; simp; omega
  rw [e]
  simp only [Option.bind_some]
  rw [cond_of (by rw [size_B]; simp; omega), cond_of (by rw [size_cat, size_B, size_B]; simp; omega)]
  obtain ⟨u, a2, s2, e, hu, c1, c2, c3, c4⟩ := inside2 hx 2 (c + 3) a' s' ⟨b1, b2, b3, b4, by omega⟩ (by omega)
  have e' : G_s_l00Src_inside xs a' s' 2 = some (u, xs, a2, s2) := e
  rw [e']
  simp only [Option.bind_some, hpre]
  rw [w64_id (by simp only [toInt]; omega) (by simp only [toInt]; omega)]
  by_cases h4 : toInt (v.size + 3) + toInt u.size ≥ 400
  · rw [cond_of h4]
    obtain ⟨w, a3, s3, e, hw, d1, d2, d3, d4⟩ := inside0 hx 4 (c + 3 + 2739) a2 s2 ⟨c1, c2, c3, c4, by omega⟩ (by omega)
    have e' : G_s_l00Src_inside xs a2 s2 0 = some (w, xs, a3, s3) := e
    rw [e']
    simp only [Option.bind_some]
    rw [cond_of (by omega), cond_of (by rw [size_cat, hpre, size_B]; simp; omega)]
    exact ⟨_, _, _, rfl, by show (ByteArray.size _) ≤ 400; rw [size_cat, size_cat, hpre, size_B]; simp; omega, d1, by omega, d3, d4⟩
  · rw [cond_not h4]
    simp only [toInt] at h4
    rw [cond_of (by omega), cond_of (by rw [size_cat, hpre, size_B]; simp; omega)]
    exact ⟨_, _, _, rfl, by show (ByteArray.size _) ≤ 400; rw [size_cat, size_cat, hpre, size_B]; simp; omega, c1, by omega, c3, c4⟩
theorem forth_gives {xs : List Int} (hx : Bytes xs) {c a s : Int} (hA : AtP c a s) (hc : c + 5000 ≤ 1000000000) : Gives xs (c + 4000) (F_s_l00Src_forthLine xs a s) fun v => v.size ≤ 400 := by
  unfold F_s_l00Src_forthLine
  obtain ⟨v, a', s', e, ⟨v1, v2⟩, b1, b2, b3, b4⟩ := next_gives hx hA (n := 9) (by omega) (by omega) (by omega)
  have hA2 : AtP (c + 3) a' s' := ⟨b1, b2, b3, b4, by omega⟩
  rw [e]
  simp only [Option.bind_some]
  by_cases h0 : v = 0
  · rw [cond_eq h0]
    exact gives_map (def_part hx hA2 (by omega)) (by omega) fun _ h => h
  rw [cond_ne h0]
  by_cases h1 : v = 1
  · rw [cond_eq h1]
    exact gives_map (def_part hx hA2 (by omega)) (by omega) fun _ h => h
  rw [cond_ne h1]
  by_cases h2 : v = 2
  · rw [cond_eq h2]
    obtain ⟨v, a2, s2, e, hv, c1, c2, c3, c4⟩ := pick_gives hx hA2 (by omega) [(B [118]), (B [119]), (B [120])] (by decide) (by decide) 1 (by simp [size_B])
    rw [e]
    simp only [Option.bind_some]
    rw [cond_of (by rw [size_B]; simp; omega), cond_of (by rw [size_cat, size_B, size_B]; simp; omega)]
    exact ⟨_, _, _, rfl, by show (ByteArray.size _) ≤ 400; rw [size_cat, size_cat, size_B, size_B]; simp; omega, c1, by omega, c3, c4⟩
  rw [cond_ne h2]
  by_cases h3 : v = 3
  · rw [cond_eq h3]
    obtain ⟨v, a2, s2, e, hv, c1, c2, c3, c4⟩ := pick_gives hx hA2 (by omega) [(B [55, 32, 99, 111, 110, 115, 116, 97, 110, 116, 32, 99]), (B [39, 32, 115, 113, 32, 99, 97, 116, 99, 104, 32, 46]), (B [39, 32, 120, 32, 101, 120, 101, 99, 117, 116, 101]), (B [49, 32, 50, 32, 43, 32, 46]), (B [58, 32, 114, 101, 99, 32, 100, 117, 112, 32, 105, 102, 32, 49, 45, 32, 114, 101, 99, 117, 114, 115, 101, 32, 116, 104, 101, 110, 32, 59]), (B [53, 32, 114, 101, 99, 32, 46]), (B [58, 32, 111, 112, 101, 110, 32, 49, 32, 50]), (B [51, 32, 59]), (B [40, 32, 114, 101, 109, 97, 114, 107, 32, 41, 32, 49, 32, 92, 32, 50, 32, 51]), (B [40, 32, 111, 112, 101, 110]), (B [122, 97, 112]), (B [58, 32, 105, 102, 32, 49, 32, 59]), (B [39, 32, 105, 102]), (B [58, 32, 97, 32, 58, 32, 98, 32, 59]), (B [108, 111, 111, 112]), (B [118, 97, 114, 105, 97, 98, 108, 101]), (B [104, 101, 120, 32, 102, 102, 32, 46, 32, 100, 101, 99, 105, 109, 97, 108])] (by decide) (by decide) 40 (by simp [size_B])
    rw [e]
    simp only [Option.bind_some]
    exact ⟨_, _, _, rfl, by show v.size ≤ 400; omega, c1, by omega, c3, c4⟩
  rw [cond_ne h3]
  obtain ⟨w, a3, s3, e, hw, d1, d2, d3, d4⟩ := inside0 hx 4 (c + 3) a' s' hA2 (by omega)
  have e' : G_s_l00Src_inside xs a' s' 0 = some (w, xs, a3, s3) := e
  rw [e']
  simp only [Option.bind_some]
  exact ⟨_, _, _, rfl, by show w.size ≤ 400; omega, d1, by omega, d3, d4⟩
theorem w32_bounds (n : Int) : -2147483648 ≤ w32 n ∧ w32 n ≤ 2147483647 := by
  unfold w32 IntKind.wrap
  simp [IntKind.bits, IntKind.signed]
  omega
theorem cell_gives {xs : List Int} (hx : Bytes xs) {c a s : Int} (hA : AtP c a s) (hc : c + 100 ≤ 1000000000) : Gives xs (c + 10) (F_s_l00Src_cell xs a s) fun v => -2147483648 ≤ v ∧ v ≤ 2147483647 := by
  unfold F_s_l00Src_cell
  obtain ⟨v, a', s', e, ⟨v1, v2⟩, b1, b2, b3, b4⟩ := next_gives hx hA (n := 8) (by omega) (by omega) (by omega)
  have hA2 : AtP (c + 3) a' s' := ⟨b1, b2, b3, b4, by omega⟩
  rw [e]
  simp only [Option.bind_some]
  by_cases h0 : v = 0
  · rw [cond_eq h0]
    obtain ⟨u, a2, s2, e, ⟨u1, u2⟩, c1, c2, c3, c4⟩ := next_gives hx hA2 (n := 3) (by omega) (by omega) (by omega)
    rw [e]
    simp only [Option.bind_some]
    rw [w64_id (by omega) (by omega)]
    exact ⟨_, _, _, rfl, by omega, c1, by omega, c3, c4⟩
  rw [cond_ne h0]
  by_cases h1 : v = 1
  · rw [cond_eq h1]
    obtain ⟨u, a2, s2, e, ⟨u1, u2⟩, c1, c2, c3, c4⟩ := next_gives hx hA2 (n := 3) (by omega) (by omega) (by omega)
    rw [e]
    simp only [Option.bind_some]
    rw [w64_id (by omega) (by omega)]
    exact ⟨_, _, _, rfl, by omega, c1, by omega, c3, c4⟩
  rw [cond_ne h1]
  by_cases h2 : v = 2
  · rw [cond_eq h2]
    obtain ⟨v, a1, s1, e1, hv, c1, c2, c3, c4⟩ := byte_gives hx hA2
    obtain ⟨v2, a2, s2, e2, hv2, d1, d2, d3, d4⟩ := byte_gives hx (c := c + 3 + 1) (a := a1) (s := s1) ⟨c1, c2, c3, c4, by omega⟩
    obtain ⟨v3, a3, s3, e3, hv3, f1, f2, f3, f4⟩ := byte_gives hx (c := c + 3 + 1 + 1) (a := a2) (s := s2) ⟨d1, d2, d3, d4, by omega⟩
    obtain ⟨v4, a4, s4, e4, hv4, g1, g2, g3, g4⟩ := byte_gives hx (c := c + 3 + 1 + 1 + 1) (a := a3) (s := s3) ⟨f1, f2, f3, f4, by omega⟩
    simp only [e1, e2, e3, e4, Option.bind_some, F_s_l01Wrap]
    have hb := w32_bounds (wu32 (wu64 (w64 (w64 (w64 (w64 (v * 16777216) + w64 (v2 * 65536)) + w64 (v3 * 256)) + v4))))
    rw [w64_id (n := w32 _) (by omega) (by omega)]
    exact ⟨_, _, _, rfl, hb, g1, by omega, g3, g4⟩
  rw [cond_ne h2]
  by_cases h3 : v = 3
  · rw [cond_eq h3]
    obtain ⟨u, a2, s2, e, ⟨u1, u2⟩, c1, c2, c3, c4⟩ := next_gives hx hA2 (n := 40) (by omega) (by omega) (by omega)
    rw [e]
    simp only [Option.bind_some]
    rw [w64_id (by omega) (by omega)]
    exact ⟨_, _, _, rfl, by omega, c1, by omega, c3, c4⟩
  rw [cond_ne h3]
  obtain ⟨u, a2, s2, e, ⟨u1, u2⟩, c1, c2, c3, c4⟩ := next_gives hx hA2 (n := 40) (by omega) (by omega) (by omega)
  rw [e]
  simp only [Option.bind_some]
  exact ⟨_, _, _, rfl, by show -2147483648 ≤ u ∧ u ≤ 2147483647; omega, c1, by omega, c3, c4⟩
/-- A good act. -/
def ActV (k n : Int) (t : ByteArray) : Prop :=
  (k = 1 ∧ 0 ≤ n ∧ n ≤ 3 ∧ t = .empty) ∨ (k = 2 ∧ 0 ≤ n ∧ n ≤ 3 ∧ t = .empty) ∨ (k = 3 ∧ 1 ≤ n ∧ n ≤ 4000 ∧ t = .empty) ∨
    (k = 4 ∧ -2147483648 ≤ n ∧ n ≤ 2147483647 ∧ t = .empty) ∨ (k = 5 ∧ 1 ≤ n ∧ n ≤ 1000 ∧ t = .empty) ∨ (k = 6 ∧ n = 0 ∧ t.size ≤ 400)
theorem act_gives {xs : List Int} (hx : Bytes xs) {c a s : Int} (hA : AtP c a s) (hc : c + 10000 ≤ 1000000000) : ∃ k n t a' s', F_s_l00Src_act xs a s = some (k, n, t, xs, a', s') ∧ ActV k n t ∧ AtP (c + 5000) a' s' := by
  unfold F_s_l00Src_act
  obtain ⟨v, a', s', e, ⟨v1, v2⟩, b1, b2, b3, b4⟩ := next_gives hx hA (n := 11) (by omega) (by omega) (by omega)
  have hA2 : AtP (c + 3) a' s' := ⟨b1, b2, b3, b4, by omega⟩
  rw [e]
  simp only [Option.bind_some]
  obtain ⟨j, rfl⟩ : ∃ j : Nat, v = (j : Int) := ⟨v.toNat, by omega⟩
  have hj : ∃ k : Int, idx ([(1 : Int), (2 : Int), (3 : Int), (4 : Int), (5 : Int), (6 : Int), (6 : Int), (6 : Int), (6 : Int), (6 : Int), (6 : Int)] : List Int) (j : Int) = some k ∧ 1 ≤ k ∧ k ≤ 6 := by
    rw [idx_nat]
    have : j < 11 := by omega
    rcases j with _ | _ | _ | _ | _ | _ | _ | _ | _ | _ | _ | j
    all_goals first | exact ⟨_, rfl, by omega, by omega⟩ | omega
  obtain ⟨k, hk, k1, k6⟩ := hj
  rw [hk]
  simp only [Option.bind_some]
  by_cases h1 : k = 1
  · rw [cond_eq h1]
    obtain ⟨u, a2, s2, e, ⟨u1, u2⟩, c1, c2, c3, c4⟩ := next_gives hx hA2 (n := 4) (by omega) (by omega) (by omega)
    rw [e]
    simp only [Option.bind_some]
    exact ⟨_, _, _, _, _, rfl, .inl ⟨h1, u1, by show u ≤ 3; omega, rfl⟩, c1, by omega, c3, c4, by omega⟩
  rw [cond_ne h1]
  by_cases h2 : k = 2
  · rw [cond_eq h2]
    obtain ⟨u, a2, s2, e, ⟨u1, u2⟩, c1, c2, c3, c4⟩ := next_gives hx hA2 (n := 4) (by omega) (by omega) (by omega)
    rw [e]
    simp only [Option.bind_some]
    exact ⟨_, _, _, _, _, rfl, .inr (.inl ⟨h2, u1, by show u ≤ 3; omega, rfl⟩), c1, by omega, c3, c4, by omega⟩
  rw [cond_ne h2]
  by_cases h3 : k = 3
  · rw [cond_eq h3]
    obtain ⟨u, a2, s2, e, ⟨u1, u2⟩, c1, c2, c3, c4⟩ := next_gives hx hA2 (n := 300) (by omega) (by omega) (by omega)
    rw [e]
    simp only [Option.bind_some]
    rw [w64_id (by omega) (by omega)]
    exact ⟨_, _, _, _, _, rfl, .inr (.inr (.inl ⟨h3, by omega, by omega, rfl⟩)), c1, by omega, c3, c4, by omega⟩
  rw [cond_ne h3]
  by_cases h4 : k = 4
  · rw [cond_eq h4]
    obtain ⟨u, a2, s2, e, ⟨u1, u2⟩, c1, c2, c3, c4⟩ := cell_gives hx hA2 (by omega)
    rw [e]
    simp only [Option.bind_some]
    exact ⟨_, _, _, _, _, rfl, .inr (.inr (.inr (.inl ⟨h4, u1, u2, rfl⟩))), c1, by omega, c3, c4, by omega⟩
  rw [cond_ne h4]
  by_cases h5 : k = 5
  · rw [cond_eq h5]
    obtain ⟨u, a2, s2, e, ⟨u1, u2⟩, c1, c2, c3, c4⟩ := next_gives hx hA2 (n := 50) (by omega) (by omega) (by omega)
    rw [e]
    simp only [Option.bind_some]
    rw [w64_id (by omega) (by omega)]
    exact ⟨_, _, _, _, _, rfl, .inr (.inr (.inr (.inr (.inl ⟨h5, by omega, by omega, rfl⟩)))), c1, by omega, c3, c4, by omega⟩
  rw [cond_ne h5]
  obtain ⟨u, a2, s2, e, hu, c1, c2, c3, c4⟩ := forth_gives hx hA2 (by omega)
  rw [e]
  simp only [Option.bind_some]
  exact ⟨_, _, _, _, _, rfl, .inr (.inr (.inr (.inr (.inr ⟨by omega, rfl, hu⟩)))), c1, by omega, c3, c4, by omega⟩
end
end Go.M
