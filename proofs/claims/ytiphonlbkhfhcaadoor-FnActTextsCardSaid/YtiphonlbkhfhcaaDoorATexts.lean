/- The text of a good act: both programs write the same one, and it is read back as the act. -/
import Derived.Test.YtiphonlbkhfhcaaDoorADraw3
set_option linter.unusedVariables false
set_option maxRecDepth 100000
namespace Go.M
open Go
noncomputable section
theorem B_app (a b : List UInt8) : B a ++ B b = B (a ++ b) := by
  rw [← B_data (B a ++ B b), ByteArray.data_append]
  simp [B]
/-! ### Numbers -/
theorem digit_byte (n : Nat) (h : n < 10) : bytesOfInts [w8 (w64 (48 + (n : Int)))] = B [UInt8.ofNat (48 + n)] := by
  rw [w64_id (by omega) (by omega)]
  have : w8 (48 + (n : Int)) = ((48 + n : Nat) : Int) := by
    unfold w8 IntKind.wrap
    simp [IntKind.bits, IntKind.signed]
    omega
  rw [this]
  rfl
theorem nDigits_small_of (d n : Nat) (h : n < 10 ^ d) : (Lib.decDigits n).length ≤ d + 1 := by
  rw [Lib.decDigits_length]
  induction d generalizing n with
  | zero =>
    have : n = 0 := by simpa using h
    subst this
    rw [Lib.nDigits_small (by omega)]
    omega
  | succ d ih =>
    by_cases h10 : n < 10
    · rw [Lib.nDigits_small h10]; omega
    · rw [Lib.nDigits_big h10]
      have := ih (n / 10) (by rw [Nat.pow_succ] at h; omega)
      omega
theorem digits_nat : ∀ (d n : Nat), d ≤ 18 → n < 10 ^ d → F_s_l00Digits 0 (d + 1) (n : Int) = some (B (Lib.decDigits n))
  | 0, n, hd, hn => by
    have : n = 0 := by simpa using hn
    subst this
    rw [F_s_l00Digits, FB_s_l00Digits, cond_ne (by decide), cond_not (by decide), cond_of (by decide), digit_byte 0 (by omega), Lib.decDigits_one (by omega)]
  | d + 1, n, hd, hn => by
    have hp : 10 ^ (d + 1) ≤ 10 ^ 18 := Nat.pow_le_pow_right (by decide) (by omega)
    have e18 : (10 : Nat) ^ 18 = 1000000000000000000 := by decide
    rw [F_s_l00Digits, FB_s_l00Digits, cond_ne (by omega), cond_not (by omega)]
    by_cases h10 : n < 10
    · rw [cond_of (by omega), digit_byte n h10, Lib.decDigits_one h10]
    · rw [cond_not (by omega)]
      have e1 : w64 ((n : Int).tdiv 10) = ((n / 10 : Nat) : Int) := by
        rw [Int.tdiv_eq_ediv_of_nonneg (by omega), w64_id (by omega) (by omega)]
        omega
      have e2 : (n : Int).tmod 10 = ((n % 10 : Nat) : Int) := by
        rw [Int.tmod_eq_emod_of_nonneg (by omega)]
        omega
      have hl := nDigits_small_of d (n / 10) (by rw [Nat.pow_succ] at hn; omega)
      rw [e1, digits_nat d (n / 10) (by omega) (by rw [Nat.pow_succ] at hn; omega)]
      simp only [Option.bind_some]
      rw [e2, digit_byte (n % 10) (by omega), cond_of (by rw [size_B, size_B]; simp; omega), B_app, Lib.decDigits.eq_1 n, dif_neg h10]
theorem digits_mono : ∀ (d e : Nat) (x : Int) (r : ByteArray), F_s_l00Digits 0 d x = some r → F_s_l00Digits 0 (d + e) x = some r := by
  intro d
  induction d with
  | zero => intro e x r h; cases h
  | succ d ih =>
    intro e x r h
    rw [show d + 1 + e = (d + e) + 1 by omega]
    rw [F_s_l00Digits, FB_s_l00Digits] at h ⊢
    by_cases c1 : x = -9223372036854775808
    · rw [cond_eq c1] at h ⊢; exact h
    rw [cond_ne c1] at h ⊢
    by_cases c2 : x < 0
    · rw [cond_of c2] at h ⊢
      cases hr : F_s_l00Digits 0 d (w64 (0 - x)) with
      | none => rw [hr] at h; cases h
      | some y => rw [hr] at h; rw [ih e _ y hr]; exact h
    rw [cond_not c2] at h ⊢
    by_cases c3 : x < 10
    · rw [cond_of c3] at h ⊢; exact h
    rw [cond_not c3] at h ⊢
    cases hr : F_s_l00Digits 0 d (w64 (x.tdiv 10)) with
    | none => rw [hr] at h; cases h
    | some y => rw [hr] at h; rw [ih e _ y hr]; exact h
theorem digits_eq (n : Int) (h0 : -1000000000000000000 < n) (h1 : n < 1000000000000000000) : G_s_l00Digits n = some (B (Lib.itoa n)) := by
  unfold G_s_l00Digits
  by_cases hn : n < 0
  · obtain ⟨u, rfl⟩ : ∃ u : Nat, n = -(u : Int) := ⟨n.natAbs, by omega⟩
    rw [show (25 : Nat) = 24 + 1 from rfl, F_s_l00Digits, FB_s_l00Digits, cond_ne (by omega), cond_of hn]
    have e1 : w64 (0 - (-(u : Int))) = (u : Int) := by rw [w64_id (by omega) (by omega)]; omega
    have hu : F_s_l00Digits 0 24 (u : Int) = some (B (Lib.decDigits u)) := by
      exact digits_mono 19 5 _ _ (digits_nat 18 u (by omega) (by omega))
    have hl := nDigits_small_of 18 u (by omega)
    rw [e1, hu]
    simp only [Option.bind_some]
    rw [cond_of (by rw [size_B, size_B]; simp; omega), B_app, Lib.itoa_neg u (by omega)]
    rfl
  · obtain ⟨u, rfl⟩ : ∃ u : Nat, n = (u : Int) := ⟨n.toNat, by omega⟩
    rw [Lib.itoa_nonneg]
    exact digits_mono 19 6 _ _ (digits_nat 18 u (by omega) (by omega))
end
end Go.M
