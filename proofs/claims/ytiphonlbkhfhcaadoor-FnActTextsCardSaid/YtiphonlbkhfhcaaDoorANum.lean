/- Plain laws: decimal numbers there and back; words and Split. -/
import Derived.Test.YtiphonlbkhfhcaaDoorAGok
import Derived.Lib.AtoiTie
import Derived.Lib.ItoaNum
import Derived.Lib.ItoaMem
import Derived.Lib.SplitLaws
set_option linter.unusedVariables false
set_option maxRecDepth 100000
namespace Go.M
open Go
noncomputable section
/-! ### Numbers -/
theorem decFrom_append (l1 l2 : List UInt8) : ∀ acc : Nat, Lib.decFrom acc (l1 ++ l2) = (Lib.decFrom acc l1).bind fun a => Lib.decFrom a l2 := by
  induction l1 with
  | nil => intro acc; rfl
  | cons c r ih =>
    intro acc
    simp only [List.cons_append, Lib.decFrom]
    cases Lib.digitVal c with
    | none => rfl
    | some d => exact ih _
theorem digit_back {d : Nat} (h : d < 10) : Lib.digitVal (UInt8.ofNat (48 + d)) = some d := by
  unfold Lib.digitVal
  have : (UInt8.ofNat (48 + d)).toNat = 48 + d := by simp; omega
  rw [this, if_pos (by omega)]
  congr 1
  omega
theorem digit_of {c : UInt8} {d : Nat} (h : Lib.digitVal c = some d) : d < 10 ∧ c = UInt8.ofNat (48 + d) := by
  unfold Lib.digitVal at h
  split at h
  · rename_i hc
    cases h
    refine ⟨by omega, UInt8.toNat_inj.1 ?_⟩
    simp
    omega
  · cases h
theorem decFrom_decDigits (u : Nat) : Lib.decFrom 0 (Lib.decDigits u) = some u := by
  induction u using Nat.strongRecOn with
  | _ u ih =>
    by_cases h : u < 10
    · rw [Lib.decDigits_one h]
      simp only [Lib.decFrom, digit_back h]
      simp
    · rw [Lib.decDigits, dif_neg h, decFrom_append, ih (u / 10) (by omega)]
      simp only [Option.bind_some, Lib.decFrom, digit_back (Nat.mod_lt u (by omega : 10 > 0))]
      congr 1
      omega
theorem decFrom_le : ∀ (l : List UInt8) (acc v : Nat), Lib.decFrom acc l = some v → acc ≤ v
  | [], acc, v, h => by simp only [Lib.decFrom, Option.some.injEq] at h; omega
  | c :: r, acc, v, h => by
    simp only [Lib.decFrom] at h
    cases hd : Lib.digitVal c with
    | none => rw [hd] at h; cases h
    | some d => rw [hd] at h; have := decFrom_le r _ v h; omega
theorem decDigits_of (acc : Nat) (r : List UInt8) : ∀ v, 1 ≤ acc → Lib.decFrom acc r = some v → Lib.decDigits v = Lib.decDigits acc ++ r := by
  induction r generalizing acc with
  | nil => intro v h1 h; simp only [Lib.decFrom, Option.some.injEq] at h; subst h; simp
  | cons c r ih =>
    intro v h1 h
    simp only [Lib.decFrom] at h
    cases hd : Lib.digitVal c with
    | none => rw [hd] at h; cases h
    | some d =>
      rw [hd] at h
      obtain ⟨hd1, hd2⟩ := digit_of hd
      rw [ih (acc * 10 + d) v (by omega) h]
      rw [Lib.decDigits.eq_1 (acc * 10 + d), dif_neg (by omega), show (acc * 10 + d) / 10 = acc by omega, show (acc * 10 + d) % 10 = d by omega, ← hd2]
      simp
theorem decDigits_back (c : UInt8) (r : List UInt8) (v : Nat) (h : Lib.decFrom 0 (c :: r) = some v) (hz : c = 48 → r = []) : Lib.decDigits v = c :: r := by
  simp only [Lib.decFrom] at h
  cases hd : Lib.digitVal c with
  | none => rw [hd] at h; cases h
  | some d =>
    rw [hd] at h
    obtain ⟨hd1, hd2⟩ := digit_of hd
    simp only [Nat.zero_mul, Nat.zero_add] at h
    by_cases h0 : d = 0
    · subst h0
      have : r = [] := hz hd2
      subst this
      simp only [Lib.decFrom, Option.some.injEq] at h
      subst h
      rw [Lib.decDigits_one (by omega), hd2]
    · rw [decDigits_of d r v (by omega) h, Lib.decDigits_one hd1, ← hd2]
      rfl
theorem decDigits_head (u : Nat) : ∃ c r, Lib.decDigits u = c :: r ∧ c ≠ 45 ∧ (1 ≤ u → c ≠ 48) ∧ (c = 48 → r = []) := by
  induction u using Nat.strongRecOn with
  | _ u ih =>
    by_cases h : u < 10
    · refine ⟨_, [], Lib.decDigits_one h, ?_, fun h1 => ?_, fun _ => rfl⟩
      · intro e
        have := congrArg UInt8.toNat e
        simp at this
        omega
      · intro e
        have := congrArg UInt8.toNat e
        simp at this
        omega
    · obtain ⟨c, r, hc, h1, h2, h3⟩ := ih (u / 10) (by omega)
      have h4 := h2 (by omega)
      refine ⟨c, r ++ [UInt8.ofNat (48 + u % 10)], ?_, h1, fun _ => h4, fun e => absurd e h4⟩
      rw [Lib.decDigits, dif_neg h, hc]
      rfl

/-- What stands behind a '-'. -/
def magL (l : List UInt8) : List UInt8 := match l with
  | [] => []
  | c :: r => if c = 45 then r else c :: r

theorem numOf_itoa (v : Int) (h18 : (magL (Lib.itoa v)).length ≤ 18) : numOf (Lib.itoa v) = some v := by
  by_cases hv : v < 0
  · obtain ⟨u, rfl⟩ : ∃ u : Nat, v = -(u : Int) := ⟨v.natAbs, by omega⟩
    rw [Lib.itoa_neg u (by omega)] at h18 ⊢
    obtain ⟨c, r, hc, h1, h2, h3⟩ := decDigits_head u
    have hb := decFrom_decDigits u
    rw [hc] at h18 hb ⊢
    simp only [magL, if_pos] at h18
    simp only [numOf, if_pos, magOf, h2 (by omega), false_and, if_false, hb, if_neg (by omega : ¬ 18 < (c :: r).length), Option.map_some]
  · obtain ⟨u, rfl⟩ : ∃ u : Nat, v = (u : Int) := ⟨v.toNat, by omega⟩
    rw [Lib.itoa_nonneg u] at h18 ⊢
    obtain ⟨c, r, hc, h1, h2, h3⟩ := decDigits_head u
    have hb := decFrom_decDigits u
    rw [hc] at h18 hb ⊢
    simp only [magL, if_neg h1] at h18
    have h4 : ¬ (c = 48 ∧ (r ≠ [] ∨ false = true)) := by
      rintro ⟨e, h | h⟩
      · exact h (h3 e)
      · cases h
    simp only [numOf, if_neg h1, magOf, if_neg h4, hb, if_neg (by omega : ¬ 18 < (c :: r).length), Option.map_some]

theorem magOf_some {neg : Bool} {m : List UInt8} {v : Nat} (h : magOf neg m = some v) : ∃ c r, m = c :: r ∧ (c :: r).length ≤ 18 ∧ Lib.decFrom 0 (c :: r) = some v ∧ (c = 48 → r = [] ∧ neg = false) := by
  unfold magOf at h
  split at h
  · cases h
  · rename_i c r
    split at h
    · cases h
    · split at h
      · cases h
      · rename_i h1 h2
        refine ⟨c, r, rfl, by omega, h, fun e => ?_⟩
        cases r with
        | nil => cases neg with
          | false => exact ⟨rfl, rfl⟩
          | true => exact absurd ⟨e, .inr rfl⟩ h2
        | cons _ _ => exact absurd ⟨e, .inl (by simp)⟩ h2
theorem numOf_some {l : List UInt8} {v : Int} (h : numOf l = some v) : Lib.itoa v = l ∧ Lib.atoiAll l = .ok v ∧ (magL l).length ≤ 18 := by
  unfold numOf at h
  split at h
  · cases h
  · rename_i c r
    split at h
    · rename_i hc
      subst hc
      cases hm : magOf true r with
      | none => rw [hm] at h; cases h
      | some u =>
        rw [hm] at h
        simp only [Option.map_some, Option.some.injEq] at h
        subst h
        obtain ⟨c, r, rfl, h18, hd, hz⟩ := magOf_some hm
        have hback := decDigits_back c r u hd (fun e => (hz e).1)
        have hn : Lib.decNat (c :: r) = some u := by simp [Lib.decNat, hd]
        have hu : 1 ≤ u := by
          rcases Nat.eq_zero_or_pos u with e | e
          · subst e
            rw [Lib.decDigits_one (by omega)] at hback
            injection hback with e1 e2
            have := (hz e1.symm).2
            cases this
          · exact e
        refine ⟨by rw [Lib.itoa_neg u hu, hback], ?_, by simpa [magL] using h18⟩
        rw [Lib.atoiAll_minus, Lib.signed_short h18, hn]
        rfl
    · rename_i hc
      cases hm : magOf false (c :: r) with
      | none => rw [hm] at h; cases h
      | some u =>
        rw [hm] at h
        simp only [Option.map_some, Option.some.injEq] at h
        subst h
        obtain ⟨c', r', he, h18, hd, hz⟩ := magOf_some hm
        cases he
        have hback := decDigits_back c r u hd (fun e => (hz e).1)
        have hn : Lib.decNat (c :: r) = some u := by simp [Lib.decNat, hd]
        refine ⟨by rw [Lib.itoa_nonneg u, hback], ?_, by simpa [magL, hc] using h18⟩
        have h43 : c.toNat ≠ 43 := by
          intro e
          simp only [Lib.decFrom] at hd
          have : Lib.digitVal c = none := by unfold Lib.digitVal; rw [if_neg (by omega)]
          rw [this] at hd
          cases hd
        have h45 : c.toNat ≠ 45 := fun e => hc (UInt8.toNat_inj.1 (by rw [e]; rfl))
        rw [Lib.atoiAll_plain c r h43 h45, Lib.signless_short h18, hn]
        rfl

/-! ### Words -/
def spl : List UInt8 → List UInt8 → List (List UInt8)
  | cur, [] => [cur]
  | cur, c :: r => if c = 32 then cur :: spl [] r else spl (cur ++ [c]) r
theorem spl_words : ∀ (l cur : List UInt8), (spl cur l).filter (fun e => !(e == [])) = wordsL cur l
  | [], cur => by
    unfold spl wordsL
    cases cur <;> simp
  | c :: r, cur => by
    unfold spl wordsL
    by_cases hc : c = 32
    · rw [if_pos hc, if_pos hc, List.filter_cons, spl_words r []]
      cases cur <;> simp
    · rw [if_neg hc, if_neg hc, spl_words r (cur ++ [c])]
theorem spl_cut : ∀ (a b cur : List UInt8), (32 : UInt8) ∉ a → spl cur (a ++ 32 :: b) = (cur ++ a) :: spl [] b
  | [], b, cur, _ => by simp [spl]
  | c :: a, b, cur, h => by
    have hc : c ≠ 32 := fun e => h (by simp [e])
    rw [List.cons_append, spl, if_neg hc, spl_cut a b _ (fun e => h (by simp [e]))]
    simp
theorem spl_none : ∀ (a cur : List UInt8), (32 : UInt8) ∉ a → spl cur a = [cur ++ a]
  | [], cur, _ => by simp [spl]
  | c :: a, cur, h => by
    have hc : c ≠ 32 := fun e => h (by simp [e])
    rw [spl, if_neg hc, spl_none a _ (fun e => h (by simp [e]))]
    simp
theorem index_cut : ∀ (a b : List UInt8), (32 : UInt8) ∉ a → Lib.index (a ++ 32 :: b) [32] = (a.length : Int)
  | [], b, _ => by rw [Lib.index_one]; simp [Lib.indexByte]
  | c :: a, b, h => by
    have hc : (c == 32) = false := by rw [beq_eq_false_iff_ne]; exact fun e => h (by simp [e])
    have ih := index_cut a b (fun e => h (by simp [e]))
    rw [Lib.index_one] at ih ⊢
    rw [List.cons_append, Lib.indexByte, hc, ih]
    have : ((a.length : Int) == -1) = false := by rw [beq_eq_false_iff_ne]; omega
    simp [this]
theorem cut_of_mem : ∀ (l : List UInt8), (32 : UInt8) ∈ l → ∃ a b, l = a ++ 32 :: b ∧ (32 : UInt8) ∉ a
  | [], h => by cases h
  | c :: l, h => by
    by_cases hc : c = 32
    · exact ⟨[], l, by simp [hc], by simp⟩
    · obtain ⟨a, b, rfl, h2⟩ := cut_of_mem l (by simpa [Ne.symm hc] using h)
      exact ⟨c :: a, b, rfl, by simp [h2, Ne.symm hc]⟩
theorem splitK_spl : ∀ (k : Nat) (l : List UInt8), Lib.count l [32] = k → Lib.splitK [32] 0 k l = spl [] l
  | 0, l, h => by
    rw [Lib.count_one] at h
    rw [Lib.splitK, spl_none l [] (List.count_eq_zero.1 h)]
    rfl
  | k + 1, l, h => by
    have hc := h
    rw [Lib.count_one] at hc
    obtain ⟨a, b, rfl, ha⟩ := cut_of_mem l (List.count_pos_iff.1 (by omega))
    have hb : Lib.count b [32] = k := by
      rw [Lib.count_one]
      rw [List.count_append, List.count_cons_self, List.count_eq_zero.2 ha] at hc
      omega
    rw [Lib.splitK, index_cut a b ha]
    have : ((a.length : Int) == -1) = false := by rw [beq_eq_false_iff_ne]; omega
    rw [this, spl_cut a b [] ha]
    simp only [Bool.false_eq_true, if_false, Int.toNat_natCast, Nat.add_zero, List.take_left', List.length_cons, List.length_nil]
    rw [show a.length + (0 + 1) = a.length + 1 from by omega, List.drop_append, List.drop_eq_nil_of_le (by omega), show a.length + 1 - a.length = 1 by omega]
    simp only [List.nil_append, List.drop_succ_cons, List.drop_zero]
    rw [splitK_spl k b hb]
theorem map_data_inj : ∀ {xs ys : List ByteArray}, xs.map (·.data.toList) = ys.map (·.data.toList) → xs = ys
  | [], [], _ => rfl
  | [], _ :: _, h => by cases h
  | _ :: _, [], h => by cases h
  | x :: xs, y :: ys, h => by
    simp only [List.map_cons, List.cons.injEq] at h
    rw [← B_data x, ← B_data y, h.1, map_data_inj h.2]
theorem words_split (s : ByteArray) : (Lib.splitB (B [32]) 0 (Lib.countB s (B [32])) s).filter (fun e => !(e.toList == (.empty : ByteArray).toList)) = (wordsL [] s.data.toList).map B := by
  apply map_data_inj
  have e1 : (Lib.splitB (B [32]) 0 (Lib.countB s (B [32])) s).map (·.data.toList) = spl [] s.data.toList := by
    rw [Lib.splitB_data]
    exact splitK_spl _ _ rfl
  have e2 : ((wordsL [] s.data.toList).map B).map (·.data.toList) = wordsL [] s.data.toList := by
    rw [List.map_map]
    exact List.map_id _
  have e3 : ∀ xs : List ByteArray, (xs.filter (fun e => !(e.toList == (.empty : ByteArray).toList))).map (·.data.toList) = (xs.map (·.data.toList)).filter (fun e => !(e == [])) := by
    intro xs
    induction xs with
    | nil => rfl
    | cons x xs ih =>
      have : (x.toList == (ByteArray.empty).toList) = (x.data.toList == []) := by rw [Lib.toList_data, Lib.toList_data]; rfl
      simp only [List.map_cons, List.filter_cons, this]
      split
      · rw [List.map_cons, ih]
      · exact ih
  rw [e2, e3, e1, spl_words]
end
end Go.M
