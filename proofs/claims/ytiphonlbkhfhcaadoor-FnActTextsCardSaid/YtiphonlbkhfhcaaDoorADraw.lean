/- The drawing functions give an answer at every row of bytes; what they give is in bounds. -/
import Derived.Test.YtiphonlbkhfhcaaDoorALaw2
set_option linter.unusedVariables false
set_option maxRecDepth 100000
namespace Go.M
open Go
noncomputable section
theorem size_cat (a b : ByteArray) : (a ++ b).size = a.size + b.size := ByteArray.size_append
theorem size_B (l : List UInt8) : (B l).size = l.length := Lib.size_eq _
theorem cond_of {α : Type} {p : Prop} [Decidable p] (h : p) {x y : α} : (bif decide p then x else y) = x := by rw [decide_eq_true h]; rfl
theorem cond_not {α : Type} {p : Prop} [Decidable p] (h : ¬ p) {x y : α} : (bif decide p then x else y) = y := by rw [decide_eq_false h]; rfl
theorem cond_eq {α : Type} {a b : Int} (h : a = b) {x y : α} : (bif (a == b) then x else y) = x := by rw [beq_iff_eq.2 h]; rfl
theorem cond_ne {α : Type} {a b : Int} (h : a ≠ b) {x y : α} : (bif (a == b) then x else y) = y := by rw [beq_eq_false_iff_ne.2 h]; rfl

/-- The drawn bytes. -/
def Bytes (xs : List Int) : Prop := (∀ e ∈ xs, 0 ≤ e ∧ e ≤ 255) ∧ xs.length ≤ 1048576
/-- An answer: the value, the same bytes, the place, the seed. -/
def Gives {α : Type} (xs : List Int) (c : Int) (f : Option (α × List Int × Int × Int)) (Q : α → Prop) : Prop :=
  ∃ v a s, f = some (v, xs, a, s) ∧ Q v ∧ 0 ≤ a ∧ a ≤ c ∧ 0 ≤ s ∧ s < 2147483648
/-- The place and the seed before. -/
def AtP (c a s : Int) : Prop := 0 ≤ a ∧ a ≤ c ∧ 0 ≤ s ∧ s < 2147483648 ∧ c ≤ 1000000000

theorem tmod_lt {a b : Int} (h0 : 0 ≤ a) (hb : 0 < b) : 0 ≤ a.tmod b ∧ a.tmod b < b := by
  rw [Int.tmod_eq_emod_of_nonneg h0]
  exact ⟨Int.emod_nonneg _ (by omega), Int.emod_lt_of_pos _ hb⟩
theorem byte_gives {xs : List Int} (hx : Bytes xs) {c a s : Int} (h : AtP c a s) : Gives xs (c + 1) (F_s_l00Src_byte xs a s) fun v => 0 ≤ v ∧ v ≤ 255 := by
  obtain ⟨h1, h2, h3, h4, h5⟩ := h
  obtain ⟨hb, hlen⟩ := hx
  have hw : w64 (a + 1) = a + 1 := w64_id (by omega) (by omega)
  unfold F_s_l00Src_byte
  rw [hw, show a + 1 - 1 = a by omega, w64_id (n := a) (by omega) (by omega)]
  by_cases hl : a + 1 ≤ toInt xs.length
  · rw [cond_of hl]
    obtain ⟨k, rfl⟩ : ∃ k : Nat, a = (k : Int) := ⟨a.toNat, by omega⟩
    have hk : k < xs.length := by simp only [toInt] at hl; omega
    have he := hb xs[k] (List.getElem_mem hk)
    rw [idx_nat, List.getElem?_eq_getElem hk]
    simp only [Option.bind_some]
    rw [w64_id (n := xs[k]) (by omega) (by omega), w64_id (n := s * 31) (by omega) (by omega), w64_id (n := s * 31 + xs[k]) (by omega) (by omega), w64_id (n := s * 31 + xs[k] + 7) (by omega) (by omega)]
    obtain ⟨t1, t2⟩ := tmod_lt (a := s * 31 + xs[k] + 7) (b := 2147483648) (by omega) (by omega)
    exact ⟨_, _, _, rfl, he, by omega, by omega, t1, t2⟩
  · rw [cond_not hl]
    by_cases h3000 : a + 1 > 3000
    · rw [cond_of h3000]
      exact ⟨_, _, _, rfl, by omega, by omega, by omega, h3, h4⟩
    · rw [cond_not h3000]
      rw [w64_id (n := s * 1103515245) (by omega) (by omega), w64_id (n := s * 1103515245 + 12345) (by omega) (by omega)]
      obtain ⟨t1, t2⟩ := tmod_lt (a := s * 1103515245 + 12345) (b := 2147483648) (by omega) (by omega)
      generalize (s * 1103515245 + 12345).tmod 2147483648 = m at t1 t2 ⊢
      have hd : 0 ≤ m.tdiv 65536 ∧ m.tdiv 65536 ≤ 2147483648 := by
        rw [Int.tdiv_eq_ediv_of_nonneg t1]
        omega
      rw [w64_id (n := m.tdiv 65536) (by omega) (by omega)]
      obtain ⟨u1, u2⟩ := tmod_lt (a := m.tdiv 65536) (b := 256) hd.1 (by omega)
      exact ⟨_, _, _, rfl, by omega, by omega, by omega, t1, t2⟩
theorem next_gives {xs : List Int} (hx : Bytes xs) {c a s n : Int} (h : AtP c a s) (hn : 1 ≤ n) (hn2 : n ≤ 1000000) (hc : c + 3 ≤ 1000000000) : Gives xs (c + 3) (F_s_l00Src_next xs a s n) fun v => 0 ≤ v ∧ v < n := by
  unfold F_s_l00Src_next
  by_cases h1 : n ≤ 1
  · obtain ⟨a1, a2, a3, a4, a5⟩ := h
    rw [cond_of h1]
    exact ⟨_, _, _, rfl, by omega, by omega, by omega, a3, a4⟩
  · rw [cond_not h1]
    have hne : (n != 0) = true := by rw [bne_iff_ne]; omega
    by_cases h2 : n ≤ 256
    · rw [cond_of h2]
      obtain ⟨v, a', s', e, hv, b1, b2, b3, b4⟩ := byte_gives hx h
      rw [e]
      simp only [Option.bind_some, hne, cond_true]
      obtain ⟨t1, t2⟩ := tmod_lt (a := v) (b := n) (by omega) (by omega)
      exact ⟨_, _, _, rfl, ⟨t1, t2⟩, b1, by omega, b3, b4⟩
    · rw [cond_not h2]
      obtain ⟨v, a', s', e, hv, b1, b2, b3, b4⟩ := byte_gives hx h
      obtain ⟨v2, a2, s2, e2, hv2, c1, c2, c3, c4⟩ := byte_gives hx (c := c + 1) (a := a') (s := s') ⟨b1, b2, b3, b4, by omega⟩
      obtain ⟨v3, a3, s3, e3, hv3, d1, d2, d3, d4⟩ := byte_gives hx (c := c + 1 + 1) (a := a2) (s := s2) ⟨c1, c2, c3, c4, by omega⟩
      rw [e]
      simp only [Option.bind_some, e2, e3, hne, cond_true]
      rw [w64_id (n := v * 65536) (by omega) (by omega), w64_id (n := v2 * 256) (by omega) (by omega), w64_id (n := v * 65536 + v2 * 256) (by omega) (by omega), w64_id (n := v * 65536 + v2 * 256 + v3) (by omega) (by omega)]
      obtain ⟨t1, t2⟩ := tmod_lt (a := v * 65536 + v2 * 256 + v3) (b := n) (by omega) (by omega)
      exact ⟨_, _, _, rfl, ⟨t1, t2⟩, d1, by omega, d3, d4⟩
theorem pick_gives {xs : List Int} (hx : Bytes xs) {c a s : Int} (h : AtP c a s) (hc : c + 3 ≤ 1000000000) (ws : List ByteArray) (h1 : 1 ≤ ws.length) (h2 : ws.length ≤ 1000) (m : Nat) (hm : ∀ w ∈ ws, w.size ≤ m) :
    Gives xs (c + 3) (F_s_l00Src_pick xs a s ws) fun v => v.size ≤ m := by
  unfold F_s_l00Src_pick
  rw [cond_ne (by simp only [toInt]; omega)]
  obtain ⟨v, a', s', e, ⟨v1, v2⟩, b1, b2, b3, b4⟩ := next_gives hx h (n := toInt ws.length) (by simp only [toInt]; omega) (by simp only [toInt]; omega) hc
  rw [e]
  simp only [Option.bind_some]
  obtain ⟨k, rfl⟩ : ∃ k : Nat, v = (k : Int) := ⟨v.toNat, by omega⟩
  have hk : k < ws.length := by simp only [toInt] at v2; omega
  rw [idx_nat, List.getElem?_eq_getElem hk]
  exact ⟨_, _, _, rfl, hm _ (List.getElem_mem hk), b1, b2, b3, b4⟩
theorem chance_gives {xs : List Int} (hx : Bytes xs) {c a s n : Int} (h : AtP c a s) (hn : 1 ≤ n) (hn2 : n ≤ 1000000) (hc : c + 3 ≤ 1000000000) : Gives xs (c + 3) (F_s_l00Src_chance xs a s n) fun _ => True := by
  unfold F_s_l00Src_chance
  obtain ⟨v, a', s', e, _, b1, b2, b3, b4⟩ := next_gives hx h hn hn2 hc
  rw [e]
  exact ⟨_, _, _, rfl, trivial, b1, b2, b3, b4⟩
theorem plain_gives {xs : List Int} (hx : Bytes xs) {c a s : Int} (h : AtP c a s) (hc : c + 3 ≤ 1000000000) : Gives xs (c + 3) (F_s_l00Src_plain xs a s) fun v => v.size ≤ 7 := by
  unfold F_s_l00Src_plain
  obtain ⟨v, a', s', e, q, b1, b2, b3, b4⟩ := pick_gives hx h hc [(B [49]), (B [50]), (B [51]), (B [45, 49]), (B [55]), (B [100, 117, 112]), (B [100, 114, 111, 112]), (B [115, 119, 97, 112]), (B [111, 118, 101, 114]), (B [43]), (B [45]), (B [42]), (B [47]), (B [109, 111, 100]), (B [46]), (B [99, 114]), (B [101, 109, 105, 116]), (B [64]), (B [33]), (B [104, 101, 114, 101]), (B [61]), (B [60]), (B [48, 61]), (B [49, 43]), (B [100, 101, 112, 116, 104]), (B [115, 113]), (B [120]), (B [118]), (B [99]), (B [104, 114, 101, 97, 100]), (B [104, 119, 114, 105, 116, 101]), (B [104, 97, 115, 107]), (B [104, 116, 105, 109, 101]), (B [62, 114]), (B [114, 62]), (B [99, 97, 116, 99, 104]), (B [116, 104, 114, 111, 119]), (B [101, 120, 101, 99, 117, 116, 101]), (B [104, 101, 120]), (B [100, 101, 99, 105, 109, 97, 108]), (B [110, 101, 103, 97, 116, 101]), (B [109, 97, 120])] (by decide) (by decide) 7 (by simp [size_B])
  rw [e]
  exact ⟨_, _, _, rfl, q, b1, b2, b3, b4⟩
end
end Go.M
