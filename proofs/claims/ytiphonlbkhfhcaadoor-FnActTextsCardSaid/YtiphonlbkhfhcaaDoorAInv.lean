/- What a row of this seat gives of the package-level variables. -/
import Derived.Test.YtiphonlbkhfhcaaDoorAL
import Derived.Test.YtiphonlbkhfhcaaDoorMG
import Derived.Test.YtiphonlbkhfhcaaDoorRows
import Derived.MakeChecks
set_option linter.unusedVariables false
set_option maxRecDepth 100000
namespace Go.M
open Go Go.Proofs Go.Proofs.YtiphonlbkhfhcaaDoor
theorem inv_of_laid {w : World} (h : laidMetH Tryd.prog Rows.fnExactReadActRow.laid w) (hs : w.ShapedOpen Tryd.prog) : Jv.I w ∧ ∀ b ∈ Jv.G, b < w.heap.size := by
  rw [MakeChecks.laidMetH_plain _ _ _ (by kernel_rfl)] at h
  have r1 : Lib.VarReads Tryd.prog w "internal/strconv.uint64pow10" Rows.laid_internal_strconv_uint64pow10 := Lib.laidMet.reads h (by simp [Rows.fnExactReadActRow])
  have r2 : Lib.VarReads Tryd.prog w "strconv.ErrSyntax" Rows.laid_strconv_ErrSyntax := Lib.laidMet.reads h (by simp [Rows.fnExactReadActRow])
  have r3 : Lib.VarReads Tryd.prog w "strconv.ErrRange" Rows.laid_strconv_ErrRange := Lib.laidMet.reads h (by simp [Rows.fnExactReadActRow])
  have p1 : (Rows.laid_internal_strconv_uint64pow10 : DataW Unit) = Lib.tabData .u64 Lib.pow10Tab := by kernel_rfl
  rw [p1] at r1
  obtain ⟨t1, f1, h1⟩ := tab_of_reads (g := 2) (t := 99) (e := 72) (n := 20) r1 nPow (by kernel_rfl) Tryd.underlying99 Tryd.underlying72 (by kernel_rfl) (by kernel_rfl)
  obtain ⟨tp2, p2, t2, f2, h2⟩ := iface_of_reads (g := 0) (t := 63) r2 nES (by kernel_rfl) Tryd.underlying63
  obtain ⟨tp3, p3, t3, f3, h3⟩ := iface_of_reads (g := 1) (t := 63) r3 nER (by kernel_rfl) Tryd.underlying63
  obtain ⟨m, hm⟩ := cell_of_shapedOpen_int (g := 3) (t := 3) (zero := #[.int .i64 0]) (k := .i64) hs (of_decide_eq_true (by kernel_rfl)) (by kernel_rfl) rfl (by kernel_rfl) (by kernel_rfl) Tryd.underlying3
  have lt : ∀ {b : Nat} {o : Go.Obj}, w.heap[b]? = some o → b < w.heap.size := fun hb => (Array.getElem?_eq_some_iff.1 hb).1
  have h4 : 3 < w.heap.size := by
    rcases Nat.lt_or_ge 3 w.heap.size with h' | h'
    · exact h'
    · simp [World.cell?, Array.getElem?_eq_none h'] at hm
  refine ⟨⟨⟨m, hm⟩, ⟨t1, f1, h1⟩, ⟨tp2, p2, t2, f2, h2⟩, ⟨tp3, p3, t3, f3, h3⟩⟩, fun b hb => ?_⟩
  have hb' : b ∈ [3, 2, 0, 1] := hb
  simp only [List.mem_cons, List.mem_nil_iff, or_false] at hb'
  rcases hb' with rfl | rfl | rfl | rfl
  · exact h4
  · exact lt h1
  · exact lt h2
  · exact lt h3
end Go.M
