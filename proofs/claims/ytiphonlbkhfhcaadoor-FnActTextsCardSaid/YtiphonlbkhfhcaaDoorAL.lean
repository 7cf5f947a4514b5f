/- The library's contracts at this seat. -/
import Derived.Test.YtiphonlbkhfhcaaDoorAT
import Derived.Test.YtiphonlbkhfhcaaDoorAShelf
set_option linter.unusedVariables false
set_option maxRecDepth 100000
namespace Go.M
open Go Go.Proofs Go.RowKit
noncomputable section
def Jv : GInv := libInv 3 2 0 1
theorem nPow : Tryd.prog.globalNamed "internal/strconv.uint64pow10" = some 2 := by kernel_rfl
theorem nES : Tryd.prog.globalNamed "strconv.ErrSyntax" = some 0 := by kernel_rfl
theorem nER : Tryd.prog.globalNamed "strconv.ErrRange" = some 1 := by kernel_rfl
theorem snd_strings_Split : Sound Tryd.prog Jv 46 E_strings_Split :=
  lib_Split (t9 := 9) (ml := 3) Tryd.func46 (by decide) (by kernel_rfl) (fun w h => h.1) fun s sep m w h1 h2 h3 => Tryd.strings_Split s sep m w h1 h2 h3
theorem snd_strconv_Itoa : Sound Tryd.prog Jv 39 E_strconv_Itoa :=
  lib_Itoa Tryd.func39 (by decide) (by kernel_rfl) fun n w h1 h2 hi => (Tryd.strconv_Itoa n h1 h2 w (libI.tab hi nPow)).mono fun e w' ⟨he, k, os, hw⟩ => ⟨he, by subst hw; exact below_grow w k os⟩
theorem snd_strconv_Atoi : Sound Tryd.prog Jv 48 E_strconv_Atoi :=
  lib_Atoi Tryd.func48 (by decide) (by kernel_rfl)
    (fun s v w hs h hi => (Tryd.strconv_Atoi_ok s (by omega) v h w).mono fun e w' ⟨he, hw⟩ => ⟨he, by
      rcases hw with rfl | ⟨t, rfl⟩
      · exact Below.refl _ _
      · exact below_bytes w 5 t⟩)
    (fun s w hs h hi => by
      obtain ⟨tp, p, hv⟩ := libI.es hi nES
      exact (Tryd.strconv_Atoi_noNum_var s hs h tp p w hv).mono fun e w' ⟨N, he, _, _, hw⟩ => ⟨_, _, he, hw⟩)
    (fun s w hs h hi => by
      obtain ⟨tp, p, hv⟩ := libI.er hi nER
      exact (Tryd.strconv_Atoi_range_var s hs h tp p w hv).mono fun e w' ⟨N, he, _, _, hw⟩ => ⟨_, _, he, hw⟩)
end
end Go.M
