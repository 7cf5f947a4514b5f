/- AT: made by program for this claim. -/
import Derived.Test.YtiphonlbkhfhcaaDoorAF
import Derived.Test.YtiphonlbkhfhcaaDoorProg
import Derived.KernelRfl
set_option linter.unusedVariables false
set_option maxRecDepth 100000
namespace Go.M
open Go Go.Proofs
noncomputable section
noncomputable def TT : List (TypeId × TI) := [
  (23, ⟨.struct [(0, 3), (1, 3), (2, 9)], 3, 32, [.int .i64 (0 : Int), .int .i64 (0 : Int), .str (.empty : ByteArray)], some (.pair (.int .i64) (.pair (.int .i64) .str)), true⟩),
  (3, ⟨.int .i64, 1, 8, [.int .i64 (0 : Int)], some (.int .i64), false⟩),
  (9, ⟨.str, 1, 16, [.str (.empty : ByteArray)], some .str, false⟩),
  (54, ⟨.struct [(0, 28), (1, 3), (2, 3)], 3, 40, [.nils (.int .u8), .int .i64 (0 : Int), .int .i64 (0 : Int)], some (.pair (.list (.int .u8)) (.pair (.int .i64) (.int .i64))), false⟩),
  (37, ⟨.ptr 54, 1, 8, [.nilP], none, false⟩),
  (41, ⟨.slice 9, 1, 24, [.nils .str], some (.list .str), false⟩),
  (28, ⟨.slice 5, 1, 24, [.nils (.int .u8)], some (.list (.int .u8)), false⟩),
  (5, ⟨.int .u8, 1, 1, [.int .u8 (0 : Int)], some (.int .u8), false⟩),
  (21, ⟨.int .i32, 1, 4, [.int .i32 (0 : Int)], some (.int .i32), false⟩),
  (57, ⟨.slice 3, 1, 24, [.nils (.int .i64)], some (.list (.int .i64)), false⟩),
  (72, ⟨.int .u64, 1, 8, [.int .u64 (0 : Int)], some (.int .u64), false⟩),
  (71, ⟨.int .u32, 1, 4, [.int .u32 (0 : Int)], some (.int .u32), false⟩),
  (63, ⟨.err, 1, 16, [.err true], none, false⟩)]
theorem hTT : TFacts Tryd.prog (lookT TT) := tfacts_of (by kernel_rfl)
theorem mixed : Tryd.prog.follows .mixedOrders = true := by kernel_rfl
@[reducible] noncomputable def S_s_l01In : Sig := ⟨[], [.one, .one, .one], [.int .i64, .int .i64, .int .i64], [.one], [], [.bool]⟩
noncomputable def E_s_l01In : Callee1 := S_s_l01In.callee fun x => F_s_l01In x.1 x.2.1 x.2.2
@[reducible] noncomputable def S_s_l01Cell : Sig := ⟨[], [.one], [.int .i64], [.one], [], [.bool]⟩
noncomputable def E_s_l01Cell : Callee1 := S_s_l01Cell.callee fun x => F_s_l01Cell x
@[reducible] noncomputable def S_s_ActOK : Sig := ⟨[], [.agg 3], [.int .i64, .int .i64, .str], [.one], [], [.bool]⟩
noncomputable def E_s_ActOK : Callee1 := S_s_ActOK.callee fun x => F_s_ActOK x.1 x.2.1 x.2.2
@[reducible] noncomputable def S_s_l00Words : Sig := ⟨[], [.one], [.str], [.one], [], [.own .str]⟩
noncomputable def E_s_l00Words : Callee1 := S_s_l00Words.callee fun x => G_s_l00Words x
@[reducible] noncomputable def S_s_l13Acts : Sig := ⟨[], [], [], [.one], [], [.own .str]⟩
noncomputable def E_s_l13Acts : Callee1 := S_s_l13Acts.callee fun x => F_s_l13Acts
@[reducible] noncomputable def S_s_l13Place : Sig := ⟨[], [.one, .one], [.tr .str, .str], [.one], [], [.int .i64]⟩
noncomputable def E_s_l13Place : Callee1 := S_s_l13Place.callee fun x => G_s_l13Place x.1 x.2
@[reducible] noncomputable def S_s_l13Caps : Sig := ⟨[], [], [], [.one], [], [.own .str]⟩
noncomputable def E_s_l13Caps : Callee1 := S_s_l13Caps.callee fun x => F_s_l13Caps
@[reducible] noncomputable def S_s_l00Number : Sig := ⟨[], [.one], [.str], [.one, .one], [], [.int .i64, .bool]⟩
noncomputable def E_s_l00Number : Callee1 := S_s_l00Number.callee fun x => G_s_l00Number x
@[reducible] noncomputable def S_s_l13Read : Sig := ⟨[], [.one], [.str], [.agg 3, .one], [], [.int .i64, .int .i64, .str, .bool]⟩
noncomputable def E_s_l13Read : Callee1 := S_s_l13Read.callee fun x => F_s_l13Read x
@[reducible] noncomputable def S_s_ReadAct : Sig := ⟨[], [.one], [.str], [.agg 3, .one], [], [.int .i64, .int .i64, .str, .int .i64]⟩
noncomputable def E_s_ReadAct : Callee1 := S_s_ReadAct.callee fun x => F_s_ReadAct x
@[reducible] noncomputable def S_stringslite_HasPrefix : Sig := ⟨[], [.one, .one], [.str, .str], [.one], [], [.bool]⟩
noncomputable def E_stringslite_HasPrefix : Callee1 := S_stringslite_HasPrefix.callee fun x => F_stringslite_HasPrefix x.1 x.2
@[reducible] noncomputable def S_stringslite_CutPrefix : Sig := ⟨[], [.one, .one], [.str, .str], [.one, .one], [], [.str, .bool]⟩
noncomputable def E_stringslite_CutPrefix : Callee1 := S_stringslite_CutPrefix.callee fun x => F_stringslite_CutPrefix x.1 x.2
@[reducible] noncomputable def S_strings_CutPrefix : Sig := ⟨[], [.one, .one], [.str, .str], [.one, .one], [], [.str, .bool]⟩
noncomputable def E_strings_CutPrefix : Callee1 := S_strings_CutPrefix.callee fun x => F_strings_CutPrefix x.1 x.2
@[reducible] noncomputable def S_i_in : Sig := ⟨[], [.one, .one, .one], [.int .i64, .int .i64, .int .i64], [.one], [], [.bool]⟩
noncomputable def E_i_in : Callee1 := S_i_in.callee fun x => F_i_in x.1 x.2.1 x.2.2
@[reducible] noncomputable def S_i_isCap : Sig := ⟨[], [.one], [.int .i64], [.one], [], [.bool]⟩
noncomputable def E_i_isCap : Callee1 := S_i_isCap.callee fun x => F_i_isCap x
@[reducible] noncomputable def S_i_WrapCell : Sig := ⟨[], [.one], [.int .i64], [.one], [], [.int .i64]⟩
noncomputable def E_i_WrapCell : Callee1 := S_i_WrapCell.callee fun x => F_i_WrapCell x
@[reducible] noncomputable def S_i_CellOK : Sig := ⟨[], [.one], [.int .i64], [.one], [], [.bool]⟩
noncomputable def E_i_CellOK : Callee1 := S_i_CellOK.callee fun x => F_i_CellOK x
@[reducible] noncomputable def S_i_ActOK : Sig := ⟨[], [.agg 3], [.int .i64, .int .i64, .str], [.one], [], [.bool]⟩
noncomputable def E_i_ActOK : Callee1 := S_i_ActOK.callee fun x => F_i_ActOK x.1 x.2.1 x.2.2
@[reducible] noncomputable def S_strings_Split : Sig := ⟨[], [.one, .one], [.str, .str], [.one], [], [.own .str]⟩
noncomputable def E_strings_Split : Callee1 := S_strings_Split.callee fun x => G_strings_Split x.1 x.2
@[reducible] noncomputable def S_i_wordsOf_c1 : Sig := ⟨[], [.one], [.str], [.one], [], [.bool]⟩
noncomputable def E_i_wordsOf_c1 : Callee1 := S_i_wordsOf_c1.callee fun x => F_i_wordsOf_c1 x
@[reducible] noncomputable def S_slices_IndexFunc_Sstring_string_at_i_wordsOf_c1 : Sig := ⟨[], [.one, .fn 47 []], [.tr .str], [.one], [], [.int .i64]⟩
noncomputable def E_slices_IndexFunc_Sstring_string_at_i_wordsOf_c1 : Callee1 := S_slices_IndexFunc_Sstring_string_at_i_wordsOf_c1.callee fun x => G_slices_IndexFunc_Sstring_string_at_i_wordsOf_c1 x
@[reducible] noncomputable def S_slices_DeleteFunc_Sstring_string_at_i_wordsOf_c1 : Sig := ⟨[1], [.own false, .fn 47 []], [.own .str], [.one], [], [.own .str]⟩
noncomputable def E_slices_DeleteFunc_Sstring_string_at_i_wordsOf_c1 : Callee1 := S_slices_DeleteFunc_Sstring_string_at_i_wordsOf_c1.callee fun x => G_slices_DeleteFunc_Sstring_string_at_i_wordsOf_c1 x
@[reducible] noncomputable def S_i_wordsOf : Sig := ⟨[], [.one], [.str], [.one], [], [.own .str]⟩
noncomputable def E_i_wordsOf : Callee1 := S_i_wordsOf.callee fun x => F_i_wordsOf x
@[reducible] noncomputable def S_i_actWords : Sig := ⟨[], [], [], [.one], [], [.own .str]⟩
noncomputable def E_i_actWords : Callee1 := S_i_actWords.callee fun x => F_i_actWords
@[reducible] noncomputable def S_slices_Index_Sstring_string : Sig := ⟨[], [.one, .one], [.tr .str, .str], [.one], [], [.int .i64]⟩
noncomputable def E_slices_Index_Sstring_string : Callee1 := S_slices_Index_Sstring_string.callee fun x => G_slices_Index_Sstring_string x.1 x.2
@[reducible] noncomputable def S_i_capWords : Sig := ⟨[], [], [], [.one], [], [.own .str]⟩
noncomputable def E_i_capWords : Callee1 := S_i_capWords.callee fun x => F_i_capWords
@[reducible] noncomputable def S_strconv_Atoi : Sig := ⟨[], [.one], [.str], [.one, .one], [], [.int .i64, .err]⟩
noncomputable def E_strconv_Atoi : Callee1 := S_strconv_Atoi.callee fun x => G_strconv_Atoi x
@[reducible] noncomputable def S_strconv_Itoa : Sig := ⟨[], [.one], [.int .i64], [.one], [], [.str]⟩
noncomputable def E_strconv_Itoa : Callee1 := S_strconv_Itoa.callee fun x => G_strconv_Itoa x
@[reducible] noncomputable def S_stringslite_TrimPrefix : Sig := ⟨[], [.one, .one], [.str, .str], [.one], [], [.str]⟩
noncomputable def E_stringslite_TrimPrefix : Callee1 := S_stringslite_TrimPrefix.callee fun x => F_stringslite_TrimPrefix x.1 x.2
@[reducible] noncomputable def S_strings_TrimPrefix : Sig := ⟨[], [.one, .one], [.str, .str], [.one], [], [.str]⟩
noncomputable def E_strings_TrimPrefix : Callee1 := S_strings_TrimPrefix.callee fun x => F_strings_TrimPrefix x.1 x.2
@[reducible] noncomputable def S_i_readInt : Sig := ⟨[], [.one], [.str], [.one, .one], [], [.int .i64, .bool]⟩
noncomputable def E_i_readInt : Callee1 := S_i_readInt.callee fun x => F_i_readInt x
@[reducible] noncomputable def S_i_readAct : Sig := ⟨[], [.one], [.str], [.agg 3, .one], [], [.int .i64, .int .i64, .str, .bool]⟩
noncomputable def E_i_readAct : Callee1 := S_i_readAct.callee fun x => F_i_readAct x
@[reducible] noncomputable def S_i_ReadAct : Sig := ⟨[], [.one], [.str], [.agg 3, .one], [], [.int .i64, .int .i64, .str, .int .i64]⟩
noncomputable def E_i_ReadAct : Callee1 := S_i_ReadAct.callee fun x => F_i_ReadAct x
@[reducible] noncomputable def S_l_eqAct : Sig := ⟨[], [.agg 3, .agg 3], [.int .i64, .int .i64, .str, .int .i64, .int .i64, .str], [.one], [], [.bool]⟩
noncomputable def E_l_eqAct : Callee1 := S_l_eqAct.callee fun x => F_l_eqAct x.1 x.2.1 x.2.2.1 x.2.2.2.1 x.2.2.2.2.1 x.2.2.2.2.2
@[reducible] noncomputable def S_l_FnExactReadAct : Sig := ⟨[], [.one], [.str], [.one], [], [.bool]⟩
noncomputable def E_l_FnExactReadAct : Callee1 := S_l_FnExactReadAct.callee fun x => F_l_FnExactReadAct x
@[reducible] noncomputable def S_s_l00Source : Sig := ⟨[], [.one], [.tr (.int .u8)], [.box 3], [], [.tr (.int .u8), .int .i64, .int .i64]⟩
noncomputable def E_s_l00Source : Callee1 := S_s_l00Source.callee fun x => F_s_l00Source x
@[reducible] noncomputable def S_s_l00Src_byte : Sig := ⟨[], [.io 3], [.tr (.int .u8), .int .i64, .int .i64], [.one], [3], [.int .i64, .tr (.int .u8), .int .i64, .int .i64]⟩
noncomputable def E_s_l00Src_byte : Callee1 := S_s_l00Src_byte.callee fun x => F_s_l00Src_byte x.1 x.2.1 x.2.2
@[reducible] noncomputable def S_s_l00Src_next : Sig := ⟨[], [.io 3, .one], [.tr (.int .u8), .int .i64, .int .i64, .int .i64], [.one], [3], [.int .i64, .tr (.int .u8), .int .i64, .int .i64]⟩
noncomputable def E_s_l00Src_next : Callee1 := S_s_l00Src_next.callee fun x => F_s_l00Src_next x.1 x.2.1 x.2.2.1 x.2.2.2
@[reducible] noncomputable def S_s_l01Wrap : Sig := ⟨[], [.one], [.int .i64], [.one], [], [.int .i64]⟩
noncomputable def E_s_l01Wrap : Callee1 := S_s_l01Wrap.callee fun x => F_s_l01Wrap x
@[reducible] noncomputable def S_s_l00Src_cell : Sig := ⟨[], [.io 3], [.tr (.int .u8), .int .i64, .int .i64], [.one], [3], [.int .i64, .tr (.int .u8), .int .i64, .int .i64]⟩
noncomputable def E_s_l00Src_cell : Callee1 := S_s_l00Src_cell.callee fun x => F_s_l00Src_cell x.1 x.2.1 x.2.2
@[reducible] noncomputable def S_s_l00Src_pick : Sig := ⟨[], [.io 3, .one], [.tr (.int .u8), .int .i64, .int .i64, .tr .str], [.one], [3], [.str, .tr (.int .u8), .int .i64, .int .i64]⟩
noncomputable def E_s_l00Src_pick : Callee1 := S_s_l00Src_pick.callee fun x => F_s_l00Src_pick x.1 x.2.1 x.2.2.1 x.2.2.2
@[reducible] noncomputable def S_s_l00Src_plain : Sig := ⟨[], [.io 3], [.tr (.int .u8), .int .i64, .int .i64], [.one], [3], [.str, .tr (.int .u8), .int .i64, .int .i64]⟩
noncomputable def E_s_l00Src_plain : Callee1 := S_s_l00Src_plain.callee fun x => F_s_l00Src_plain x.1 x.2.1 x.2.2
@[reducible] noncomputable def S_s_l00Src_chance : Sig := ⟨[], [.io 3, .one], [.tr (.int .u8), .int .i64, .int .i64, .int .i64], [.one], [3], [.bool, .tr (.int .u8), .int .i64, .int .i64]⟩
noncomputable def E_s_l00Src_chance : Callee1 := S_s_l00Src_chance.callee fun x => F_s_l00Src_chance x.1 x.2.1 x.2.2.1 x.2.2.2
@[reducible] noncomputable def S_s_l00Src_inside : Sig := ⟨[], [.io 3, .one], [.tr (.int .u8), .int .i64, .int .i64, .int .i64], [.one], [3], [.str, .tr (.int .u8), .int .i64, .int .i64]⟩
noncomputable def E_s_l00Src_inside : Callee1 := S_s_l00Src_inside.callee fun x => G_s_l00Src_inside x.1 x.2.1 x.2.2.1 x.2.2.2
@[reducible] noncomputable def S_s_l00Src_forthLine : Sig := ⟨[], [.io 3], [.tr (.int .u8), .int .i64, .int .i64], [.one], [3], [.str, .tr (.int .u8), .int .i64, .int .i64]⟩
noncomputable def E_s_l00Src_forthLine : Callee1 := S_s_l00Src_forthLine.callee fun x => F_s_l00Src_forthLine x.1 x.2.1 x.2.2
@[reducible] noncomputable def S_s_l00Src_act : Sig := ⟨[], [.io 3], [.tr (.int .u8), .int .i64, .int .i64], [.agg 3], [3], [.int .i64, .int .i64, .str, .tr (.int .u8), .int .i64, .int .i64]⟩
noncomputable def E_s_l00Src_act : Callee1 := S_s_l00Src_act.callee fun x => F_s_l00Src_act x.1 x.2.1 x.2.2
@[reducible] noncomputable def S_s_l00Digits : Sig := ⟨[], [.one], [.int .i64], [.one], [], [.str]⟩
noncomputable def E_s_l00Digits : Callee1 := S_s_l00Digits.callee fun x => G_s_l00Digits x
@[reducible] noncomputable def S_s_l13Act : Sig := ⟨[], [.agg 3], [.int .i64, .int .i64, .str], [.one], [], [.str]⟩
noncomputable def E_s_l13Act : Callee1 := S_s_l13Act.callee fun x => F_s_l13Act x.1 x.2.1 x.2.2
@[reducible] noncomputable def S_s_l00Src_actLine : Sig := ⟨[], [.io 3], [.tr (.int .u8), .int .i64, .int .i64], [.one], [3], [.str, .tr (.int .u8), .int .i64, .int .i64]⟩
noncomputable def E_s_l00Src_actLine : Callee1 := S_s_l00Src_actLine.callee fun x => F_s_l00Src_actLine x.1 x.2.1 x.2.2
@[reducible] noncomputable def S_s_ActLine : Sig := ⟨[], [.one], [.tr (.int .u8)], [.one], [], [.str]⟩
noncomputable def E_s_ActLine : Callee1 := S_s_ActLine.callee fun x => F_s_ActLine x
@[reducible] noncomputable def S_s_ActDrawn : Sig := ⟨[], [.one], [.tr (.int .u8)], [.agg 3], [], [.int .i64, .int .i64, .str]⟩
noncomputable def E_s_ActDrawn : Callee1 := S_s_ActDrawn.callee fun x => F_s_ActDrawn x
@[reducible] noncomputable def S_i_spaced : Sig := ⟨[], [.one], [.tr (.int .i64)], [.one], [], [.str]⟩
noncomputable def E_i_spaced : Callee1 := S_i_spaced.callee fun x => G_i_spaced x
@[reducible] noncomputable def S_i_ActText : Sig := ⟨[], [.agg 3], [.int .i64, .int .i64, .str], [.one, .one], [], [.str, .int .i64]⟩
noncomputable def E_i_ActText : Callee1 := S_i_ActText.callee fun x => F_i_ActText x.1 x.2.1 x.2.2
@[reducible] noncomputable def S_s_ActText : Sig := ⟨[], [.agg 3], [.int .i64, .int .i64, .str], [.one, .one], [], [.str, .int .i64]⟩
noncomputable def E_s_ActText : Callee1 := S_s_ActText.callee fun x => F_s_ActText x.1 x.2.1 x.2.2
@[reducible] noncomputable def S_l_FnActTexts : Sig := ⟨[], [.one, .one], [.tr (.int .u8), .tr (.int .u8)], [.one], [], [.bool]⟩
noncomputable def E_l_FnActTexts : Callee1 := S_l_FnActTexts.callee fun x => F_l_FnActTexts x.1 x.2
end
end Go.M
