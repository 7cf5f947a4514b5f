/- AR: made by program for this claim. -/
import Derived.Test.YtiphonlbkhfhcaaDoorAL
import Derived.Test.YtiphonlbkhfhcaaDoorAGok
set_option linter.unusedVariables false
set_option maxRecDepth 100000
namespace Go.M
open Go Go.Proofs
noncomputable section
noncomputable def Γ_s_l01In : Tab := []
theorem tab_s_l01In : TabOK Tryd.prog Jv Γ_s_l01In := tab_nil
theorem run_s_l01In (N : Nat) (x0 : Int) (x1 : Int) (x2 : Int) : run ⟨lookT TT, Γ_s_l01In, 0, annL [], N, []⟩ Tryd.f40 [.one (.int .i64 x0), .one (.int .i64 x1), .one (.int .i64 x2)] S_s_l01In.fin = F_s_l01In x0 x1 x2 := by kernel_rfl
theorem snd_s_l01In : Sound Tryd.prog Jv 40 E_s_l01In :=
  sound_sig S_s_l01In hTT tab_s_l01In mixed Tryd.func40 (by decide) (by kernel_rfl) (by kernel_rfl) fun x r _ h => ⟨_, 0, _, (run_s_l01In 0 x.1 x.2.1 x.2.2).trans h⟩

noncomputable def Γ_s_l01Cell : Tab := [(40, E_s_l01In)]
theorem tab_s_l01Cell : TabOK Tryd.prog Jv Γ_s_l01Cell := tab_cons snd_s_l01In (tab_nil)
theorem run_s_l01Cell (N : Nat) (x0 : Int) : run ⟨lookT TT, Γ_s_l01Cell, 0, annL [], N, []⟩ Tryd.f41 [.one (.int .i64 x0)] S_s_l01Cell.fin = F_s_l01Cell x0 := by kernel_rfl
theorem snd_s_l01Cell : Sound Tryd.prog Jv 41 E_s_l01Cell :=
  sound_sig S_s_l01Cell hTT tab_s_l01Cell mixed Tryd.func41 (by decide) (by kernel_rfl) (by kernel_rfl) fun x r _ h => ⟨_, 0, _, (run_s_l01Cell 0 x).trans h⟩

noncomputable def Γ_s_ActOK : Tab := [(40, E_s_l01In), (41, E_s_l01Cell)]
theorem tab_s_ActOK : TabOK Tryd.prog Jv Γ_s_ActOK := tab_cons snd_s_l01In (tab_cons snd_s_l01Cell (tab_nil))
theorem run_s_ActOK (N : Nat) (x0 : Int) (x1 : Int) (x2 : ByteArray) : run ⟨lookT TT, Γ_s_ActOK, 0, annL [], N, []⟩ Tryd.f21 [.agg [.int .i64 x0, .int .i64 x1, .str x2]] S_s_ActOK.fin = F_s_ActOK x0 x1 x2 := by kernel_rfl
theorem snd_s_ActOK : Sound Tryd.prog Jv 21 E_s_ActOK :=
  sound_sig S_s_ActOK hTT tab_s_ActOK mixed Tryd.func21 (by decide) (by kernel_rfl) (by kernel_rfl) fun x r _ h => ⟨_, 0, _, (run_s_ActOK 0 x.1 x.2.1 x.2.2).trans h⟩

noncomputable def Γ_s_l00Words : Tab := []
theorem tab_s_l00Words : TabOK Tryd.prog Jv Γ_s_l00Words := tab_nil
noncomputable def R_s_l00Words_L4 (N : Nat) (n : Nat) (p0 : ByteArray) (p1 : Int) (p2 : Int) (p3 : List ByteArray) : Option ((List ByteArray)) := runAt ⟨lookT TT, Γ_s_l00Words, 0, annL [(4, [0, 3, 4, 5])], N, []⟩ Tryd.f26 0 4 n [] ⟨ofKept [(0, one (.str p0)), (3, one (.sl 0 0 0 none)), (4, one (.int .i64 p1)), (5, one (.int .i64 p2))], ofObjs [some ⟨0, 0, false, false, .arr .str p3⟩], 128⟩ S_s_l00Words.fin
theorem R_s_l00Words_L4_succ (N : Nat) (n : Nat) (p0 : ByteArray) (p1 : Int) (p2 : Int) (p3 : List ByteArray) : R_s_l00Words_L4 N (n + 1) p0 p1 p2 p3 = B_s_l00Words_L4 N n (R_s_l00Words_L4 N) p0 p1 p2 p3 := by kernel_rfl
theorem run_s_l00Words (N : Nat) (x0 : ByteArray) : run ⟨lookT TT, Γ_s_l00Words, 0, annL [(4, [0, 3, 4, 5])], N, []⟩ Tryd.f26 [.one (.str x0)] S_s_l00Words.fin = FB_s_l00Words N (R_s_l00Words_L4 N) x0 := by kernel_rfl
theorem R_s_l00Words_L4_eq (N : Nat) : ∀ n, R_s_l00Words_L4 N n = L_s_l00Words_L4 N n
  | 0 => rfl
  | n + 1 => by
    have ih := R_s_l00Words_L4_eq N n
    funext p0 p1 p2 p3
    rw [R_s_l00Words_L4_succ]
    show _ = B_s_l00Words_L4 N n (fun _ p0 p1 p2 p3 => L_s_l00Words_L4 N n p0 p1 p2 p3) p0 p1 p2 p3
    unfold B_s_l00Words_L4
    simp only [ih]
theorem runF_s_l00Words (N : Nat) (x0 : ByteArray) : run ⟨lookT TT, Γ_s_l00Words, 0, annL [(4, [0, 3, 4, 5])], N, []⟩ Tryd.f26 [.one (.str x0)] S_s_l00Words.fin = F_s_l00Words N x0 := by
  rw [run_s_l00Words]
  unfold F_s_l00Words FB_s_l00Words
  simp only [R_s_l00Words_L4_eq]
theorem sndN_s_l00Words (N : Nat) : Sound Tryd.prog Jv 26 (S_s_l00Words.callee fun x => F_s_l00Words N x) :=
  sound_sig S_s_l00Words hTT tab_s_l00Words mixed Tryd.func26 (by decide) (by kernel_rfl) (by kernel_rfl) fun x r _ h => ⟨_, N, _, (runF_s_l00Words N x).trans h⟩
theorem snd_s_l00Words : Sound Tryd.prog Jv 26 E_s_l00Words :=
  sound_weaker S_s_l00Words 0 (F := fun N x => F_s_l00Words N x) sndN_s_l00Words fun x r hf h => G_s_l00Words_ok x h

noncomputable def Γ_s_l13Acts : Tab := []
theorem tab_s_l13Acts : TabOK Tryd.prog Jv Γ_s_l13Acts := tab_nil
theorem run_s_l13Acts (N : Nat)  : run ⟨lookT TT, Γ_s_l13Acts, 0, annL [], N, []⟩ Tryd.f28 [] S_s_l13Acts.fin = F_s_l13Acts  := by kernel_rfl
theorem snd_s_l13Acts : Sound Tryd.prog Jv 28 E_s_l13Acts :=
  sound_sig S_s_l13Acts hTT tab_s_l13Acts mixed Tryd.func28 (by decide) (by kernel_rfl) (by kernel_rfl) fun x r _ h => ⟨_, 0, _, (run_s_l13Acts 0).trans h⟩

noncomputable def Γ_s_l13Place : Tab := []
theorem tab_s_l13Place : TabOK Tryd.prog Jv Γ_s_l13Place := tab_nil
noncomputable def R_s_l13Place_L2 (N : Nat) (n : Nat) (p0 : List ByteArray) (p1 : ByteArray) (p2 : Int) : Option (Int) := runAt ⟨lookT TT, Γ_s_l13Place, 0, annL [(2, [0, 1, 5])], N, []⟩ Tryd.f27 0 2 n [] ⟨ofKept [(0, one (.tr .str p0)), (1, one (.str p1)), (5, one (.int .i64 p2))], ofObjs [], 64⟩ S_s_l13Place.fin
theorem R_s_l13Place_L2_succ (N : Nat) (n : Nat) (p0 : List ByteArray) (p1 : ByteArray) (p2 : Int) : R_s_l13Place_L2 N (n + 1) p0 p1 p2 = B_s_l13Place_L2 N n (R_s_l13Place_L2 N) p0 p1 p2 := by kernel_rfl
theorem run_s_l13Place (N : Nat) (x0 : List ByteArray) (x1 : ByteArray) : run ⟨lookT TT, Γ_s_l13Place, 0, annL [(2, [0, 1, 5])], N, []⟩ Tryd.f27 [.one (.tr .str x0), .one (.str x1)] S_s_l13Place.fin = FB_s_l13Place N (R_s_l13Place_L2 N) x0 x1 := by kernel_rfl
theorem R_s_l13Place_L2_eq (N : Nat) : ∀ n, R_s_l13Place_L2 N n = L_s_l13Place_L2 N n
  | 0 => rfl
  | n + 1 => by
    have ih := R_s_l13Place_L2_eq N n
    funext p0 p1 p2
    rw [R_s_l13Place_L2_succ]
    show _ = B_s_l13Place_L2 N n (fun _ p0 p1 p2 => L_s_l13Place_L2 N n p0 p1 p2) p0 p1 p2
    unfold B_s_l13Place_L2
    simp only [ih]
theorem runF_s_l13Place (N : Nat) (x0 : List ByteArray) (x1 : ByteArray) : run ⟨lookT TT, Γ_s_l13Place, 0, annL [(2, [0, 1, 5])], N, []⟩ Tryd.f27 [.one (.tr .str x0), .one (.str x1)] S_s_l13Place.fin = F_s_l13Place N x0 x1 := by
  rw [run_s_l13Place]
  unfold F_s_l13Place FB_s_l13Place
  simp only [R_s_l13Place_L2_eq]
theorem sndN_s_l13Place (N : Nat) : Sound Tryd.prog Jv 27 (S_s_l13Place.callee fun x => F_s_l13Place N x.1 x.2) :=
  sound_sig S_s_l13Place hTT tab_s_l13Place mixed Tryd.func27 (by decide) (by kernel_rfl) (by kernel_rfl) fun x r _ h => ⟨_, N, _, (runF_s_l13Place N x.1 x.2).trans h⟩
theorem snd_s_l13Place : Sound Tryd.prog Jv 27 E_s_l13Place :=
  sound_weaker S_s_l13Place 0 (F := fun N x => F_s_l13Place N x.1 x.2) sndN_s_l13Place fun x r hf h => G_s_l13Place_ok x.1 x.2 (hf.lenOK (.one (.tr .str x.1)) (show _ ∈ ([.one (.tr .str x.1), .one (.str x.2)] : List Arg) from .head _)) h

noncomputable def Γ_s_l13Caps : Tab := []
theorem tab_s_l13Caps : TabOK Tryd.prog Jv Γ_s_l13Caps := tab_nil
theorem run_s_l13Caps (N : Nat)  : run ⟨lookT TT, Γ_s_l13Caps, 0, annL [], N, []⟩ Tryd.f29 [] S_s_l13Caps.fin = F_s_l13Caps  := by kernel_rfl
theorem snd_s_l13Caps : Sound Tryd.prog Jv 29 E_s_l13Caps :=
  sound_sig S_s_l13Caps hTT tab_s_l13Caps mixed Tryd.func29 (by decide) (by kernel_rfl) (by kernel_rfl) fun x r _ h => ⟨_, 0, _, (run_s_l13Caps 0).trans h⟩

noncomputable def Γ_s_l00Number : Tab := []
theorem tab_s_l00Number : TabOK Tryd.prog Jv Γ_s_l00Number := tab_nil
noncomputable def R_s_l00Number_L9 (N : Nat) (n : Nat) (p0 : ByteArray) (p1 : Int) (p2 : Int) (p3 : Int) : Option (Int × Bool) := runAt ⟨lookT TT, Γ_s_l00Number, 0, annL [(9, [0, 4, 5, 6])], N, []⟩ Tryd.f30 0 9 n [] ⟨ofKept [(0, one (.str p0)), (4, one (.int .i64 p1)), (5, one (.int .i64 p2)), (6, one (.int .i64 p3))], ofObjs [], 64⟩ S_s_l00Number.fin
theorem R_s_l00Number_L9_succ (N : Nat) (n : Nat) (p0 : ByteArray) (p1 : Int) (p2 : Int) (p3 : Int) : R_s_l00Number_L9 N (n + 1) p0 p1 p2 p3 = B_s_l00Number_L9 N n (R_s_l00Number_L9 N) p0 p1 p2 p3 := by kernel_rfl
theorem run_s_l00Number (N : Nat) (x0 : ByteArray) : run ⟨lookT TT, Γ_s_l00Number, 0, annL [(9, [0, 4, 5, 6])], N, []⟩ Tryd.f30 [.one (.str x0)] S_s_l00Number.fin = FB_s_l00Number N (R_s_l00Number_L9 N) x0 := by kernel_rfl
theorem R_s_l00Number_L9_eq (N : Nat) : ∀ n, R_s_l00Number_L9 N n = L_s_l00Number_L9 N n
  | 0 => rfl
  | n + 1 => by
    have ih := R_s_l00Number_L9_eq N n
    funext p0 p1 p2 p3
    rw [R_s_l00Number_L9_succ]
    show _ = B_s_l00Number_L9 N n (fun _ p0 p1 p2 p3 => L_s_l00Number_L9 N n p0 p1 p2 p3) p0 p1 p2 p3
    unfold B_s_l00Number_L9
    simp only [ih]
theorem runF_s_l00Number (N : Nat) (x0 : ByteArray) : run ⟨lookT TT, Γ_s_l00Number, 0, annL [(9, [0, 4, 5, 6])], N, []⟩ Tryd.f30 [.one (.str x0)] S_s_l00Number.fin = F_s_l00Number N x0 := by
  rw [run_s_l00Number]
  unfold F_s_l00Number FB_s_l00Number
  simp only [R_s_l00Number_L9_eq]
theorem sndN_s_l00Number (N : Nat) : Sound Tryd.prog Jv 30 (S_s_l00Number.callee fun x => F_s_l00Number N x) :=
  sound_sig S_s_l00Number hTT tab_s_l00Number mixed Tryd.func30 (by decide) (by kernel_rfl) (by kernel_rfl) fun x r _ h => ⟨_, N, _, (runF_s_l00Number N x).trans h⟩
theorem snd_s_l00Number : Sound Tryd.prog Jv 30 E_s_l00Number :=
  sound_weaker S_s_l00Number 0 (F := fun N x => F_s_l00Number N x) sndN_s_l00Number fun x r hf h => G_s_l00Number_ok x h

noncomputable def Γ_s_l13Read : Tab := [(21, E_s_ActOK), (26, E_s_l00Words), (28, E_s_l13Acts), (27, E_s_l13Place), (29, E_s_l13Caps), (30, E_s_l00Number)]
theorem tab_s_l13Read : TabOK Tryd.prog Jv Γ_s_l13Read := tab_cons snd_s_ActOK (tab_cons snd_s_l00Words (tab_cons snd_s_l13Acts (tab_cons snd_s_l13Place (tab_cons snd_s_l13Caps (tab_cons snd_s_l00Number (tab_nil))))))
theorem run_s_l13Read (N : Nat) (x0 : ByteArray) : run ⟨lookT TT, Γ_s_l13Read, 0, annL [], N, []⟩ Tryd.f13 [.one (.str x0)] S_s_l13Read.fin = F_s_l13Read x0 := by kernel_rfl
theorem snd_s_l13Read : Sound Tryd.prog Jv 13 E_s_l13Read :=
  sound_sig S_s_l13Read hTT tab_s_l13Read mixed Tryd.func13 (by decide) (by kernel_rfl) (by kernel_rfl) fun x r _ h => ⟨_, 0, _, (run_s_l13Read 0 x).trans h⟩

noncomputable def Γ_s_ReadAct : Tab := [(13, E_s_l13Read)]
theorem tab_s_ReadAct : TabOK Tryd.prog Jv Γ_s_ReadAct := tab_cons snd_s_l13Read (tab_nil)
theorem run_s_ReadAct (N : Nat) (x0 : ByteArray) : run ⟨lookT TT, Γ_s_ReadAct, 0, annL [], N, []⟩ Tryd.f5 [.one (.str x0)] S_s_ReadAct.fin = F_s_ReadAct x0 := by kernel_rfl
theorem snd_s_ReadAct : Sound Tryd.prog Jv 5 E_s_ReadAct :=
  sound_sig S_s_ReadAct hTT tab_s_ReadAct mixed Tryd.func5 (by decide) (by kernel_rfl) (by kernel_rfl) fun x r _ h => ⟨_, 0, _, (run_s_ReadAct 0 x).trans h⟩

noncomputable def Γ_stringslite_HasPrefix : Tab := []
theorem tab_stringslite_HasPrefix : TabOK Tryd.prog Jv Γ_stringslite_HasPrefix := tab_nil
theorem run_stringslite_HasPrefix (N : Nat) (x0 : ByteArray) (x1 : ByteArray) : run ⟨lookT TT, Γ_stringslite_HasPrefix, 0, annL [], N, []⟩ Tryd.f54 [.one (.str x0), .one (.str x1)] S_stringslite_HasPrefix.fin = F_stringslite_HasPrefix x0 x1 := by kernel_rfl
theorem snd_stringslite_HasPrefix : Sound Tryd.prog Jv 54 E_stringslite_HasPrefix :=
  sound_sig S_stringslite_HasPrefix hTT tab_stringslite_HasPrefix mixed Tryd.func54 (by decide) (by kernel_rfl) (by kernel_rfl) fun x r _ h => ⟨_, 0, _, (run_stringslite_HasPrefix 0 x.1 x.2).trans h⟩

noncomputable def Γ_stringslite_CutPrefix : Tab := [(54, E_stringslite_HasPrefix)]
theorem tab_stringslite_CutPrefix : TabOK Tryd.prog Jv Γ_stringslite_CutPrefix := tab_cons snd_stringslite_HasPrefix (tab_nil)
theorem run_stringslite_CutPrefix (N : Nat) (x0 : ByteArray) (x1 : ByteArray) : run ⟨lookT TT, Γ_stringslite_CutPrefix, 0, annL [], N, []⟩ Tryd.f44 [.one (.str x0), .one (.str x1)] S_stringslite_CutPrefix.fin = F_stringslite_CutPrefix x0 x1 := by kernel_rfl
theorem snd_stringslite_CutPrefix : Sound Tryd.prog Jv 44 E_stringslite_CutPrefix :=
  sound_sig S_stringslite_CutPrefix hTT tab_stringslite_CutPrefix mixed Tryd.func44 (by decide) (by kernel_rfl) (by kernel_rfl) fun x r _ h => ⟨_, 0, _, (run_stringslite_CutPrefix 0 x.1 x.2).trans h⟩

noncomputable def Γ_strings_CutPrefix : Tab := [(44, E_stringslite_CutPrefix)]
theorem tab_strings_CutPrefix : TabOK Tryd.prog Jv Γ_strings_CutPrefix := tab_cons snd_stringslite_CutPrefix (tab_nil)
theorem run_strings_CutPrefix (N : Nat) (x0 : ByteArray) (x1 : ByteArray) : run ⟨lookT TT, Γ_strings_CutPrefix, 0, annL [], N, []⟩ Tryd.f31 [.one (.str x0), .one (.str x1)] S_strings_CutPrefix.fin = F_strings_CutPrefix x0 x1 := by kernel_rfl
theorem snd_strings_CutPrefix : Sound Tryd.prog Jv 31 E_strings_CutPrefix :=
  sound_sig S_strings_CutPrefix hTT tab_strings_CutPrefix mixed Tryd.func31 (by decide) (by kernel_rfl) (by kernel_rfl) fun x r _ h => ⟨_, 0, _, (run_strings_CutPrefix 0 x.1 x.2).trans h⟩

noncomputable def Γ_i_in : Tab := []
theorem tab_i_in : TabOK Tryd.prog Jv Γ_i_in := tab_nil
theorem run_i_in (N : Nat) (x0 : Int) (x1 : Int) (x2 : Int) : run ⟨lookT TT, Γ_i_in, 0, annL [], N, []⟩ Tryd.f24 [.one (.int .i64 x0), .one (.int .i64 x1), .one (.int .i64 x2)] S_i_in.fin = F_i_in x0 x1 x2 := by kernel_rfl
theorem snd_i_in : Sound Tryd.prog Jv 24 E_i_in :=
  sound_sig S_i_in hTT tab_i_in mixed Tryd.func24 (by decide) (by kernel_rfl) (by kernel_rfl) fun x r _ h => ⟨_, 0, _, (run_i_in 0 x.1 x.2.1 x.2.2).trans h⟩

noncomputable def Γ_i_isCap : Tab := [(24, E_i_in)]
theorem tab_i_isCap : TabOK Tryd.prog Jv Γ_i_isCap := tab_cons snd_i_in (tab_nil)
theorem run_i_isCap (N : Nat) (x0 : Int) : run ⟨lookT TT, Γ_i_isCap, 0, annL [], N, []⟩ Tryd.f23 [.one (.int .i64 x0)] S_i_isCap.fin = F_i_isCap x0 := by kernel_rfl
theorem snd_i_isCap : Sound Tryd.prog Jv 23 E_i_isCap :=
  sound_sig S_i_isCap hTT tab_i_isCap mixed Tryd.func23 (by decide) (by kernel_rfl) (by kernel_rfl) fun x r _ h => ⟨_, 0, _, (run_i_isCap 0 x).trans h⟩

noncomputable def Γ_i_WrapCell : Tab := []
theorem tab_i_WrapCell : TabOK Tryd.prog Jv Γ_i_WrapCell := tab_nil
theorem run_i_WrapCell (N : Nat) (x0 : Int) : run ⟨lookT TT, Γ_i_WrapCell, 0, annL [], N, []⟩ Tryd.f43 [.one (.int .i64 x0)] S_i_WrapCell.fin = F_i_WrapCell x0 := by kernel_rfl
theorem snd_i_WrapCell : Sound Tryd.prog Jv 43 E_i_WrapCell :=
  sound_sig S_i_WrapCell hTT tab_i_WrapCell mixed Tryd.func43 (by decide) (by kernel_rfl) (by kernel_rfl) fun x r _ h => ⟨_, 0, _, (run_i_WrapCell 0 x).trans h⟩

noncomputable def Γ_i_CellOK : Tab := [(43, E_i_WrapCell)]
theorem tab_i_CellOK : TabOK Tryd.prog Jv Γ_i_CellOK := tab_cons snd_i_WrapCell (tab_nil)
theorem run_i_CellOK (N : Nat) (x0 : Int) : run ⟨lookT TT, Γ_i_CellOK, 0, annL [], N, []⟩ Tryd.f25 [.one (.int .i64 x0)] S_i_CellOK.fin = F_i_CellOK x0 := by kernel_rfl
theorem snd_i_CellOK : Sound Tryd.prog Jv 25 E_i_CellOK :=
  sound_sig S_i_CellOK hTT tab_i_CellOK mixed Tryd.func25 (by decide) (by kernel_rfl) (by kernel_rfl) fun x r _ h => ⟨_, 0, _, (run_i_CellOK 0 x).trans h⟩

noncomputable def Γ_i_ActOK : Tab := [(23, E_i_isCap), (24, E_i_in), (25, E_i_CellOK)]
theorem tab_i_ActOK : TabOK Tryd.prog Jv Γ_i_ActOK := tab_cons snd_i_isCap (tab_cons snd_i_in (tab_cons snd_i_CellOK (tab_nil)))
theorem run_i_ActOK (N : Nat) (x0 : Int) (x1 : Int) (x2 : ByteArray) : run ⟨lookT TT, Γ_i_ActOK, 0, annL [], N, []⟩ Tryd.f12 [.agg [.int .i64 x0, .int .i64 x1, .str x2]] S_i_ActOK.fin = F_i_ActOK x0 x1 x2 := by kernel_rfl
theorem snd_i_ActOK : Sound Tryd.prog Jv 12 E_i_ActOK :=
  sound_sig S_i_ActOK hTT tab_i_ActOK mixed Tryd.func12 (by decide) (by kernel_rfl) (by kernel_rfl) fun x r _ h => ⟨_, 0, _, (run_i_ActOK 0 x.1 x.2.1 x.2.2).trans h⟩

noncomputable def Γ_i_wordsOf_c1 : Tab := []
theorem tab_i_wordsOf_c1 : TabOK Tryd.prog Jv Γ_i_wordsOf_c1 := tab_nil
theorem run_i_wordsOf_c1 (N : Nat) (x0 : ByteArray) : run ⟨lookT TT, Γ_i_wordsOf_c1, 0, annL [], N, []⟩ Tryd.f47 [.one (.str x0)] S_i_wordsOf_c1.fin = F_i_wordsOf_c1 x0 := by kernel_rfl
theorem snd_i_wordsOf_c1 : Sound Tryd.prog Jv 47 E_i_wordsOf_c1 :=
  sound_sig S_i_wordsOf_c1 hTT tab_i_wordsOf_c1 mixed Tryd.func47 (by decide) (by kernel_rfl) (by kernel_rfl) fun x r _ h => ⟨_, 0, _, (run_i_wordsOf_c1 0 x).trans h⟩

noncomputable def Γ_slices_IndexFunc_Sstring_string_at_i_wordsOf_c1 : Tab := [(47, E_i_wordsOf_c1)]
theorem tab_slices_IndexFunc_Sstring_string_at_i_wordsOf_c1 : TabOK Tryd.prog Jv Γ_slices_IndexFunc_Sstring_string_at_i_wordsOf_c1 := tab_cons snd_i_wordsOf_c1 (tab_nil)
noncomputable def R_slices_IndexFunc_Sstring_string_at_i_wordsOf_c1_L2 (N : Nat) (n : Nat) (p0 : List ByteArray) (p1 : Int) (p2 : Int) : Option (Int) := runAt ⟨lookT TT, Γ_slices_IndexFunc_Sstring_string_at_i_wordsOf_c1, 0, annL [(2, [0, 1, 7, 8])], N, []⟩ Tryd.f55 0 2 n [] ⟨ofKept [(0, one (.tr .str p0)), (1, one (.fn 47 [])), (7, one (.int .i64 p1)), (8, one (.int .i64 p2))], ofObjs [], 64⟩ S_slices_IndexFunc_Sstring_string_at_i_wordsOf_c1.fin
theorem R_slices_IndexFunc_Sstring_string_at_i_wordsOf_c1_L2_succ (N : Nat) (n : Nat) (p0 : List ByteArray) (p1 : Int) (p2 : Int) : R_slices_IndexFunc_Sstring_string_at_i_wordsOf_c1_L2 N (n + 1) p0 p1 p2 = B_slices_IndexFunc_Sstring_string_at_i_wordsOf_c1_L2 N n (R_slices_IndexFunc_Sstring_string_at_i_wordsOf_c1_L2 N) p0 p1 p2 := by kernel_rfl
theorem run_slices_IndexFunc_Sstring_string_at_i_wordsOf_c1 (N : Nat) (x0 : List ByteArray) : run ⟨lookT TT, Γ_slices_IndexFunc_Sstring_string_at_i_wordsOf_c1, 0, annL [(2, [0, 1, 7, 8])], N, []⟩ Tryd.f55 [.one (.tr .str x0), .fn 47 []] S_slices_IndexFunc_Sstring_string_at_i_wordsOf_c1.fin = FB_slices_IndexFunc_Sstring_string_at_i_wordsOf_c1 N (R_slices_IndexFunc_Sstring_string_at_i_wordsOf_c1_L2 N) x0 := by kernel_rfl
theorem R_slices_IndexFunc_Sstring_string_at_i_wordsOf_c1_L2_eq (N : Nat) : ∀ n, R_slices_IndexFunc_Sstring_string_at_i_wordsOf_c1_L2 N n = L_slices_IndexFunc_Sstring_string_at_i_wordsOf_c1_L2 N n
  | 0 => rfl
  | n + 1 => by
    have ih := R_slices_IndexFunc_Sstring_string_at_i_wordsOf_c1_L2_eq N n
    funext p0 p1 p2
    rw [R_slices_IndexFunc_Sstring_string_at_i_wordsOf_c1_L2_succ]
    show _ = B_slices_IndexFunc_Sstring_string_at_i_wordsOf_c1_L2 N n (fun _ p0 p1 p2 => L_slices_IndexFunc_Sstring_string_at_i_wordsOf_c1_L2 N n p0 p1 p2) p0 p1 p2
    unfold B_slices_IndexFunc_Sstring_string_at_i_wordsOf_c1_L2
    simp only [ih]
theorem runF_slices_IndexFunc_Sstring_string_at_i_wordsOf_c1 (N : Nat) (x0 : List ByteArray) : run ⟨lookT TT, Γ_slices_IndexFunc_Sstring_string_at_i_wordsOf_c1, 0, annL [(2, [0, 1, 7, 8])], N, []⟩ Tryd.f55 [.one (.tr .str x0), .fn 47 []] S_slices_IndexFunc_Sstring_string_at_i_wordsOf_c1.fin = F_slices_IndexFunc_Sstring_string_at_i_wordsOf_c1 N x0 := by
  rw [run_slices_IndexFunc_Sstring_string_at_i_wordsOf_c1]
  unfold F_slices_IndexFunc_Sstring_string_at_i_wordsOf_c1 FB_slices_IndexFunc_Sstring_string_at_i_wordsOf_c1
  simp only [R_slices_IndexFunc_Sstring_string_at_i_wordsOf_c1_L2_eq]
theorem sndN_slices_IndexFunc_Sstring_string_at_i_wordsOf_c1 (N : Nat) : Sound Tryd.prog Jv 55 (S_slices_IndexFunc_Sstring_string_at_i_wordsOf_c1.callee fun x => F_slices_IndexFunc_Sstring_string_at_i_wordsOf_c1 N x) :=
  sound_sig S_slices_IndexFunc_Sstring_string_at_i_wordsOf_c1 hTT tab_slices_IndexFunc_Sstring_string_at_i_wordsOf_c1 mixed Tryd.func55 (by decide) (by kernel_rfl) (by kernel_rfl) fun x r _ h => ⟨_, N, _, (runF_slices_IndexFunc_Sstring_string_at_i_wordsOf_c1 N x).trans h⟩
theorem snd_slices_IndexFunc_Sstring_string_at_i_wordsOf_c1 : Sound Tryd.prog Jv 55 E_slices_IndexFunc_Sstring_string_at_i_wordsOf_c1 :=
  sound_weaker S_slices_IndexFunc_Sstring_string_at_i_wordsOf_c1 0 (F := fun N x => F_slices_IndexFunc_Sstring_string_at_i_wordsOf_c1 N x) sndN_slices_IndexFunc_Sstring_string_at_i_wordsOf_c1 fun x r hf h => G_slices_IndexFunc_Sstring_string_at_i_wordsOf_c1_ok x (hf.lenOK (.one (.tr .str x)) (show _ ∈ ([.one (.tr .str x), .fn 47 []] : List Arg) from .head _)) h

noncomputable def Γ_slices_DeleteFunc_Sstring_string_at_i_wordsOf_c1 : Tab := [(55, E_slices_IndexFunc_Sstring_string_at_i_wordsOf_c1), (47, E_i_wordsOf_c1)]
theorem tab_slices_DeleteFunc_Sstring_string_at_i_wordsOf_c1 : TabOK Tryd.prog Jv Γ_slices_DeleteFunc_Sstring_string_at_i_wordsOf_c1 := tab_cons snd_slices_IndexFunc_Sstring_string_at_i_wordsOf_c1 (tab_cons snd_i_wordsOf_c1 (tab_nil))
noncomputable def R_slices_DeleteFunc_Sstring_string_at_i_wordsOf_c1_L5 (N : Nat) (n : Nat) (p0 : Int) (p1 : Int) (p2 : List ByteArray) : Option ((List ByteArray)) := runAt ⟨lookT TT, Γ_slices_DeleteFunc_Sstring_string_at_i_wordsOf_c1, 0, annL [(5, [0, 1, 5, 6])], N, []⟩ Tryd.f45 0 5 n [] ⟨ofKept [(0, one (.sl 0 0 0 none)), (1, one (.fn 47 [])), (5, one (.int .i64 p0)), (6, one (.int .i64 p1))], ofObjs [some ⟨0, 0, false, false, .arr .str p2⟩], 128⟩ S_slices_DeleteFunc_Sstring_string_at_i_wordsOf_c1.fin
theorem R_slices_DeleteFunc_Sstring_string_at_i_wordsOf_c1_L5_succ (N : Nat) (n : Nat) (p0 : Int) (p1 : Int) (p2 : List ByteArray) : R_slices_DeleteFunc_Sstring_string_at_i_wordsOf_c1_L5 N (n + 1) p0 p1 p2 = B_slices_DeleteFunc_Sstring_string_at_i_wordsOf_c1_L5 N n (R_slices_DeleteFunc_Sstring_string_at_i_wordsOf_c1_L5 N) p0 p1 p2 := by kernel_rfl
theorem run_slices_DeleteFunc_Sstring_string_at_i_wordsOf_c1 (N : Nat) (x0 : List ByteArray) : run ⟨lookT TT, Γ_slices_DeleteFunc_Sstring_string_at_i_wordsOf_c1, 0, annL [(5, [0, 1, 5, 6])], N, []⟩ Tryd.f45 [.own false .str x0, .fn 47 []] S_slices_DeleteFunc_Sstring_string_at_i_wordsOf_c1.fin = FB_slices_DeleteFunc_Sstring_string_at_i_wordsOf_c1 N (R_slices_DeleteFunc_Sstring_string_at_i_wordsOf_c1_L5 N) x0 := by kernel_rfl
theorem R_slices_DeleteFunc_Sstring_string_at_i_wordsOf_c1_L5_eq (N : Nat) : ∀ n, R_slices_DeleteFunc_Sstring_string_at_i_wordsOf_c1_L5 N n = L_slices_DeleteFunc_Sstring_string_at_i_wordsOf_c1_L5 N n
  | 0 => rfl
  | n + 1 => by
    have ih := R_slices_DeleteFunc_Sstring_string_at_i_wordsOf_c1_L5_eq N n
    funext p0 p1 p2
    rw [R_slices_DeleteFunc_Sstring_string_at_i_wordsOf_c1_L5_succ]
    show _ = B_slices_DeleteFunc_Sstring_string_at_i_wordsOf_c1_L5 N n (fun _ p0 p1 p2 => L_slices_DeleteFunc_Sstring_string_at_i_wordsOf_c1_L5 N n p0 p1 p2) p0 p1 p2
    unfold B_slices_DeleteFunc_Sstring_string_at_i_wordsOf_c1_L5
    simp only [ih]
theorem runF_slices_DeleteFunc_Sstring_string_at_i_wordsOf_c1 (N : Nat) (x0 : List ByteArray) : run ⟨lookT TT, Γ_slices_DeleteFunc_Sstring_string_at_i_wordsOf_c1, 0, annL [(5, [0, 1, 5, 6])], N, []⟩ Tryd.f45 [.own false .str x0, .fn 47 []] S_slices_DeleteFunc_Sstring_string_at_i_wordsOf_c1.fin = F_slices_DeleteFunc_Sstring_string_at_i_wordsOf_c1 N x0 := by
  rw [run_slices_DeleteFunc_Sstring_string_at_i_wordsOf_c1]
  unfold F_slices_DeleteFunc_Sstring_string_at_i_wordsOf_c1 FB_slices_DeleteFunc_Sstring_string_at_i_wordsOf_c1
  simp only [R_slices_DeleteFunc_Sstring_string_at_i_wordsOf_c1_L5_eq]
theorem sndN_slices_DeleteFunc_Sstring_string_at_i_wordsOf_c1 (N : Nat) : Sound Tryd.prog Jv 45 (S_slices_DeleteFunc_Sstring_string_at_i_wordsOf_c1.callee fun x => F_slices_DeleteFunc_Sstring_string_at_i_wordsOf_c1 N x) :=
  sound_sig S_slices_DeleteFunc_Sstring_string_at_i_wordsOf_c1 hTT tab_slices_DeleteFunc_Sstring_string_at_i_wordsOf_c1 mixed Tryd.func45 (by decide) (by kernel_rfl) (by kernel_rfl) fun x r _ h => ⟨_, N, _, (runF_slices_DeleteFunc_Sstring_string_at_i_wordsOf_c1 N x).trans h⟩
theorem snd_slices_DeleteFunc_Sstring_string_at_i_wordsOf_c1 : Sound Tryd.prog Jv 45 E_slices_DeleteFunc_Sstring_string_at_i_wordsOf_c1 :=
  sound_weaker S_slices_DeleteFunc_Sstring_string_at_i_wordsOf_c1 0 (F := fun N x => F_slices_DeleteFunc_Sstring_string_at_i_wordsOf_c1 N x) sndN_slices_DeleteFunc_Sstring_string_at_i_wordsOf_c1 fun x r hf h => G_slices_DeleteFunc_Sstring_string_at_i_wordsOf_c1_ok x (hf.lenOK (.own false .str x) (show _ ∈ ([.own false .str x, .fn 47 []] : List Arg) from .head _)) h

noncomputable def Γ_i_wordsOf : Tab := [(46, E_strings_Split), (45, E_slices_DeleteFunc_Sstring_string_at_i_wordsOf_c1)]
theorem tab_i_wordsOf : TabOK Tryd.prog Jv Γ_i_wordsOf := tab_cons snd_strings_Split (tab_cons snd_slices_DeleteFunc_Sstring_string_at_i_wordsOf_c1 (tab_nil))
theorem run_i_wordsOf (N : Nat) (x0 : ByteArray) : run ⟨lookT TT, Γ_i_wordsOf, 0, annL [], N, []⟩ Tryd.f32 [.one (.str x0)] S_i_wordsOf.fin = F_i_wordsOf x0 := by kernel_rfl
theorem snd_i_wordsOf : Sound Tryd.prog Jv 32 E_i_wordsOf :=
  sound_sig S_i_wordsOf hTT tab_i_wordsOf mixed Tryd.func32 (by decide) (by kernel_rfl) (by kernel_rfl) fun x r _ h => ⟨_, 0, _, (run_i_wordsOf 0 x).trans h⟩

noncomputable def Γ_i_actWords : Tab := []
theorem tab_i_actWords : TabOK Tryd.prog Jv Γ_i_actWords := tab_nil
theorem run_i_actWords (N : Nat)  : run ⟨lookT TT, Γ_i_actWords, 0, annL [], N, []⟩ Tryd.f18 [] S_i_actWords.fin = F_i_actWords  := by kernel_rfl
theorem snd_i_actWords : Sound Tryd.prog Jv 18 E_i_actWords :=
  sound_sig S_i_actWords hTT tab_i_actWords mixed Tryd.func18 (by decide) (by kernel_rfl) (by kernel_rfl) fun x r _ h => ⟨_, 0, _, (run_i_actWords 0).trans h⟩

noncomputable def Γ_slices_Index_Sstring_string : Tab := []
theorem tab_slices_Index_Sstring_string : TabOK Tryd.prog Jv Γ_slices_Index_Sstring_string := tab_nil
noncomputable def R_slices_Index_Sstring_string_L2 (N : Nat) (n : Nat) (p0 : List ByteArray) (p1 : ByteArray) (p2 : Int) (p3 : Int) : Option (Int) := runAt ⟨lookT TT, Γ_slices_Index_Sstring_string, 0, annL [(2, [0, 1, 7, 8])], N, []⟩ Tryd.f33 0 2 n [] ⟨ofKept [(0, one (.tr .str p0)), (1, one (.str p1)), (7, one (.int .i64 p2)), (8, one (.int .i64 p3))], ofObjs [], 64⟩ S_slices_Index_Sstring_string.fin
theorem R_slices_Index_Sstring_string_L2_succ (N : Nat) (n : Nat) (p0 : List ByteArray) (p1 : ByteArray) (p2 : Int) (p3 : Int) : R_slices_Index_Sstring_string_L2 N (n + 1) p0 p1 p2 p3 = B_slices_Index_Sstring_string_L2 N n (R_slices_Index_Sstring_string_L2 N) p0 p1 p2 p3 := by kernel_rfl
theorem run_slices_Index_Sstring_string (N : Nat) (x0 : List ByteArray) (x1 : ByteArray) : run ⟨lookT TT, Γ_slices_Index_Sstring_string, 0, annL [(2, [0, 1, 7, 8])], N, []⟩ Tryd.f33 [.one (.tr .str x0), .one (.str x1)] S_slices_Index_Sstring_string.fin = FB_slices_Index_Sstring_string N (R_slices_Index_Sstring_string_L2 N) x0 x1 := by kernel_rfl
theorem R_slices_Index_Sstring_string_L2_eq (N : Nat) : ∀ n, R_slices_Index_Sstring_string_L2 N n = L_slices_Index_Sstring_string_L2 N n
  | 0 => rfl
  | n + 1 => by
    have ih := R_slices_Index_Sstring_string_L2_eq N n
    funext p0 p1 p2 p3
    rw [R_slices_Index_Sstring_string_L2_succ]
    show _ = B_slices_Index_Sstring_string_L2 N n (fun _ p0 p1 p2 p3 => L_slices_Index_Sstring_string_L2 N n p0 p1 p2 p3) p0 p1 p2 p3
    unfold B_slices_Index_Sstring_string_L2
    simp only [ih]
theorem runF_slices_Index_Sstring_string (N : Nat) (x0 : List ByteArray) (x1 : ByteArray) : run ⟨lookT TT, Γ_slices_Index_Sstring_string, 0, annL [(2, [0, 1, 7, 8])], N, []⟩ Tryd.f33 [.one (.tr .str x0), .one (.str x1)] S_slices_Index_Sstring_string.fin = F_slices_Index_Sstring_string N x0 x1 := by
  rw [run_slices_Index_Sstring_string]
  unfold F_slices_Index_Sstring_string FB_slices_Index_Sstring_string
  simp only [R_slices_Index_Sstring_string_L2_eq]
theorem sndN_slices_Index_Sstring_string (N : Nat) : Sound Tryd.prog Jv 33 (S_slices_Index_Sstring_string.callee fun x => F_slices_Index_Sstring_string N x.1 x.2) :=
  sound_sig S_slices_Index_Sstring_string hTT tab_slices_Index_Sstring_string mixed Tryd.func33 (by decide) (by kernel_rfl) (by kernel_rfl) fun x r _ h => ⟨_, N, _, (runF_slices_Index_Sstring_string N x.1 x.2).trans h⟩
theorem snd_slices_Index_Sstring_string : Sound Tryd.prog Jv 33 E_slices_Index_Sstring_string :=
  sound_weaker S_slices_Index_Sstring_string 0 (F := fun N x => F_slices_Index_Sstring_string N x.1 x.2) sndN_slices_Index_Sstring_string fun x r hf h => G_slices_Index_Sstring_string_ok x.1 x.2 (hf.lenOK (.one (.tr .str x.1)) (show _ ∈ ([.one (.tr .str x.1), .one (.str x.2)] : List Arg) from .head _)) h

noncomputable def Γ_i_capWords : Tab := []
theorem tab_i_capWords : TabOK Tryd.prog Jv Γ_i_capWords := tab_nil
theorem run_i_capWords (N : Nat)  : run ⟨lookT TT, Γ_i_capWords, 0, annL [], N, []⟩ Tryd.f19 [] S_i_capWords.fin = F_i_capWords  := by kernel_rfl
theorem snd_i_capWords : Sound Tryd.prog Jv 19 E_i_capWords :=
  sound_sig S_i_capWords hTT tab_i_capWords mixed Tryd.func19 (by decide) (by kernel_rfl) (by kernel_rfl) fun x r _ h => ⟨_, 0, _, (run_i_capWords 0).trans h⟩

noncomputable def Γ_stringslite_TrimPrefix : Tab := [(54, E_stringslite_HasPrefix)]
theorem tab_stringslite_TrimPrefix : TabOK Tryd.prog Jv Γ_stringslite_TrimPrefix := tab_cons snd_stringslite_HasPrefix (tab_nil)
theorem run_stringslite_TrimPrefix (N : Nat) (x0 : ByteArray) (x1 : ByteArray) : run ⟨lookT TT, Γ_stringslite_TrimPrefix, 0, annL [], N, []⟩ Tryd.f59 [.one (.str x0), .one (.str x1)] S_stringslite_TrimPrefix.fin = F_stringslite_TrimPrefix x0 x1 := by kernel_rfl
theorem snd_stringslite_TrimPrefix : Sound Tryd.prog Jv 59 E_stringslite_TrimPrefix :=
  sound_sig S_stringslite_TrimPrefix hTT tab_stringslite_TrimPrefix mixed Tryd.func59 (by decide) (by kernel_rfl) (by kernel_rfl) fun x r _ h => ⟨_, 0, _, (run_stringslite_TrimPrefix 0 x.1 x.2).trans h⟩

noncomputable def Γ_strings_TrimPrefix : Tab := [(59, E_stringslite_TrimPrefix)]
theorem tab_strings_TrimPrefix : TabOK Tryd.prog Jv Γ_strings_TrimPrefix := tab_cons snd_stringslite_TrimPrefix (tab_nil)
theorem run_strings_TrimPrefix (N : Nat) (x0 : ByteArray) (x1 : ByteArray) : run ⟨lookT TT, Γ_strings_TrimPrefix, 0, annL [], N, []⟩ Tryd.f49 [.one (.str x0), .one (.str x1)] S_strings_TrimPrefix.fin = F_strings_TrimPrefix x0 x1 := by kernel_rfl
theorem snd_strings_TrimPrefix : Sound Tryd.prog Jv 49 E_strings_TrimPrefix :=
  sound_sig S_strings_TrimPrefix hTT tab_strings_TrimPrefix mixed Tryd.func49 (by decide) (by kernel_rfl) (by kernel_rfl) fun x r _ h => ⟨_, 0, _, (run_strings_TrimPrefix 0 x.1 x.2).trans h⟩

noncomputable def Γ_i_readInt : Tab := [(48, E_strconv_Atoi), (39, E_strconv_Itoa), (49, E_strings_TrimPrefix)]
theorem tab_i_readInt : TabOK Tryd.prog Jv Γ_i_readInt := tab_cons snd_strconv_Atoi (tab_cons snd_strconv_Itoa (tab_cons snd_strings_TrimPrefix (tab_nil)))
theorem run_i_readInt (N : Nat) (x0 : ByteArray) : run ⟨lookT TT, Γ_i_readInt, 0, annL [], N, []⟩ Tryd.f34 [.one (.str x0)] S_i_readInt.fin = F_i_readInt x0 := by kernel_rfl
theorem snd_i_readInt : Sound Tryd.prog Jv 34 E_i_readInt :=
  sound_sig S_i_readInt hTT tab_i_readInt mixed Tryd.func34 (by decide) (by kernel_rfl) (by kernel_rfl) fun x r _ h => ⟨_, 0, _, (run_i_readInt 0 x).trans h⟩

noncomputable def Γ_i_readAct : Tab := [(31, E_strings_CutPrefix), (12, E_i_ActOK), (32, E_i_wordsOf), (18, E_i_actWords), (33, E_slices_Index_Sstring_string), (19, E_i_capWords), (34, E_i_readInt)]
theorem tab_i_readAct : TabOK Tryd.prog Jv Γ_i_readAct := tab_cons snd_strings_CutPrefix (tab_cons snd_i_ActOK (tab_cons snd_i_wordsOf (tab_cons snd_i_actWords (tab_cons snd_slices_Index_Sstring_string (tab_cons snd_i_capWords (tab_cons snd_i_readInt (tab_nil)))))))
theorem run_i_readAct (N : Nat) (x0 : ByteArray) : run ⟨lookT TT, Γ_i_readAct, 0, annL [], N, []⟩ Tryd.f14 [.one (.str x0)] S_i_readAct.fin = F_i_readAct x0 := by kernel_rfl
theorem snd_i_readAct : Sound Tryd.prog Jv 14 E_i_readAct :=
  sound_sig S_i_readAct hTT tab_i_readAct mixed Tryd.func14 (by decide) (by kernel_rfl) (by kernel_rfl) fun x r _ h => ⟨_, 0, _, (run_i_readAct 0 x).trans h⟩

noncomputable def Γ_i_ReadAct : Tab := [(14, E_i_readAct)]
theorem tab_i_ReadAct : TabOK Tryd.prog Jv Γ_i_ReadAct := tab_cons snd_i_readAct (tab_nil)
theorem run_i_ReadAct (N : Nat) (x0 : ByteArray) : run ⟨lookT TT, Γ_i_ReadAct, 0, annL [], N, []⟩ Tryd.f6 [.one (.str x0)] S_i_ReadAct.fin = F_i_ReadAct x0 := by kernel_rfl
theorem snd_i_ReadAct : Sound Tryd.prog Jv 6 E_i_ReadAct :=
  sound_sig S_i_ReadAct hTT tab_i_ReadAct mixed Tryd.func6 (by decide) (by kernel_rfl) (by kernel_rfl) fun x r _ h => ⟨_, 0, _, (run_i_ReadAct 0 x).trans h⟩

noncomputable def Γ_l_eqAct : Tab := []
theorem tab_l_eqAct : TabOK Tryd.prog Jv Γ_l_eqAct := tab_nil
theorem run_l_eqAct (N : Nat) (x0 : Int) (x1 : Int) (x2 : ByteArray) (x3 : Int) (x4 : Int) (x5 : ByteArray) : run ⟨lookT TT, Γ_l_eqAct, 0, annL [], N, []⟩ Tryd.f7 [.agg [.int .i64 x0, .int .i64 x1, .str x2], .agg [.int .i64 x3, .int .i64 x4, .str x5]] S_l_eqAct.fin = F_l_eqAct x0 x1 x2 x3 x4 x5 := by kernel_rfl
theorem snd_l_eqAct : Sound Tryd.prog Jv 7 E_l_eqAct :=
  sound_sig S_l_eqAct hTT tab_l_eqAct mixed Tryd.func7 (by decide) (by kernel_rfl) (by kernel_rfl) fun x r _ h => ⟨_, 0, _, (run_l_eqAct 0 x.1 x.2.1 x.2.2.1 x.2.2.2.1 x.2.2.2.2.1 x.2.2.2.2.2).trans h⟩

noncomputable def Γ_l_FnExactReadAct : Tab := [(5, E_s_ReadAct), (6, E_i_ReadAct), (7, E_l_eqAct)]
theorem tab_l_FnExactReadAct : TabOK Tryd.prog Jv Γ_l_FnExactReadAct := tab_cons snd_s_ReadAct (tab_cons snd_i_ReadAct (tab_cons snd_l_eqAct (tab_nil)))
theorem run_l_FnExactReadAct (N : Nat) (x0 : ByteArray) : run ⟨lookT TT, Γ_l_FnExactReadAct, 0, annL [], N, []⟩ Tryd.f3 [.one (.str x0)] S_l_FnExactReadAct.fin = F_l_FnExactReadAct x0 := by kernel_rfl
theorem snd_l_FnExactReadAct : Sound Tryd.prog Jv 3 E_l_FnExactReadAct :=
  sound_sig S_l_FnExactReadAct hTT tab_l_FnExactReadAct mixed Tryd.func3 (by decide) (by kernel_rfl) (by kernel_rfl) fun x r _ h => ⟨_, 0, _, (run_l_FnExactReadAct 0 x).trans h⟩

noncomputable def Γ_s_l00Source : Tab := []
theorem tab_s_l00Source : TabOK Tryd.prog Jv Γ_s_l00Source := tab_nil
theorem run_s_l00Source (N : Nat) (x0 : List Int) : run ⟨lookT TT, Γ_s_l00Source, 0, annL [], N, []⟩ Tryd.f15 [.one (.tr (.int .u8) x0)] S_s_l00Source.fin = F_s_l00Source x0 := by kernel_rfl
theorem snd_s_l00Source : Sound Tryd.prog Jv 15 E_s_l00Source :=
  sound_sig S_s_l00Source hTT tab_s_l00Source mixed Tryd.func15 (by decide) (by kernel_rfl) (by kernel_rfl) fun x r _ h => ⟨_, 0, _, (run_s_l00Source 0 x).trans h⟩

noncomputable def Γ_s_l00Src_byte : Tab := []
theorem tab_s_l00Src_byte : TabOK Tryd.prog Jv Γ_s_l00Src_byte := tab_nil
theorem run_s_l00Src_byte (N : Nat) (x0 : List Int) (x1 : Int) (x2 : Int) : run ⟨lookT TT, Γ_s_l00Src_byte, 0, annL [], N, []⟩ Tryd.f50 [.io [.tr (.int .u8) x0, .int .i64 x1, .int .i64 x2]] S_s_l00Src_byte.fin = F_s_l00Src_byte x0 x1 x2 := by kernel_rfl
theorem snd_s_l00Src_byte : Sound Tryd.prog Jv 50 E_s_l00Src_byte :=
  sound_sig S_s_l00Src_byte hTT tab_s_l00Src_byte mixed Tryd.func50 (by decide) (by kernel_rfl) (by kernel_rfl) fun x r _ h => ⟨_, 0, _, (run_s_l00Src_byte 0 x.1 x.2.1 x.2.2).trans h⟩

noncomputable def Γ_s_l00Src_next : Tab := [(50, E_s_l00Src_byte)]
theorem tab_s_l00Src_next : TabOK Tryd.prog Jv Γ_s_l00Src_next := tab_cons snd_s_l00Src_byte (tab_nil)
theorem run_s_l00Src_next (N : Nat) (x0 : List Int) (x1 : Int) (x2 : Int) (x3 : Int) : run ⟨lookT TT, Γ_s_l00Src_next, 0, annL [], N, []⟩ Tryd.f35 [.io [.tr (.int .u8) x0, .int .i64 x1, .int .i64 x2], .one (.int .i64 x3)] S_s_l00Src_next.fin = F_s_l00Src_next x0 x1 x2 x3 := by kernel_rfl
theorem snd_s_l00Src_next : Sound Tryd.prog Jv 35 E_s_l00Src_next :=
  sound_sig S_s_l00Src_next hTT tab_s_l00Src_next mixed Tryd.func35 (by decide) (by kernel_rfl) (by kernel_rfl) fun x r _ h => ⟨_, 0, _, (run_s_l00Src_next 0 x.1 x.2.1 x.2.2.1 x.2.2.2).trans h⟩

noncomputable def Γ_s_l01Wrap : Tab := []
theorem tab_s_l01Wrap : TabOK Tryd.prog Jv Γ_s_l01Wrap := tab_nil
theorem run_s_l01Wrap (N : Nat) (x0 : Int) : run ⟨lookT TT, Γ_s_l01Wrap, 0, annL [], N, []⟩ Tryd.f51 [.one (.int .i64 x0)] S_s_l01Wrap.fin = F_s_l01Wrap x0 := by kernel_rfl
theorem snd_s_l01Wrap : Sound Tryd.prog Jv 51 E_s_l01Wrap :=
  sound_sig S_s_l01Wrap hTT tab_s_l01Wrap mixed Tryd.func51 (by decide) (by kernel_rfl) (by kernel_rfl) fun x r _ h => ⟨_, 0, _, (run_s_l01Wrap 0 x).trans h⟩

noncomputable def Γ_s_l00Src_cell : Tab := [(35, E_s_l00Src_next), (50, E_s_l00Src_byte), (51, E_s_l01Wrap)]
theorem tab_s_l00Src_cell : TabOK Tryd.prog Jv Γ_s_l00Src_cell := tab_cons snd_s_l00Src_next (tab_cons snd_s_l00Src_byte (tab_cons snd_s_l01Wrap (tab_nil)))
theorem run_s_l00Src_cell (N : Nat) (x0 : List Int) (x1 : Int) (x2 : Int) : run ⟨lookT TT, Γ_s_l00Src_cell, 0, annL [], N, []⟩ Tryd.f37 [.io [.tr (.int .u8) x0, .int .i64 x1, .int .i64 x2]] S_s_l00Src_cell.fin = F_s_l00Src_cell x0 x1 x2 := by kernel_rfl
theorem snd_s_l00Src_cell : Sound Tryd.prog Jv 37 E_s_l00Src_cell :=
  sound_sig S_s_l00Src_cell hTT tab_s_l00Src_cell mixed Tryd.func37 (by decide) (by kernel_rfl) (by kernel_rfl) fun x r _ h => ⟨_, 0, _, (run_s_l00Src_cell 0 x.1 x.2.1 x.2.2).trans h⟩

noncomputable def Γ_s_l00Src_pick : Tab := [(35, E_s_l00Src_next)]
theorem tab_s_l00Src_pick : TabOK Tryd.prog Jv Γ_s_l00Src_pick := tab_cons snd_s_l00Src_next (tab_nil)
theorem run_s_l00Src_pick (N : Nat) (x0 : List Int) (x1 : Int) (x2 : Int) (x3 : List ByteArray) : run ⟨lookT TT, Γ_s_l00Src_pick, 0, annL [], N, []⟩ Tryd.f36 [.io [.tr (.int .u8) x0, .int .i64 x1, .int .i64 x2], .one (.tr .str x3)] S_s_l00Src_pick.fin = F_s_l00Src_pick x0 x1 x2 x3 := by kernel_rfl
theorem snd_s_l00Src_pick : Sound Tryd.prog Jv 36 E_s_l00Src_pick :=
  sound_sig S_s_l00Src_pick hTT tab_s_l00Src_pick mixed Tryd.func36 (by decide) (by kernel_rfl) (by kernel_rfl) fun x r _ h => ⟨_, 0, _, (run_s_l00Src_pick 0 x.1 x.2.1 x.2.2.1 x.2.2.2).trans h⟩

noncomputable def Γ_s_l00Src_plain : Tab := [(36, E_s_l00Src_pick)]
theorem tab_s_l00Src_plain : TabOK Tryd.prog Jv Γ_s_l00Src_plain := tab_cons snd_s_l00Src_pick (tab_nil)
theorem run_s_l00Src_plain (N : Nat) (x0 : List Int) (x1 : Int) (x2 : Int) : run ⟨lookT TT, Γ_s_l00Src_plain, 0, annL [], N, []⟩ Tryd.f61 [.io [.tr (.int .u8) x0, .int .i64 x1, .int .i64 x2]] S_s_l00Src_plain.fin = F_s_l00Src_plain x0 x1 x2 := by kernel_rfl
theorem snd_s_l00Src_plain : Sound Tryd.prog Jv 61 E_s_l00Src_plain :=
  sound_sig S_s_l00Src_plain hTT tab_s_l00Src_plain mixed Tryd.func61 (by decide) (by kernel_rfl) (by kernel_rfl) fun x r _ h => ⟨_, 0, _, (run_s_l00Src_plain 0 x.1 x.2.1 x.2.2).trans h⟩

noncomputable def Γ_s_l00Src_chance : Tab := [(35, E_s_l00Src_next)]
theorem tab_s_l00Src_chance : TabOK Tryd.prog Jv Γ_s_l00Src_chance := tab_cons snd_s_l00Src_next (tab_nil)
theorem run_s_l00Src_chance (N : Nat) (x0 : List Int) (x1 : Int) (x2 : Int) (x3 : Int) : run ⟨lookT TT, Γ_s_l00Src_chance, 0, annL [], N, []⟩ Tryd.f60 [.io [.tr (.int .u8) x0, .int .i64 x1, .int .i64 x2], .one (.int .i64 x3)] S_s_l00Src_chance.fin = F_s_l00Src_chance x0 x1 x2 x3 := by kernel_rfl
theorem snd_s_l00Src_chance : Sound Tryd.prog Jv 60 E_s_l00Src_chance :=
  sound_sig S_s_l00Src_chance hTT tab_s_l00Src_chance mixed Tryd.func60 (by decide) (by kernel_rfl) (by kernel_rfl) fun x r _ h => ⟨_, 0, _, (run_s_l00Src_chance 0 x.1 x.2.1 x.2.2.1 x.2.2.2).trans h⟩

noncomputable def Γ_s_l00Src_inside (N d : Nat) : Tab := [(52, S_s_l00Src_inside.callee fun x => F_s_l00Src_inside N d x.1 x.2.1 x.2.2.1 x.2.2.2), (35, E_s_l00Src_next), (61, E_s_l00Src_plain), (60, E_s_l00Src_chance), (36, E_s_l00Src_pick)]
theorem tab_s_l00Src_inside (N d : Nat) (ih : Sound Tryd.prog Jv 52 (S_s_l00Src_inside.callee fun x => F_s_l00Src_inside N d x.1 x.2.1 x.2.2.1 x.2.2.2)) : TabOK Tryd.prog Jv (Γ_s_l00Src_inside N d) := tab_cons ih (tab_cons snd_s_l00Src_next (tab_cons snd_s_l00Src_plain (tab_cons snd_s_l00Src_chance (tab_cons snd_s_l00Src_pick (tab_nil)))))
noncomputable def R_s_l00Src_inside_L3 (N : Nat) (d n : Nat) (p0 : Int) (p1 : ByteArray) (p2 : Int) (p3 : List Int) (p4 : Int) (p5 : Int) : Option (ByteArray × (List Int) × Int × Int) := runAt ⟨lookT TT, Γ_s_l00Src_inside N d, 0, annL [(3, [0, 1, 5, 6])], N, []⟩ Tryd.f52 1 3 n [] ⟨ofKept [(0, one (.ptr 0 0)), (1, one (.int .i64 p0)), (5, one (.str p1)), (6, one (.int .i64 p2))], ofObjs [some ⟨0, 0, false, false, .box [.tr (.int .u8) p3, .int .i64 p4, .int .i64 p5]⟩], 128⟩ S_s_l00Src_inside.fin
theorem R_s_l00Src_inside_L3_succ (N : Nat) (d n : Nat) (p0 : Int) (p1 : ByteArray) (p2 : Int) (p3 : List Int) (p4 : Int) (p5 : Int) : R_s_l00Src_inside_L3 N d (n + 1) p0 p1 p2 p3 p4 p5 = B_s_l00Src_inside_L3 (F_s_l00Src_inside N d) N n (R_s_l00Src_inside_L3 N d) p0 p1 p2 p3 p4 p5 := by kernel_rfl
theorem run_s_l00Src_inside (N d : Nat) (x0 : List Int) (x1 : Int) (x2 : Int) (x3 : Int) : run ⟨lookT TT, Γ_s_l00Src_inside N d, 0, annL [(3, [0, 1, 5, 6])], N, []⟩ Tryd.f52 [.io [.tr (.int .u8) x0, .int .i64 x1, .int .i64 x2], .one (.int .i64 x3)] S_s_l00Src_inside.fin = FB_s_l00Src_inside (F_s_l00Src_inside N d) N (R_s_l00Src_inside_L3 N d) x0 x1 x2 x3 := by kernel_rfl
theorem R_s_l00Src_inside_L3_eq (N d : Nat) : ∀ n, R_s_l00Src_inside_L3 N d n = L_s_l00Src_inside_L3 (F_s_l00Src_inside N d) N n
  | 0 => rfl
  | n + 1 => by
    have ih := R_s_l00Src_inside_L3_eq N d n
    funext p0 p1 p2 p3 p4 p5
    rw [R_s_l00Src_inside_L3_succ]
    show _ = B_s_l00Src_inside_L3 (F_s_l00Src_inside N d) N n (fun _ p0 p1 p2 p3 p4 p5 => L_s_l00Src_inside_L3 (F_s_l00Src_inside N d) N n p0 p1 p2 p3 p4 p5) p0 p1 p2 p3 p4 p5
    unfold B_s_l00Src_inside_L3
    simp only [ih]
theorem runF_s_l00Src_inside (N d : Nat) (x0 : List Int) (x1 : Int) (x2 : Int) (x3 : Int) : run ⟨lookT TT, Γ_s_l00Src_inside N d, 0, annL [(3, [0, 1, 5, 6])], N, []⟩ Tryd.f52 [.io [.tr (.int .u8) x0, .int .i64 x1, .int .i64 x2], .one (.int .i64 x3)] S_s_l00Src_inside.fin = F_s_l00Src_inside N (d + 1) x0 x1 x2 x3 := by
  rw [run_s_l00Src_inside]
  show _ = FB_s_l00Src_inside (F_s_l00Src_inside N d) N (L_s_l00Src_inside_L3 (F_s_l00Src_inside N d) N) x0 x1 x2 x3
  unfold FB_s_l00Src_inside
  simp only [R_s_l00Src_inside_L3_eq]
theorem sndN_s_l00Src_inside (N : Nat) : ∀ d, Sound Tryd.prog Jv 52 (S_s_l00Src_inside.callee fun x => F_s_l00Src_inside N d x.1 x.2.1 x.2.2.1 x.2.2.2)
  | 0 => sound_none S_s_l00Src_inside (fun x => rfl) Tryd.func52 (by decide) (by kernel_rfl)
  | d + 1 => sound_sig S_s_l00Src_inside hTT (tab_s_l00Src_inside N d (sndN_s_l00Src_inside N d)) mixed Tryd.func52 (by decide) (by kernel_rfl) (by kernel_rfl) fun x r _ h => ⟨_, N, _, (runF_s_l00Src_inside N d x.1 x.2.1 x.2.2.1 x.2.2.2).trans h⟩
theorem snd_s_l00Src_inside : Sound Tryd.prog Jv 52 E_s_l00Src_inside :=
  sound_weaker S_s_l00Src_inside (0, 0) (F := fun (i : Nat × Nat) x => F_s_l00Src_inside i.1 i.2 x.1 x.2.1 x.2.2.1 x.2.2.2) (fun i => sndN_s_l00Src_inside i.1 i.2) fun x r hf h => let ⟨N, d, h⟩ := G_s_l00Src_inside_ok x.1 x.2.1 x.2.2.1 x.2.2.2 ((hf.lenOK (.io [.tr (.int .u8) x.1, .int .i64 x.2.1, .int .i64 x.2.2.1]) (show _ ∈ ([.io [.tr (.int .u8) x.1, .int .i64 x.2.1, .int .i64 x.2.2.1], .one (.int .i64 x.2.2.2)] : List Arg) from .head _)) _ (.head _)) h; ⟨(N, d), h⟩

noncomputable def Γ_s_l00Src_forthLine : Tab := [(35, E_s_l00Src_next), (36, E_s_l00Src_pick), (52, E_s_l00Src_inside)]
theorem tab_s_l00Src_forthLine : TabOK Tryd.prog Jv Γ_s_l00Src_forthLine := tab_cons snd_s_l00Src_next (tab_cons snd_s_l00Src_pick (tab_cons snd_s_l00Src_inside (tab_nil)))
theorem run_s_l00Src_forthLine (N : Nat) (x0 : List Int) (x1 : Int) (x2 : Int) : run ⟨lookT TT, Γ_s_l00Src_forthLine, 0, annL [], N, []⟩ Tryd.f38 [.io [.tr (.int .u8) x0, .int .i64 x1, .int .i64 x2]] S_s_l00Src_forthLine.fin = F_s_l00Src_forthLine x0 x1 x2 := by kernel_rfl
theorem snd_s_l00Src_forthLine : Sound Tryd.prog Jv 38 E_s_l00Src_forthLine :=
  sound_sig S_s_l00Src_forthLine hTT tab_s_l00Src_forthLine mixed Tryd.func38 (by decide) (by kernel_rfl) (by kernel_rfl) fun x r _ h => ⟨_, 0, _, (run_s_l00Src_forthLine 0 x.1 x.2.1 x.2.2).trans h⟩

noncomputable def Γ_s_l00Src_act : Tab := [(35, E_s_l00Src_next), (37, E_s_l00Src_cell), (38, E_s_l00Src_forthLine)]
theorem tab_s_l00Src_act : TabOK Tryd.prog Jv Γ_s_l00Src_act := tab_cons snd_s_l00Src_next (tab_cons snd_s_l00Src_cell (tab_cons snd_s_l00Src_forthLine (tab_nil)))
theorem run_s_l00Src_act (N : Nat) (x0 : List Int) (x1 : Int) (x2 : Int) : run ⟨lookT TT, Γ_s_l00Src_act, 0, annL [], N, []⟩ Tryd.f17 [.io [.tr (.int .u8) x0, .int .i64 x1, .int .i64 x2]] S_s_l00Src_act.fin = F_s_l00Src_act x0 x1 x2 := by kernel_rfl
theorem snd_s_l00Src_act : Sound Tryd.prog Jv 17 E_s_l00Src_act :=
  sound_sig S_s_l00Src_act hTT tab_s_l00Src_act mixed Tryd.func17 (by decide) (by kernel_rfl) (by kernel_rfl) fun x r _ h => ⟨_, 0, _, (run_s_l00Src_act 0 x.1 x.2.1 x.2.2).trans h⟩

noncomputable def Γ_s_l00Digits (N d : Nat) : Tab := [(42, S_s_l00Digits.callee fun x => F_s_l00Digits N d x)]
theorem tab_s_l00Digits (N d : Nat) (ih : Sound Tryd.prog Jv 42 (S_s_l00Digits.callee fun x => F_s_l00Digits N d x)) : TabOK Tryd.prog Jv (Γ_s_l00Digits N d) := tab_cons ih (tab_nil)
theorem run_s_l00Digits (N d : Nat) (x0 : Int) : run ⟨lookT TT, Γ_s_l00Digits N d, 0, annL [], N, []⟩ Tryd.f42 [.one (.int .i64 x0)] S_s_l00Digits.fin = FB_s_l00Digits (F_s_l00Digits N d) x0 := by kernel_rfl
theorem runF_s_l00Digits (N d : Nat) (x0 : Int) : run ⟨lookT TT, Γ_s_l00Digits N d, 0, annL [], N, []⟩ Tryd.f42 [.one (.int .i64 x0)] S_s_l00Digits.fin = F_s_l00Digits N (d + 1) x0 := run_s_l00Digits N d x0
theorem sndN_s_l00Digits (N : Nat) : ∀ d, Sound Tryd.prog Jv 42 (S_s_l00Digits.callee fun x => F_s_l00Digits N d x)
  | 0 => sound_none S_s_l00Digits (fun x => rfl) Tryd.func42 (by decide) (by kernel_rfl)
  | d + 1 => sound_sig S_s_l00Digits hTT (tab_s_l00Digits N d (sndN_s_l00Digits N d)) mixed Tryd.func42 (by decide) (by kernel_rfl) (by kernel_rfl) fun x r _ h => ⟨_, N, _, (runF_s_l00Digits N d x).trans h⟩
theorem snd_s_l00Digits : Sound Tryd.prog Jv 42 E_s_l00Digits :=
  sound_weaker S_s_l00Digits (0, 0) (F := fun (i : Nat × Nat) x => F_s_l00Digits i.1 i.2 x) (fun i => sndN_s_l00Digits i.1 i.2) fun x r hf h => let ⟨N, d, h⟩ := G_s_l00Digits_ok x h; ⟨(N, d), h⟩

noncomputable def Γ_s_l13Act : Tab := [(28, E_s_l13Acts), (29, E_s_l13Caps), (42, E_s_l00Digits)]
theorem tab_s_l13Act : TabOK Tryd.prog Jv Γ_s_l13Act := tab_cons snd_s_l13Acts (tab_cons snd_s_l13Caps (tab_cons snd_s_l00Digits (tab_nil)))
theorem run_s_l13Act (N : Nat) (x0 : Int) (x1 : Int) (x2 : ByteArray) : run ⟨lookT TT, Γ_s_l13Act, 0, annL [], N, []⟩ Tryd.f22 [.agg [.int .i64 x0, .int .i64 x1, .str x2]] S_s_l13Act.fin = F_s_l13Act x0 x1 x2 := by kernel_rfl
theorem snd_s_l13Act : Sound Tryd.prog Jv 22 E_s_l13Act :=
  sound_sig S_s_l13Act hTT tab_s_l13Act mixed Tryd.func22 (by decide) (by kernel_rfl) (by kernel_rfl) fun x r _ h => ⟨_, 0, _, (run_s_l13Act 0 x.1 x.2.1 x.2.2).trans h⟩

noncomputable def Γ_s_l00Src_actLine : Tab := [(17, E_s_l00Src_act), (22, E_s_l13Act), (35, E_s_l00Src_next), (36, E_s_l00Src_pick)]
theorem tab_s_l00Src_actLine : TabOK Tryd.prog Jv Γ_s_l00Src_actLine := tab_cons snd_s_l00Src_act (tab_cons snd_s_l13Act (tab_cons snd_s_l00Src_next (tab_cons snd_s_l00Src_pick (tab_nil))))
theorem run_s_l00Src_actLine (N : Nat) (x0 : List Int) (x1 : Int) (x2 : Int) : run ⟨lookT TT, Γ_s_l00Src_actLine, 0, annL [], N, []⟩ Tryd.f16 [.io [.tr (.int .u8) x0, .int .i64 x1, .int .i64 x2]] S_s_l00Src_actLine.fin = F_s_l00Src_actLine x0 x1 x2 := by kernel_rfl
theorem snd_s_l00Src_actLine : Sound Tryd.prog Jv 16 E_s_l00Src_actLine :=
  sound_sig S_s_l00Src_actLine hTT tab_s_l00Src_actLine mixed Tryd.func16 (by decide) (by kernel_rfl) (by kernel_rfl) fun x r _ h => ⟨_, 0, _, (run_s_l00Src_actLine 0 x.1 x.2.1 x.2.2).trans h⟩

noncomputable def Γ_s_ActLine : Tab := [(15, E_s_l00Source), (16, E_s_l00Src_actLine)]
theorem tab_s_ActLine : TabOK Tryd.prog Jv Γ_s_ActLine := tab_cons snd_s_l00Source (tab_cons snd_s_l00Src_actLine (tab_nil))
theorem run_s_ActLine (N : Nat) (x0 : List Int) : run ⟨lookT TT, Γ_s_ActLine, 0, annL [], N, []⟩ Tryd.f8 [.one (.tr (.int .u8) x0)] S_s_ActLine.fin = F_s_ActLine x0 := by kernel_rfl
theorem snd_s_ActLine : Sound Tryd.prog Jv 8 E_s_ActLine :=
  sound_sig S_s_ActLine hTT tab_s_ActLine mixed Tryd.func8 (by decide) (by kernel_rfl) (by kernel_rfl) fun x r _ h => ⟨_, 0, _, (run_s_ActLine 0 x).trans h⟩

noncomputable def Γ_s_ActDrawn : Tab := [(15, E_s_l00Source), (17, E_s_l00Src_act)]
theorem tab_s_ActDrawn : TabOK Tryd.prog Jv Γ_s_ActDrawn := tab_cons snd_s_l00Source (tab_cons snd_s_l00Src_act (tab_nil))
theorem run_s_ActDrawn (N : Nat) (x0 : List Int) : run ⟨lookT TT, Γ_s_ActDrawn, 0, annL [], N, []⟩ Tryd.f9 [.one (.tr (.int .u8) x0)] S_s_ActDrawn.fin = F_s_ActDrawn x0 := by kernel_rfl
theorem snd_s_ActDrawn : Sound Tryd.prog Jv 9 E_s_ActDrawn :=
  sound_sig S_s_ActDrawn hTT tab_s_ActDrawn mixed Tryd.func9 (by decide) (by kernel_rfl) (by kernel_rfl) fun x r _ h => ⟨_, 0, _, (run_s_ActDrawn 0 x).trans h⟩

noncomputable def Γ_i_spaced : Tab := [(39, E_strconv_Itoa)]
theorem tab_i_spaced : TabOK Tryd.prog Jv Γ_i_spaced := tab_cons snd_strconv_Itoa (tab_nil)
noncomputable def R_i_spaced_L3 (N : Nat) (n : Nat) (p0 : ByteArray) (p1 : List Int) (p2 : Int) (p3 : Int) : Option (ByteArray) := runAt ⟨lookT TT, Γ_i_spaced, 0, annL [(3, [3, 6, 7, 8])], N, []⟩ Tryd.f20 0 3 n [] ⟨ofKept [(3, one (.str p0)), (6, one (.tr (.int .i64) p1)), (7, one (.int .i64 p2)), (8, one (.int .i64 p3))], ofObjs [], 64⟩ S_i_spaced.fin
theorem R_i_spaced_L3_succ (N : Nat) (n : Nat) (p0 : ByteArray) (p1 : List Int) (p2 : Int) (p3 : Int) : R_i_spaced_L3 N (n + 1) p0 p1 p2 p3 = B_i_spaced_L3 N n (R_i_spaced_L3 N) p0 p1 p2 p3 := by kernel_rfl
theorem run_i_spaced (N : Nat) (x0 : List Int) : run ⟨lookT TT, Γ_i_spaced, 0, annL [(3, [3, 6, 7, 8])], N, []⟩ Tryd.f20 [.one (.tr (.int .i64) x0)] S_i_spaced.fin = FB_i_spaced N (R_i_spaced_L3 N) x0 := by kernel_rfl
theorem R_i_spaced_L3_eq (N : Nat) : ∀ n, R_i_spaced_L3 N n = L_i_spaced_L3 N n
  | 0 => rfl
  | n + 1 => by
    have ih := R_i_spaced_L3_eq N n
    funext p0 p1 p2 p3
    rw [R_i_spaced_L3_succ]
    show _ = B_i_spaced_L3 N n (fun _ p0 p1 p2 p3 => L_i_spaced_L3 N n p0 p1 p2 p3) p0 p1 p2 p3
    unfold B_i_spaced_L3
    simp only [ih]
theorem runF_i_spaced (N : Nat) (x0 : List Int) : run ⟨lookT TT, Γ_i_spaced, 0, annL [(3, [3, 6, 7, 8])], N, []⟩ Tryd.f20 [.one (.tr (.int .i64) x0)] S_i_spaced.fin = F_i_spaced N x0 := by
  rw [run_i_spaced]
  unfold F_i_spaced FB_i_spaced
  simp only [R_i_spaced_L3_eq]
theorem sndN_i_spaced (N : Nat) : Sound Tryd.prog Jv 20 (S_i_spaced.callee fun x => F_i_spaced N x) :=
  sound_sig S_i_spaced hTT tab_i_spaced mixed Tryd.func20 (by decide) (by kernel_rfl) (by kernel_rfl) fun x r _ h => ⟨_, N, _, (runF_i_spaced N x).trans h⟩
theorem snd_i_spaced : Sound Tryd.prog Jv 20 E_i_spaced :=
  sound_weaker S_i_spaced 0 (F := fun N x => F_i_spaced N x) sndN_i_spaced fun x r hf h => G_i_spaced_ok x (hf.lenOK (.one (.tr (.int .i64) x)) (show _ ∈ ([.one (.tr (.int .i64) x)] : List Arg) from .head _)) h

noncomputable def Γ_i_ActText : Tab := [(12, E_i_ActOK), (18, E_i_actWords), (19, E_i_capWords), (20, E_i_spaced)]
theorem tab_i_ActText : TabOK Tryd.prog Jv Γ_i_ActText := tab_cons snd_i_ActOK (tab_cons snd_i_actWords (tab_cons snd_i_capWords (tab_cons snd_i_spaced (tab_nil))))
theorem run_i_ActText (N : Nat) (x0 : Int) (x1 : Int) (x2 : ByteArray) : run ⟨lookT TT, Γ_i_ActText, 0, annL [], N, []⟩ Tryd.f10 [.agg [.int .i64 x0, .int .i64 x1, .str x2]] S_i_ActText.fin = F_i_ActText x0 x1 x2 := by kernel_rfl
theorem snd_i_ActText : Sound Tryd.prog Jv 10 E_i_ActText :=
  sound_sig S_i_ActText hTT tab_i_ActText mixed Tryd.func10 (by decide) (by kernel_rfl) (by kernel_rfl) fun x r _ h => ⟨_, 0, _, (run_i_ActText 0 x.1 x.2.1 x.2.2).trans h⟩

noncomputable def Γ_s_ActText : Tab := [(21, E_s_ActOK), (22, E_s_l13Act)]
theorem tab_s_ActText : TabOK Tryd.prog Jv Γ_s_ActText := tab_cons snd_s_ActOK (tab_cons snd_s_l13Act (tab_nil))
theorem run_s_ActText (N : Nat) (x0 : Int) (x1 : Int) (x2 : ByteArray) : run ⟨lookT TT, Γ_s_ActText, 0, annL [], N, []⟩ Tryd.f11 [.agg [.int .i64 x0, .int .i64 x1, .str x2]] S_s_ActText.fin = F_s_ActText x0 x1 x2 := by kernel_rfl
theorem snd_s_ActText : Sound Tryd.prog Jv 11 E_s_ActText :=
  sound_sig S_s_ActText hTT tab_s_ActText mixed Tryd.func11 (by decide) (by kernel_rfl) (by kernel_rfl) fun x r _ h => ⟨_, 0, _, (run_s_ActText 0 x.1 x.2.1 x.2.2).trans h⟩

noncomputable def Γ_l_FnActTexts : Tab := [(8, E_s_ActLine), (6, E_i_ReadAct), (5, E_s_ReadAct), (9, E_s_ActDrawn), (10, E_i_ActText), (11, E_s_ActText), (12, E_i_ActOK)]
theorem tab_l_FnActTexts : TabOK Tryd.prog Jv Γ_l_FnActTexts := tab_cons snd_s_ActLine (tab_cons snd_i_ReadAct (tab_cons snd_s_ReadAct (tab_cons snd_s_ActDrawn (tab_cons snd_i_ActText (tab_cons snd_s_ActText (tab_cons snd_i_ActOK (tab_nil)))))))
theorem run_l_FnActTexts (N : Nat) (x0 : List Int) (x1 : List Int) : run ⟨lookT TT, Γ_l_FnActTexts, 0, annL [], N, []⟩ Tryd.f4 [.one (.tr (.int .u8) x0), .one (.tr (.int .u8) x1)] S_l_FnActTexts.fin = F_l_FnActTexts x0 x1 := by kernel_rfl
theorem snd_l_FnActTexts : Sound Tryd.prog Jv 4 E_l_FnActTexts :=
  sound_sig S_l_FnActTexts hTT tab_l_FnActTexts mixed Tryd.func4 (by decide) (by kernel_rfl) (by kernel_rfl) fun x r _ h => ⟨_, 0, _, (run_l_FnActTexts 0 x.1 x.2).trans h⟩

end
end Go.M
