/-
  Contracts of the library's functions; from a contract to a row.
-/
import Derived.Test.YtiphonlbkhfhcaaDoorMF
import Derived.Lib.LaidTab
import Derived.Lib.Split
import Derived.Lib.AtoiAll
import Derived.Lib.AtoiTie
import Derived.Lib.ItoaNum
import Derived.Shelf.Strings.Split
import Derived.Lib.ConvBytes
import Derived.Sort.Grow
import Derived.ChangeSame
import Derived.Lib.LaidU8
import Derived.Shelf.Vars
import Derived.ChangeSlices
import Derived.Carry
set_option linter.unusedVariables false
namespace Go.M
open Go Go.RowKit

theorem exit_plain {w w' : World} {okp okr : Nat → Prop} {l : List (Bool × Pl)} {vals : List RV} {vs : List Value} {rl : List Pl} (hw : Below w.heap.size w w') (hv : ValsOK w' okr vals vs rl) (hnd : (blks rl).Nodup) (hnew : ∀ b ∈ blks rl, w.heap.size ≤ b)
    (hok : ∀ b, okr b → (b < w.heap.size → okp b) ∧ b ∉ blks rl) : ExitOK w w' okp l [] ⟨vals, []⟩ (packV vs) where
  os := hw.os
  tape := hw.tape
  output := hw.output
  size := hw.size
  bsz := fun b => by
    by_cases hb : b < w.heap.size
    · rw [bsz_of_heap (hw.block b hb)]; exact Nat.le_refl _
    · rw [bsz_ge hb]; exact Nat.zero_le _
  keep := fun b hb _ => hw.block b hb
  box := fun b p n hm => by simp at hm
  out := ⟨okr, vs, rl, [], rfl, hv, .nil, by simpa using hnd, fun b hb hlt => by
    rw [List.append_nil] at hb
    have := hnew b hb
    omega, fun b hb => ⟨fun hlt => .inl ((hok b hb).1 hlt), by simpa using (hok b hb).2⟩⟩

theorem sound_direct {P : Program} {J : GInv} {g : FuncId} {f : Func} (s : Sig) {F : dens s.cin → Option (dens s.cout)} (hf : P.funcs[g]? = some f) (hname : f.name ≠ "runtime.NumGoroutine") (hb : f.body.isSome = true)
    (h : ∀ x r w okp vs l, ArgsOK w okp (s.args x) vs l → J.I w → F x = some r → Calls P g vs.toArray w fun e w' => ∃ v, e = .returned v ∧ ExitOK w w' okp l (pinsOf (s.args x) l) (s.enc r) v) : Sound P J g (s.callee F) := by
  refine ⟨⟨f, hf, hb, hname⟩, fun args vs l w okp r hA hs ho hI hB hr => ?_⟩
  have key : ∀ (D : Den), D = (s.callee F).den args → ∀ r : D.α, D.run = some r → Calls P g vs.toArray w fun e w' => ∃ v, e = .returned v ∧ ExitOK w w' okp l (pinsOf args l) (D.enc r) v := by
    clear hr r
    intro D hD
    simp only [Sig.callee] at hD
    split at hD
    · rename_i x hx
      subst hD
      intro r hr
      have ha := Sig.take_spec hx
      subst ha
      exact h x r w okp vs l hA hI hr
    · subst hD; intro r hr; cases hr
  exact key _ rfl r hr

theorem args_str1 {w : World} {ok : Nat → Prop} {a : ByteArray} {vs : List Value} {l : List (Bool × Pl)} (h : ArgsOK w ok [.one (.str a)] vs l) : vs = [.string a] ∧ l = [] := by
  cases h with
  | cons h1 h2 => cases h2; obtain ⟨rfl, h3⟩ := h1; exact ⟨by rw [show _ = Value.string a from h3], rfl⟩
theorem args_int1 {w : World} {ok : Nat → Prop} {k : IntKind} {n : Int} {vs : List Value} {l : List (Bool × Pl)} (h : ArgsOK w ok [.one (.int k n)] vs l) : vs = [.int k n] ∧ l = [] := by
  cases h with
  | cons h1 h2 => cases h2; obtain ⟨rfl, h3⟩ := h1; exact ⟨by rw [show _ = Value.int k n from h3], rfl⟩
theorem args_str2 {w : World} {ok : Nat → Prop} {a b : ByteArray} {vs : List Value} {l : List (Bool × Pl)} (h : ArgsOK w ok [.one (.str a), .one (.str b)] vs l) : vs = [.string a, .string b] ∧ l = [] := by
  cases h with
  | cons h1 h2 =>
    obtain ⟨rfl, rfl⟩ := args_str1 h2
    obtain ⟨rfl, h3⟩ := h1
    exact ⟨by rw [show _ = Value.string a from h3], rfl⟩

section
variable {P : Program} {J : GInv} {g : FuncId} {f : Func}

/-! ### strings.Split -/
noncomputable def G_strings_Split (a b : ByteArray) : Option (List ByteArray) := if a.size < 4294967281 ∧ 1 ≤ b.size then some (Lib.splitB b 0 (Lib.countB a b) a) else none
@[reducible] def sigSplit : Sig := ⟨[], [.one, .one], [.str, .str], [.one], [], [.own .str]⟩
theorem lib_Split {t9 : TypeId} {ml : Nat} (hf : P.funcs[g]? = some f) (hname : f.name ≠ "runtime.NumGoroutine") (hb : f.body.isSome = true) (hI : ∀ w, J.I w → ∃ m, w.cell? ⟨ml, 0, none⟩ = some (.int .i64 m))
    (hc : ∀ (s sep : ByteArray) (m : Int) (w : World), s.size < 4294967281 → w.cell? ⟨ml, 0, none⟩ = some (.int .i64 m) → 1 ≤ sep.size →
      Calls P g #[.string s, .string sep] w fun e w' => e = .returned (.slice (some ⟨w.heap.size, 0, none⟩) (Lib.countB s sep + 1) (Lib.countB s sep + 1)) ∧ w' = w.alloc (.cells ((Lib.splitB sep 0 (Lib.countB s sep) s).map Value.string).toArray t9)) :
    Sound P J g (sigSplit.callee fun x => G_strings_Split x.1 x.2) := by
  refine sound_direct sigSplit hf hname hb fun x r w okp vs l hA hi hr => ?_
  obtain ⟨a, b⟩ := x
  obtain ⟨rfl, rfl⟩ := args_str2 hA
  unfold G_strings_Split at hr
  split at hr
  · rename_i hsz
    cases hr
    obtain ⟨m, hm⟩ := hI w hi
    refine (hc a b m w hsz.1 hm hsz.2).mono fun e w' ⟨he, hw⟩ => ⟨_, he, ?_⟩
    subst hw
    have hle := Lib.countB_le b hsz.2 a.size a (Nat.le_refl _)
    have hlen := Lib.splitB_all b hsz.2 0 _ a rfl
    have hwh : (w.alloc (.cells ((Lib.splitB b 0 (Lib.countB a b) a).map Value.string).toArray t9)).heap[w.heap.size]? = some (.cells ((Lib.splitB b 0 (Lib.countB a b) a).map Value.string).toArray t9 (0, 0)) := heap_alloc_new w _
    refine exit_plain (okr := fun _ => False) (rl := [some (w.heap.size, 0)]) (vs := [_]) ((Below.refl _ _).alloc (Nat.le_refl _) _) ?_ (by simp [blks]) (by simp [blks]) (fun b hb => hb.elim)
    refine .cons (pl := [some (w.heap.size, 0)]) ?_ .nil
    refine ⟨some (w.heap.size, 0), rfl, Lib.countB a b + 1, _, t9, ?_, ?_, ?_, hwh, ?_, fun i x hx => ?_⟩
    · rw [hlen]
    · rw [hlen]; exact Nat.le_refl _
    · have h1 := hsz.1; simp only at h1; unfold maxLen; omega
    · simp [hlen, Ty.size]
    · show _ = some (Value.string x)
      simp [Ty.size, hx]
  · cases hr

/-! ### strconv.Itoa -/
noncomputable def G_strconv_Itoa (n : Int) : Option ByteArray := if -9223372036854775808 ≤ n ∧ n ≤ 9223372036854775807 then some ⟨(Lib.itoa n).toArray⟩ else none
@[reducible] def sigItoa : Sig := ⟨[], [.one], [.int .i64], [.one], [], [.str]⟩
theorem lib_Itoa (hf : P.funcs[g]? = some f) (hname : f.name ≠ "runtime.NumGoroutine") (hb : f.body.isSome = true)
    (hc : ∀ (n : Int) (w : World), -9223372036854775808 ≤ n → n ≤ 9223372036854775807 → J.I w → Calls P g #[.int .i64 n] w fun e w' => e = .returned (.string ⟨(Lib.itoa n).toArray⟩) ∧ Below w.heap.size w w') :
    Sound P J g (sigItoa.callee fun x => G_strconv_Itoa x) := by
  refine sound_direct sigItoa hf hname hb fun x r w okp vs l hA hi hr => ?_
  obtain ⟨rfl, rfl⟩ := args_int1 hA
  unfold G_strconv_Itoa at hr
  split at hr
  · rename_i hn
    cases hr
    refine (hc x w hn.1 hn.2 hi).mono fun e w' ⟨he, hw⟩ => ⟨_, he, ?_⟩
    exact exit_plain (okr := fun _ => False) (rl := []) (vs := [_]) hw (.cons (pl := []) ⟨rfl, rfl⟩ .nil) (by simp [blks]) (by simp [blks]) (fun b hb => hb.elim)
  · cases hr

/-! ### strconv.Atoi -/
/-- How a parse of no number ends. -/
@[reducible] def noNum : Lib.NumEnd Int := Lib.NumEnd.ofOption none
noncomputable def G_strconv_Atoi (s : ByteArray) : Option (Int × Bool) := if s.size ≤ 281474976710656 then (match Lib.atoiAll s.data.toList with
    | .ok v => some (v, true)
    | .range => some (Lib.atoiSat s.data.toList, false)
    | _ => some (0, false)) else none
@[reducible] def sigAtoi : Sig := ⟨[], [.one], [.str], [.one, .one], [], [.int .i64, .err]⟩
theorem lib_Atoi (hf : P.funcs[g]? = some f) (hname : f.name ≠ "runtime.NumGoroutine") (hb : f.body.isSome = true)
    (h1 : ∀ (s : ByteArray) (v : Int) (w : World), s.size ≤ 281474976710656 → Lib.atoiAll s.data.toList = .ok v → J.I w → Calls P g #[.string s] w fun e w' => e = .returned (.tuple #[.int .i64 v, .nilIface]) ∧ Below w.heap.size w w')
    (h2 : ∀ (s : ByteArray) (w : World), s.size ≤ 281474976710656 → Lib.atoiAll s.data.toList = noNum → J.I w → Calls P g #[.string s] w fun e w' => ∃ t u, e = .returned (.tuple #[.int .i64 0, .iface t u]) ∧ Below w.heap.size w w')
    (h3 : ∀ (s : ByteArray) (w : World), s.size ≤ 281474976710656 → Lib.atoiAll s.data.toList = .range → J.I w → Calls P g #[.string s] w fun e w' => ∃ t u, e = .returned (.tuple #[.int .i64 (Lib.atoiSat s.data.toList), .iface t u]) ∧ Below w.heap.size w w') :
    Sound P J g (sigAtoi.callee fun x => G_strconv_Atoi x) := by
  refine sound_direct sigAtoi hf hname hb fun x r w okp vs l hA hi hr => ?_
  obtain ⟨rfl, rfl⟩ := args_str1 hA
  unfold G_strconv_Atoi at hr
  split at hr
  · rename_i hsz
    cases hv : Lib.atoiAll x.data.toList with
    | ok v =>
      rw [hv] at hr
      cases hr
      refine (h1 x v w hsz hv hi).mono fun e w' ⟨he, hw⟩ => ⟨_, he, ?_⟩
      exact exit_plain (okr := fun _ => False) (rl := []) (vs := [.int .i64 v, .nilIface]) hw (.cons (pl := []) ⟨rfl, rfl⟩ (.cons (pl := []) ⟨rfl, .inl ⟨rfl, rfl⟩⟩ .nil)) (by simp [blks]) (by simp [blks]) (fun b hb => hb.elim)
    | range =>
      rw [hv] at hr
      cases hr
      refine (h3 x w hsz hv hi).mono fun e w' ⟨t, u, he, hw⟩ => ⟨_, he, ?_⟩
      exact exit_plain (okr := fun _ => False) (rl := []) (vs := [.int .i64 _, .iface t u]) hw (.cons (pl := []) ⟨rfl, rfl⟩ (.cons (pl := []) ⟨rfl, .inr ⟨rfl, t, u, rfl⟩⟩ .nil)) (by simp [blks]) (by simp [blks]) (fun b hb => hb.elim)
    | _ =>
      rw [hv] at hr
      cases hr
      refine (h2 x w hsz hv hi).mono fun e w' ⟨t, u, he, hw⟩ => ⟨_, he, ?_⟩
      exact exit_plain (okr := fun _ => False) (rl := []) (vs := [.int .i64 0, .iface t u]) hw (.cons (pl := []) ⟨rfl, rfl⟩ (.cons (pl := []) ⟨rfl, .inr ⟨rfl, t, u, rfl⟩⟩ .nil)) (by simp [blks]) (by simp [blks]) (fun b hb => hb.elim)
  · cases hr
end

/-! ### What the library's variables hold, throughout -/
/-- ml, pw, es, er: the numbers of the variables internal/bytealg.MaxLen, internal/strconv.uint64pow10, strconv.ErrSyntax, strconv.ErrRange. -/
def libI (ml pw es er : Nat) (w : World) : Prop :=
  (∃ m, w.cell? ⟨ml, 0, none⟩ = some (.int .i64 m)) ∧ (∃ t f, w.heap[pw]? = some (.cells (Lib.pow10Tab.map fun z => Value.int .u64 z).toArray t f)) ∧ (∃ tp p t f, w.heap[es]? = some (.cells #[.iface tp p] t f)) ∧ (∃ tp p t f, w.heap[er]? = some (.cells #[.iface tp p] t f))
def libInv (ml pw es er : Nat) : GInv where
  G := [ml, pw, es, er]
  I := libI ml pw es er
  keep := fun w w' h hk => by
    obtain ⟨⟨m, h1⟩, ⟨t2, f2, h2⟩, ⟨tp3, p3, t3, f3, h3⟩, ⟨tp4, p4, t4, f4, h4⟩⟩ := h
    exact ⟨⟨m, by rw [cell?_of_heap (hk ml (by simp))]; exact h1⟩, ⟨t2, f2, by rw [hk pw (by simp)]; exact h2⟩, ⟨tp3, p3, t3, f3, by rw [hk es (by simp)]; exact h3⟩, ⟨tp4, p4, t4, f4, by rw [hk er (by simp)]; exact h4⟩⟩
theorem libI.tab {ml pw es er : Nat} {w : World} {P : Program} {name : String} (h : libI ml pw es er w) (hn : P.globalNamed name = some pw) : Lib.TabIs P w name .u64 Lib.pow10Tab := by
  obtain ⟨_, ⟨t, f, h2⟩, _⟩ := h
  simp [Lib.TabIs, World.var?, hn, h2]
theorem libI.es {ml pw es er : Nat} {w : World} {P : Program} {name : String} (h : libI ml pw es er w) (hn : P.globalNamed name = some es) : ∃ tp p, w.var? P name = some #[.iface tp p] := by
  obtain ⟨_, _, ⟨tp, p, t, f, h2⟩, _⟩ := h
  exact ⟨tp, p, by simp [World.var?, hn, h2]⟩
theorem libI.er {ml pw es er : Nat} {w : World} {P : Program} {name : String} (h : libI ml pw es er w) (hn : P.globalNamed name = some er) : ∃ tp p, w.var? P name = some #[.iface tp p] := by
  obtain ⟨_, _, _, tp, p, t, f, h2⟩ := h
  exact ⟨tp, p, by simp [World.var?, hn, h2]⟩
theorem below_grow (w : World) (k : Nat) (os : Array Go.Obj) : Below w.heap.size w (Go.Sort.grow (w.drewN k) os) :=
  ⟨rfl, rfl, rfl, by show w.heap.size ≤ (w.heap ++ os).size; simp, fun j hj => by
    show (w.heap ++ os)[j]? = _
    rw [Array.getElem?_append_left hj]⟩
theorem below_freeze (w : World) (a : Addr) (n b : Nat) (h : b ≤ a.block) : Below b w (w.freeze a n) := by
  unfold World.freeze
  split
  · exact Below.refl _ _
  · refine ⟨rfl, rfl, rfl, by show w.heap.size ≤ (w.heap.modify _ _).size; simp, fun k hk => ?_⟩
    show (w.heap.modify _ _)[k]? = _
    rw [Array.getElem?_modify, if_neg (by omega)]
theorem below_bytes (w : World) (t : TypeId) (s : ByteArray) : Below w.heap.size w (Lib.bytesWorld w t s) :=
  (((Below.refl _ _).drew).alloc (Nat.le_refl _) _).trans (below_freeze _ _ _ _ (Nat.le_refl _))
end Go.M
namespace Go.M
open Go Go.Proofs Go.RowKit Go.ChangeShapes Go.WideShapes
theorem law_calls {P : Program} {J : GInv} {g : FuncId} {ce : Callee1} (h : Sound P J g ce) {args : List Arg} {vs : List Value} {w : World} (hA : ArgsOK w (fun _ => True) args vs []) (hJ : J.I w) (hG : ∀ b ∈ J.G, b < w.heap.size)
    (enc : Bool → Ret) (hd : ce.den args = ⟨Bool, some true, enc⟩) (he : enc true = ⟨[.one (.bool true)], []⟩) :
    Calls P g vs.toArray w fun e w' => e = .returned (.bool true) ∧ Below w.heap.size w w' := by
  have key : ∀ (D : Den), D = ce.den args → ∀ r : D.α, D.run = some r → Calls P g vs.toArray w fun e w' => ∃ v, e = .returned v ∧ ExitOK w w' (fun _ => True) [] (pinsOf args []) (D.enc r) v := by
    intro D hD r hr
    subst hD
    exact h.2 args vs [] w (fun _ => True) r hA (fun i j f b p p' h1 _ => by simp at h1) (fun b _ ho => by obtain ⟨p, hp⟩ := ho; cases hp) hJ (fun b hb => ⟨hG b hb, trivial⟩) hr
  refine (key ⟨Bool, some true, enc⟩ hd.symm true rfl).mono fun e w' ⟨v, hv, hx⟩ => ?_
  subst hv
  obtain ⟨okr, vs', rl, ol, e1, e2, _⟩ := hx.out
  have e2' : ValsOK w' okr [.one (.bool true)] vs' rl := by
    have : (enc true).vals = [.one (.bool true)] := by rw [he]
    rw [← this]
    exact e2
  cases e2' with
  | cons a b =>
    cases b
    have a' : GCell w' okr (.bool true) _ _ := a
    have : _ = Value.bool true := a'.2
    subst this
    exact ⟨by rw [e1]; rfl, hx.os, hx.tape, hx.output, hx.size, fun k hk => hx.keep k hk (fun ⟨p, hp⟩ => by cases hp)⟩

section
variable {H : Type} {enc : TypeId × Value → H} {P : Program}
/-- The row's conclusion where the old blocks stay. -/
theorem post_below {f : Func} {s : ChangeSpec} {apart fresh handsOn : Bool} {W W' : World} {args : Array Value} {v : Value} {ds gs : List (DataW H)} {before pa pv : List MemPlace}
    (hW : DataW.Whole enc P f.params.toList s.vars apart W args.toList ds gs before) (hb : Below W.heap.size W W')
    (hres : ∀ (b : Nat) (sp : Nat → Bool) (hd : Bool), DataW.TrodAll enc P W' b sp hd f.resultTypes.toList (v.resultList f.resultTypes.size) (s.fn H (ds ++ gs)).results [])
    (hargs : DataW.TrodAll enc P W' 0 (fun b => decide (b < W.heap.size)) true f.params.toList args.toList (s.fn H (ds ++ gs)).args pa)
    (hvars : DataW.TrodVars enc P W' (fun b => decide (b < W.heap.size)) s.vars (s.fn H (ds ++ gs)).vars pv) :
    s.post enc P f apart fresh handsOn false W args v W' :=
  ⟨ds, gs, before, [], pa, pv, hW, hres _ _ _, hargs, hvars, hb.frame _, fun h => by cases h⟩
end

/-! ### A slice of integers that came in -/
/-- Its reading, and the row of integers as the evaluator takes it. -/
theorem ints_arg {H : Type} {enc : TypeId × Value → H} {P : Program} {w : World} {base : Nat} {t e : TypeId} {k : IntKind} {v : Value} {d : DataW H} {ps : List MemPlace} {r : Reach} {b0 : Nat} (ht : P.underlying t = some (.slice e)) (he : P.underlying e = some (.int k)) (hc : P.cellsOf e = 1)
    (hval : Value.okWide P w r b0 t v) (h : DataW.Trod enc P w base (fun _ => true) true t v d ps) : ∃ xs : List Int, RdS w (fun _ => True) (.int k) xs v ∧ ∀ n ∈ xs, (Lit.int k n).wf = true := by
  obtain ⟨a, len, cap, rfl⟩ := okWide_slice ht hval
  obtain ⟨fuel, hf⟩ := h
  rcases open_ints ht he hc hf with ⟨h1, _⟩ | ⟨a', len', cap', zs, h1, hb, hl, hm, hz, _, hcell, hwf⟩
  · have h1' : Value.slice a len cap = .slice none 0 0 := by simpa [Value.cells] using h1
    cases h1'
    exact ⟨[], ⟨none, 0, rfl, Nat.le_refl _, by simp, .inl rfl⟩, by simp⟩
  · have h1' : Value.slice a len cap = .slice (some a') len' cap' := by simpa [Value.cells] using h1
    cases h1'
    simp only [if_true] at hz
    have hlen : (zs.take len).length = len := by rw [List.length_take]; omega
    refine ⟨zs.take len, ⟨some a', cap, by rw [hlen], by rw [hlen]; exact hl, hm, ?_⟩, fun n hn => hwf n (List.mem_of_mem_take hn)⟩
    cases hzs : zs with
    | nil => exact .inl (by simp)
    | cons z rest =>
      have h0 := hcell 0 (by rw [hzs]; simp)
      have hs : a'.spot = none := by
        have e : a'.add 0 = a' := rfl
        rw [e] at h0
        unfold World.cell? at h0
        split at h0
        · split at h0
          · cases h0
          · rename_i hsp
            cases hq : a'.spot with
            | none => rfl
            | some q => rw [hq] at hsp; exact absurd rfl hsp
        · cases h0
      refine .inr ⟨a'.block, a'.off, by cases a'; simp only at hs; subst hs; rfl, trivial, fun i x hx => ?_⟩
      rw [← hzs] at hx
      have hi : i < zs.length := by
        have := (List.getElem?_eq_some_iff.1 hx).1
        simp at this
        omega
      have hx' : zs[i]? = some x := by
        rw [List.getElem?_take] at hx
        split at hx
        · exact hx
        · cases hx
      have hg : zs.getD i 0 = x := by simp [List.getD, hx']
      have hci := hcell i hi
      rw [hg] at hci
      show w.cell? ⟨a'.block, a'.off + i * 1 + 0, none⟩ = some (.int k x)
      have ea : a'.add i = ⟨a'.block, a'.off + i * 1 + 0, none⟩ := by
        unfold Addr.add
        split
        · rename_i e
          subst e
          cases a'
          simp only at hs
          subst hs
          rfl
        · simp
      rw [← ea]
      exact hci

/-! ### What the listed variables give -/
theorem tab_of_reads {P : Program} {w : World} {name : String} {k : IntKind} {zs : List Int} {g : Nat} {t e : TypeId} {n : Nat} (h : Lib.VarReads P w name (Lib.tabData k zs))
    (hg : P.globalNamed name = some g) (hty : (P.globals[g]?).map (·.type) = some t) (ht : P.underlying t = some (.array n e)) (he : P.underlying e = some (.int k)) (hce : P.cellsOf e = 1) (hct : P.cellsOf t = n) :
    ∃ t f, w.heap[g]? = some (.cells (zs.map fun z => Value.int k z).toArray t f) := by
  obtain ⟨g', t', cs, fuel, p, hg', ht', hvar, hd⟩ := h
  obtain rfl := Option.some.inj (hg.symm.trans hg')
  obtain rfl := Option.some.inj (hty.symm.trans ht')
  have hc := Lib.cells_of_tab ht he hce hct hd
  have : cs = (zs.map fun z => Value.int k z).toArray := by rw [← hc]
  subst this
  simp only [World.var?, hg, Option.bind_some] at hvar
  split at hvar
  · rename_i cs t f hh
    cases hvar
    exact ⟨t, f, hh⟩
  · cases hvar
theorem iface_of_reads {P : Program} {w : World} {name nm : String} {d : DataW Unit} {g : Nat} {t : TypeId} {ms : Array (String × TypeId)} (h : Lib.VarReads P w name (.iface nm d))
    (hg : P.globalNamed name = some g) (hty : (P.globals[g]?).map (·.type) = some t) (ht : P.underlying t = some (.interface ms)) :
    ∃ tp p t f, w.heap[g]? = some (.cells #[.iface tp p] t f) := by
  obtain ⟨g', t', cs, fuel, p, hg', ht', hvar, hd⟩ := h
  obtain rfl := Option.some.inj (hg.symm.trans hg')
  obtain rfl := Option.some.inj (hty.symm.trans ht')
  obtain ⟨f1, u, v, hc, _, _⟩ := iface_of_trod ht hd
  have : cs = #[.iface u v] := by
    obtain ⟨l⟩ := cs
    have : l = [.iface u v] := hc
    rw [this]
  subst this
  simp only [World.var?, hg, Option.bind_some] at hvar
  split at hvar
  · rename_i cs t f hh
    cases hvar
    exact ⟨u, v, t, f, hh⟩
  · cases hvar
end Go.M
