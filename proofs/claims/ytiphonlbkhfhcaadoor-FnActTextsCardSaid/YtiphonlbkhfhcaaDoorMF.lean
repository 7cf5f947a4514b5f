/-
  Contracts from equations; struct equality.
-/
import Derived.Test.YtiphonlbkhfhcaaDoorME
set_option linter.unusedVariables false
namespace Go.M
open Go

/-- **The theorem of use.** -/
theorem sound_of {P : Program} {g : FuncId} {f : Func} {T : TypeId → Option TI} {Γ : Tab} {ce : Callee1} {J : GInv} (hT : TFacts P T) (hΓ : ∀ g ce, Γ.get g = some ce → Sound P J g ce) (hm : P.follows .mixedOrders = true)
    (hf : P.funcs[g]? = some f) (hname : f.name ≠ "runtime.NumGoroutine") (hb : f.body.isSome = true) (hchk : (match f.body with | some c => codeChk c | none => false) = true)
    (hrun : ∀ (args : List Arg) (r : (ce.den args).α), Fits args → (ce.den args).run = some r → ∃ (X : Cx) (ρ : Type) (fin : Ret → Option ρ) (x : ρ), X.T = T ∧ X.Γ = Γ ∧ run X f args fin = some x ∧ ∀ ret, fin ret = some x → ret = (ce.den args).enc r) : Sound P J g ce :=
  run_sound hT hΓ hf hname (fun S pin h1 h2 => norm_ok h1 h2) (fun S X hP hnt hX ops hc ρ r id k Q φ σ a w hr he hk => draw_ok hX hnt.symm (by rw [hP]; exact hm) hc hr he hk) hb hchk hrun

/-! ### What arguments that lie in some world are known to be -/
theorem Rd.list_len {w : World} {ok : Nat → Prop} {t : Ty} {xs : List t.den} {v : Value} (h : RdS w ok t xs v) : xs.length ≤ maxLen := by
  obtain ⟨a, cap, _, h1, h2, _⟩ := h
  exact Nat.le_trans h1 h2
theorem OwnV.len {w : World} {ok : Nat → Prop} {pl : Pl} {t : Ty} {xs : List t.den} {v : Value} (h : OwnV w ok pl t xs v) : xs.length ≤ maxLen := by
  cases pl with
  | none => rw [h.1]; exact Nat.zero_le _
  | some bp => obtain ⟨cap, cur, el, _, h1, h2, _⟩ := h; exact Nat.le_trans h1 h2
/-- The lengths of the lists in a cell. -/
def C.lenOK : C → Prop
  | .tr _ xs => xs.length ≤ maxLen
  | .own _ xs => xs.length ≤ maxLen
  | _ => True
def Arg.lenOK : Arg → Prop
  | .one c => c.lenOK
  | .agg cs => ∀ c ∈ cs, c.lenOK
  | .io cs => ∀ c ∈ cs, c.lenOK
  | .rio cs => ∀ c ∈ cs, c.lenOK
  | .own _ _ xs => xs.length ≤ maxLen
  | .fn _ caps => ∀ cs ∈ caps, ∀ c ∈ cs, c.lenOK
theorem RP.lenOK {w : World} {ok : Nat → Prop} {c : C} {v : Value} (h : RP w ok c v) : c.lenOK := by
  cases c with
  | tr t xs => exact Rd.list_len (show RdS w ok t xs v from h)
  | own t xs => exact h.elim
  | _ => trivial
theorem GCells.lenOK {w : World} {ok : Nat → Prop} {cs : List C} {vs : List Value} {pls : List Pl} (h : GCells w ok cs vs pls) : ∀ c ∈ cs, c.lenOK := by
  induction h with
  | nil => intro c hc; simp at hc
  | @cons c v pl cs vs pls h1 _ ih =>
    intro d hd
    rcases List.mem_cons.1 hd with rfl | hd
    · cases d with
      | own t xs => obtain ⟨pl', _, ho⟩ := h1; exact ho.len
      | dead => trivial
      | _ => exact RP.lenOK h1.2
    · exact ih d hd
theorem RPs.lenOK {w : World} {ok : Nat → Prop} {cs : List C} {vs : List Value} (h : RPs w ok cs vs) : ∀ c ∈ cs, c.lenOK := by
  intro c hc
  obtain ⟨j, hj⟩ := List.getElem?_of_mem hc
  have hlt : j < vs.length := by rw [h.1]; exact (List.getElem?_eq_some_iff.1 hj).1
  exact RP.lenOK (h.2 j c _ hj (List.getElem?_eq_getElem hlt))
theorem CapsAt.lenOK {w : World} {ok : Nat → Prop} {css : List (List C)} {vs : List Value} {pls : List Pl} (h : CapsAt w ok css vs pls) : ∀ cs ∈ css, ∀ c ∈ cs, c.lenOK := by
  induction h with
  | nil => intro cs hcs; simp at hcs
  | cons k1 _ ih =>
    intro cs hcs
    rcases List.mem_cons.1 hcs with rfl | hcs
    · obtain ⟨cur, el, us, _, _, _, hg⟩ := k1; exact hg.lenOK
    · exact ih cs hcs
theorem ArgsOK.lenOK {w : World} {ok : Nat → Prop} {args : List Arg} {vs : List Value} {l : List (Bool × Pl)} (h : ArgsOK w ok args vs l) : ∀ a ∈ args, a.lenOK := by
  induction h with
  | nil => intro a ha; simp at ha
  | @cons a v pls as vs l h1 _ ih =>
    intro b hb
    rcases List.mem_cons.1 hb with rfl | hb
    · cases b with
      | one c => exact RP.lenOK h1.2
      | agg cs => obtain ⟨_, us, _, hr⟩ := h1; exact hr.lenOK
      | io cs => obtain ⟨b, p, r, _, _, hbx⟩ := h1; obtain ⟨cur, el, us, _, _, _, hg⟩ := hbx; exact hg.lenOK
      | rio cs => obtain ⟨b, p, _, _, hbx⟩ := h1; obtain ⟨cur, el, us, _, _, _, hg⟩ := hbx; exact hg.lenOK
      | own io t xs => obtain ⟨pl, _, ho⟩ := h1; exact ho.len
      | fn g caps =>
        obtain ⟨us, _, hc⟩ := h1
        exact hc.lenOK
    · exact ih b hb
theorem Fits.lenOK {args : List Arg} (h : Fits args) : ∀ a ∈ args, a.lenOK := by obtain ⟨w, ok, vs, l, hA⟩ := h; exact hA.lenOK
end Go.M
namespace Go.M
open Go

def kindOfC (c : C) (d : TypeDesc) : Bool := match c, d with
  | .int k _, .int k' => decide (k = k')
  | .bool _, .bool => true
  | .str _, .string => true
  | _, _ => false
/-- Fields that lie one behind the other, a scalar each, of the kinds of some cells. -/
def flatB (P : Program) : Nat → List Field → List C → Bool
  | _, [], [] => true
  | i, f :: fs, c :: cs => !(decide (f.name = "_")) && Nat.beq f.offset i && (match P.underlying f.type with | some d => kindOfC c d | none => false) && flatB P (i + 1) fs cs
  | _, _, _ => false
def cmpB (P : Program) (t : TypeId) (ti : TI) : Bool :=
  match P.underlying t with
  | some (.struct fs) => flatB P 0 fs.toList ti.zero && !P.stoodInHeld t && !P.eqGuardType P.depth t
  | _ => false

theorem run_part {P : Program} {t : TypeId} {d : TypeDesc} {c : C} (h : P.underlying t = some d) (hk : kindOfC c d = true) (xs : Array Value) (i : Nat) (v : Value) (hv : xs[i]? = some v) (w : World) : (part t xs i).run P w = .ok v w := by
  have ha : (isAgg t).run P w = .ok false w := by
    unfold kindOfC at hk
    split at hk <;> first
      | (cases hk; done)
      | simp [isAgg, run_underlying h]
  simp [part, ha, hv]

theorem kindc_int {k : IntKind} {n : Int} {d : TypeDesc} (h : kindOfC (.int k n) d = true) : d = .int k := by
  cases d <;> simp [kindOfC] at h
  rw [h]
theorem kindc_bool {b : Bool} {d : TypeDesc} (h : kindOfC (.bool b) d = true) : d = .bool := by cases d <;> simp [kindOfC] at h; rfl
theorem kindc_str {s : ByteArray} {d : TypeDesc} (h : kindOfC (.str s) d = true) : d = .string := by cases d <;> simp [kindOfC] at h; rfl

theorem equal_scalar {P : Program} {t : TypeId} {d : TypeDesc} {z x y : C} {b : Bool} {E : Env} {v u : Value} (h : P.underlying t = some d) (hk : kindOfC z d = true) (hx : kinds [z] [x] = true) (he : eqCells [x] [y] = some b) (hv : RC E x v) (hu : RC E y u) (n : Nat) (w : World) :
    (Op.equalIn (n + 1) t v u).run P w = .ok b w := by
  simp only [eqCells] at he
  split at he
  · rename_i k a k' a'
    obtain rfl : v = .int k a := hv
    obtain rfl : u = .int k' a' := hu
    cases hkk : decide (k = k') with
    | false => rw [hkk] at he; cases he
    | true =>
      rw [hkk] at he
      have hkk : k = k' := of_decide_eq_true hkk
      subst hkk
      cases z <;> simp [kinds] at hx
      have := kindc_int hk
      subst this
      simp at he
      subst he
      simp [Op.equalIn, run_underlying h]
  · rename_i a a'
    obtain rfl : v = .bool a := hv
    obtain rfl : u = .bool a' := hu
    cases z <;> simp [kinds] at hx
    have := kindc_bool hk
    subst this
    simp at he
    subst he
    simp [Op.equalIn, run_underlying h]
  · rename_i a a'
    obtain rfl : v = .string a := hv
    obtain rfl : u = .string a' := hu
    cases z <;> simp [kinds] at hx
    have := kindc_str hk
    subst this
    simp at he
    subst he
    simp [Op.equalIn, run_underlying h]
  · cases he

theorem eqCells_cons {x y : C} {r r' : List C} {b : Bool} (h : eqCells (x :: r) (y :: r') = some b) : ∃ b0 b1, eqCells [x] [y] = some b0 ∧ eqCells r r' = some b1 ∧ b = (b0 && b1) := by
  simp only [eqCells] at h ⊢
  split at h
  · rename_i b1 hb
    split at h
    · rename_i k a k' a'
      cases hk : decide (k = k') with
      | false => rw [hk] at h; cases h
      | true => rw [hk] at h; cases h; exact ⟨a == a', b1, by simp, hb, by simp⟩
    · cases h; exact ⟨_, b1, rfl, hb, by simp⟩
    · cases h; exact ⟨_, b1, rfl, hb, by simp⟩
    · cases h
  · cases h
theorem kinds_cons {z c : C} {zs cs : List C} (h : kinds (z :: zs) (c :: cs) = true) : kinds [z] [c] = true ∧ kinds zs cs = true := by
  simp only [kinds, Bool.and_eq_true] at h ⊢
  exact ⟨⟨h.1, trivial⟩, h.2⟩

theorem equal_fields {P : Program} {E : Env} {n : Nat} {w : World} : ∀ {fs : List Field} {i : Nat} {zs cs cs' : List C} {b : Bool} {xs ys : Array Value}, flatB P i fs zs = true → kinds zs cs = true → eqCells cs cs' = some b →
    (∀ (j : Nat) (c : C), cs[j]? = some c → ∃ v, xs[i + j]? = some v ∧ RC E c v) → (∀ (j : Nat) (c : C), cs'[j]? = some c → ∃ v, ys[i + j]? = some v ∧ RC E c v) →
    (forIn (m := Sem) fs ((none, ()) : Option Bool × Unit) fun f __s =>
            if f.name = "_" then pure (ForInStep.yield (none, ()))
            else do
              let __do_lift ← part f.type xs f.offset
              let __do_lift_1 ← part f.type ys f.offset
              let __do_lift ← Op.equalIn (n + 1) f.type __do_lift __do_lift_1
              if __do_lift = false then pure (ForInStep.done (some false, ())) else pure (ForInStep.yield (none, ()))).run P w = .ok (if b then (none, ()) else (some false, ())) w
  | [], i, zs, cs, cs', b, xs, ys, hf, hk, he, hx, hy => by
    cases zs with
    | cons => cases hf
    | nil =>
      cases cs with
      | cons => cases hk
      | nil =>
        cases cs' with
        | cons => cases he
        | nil => cases he; simp
  | f :: fs, i, zs, cs, cs', b, xs, ys, hf, hk, he, hx, hy => by
    cases zs with
    | nil => cases hf
    | cons z zs =>
      cases cs with
      | nil => cases hk
      | cons c cs =>
        cases cs' with
        | nil => simp [eqCells] at he
        | cons c' cs' =>
          obtain ⟨b0, b1, e1, e2, rfl⟩ := eqCells_cons he
          obtain ⟨k1, k2⟩ := kinds_cons hk
          simp only [flatB, Bool.and_eq_true, Bool.not_eq_true', decide_eq_false_iff_not] at hf
          obtain ⟨⟨⟨f1, f2⟩, f3⟩, f4⟩ := hf
          have f2 := Nat.eq_of_beq_eq_true f2
          obtain ⟨v, hv, rv⟩ := hx 0 c rfl
          obtain ⟨u, hu, ru⟩ := hy 0 c' rfl
          simp only [Nat.add_zero] at hv hu
          split at f3
          · rename_i d hd
            have p1 := run_part hd f3 xs i v hv w
            have p2 := run_part hd f3 ys i u hu w
            have p3 := equal_scalar hd f3 k1 e1 rv ru n w
            have ih := equal_fields (n := n) (w := w) f4 k2 e2 (xs := xs) (ys := ys) (fun j d hd => by have := hx (j + 1) d (by simpa using hd); rw [show i + 1 + j = i + (j + 1) by omega]; exact this)
              (fun j d hd => by have := hy (j + 1) d (by simpa using hd); rw [show i + 1 + j = i + (j + 1) by omega]; exact this)
            rw [List.forIn_cons]
            simp only [if_neg f1, f2, Sem.run_bind, p1, p2, p3, Result.andThen_ok]
            cases b0 with
            | true => simp; exact ih
            | false => simp
          · cases f3

theorem guard_agg {P : Program} {t : TypeId} (h : P.eqGuardType P.depth t = false) (op : BinOp) (x y : Operand) (vs us : Array Value) (w : World) : (eqGuard op t x y (.agg vs) (.agg us)).run P w = .ok () w := by
  unfold eqGuard
  cases op <;> simp [h]

theorem cmp_of {P : Program} {t : TypeId} {ti : TI} (h : cmpB P t ti = true) (op : BinOp) (x y : Operand) (cs cs' : List C) (b : Bool) (vs vs' : Array Value) (E : Env) (hk : kinds ti.zero cs = true) (he : eqCells cs cs' = some b)
    (h1 : RCs E cs vs.toList) (h2 : RCs E cs' vs'.toList) (w : World) : (eqGuard op t x y (.agg vs) (.agg vs')).run P w = .ok () w ∧ (Op.equal t (.agg vs) (.agg vs')).run P w = .ok b w := by
  unfold cmpB at h
  split at h
  · rename_i fs hu
    simp only [Bool.and_eq_true, Bool.not_eq_true'] at h
    have conv : ∀ {cs : List C} {vs : Array Value}, RCs E cs vs.toList → ∀ (j : Nat) (c : C), cs[j]? = some c → ∃ v, vs[0 + j]? = some v ∧ RC E c v := fun {cs vs} hr j c hc => by
      have hlt : j < vs.toList.length := by rw [hr.1]; exact (List.getElem?_eq_some_iff.1 hc).1
      have hv : vs.toList[j]? = some vs.toList[j] := List.getElem?_eq_getElem hlt
      exact ⟨_, by rw [Nat.zero_add]; rw [← Array.getElem?_toList]; exact hv, hr.2 j c _ hc hv⟩
    have key := equal_fields (n := 9998) (w := w) h.1.1 hk he (conv h1) (conv h2)
    refine ⟨guard_agg h.2 op x y vs vs' w, ?_⟩
    show (Op.equalIn (9998 + 1 + 1) t (.agg vs) (.agg vs')).run P w = _
    rw [Op.equalIn]
    simp only [Array.forIn_toList] at key
    simp [run_underlying hu, h.1.2]
    simp [key]
    cases b <;> simp
  · cases h
theorem tfacts_of {P : Program} {l : List (TypeId × TI)} (h : (l.all fun p => tfB P p.1 p.2 && (!p.2.cmp || cmpB P p.1 p.2)) = true) : TFacts P (lookT l) := by
  refine ⟨tok_of (List.all_eq_true.2 fun p hp => ?_), fun t ti ht hc => ?_⟩
  · have := List.all_eq_true.1 h p hp
    simp only [Bool.and_eq_true] at this
    exact this.1
  · have hm : (t, ti) ∈ l := by
      clear h
      induction l with
      | nil => cases ht
      | cons x r ih =>
        obtain ⟨u, ui⟩ := x
        unfold lookT at ht
        cases hb : Nat.beq u t with
        | true =>
          rw [hb] at ht
          obtain rfl := Nat.eq_of_beq_eq_true hb
          simp only [cond_true, Option.some.injEq] at ht
          subst ht
          simp
        | false => rw [hb] at ht; exact List.mem_cons_of_mem _ (ih ht)
    have := List.all_eq_true.1 h (t, ti) hm
    simp only [Bool.and_eq_true, Bool.or_eq_true, Bool.not_eq_true'] at this
    rcases this.2 with h3 | h3
    · rw [hc] at h3; cases h3
    · exact cmp_of h3
end Go.M
namespace Go.M
open Go
noncomputable section

inductive CS where
  | int (k : IntKind) | bool | str | err | tr (t : Ty) | own (t : Ty)
@[reducible] def CS.den : CS → Type
  | .int _ => Int
  | .bool => Bool
  | .str => ByteArray
  | .err => Bool
  | .tr t => List t.den
  | .own t => List t.den
def CS.put : (s : CS) → s.den → C
  | .int k, n => .int k n
  | .bool, b => .bool b
  | .str, s => .str s
  | .err, b => .err b
  | .tr t, xs => .tr t xs
  | .own t, xs => .own t xs
def CS.take : (s : CS) → C → Option s.den
  | .int k, c => match c with
    | .int k' n => match decide (k' = k) with
      | true => some n
      | false => none
    | _ => none
  | .bool, c => match c with
    | .bool b => some b
    | _ => none
  | .str, c => match c with
    | .str s => some s
    | _ => none
  | .err, c => match c with
    | .err b => some b
    | _ => none
  | .tr t, c => match c with
    | .tr t' xs => if h : t' = t then some (h ▸ xs) else none
    | _ => none
  | .own t, c => match c with
    | .own t' xs => if h : t' = t then some (h ▸ xs) else none
    | _ => none
theorem CS.take_put {s : CS} {c : C} {x : s.den} (h : s.take c = some x) : c = s.put x := by
  cases s <;> cases c <;> simp only [CS.take] at h <;> first
    | (cases h; done)
    | (cases h; rfl)
    | (split at h
       · rename_i hk; cases h; rw [of_decide_eq_true hk]; rfl
       · cases h)
    | (split at h
       · rename_i hk; subst hk; cases h; rfl
       · cases h)

/-- Tuples: one cell is itself. -/
@[reducible] def dens : List CS → Type
  | [] => Unit
  | [s] => s.den
  | s :: s2 :: r => s.den × dens (s2 :: r)
def puts : (l : List CS) → dens l → List C
  | [], _ => []
  | [s], x => [s.put x]
  | s :: s2 :: r, x => s.put x.1 :: puts (s2 :: r) x.2
def takes : (l : List CS) → List C → Option (dens l)
  | [], cs => match cs with
    | [] => some ()
    | _ => none
  | [s], cs => match cs with
    | [c] => s.take c
    | _ => none
  | s :: s2 :: r, cs => match cs with
    | c :: cs => match s.take c with
      | some x => match takes (s2 :: r) cs with
        | some y => some (x, y)
        | none => none
      | none => none
    | [] => none
theorem takes_puts : ∀ {l : List CS} {cs : List C} {x : dens l}, takes l cs = some x → cs = puts l x
  | [], cs, x, h => by
    unfold takes at h
    split at h
    · rfl
    · cases h
  | [s], cs, x, h => by
    unfold takes at h
    split at h
    · rw [CS.take_put h]; rfl
    · cases h
  | s :: s2 :: r, cs, x, h => by
    unfold takes at h
    split at h
    · split at h
      · rename_i c cs y hy
        split at h
        · rename_i z hz
          cases h
          rw [CS.take_put hy, takes_puts hz]
          rfl
        · cases h
      · cases h
    · cases h

/-- The forms of arguments. -/
inductive AF where
  | one | agg (n : Nat) | io (n : Nat) | rio (n : Nat) | own (io : Bool) | fn (g : FuncId) (ns : List Nat)
def flatCaps : List Nat → List (List C) → Option (List C)
  | [], css => match css with
    | [] => some []
    | _ => none
  | n :: ns, css => match css with
    | cs :: css => match Nat.beq cs.length n with
      | true => match flatCaps ns css with
        | some r => some (cs ++ r)
        | none => none
      | false => none
    | [] => none
def splitCaps : List Nat → List C → List (List C)
  | [], _ => []
  | n :: ns, cs => cs.take n :: splitCaps ns (cs.drop n)
theorem flatCaps_spec : ∀ {ns : List Nat} {css : List (List C)} {cs r : List C}, flatCaps ns css = some cs → css = splitCaps ns (cs ++ r) ∧ cs.length = ns.sum
  | [], css, cs, r, h => by
    unfold flatCaps at h
    split at h
    · cases h; exact ⟨rfl, rfl⟩
    · cases h
  | n :: ns, css, cs, r, h => by
    unfold flatCaps at h
    split at h
    · split at h
      · rename_i hn
        have hn := Nat.eq_of_beq_eq_true hn
        split at h
        · rename_i c cs' y hy
          cases h
          obtain ⟨h1, h2⟩ := flatCaps_spec (r := r) hy
          subst hn
          refine ⟨?_, by simp [h2]⟩
          simp only [splitCaps, List.append_assoc, List.take_left, List.drop_left]
          rw [← h1]
        · cases h
      · cases h
    · cases h
def AF.len : AF → Nat
  | .one => 1
  | .agg n => n
  | .io n => n
  | .rio n => n
  | .own _ => 1
  | .fn _ ns => ns.sum
def AF.flat : AF → Arg → Option (List C)
  | .one, a => match a with
    | .one c => some [c]
    | _ => none
  | .agg n, a => match a with
    | .agg cs => match Nat.beq cs.length n with
      | true => some cs
      | false => none
    | _ => none
  | .io n, a => match a with
    | .io cs => match Nat.beq cs.length n with
      | true => some cs
      | false => none
    | _ => none
  | .rio n, a => match a with
    | .rio cs => match Nat.beq cs.length n with
      | true => some cs
      | false => none
    | _ => none
  | .own b, a => match a with
    | .own b' t xs => match b' == b with
      | true => some [.own t xs]
      | false => none
    | _ => none
  | .fn g ns, a => match a with
    | .fn g' caps => match Nat.beq g' g with
      | true => flatCaps ns caps
      | false => none
    | _ => none
def AF.unflat : AF → List C → Arg
  | .one, cs => match cs with
    | [c] => .one c
    | _ => .one .dead
  | .agg _, cs => .agg cs
  | .io _, cs => .io cs
  | .rio _, cs => .rio cs
  | .own b, cs => match cs with
    | [.own t xs] => .own b t xs
    | _ => .one .dead
  | .fn g ns, cs => .fn g (splitCaps ns cs)
theorem AF.flat_spec {f : AF} {a : Arg} {cs : List C} (h : f.flat a = some cs) : a = f.unflat cs ∧ cs.length = f.len := by
  cases f <;> cases a <;> simp only [AF.flat] at h <;> first
    | (cases h; done)
    | (cases h; exact ⟨rfl, rfl⟩)
    | (split at h
       · rename_i hn; have hn := Nat.eq_of_beq_eq_true hn; cases h; exact ⟨rfl, hn⟩
       · cases h)
    | skip
  · split at h
    · rename_i hb
      cases h
      have := eq_of_beq hb
      subst this
      exact ⟨rfl, rfl⟩
    · cases h
  · split at h
    · rename_i hg
      have := Nat.eq_of_beq_eq_true hg
      subst this
      obtain ⟨h1, h2⟩ := flatCaps_spec (r := []) h
      rw [List.append_nil] at h1
      exact ⟨by rw [AF.unflat, ← h1], h2⟩
    · cases h
def flatArgs : List AF → List Arg → Option (List C)
  | [], as => match as with
    | [] => some []
    | _ => none
  | f :: fs, as => match as with
    | a :: as => match f.flat a with
      | some cs => match flatArgs fs as with
        | some r => some (cs ++ r)
        | none => none
      | none => none
    | [] => none
def unflatArgs : List AF → List C → List Arg
  | [], _ => []
  | f :: fs, cs => f.unflat (cs.take f.len) :: unflatArgs fs (cs.drop f.len)
theorem flatArgs_spec : ∀ {fs : List AF} {as : List Arg} {cs : List C}, flatArgs fs as = some cs → as = unflatArgs fs cs
  | [], as, cs, h => by
    unfold flatArgs at h
    split at h
    · rfl
    · cases h
  | f :: fs, as, cs, h => by
    unfold flatArgs at h
    split at h
    · split at h
      · rename_i a as c hc
        split at h
        · rename_i r hr
          cases h
          obtain ⟨h1, h2⟩ := AF.flat_spec hc
          simp only [unflatArgs, ← h2, List.take_left, List.drop_left]
          rw [← h1, ← flatArgs_spec hr]
        · cases h
      · cases h
    · cases h

/-- The forms of results. -/
inductive RF where
  | one | agg (n : Nat) | box (n : Nat)
def RF.len : RF → Nat
  | .one => 1
  | .agg n => n
  | .box n => n
def RF.flat : RF → RV → Option (List C)
  | .one, a => match a with
    | .one c => some [c]
    | _ => none
  | .agg n, a => match a with
    | .agg cs => match Nat.beq cs.length n with
      | true => some cs
      | false => none
    | _ => none
  | .box n, a => match a with
    | .box cs => match Nat.beq cs.length n with
      | true => some cs
      | false => none
    | _ => none
def RF.unflat : RF → List C → RV
  | .one, cs => match cs with
    | [c] => .one c
    | _ => .one .dead
  | .agg _, cs => .agg cs
  | .box _, cs => .box cs
theorem RF.flat_spec {f : RF} {a : RV} {cs : List C} (h : f.flat a = some cs) : a = f.unflat cs ∧ cs.length = f.len := by
  cases f <;> cases a <;> simp only [RF.flat] at h <;> first
    | (cases h; done)
    | (cases h; exact ⟨rfl, rfl⟩)
    | (split at h
       · rename_i hn; have hn := Nat.eq_of_beq_eq_true hn; cases h; exact ⟨rfl, hn⟩
       · cases h)
def flatRVs : List RF → List RV → Option (List C)
  | [], as => match as with
    | [] => some []
    | _ => none
  | f :: fs, as => match as with
    | a :: as => match f.flat a with
      | some cs => match flatRVs fs as with
        | some r => some (cs ++ r)
        | none => none
      | none => none
    | [] => none
def unflatRVs : List RF → List C → List RV
  | [], _ => []
  | f :: fs, cs => f.unflat (cs.take f.len) :: unflatRVs fs (cs.drop f.len)
def RFlen : List RF → Nat
  | [] => 0
  | f :: fs => f.len + RFlen fs
theorem flatRVs_spec : ∀ {fs : List RF} {as : List RV} {cs r : List C}, flatRVs fs as = some cs → as = unflatRVs fs (cs ++ r) ∧ cs.length = RFlen fs
  | [], as, cs, r, h => by
    unfold flatRVs at h
    split at h
    · cases h; exact ⟨rfl, rfl⟩
    · cases h
  | f :: fs, as, cs, r, h => by
    unfold flatRVs at h
    split at h
    · split at h
      · rename_i a as c hc
        split at h
        · rename_i r' hr
          cases h
          obtain ⟨h1, h2⟩ := RF.flat_spec hc
          obtain ⟨h3, h4⟩ := flatRVs_spec (r := r) hr
          refine ⟨?_, by simp [RFlen, h2, h4]⟩
          simp only [unflatRVs, ← h2, List.append_assoc, List.take_left, List.drop_left]
          rw [← h1, ← h3]
        · cases h
      · cases h
    · cases h
def flatRet (fs : List RF) (ns : List Nat) (r : Ret) : Option (List C) := match flatRVs fs r.vals with
  | some cs => match flatCaps ns r.outs with
    | some ds => some (cs ++ ds)
    | none => none
  | none => none
def unflatRet (fs : List RF) (ns : List Nat) (cs : List C) : Ret := ⟨unflatRVs fs cs, splitCaps ns (cs.drop (RFlen fs))⟩
theorem flatRet_spec {fs : List RF} {ns : List Nat} {r : Ret} {cs : List C} (h : flatRet fs ns r = some cs) : r = unflatRet fs ns cs := by
  unfold flatRet at h
  split at h
  · rename_i c hc
    split at h
    · rename_i d hd
      cases h
      obtain ⟨h1, h2⟩ := flatRVs_spec (r := d) hc
      obtain ⟨h3, _⟩ := flatCaps_spec (r := []) hd
      rw [List.append_nil] at h3
      unfold unflatRet
      rw [← h1, ← h2, List.drop_left, ← h3]
    · cases h
  · cases h

/-- A signature: the modes of the parameters, the form and the cells of what comes in, of what goes out. -/
structure Sig where
  modes : List Nat
  af : List AF
  cin : List CS
  rf : List RF
  ns : List Nat
  cout : List CS
def Sig.args (s : Sig) (x : dens s.cin) : List Arg := unflatArgs s.af (puts s.cin x)
def Sig.enc (s : Sig) (a : dens s.cout) : Ret := unflatRet s.rf s.ns (puts s.cout a)
def Sig.fin (s : Sig) (r : Ret) : Option (dens s.cout) := match flatRet s.rf s.ns r with
  | some cs => takes s.cout cs
  | none => none
def Sig.take (s : Sig) (as : List Arg) : Option (dens s.cin) := match flatArgs s.af as with
  | some cs => takes s.cin cs
  | none => none
theorem Sig.fin_spec {s : Sig} {r : Ret} {a : dens s.cout} (h : s.fin r = some a) : r = s.enc a := by
  unfold Sig.fin at h
  split at h
  · rename_i cs hc
    rw [flatRet_spec hc, takes_puts h]
    rfl
  · cases h
theorem Sig.take_spec {s : Sig} {as : List Arg} {x : dens s.cin} (h : s.take as = some x) : as = s.args x := by
  unfold Sig.take at h
  split at h
  · rename_i cs hc
    rw [flatArgs_spec hc, takes_puts h]
    rfl
  · cases h
def badDen : Den := ⟨Unit, none, fun _ => ⟨[], []⟩⟩
/-- A callee by a signature and a function over tuples. -/
def Sig.callee (s : Sig) (F : dens s.cin → Option (dens s.cout)) : Callee1 := ⟨s.modes, fun as => match s.take as with
  | some x => ⟨dens s.cout, F x, s.enc⟩
  | none => badDen⟩
/-- A callee by one of several callees. -/
def altDen (s : Sig) (F : dens s.cin → Option (dens s.cout)) (r : List Arg → Den) (as : List Arg) : Den := match s.take as with
  | some x => ⟨dens s.cout, F x, s.enc⟩
  | none => r as

theorem sound_sig {P : Program} {J : GInv} {g : FuncId} {f : Func} {T : TypeId → Option TI} {Γ : Tab} (s : Sig) {F : dens s.cin → Option (dens s.cout)} (hT : TFacts P T) (hΓ : ∀ g ce, Γ.get g = some ce → Sound P J g ce) (hm : P.follows .mixedOrders = true)
    (hf : P.funcs[g]? = some f) (hname : f.name ≠ "runtime.NumGoroutine") (hb : f.body.isSome = true) (hchk : (match f.body with | some c => codeChk c | none => false) = true)
    (hrun : ∀ x r, Fits (s.args x) → F x = some r → ∃ (ann : Nat → List Nat) (N : Nat) (fz : List Nat), run ⟨T, Γ, 0, ann, N, fz⟩ f (s.args x) s.fin = some r) : Sound P J g (s.callee F) := by
  refine sound_of hT hΓ hm hf hname hb hchk fun args r hfit hr => ?_
  have key : ∀ (D : Den), D = (s.callee F).den args → ∀ r : D.α, D.run = some r → ∃ (X : Cx) (ρ : Type) (fin : Ret → Option ρ) (x : ρ), X.T = T ∧ X.Γ = Γ ∧ run X f args fin = some x ∧ ∀ ret, fin ret = some x → ret = D.enc r := by
    clear hr r
    intro D hD
    simp only [Sig.callee] at hD
    split at hD
    · rename_i x hx
      subst hD
      intro r hr
      have ha := Sig.take_spec hx
      subst ha
      obtain ⟨ann, N, fz, h⟩ := hrun x r hfit hr
      exact ⟨_, _, _, r, rfl, rfl, h, fun ret hret => Sig.fin_spec hret⟩
    · subst hD; intro r hr; cases hr
  exact key _ rfl r hr

/-! ### Tables of callees -/
def TabOK (P : Program) (J : GInv) (Γ : Tab) : Prop := ∀ g ce, Γ.get g = some ce → Sound P J g ce
theorem tab_nil {P : Program} {J : GInv} : TabOK P J [] := fun g ce h => by cases h
theorem tab_cons {P : Program} {J : GInv} {g : FuncId} {ce : Callee1} {Γ : Tab} (h : Sound P J g ce) (hr : TabOK P J Γ) : TabOK P J ((g, ce) :: Γ) := by
  intro g' ce' hg
  unfold Tab.get at hg
  cases hb : Nat.beq g g' with
  | true =>
    rw [hb] at hg
    obtain rfl := Nat.eq_of_beq_eq_true hb
    cases hg
    exact h
  | false => rw [hb] at hg; exact hr g' ce' hg
def annL (l : List (Nat × List Nat)) (i : Nat) : List Nat := match l with
  | [] => []
  | (j, ks) :: r => bif Nat.beq j i then ks else annL r i

/-- A weaker function has the contract too. -/
theorem sound_weaker {P : Program} {J : GInv} {g : FuncId} (s : Sig) {ι : Type} (i0 : ι) {F : ι → dens s.cin → Option (dens s.cout)} {G : dens s.cin → Option (dens s.cout)} (h : ∀ d, Sound P J g (s.callee (F d))) (hG : ∀ x r, Fits (s.args x) → G x = some r → ∃ d, F d x = some r) : Sound P J g (s.callee G) := by
  refine ⟨(h i0).1, fun args vs l w okp r hA hs ho hI hB hr => ?_⟩
  have key : ∀ (D : Den), D = (s.callee G).den args → ∀ r : D.α, D.run = some r → Calls P g vs.toArray w fun e w' => ∃ v, e = .returned v ∧ ExitOK w w' okp l (pinsOf args l) (D.enc r) v := by
    clear hr r
    intro D hD
    simp only [Sig.callee] at hD
    split at hD
    · rename_i x hx
      subst hD
      intro r hr
      have ha := Sig.take_spec hx
      obtain ⟨d, hd⟩ := hG x r (by rw [← ha]; exact ⟨w, okp, vs, l, hA⟩) hr
      have hden : (s.callee (F d)).den args = ⟨dens s.cout, F d x, s.enc⟩ := by simp only [Sig.callee, hx]
      have key2 : ∀ (D' : Den), D' = (s.callee (F d)).den args → ∀ r' : D'.α, D'.run = some r' → Calls P g vs.toArray w fun e w' => ∃ v, e = .returned v ∧ ExitOK w w' okp l (pinsOf args l) (D'.enc r') v := by
        intro D' hD' r' hr'
        subst hD'
        exact (h d).2 args vs l w okp r' hA hs ho hI hB hr'
      exact key2 ⟨dens s.cout, F d x, s.enc⟩ hden.symm r hd
    · subst hD; intro r hr; cases hr
  exact key _ rfl r hr
/-- A contract that says nothing. -/
theorem sound_none {P : Program} {J : GInv} {g : FuncId} {f : Func} (s : Sig) {F : dens s.cin → Option (dens s.cout)} (hF : ∀ x, F x = none) (hf : P.funcs[g]? = some f) (hname : f.name ≠ "runtime.NumGoroutine") (hb : f.body.isSome = true) : Sound P J g (s.callee F) := by
  refine ⟨⟨f, hf, hb, hname⟩, fun args vs l w okp r hA hs ho hI hB hr => ?_⟩
  exfalso
  have key : ∀ (D : Den), D = (s.callee F).den args → ∀ r : D.α, D.run = some r → False := by
    intro D hD
    simp only [Sig.callee] at hD
    split at hD
    · subst hD
      intro r hr
      rw [show F _ = none from hF _] at hr
      cases hr
    · subst hD; intro r hr; cases hr
  exact key _ rfl r hr
end
end Go.M
namespace Go.M
open Go
noncomputable section
def w64 (n : Int) : Int := IntKind.wrap .i64 n
def w8 (n : Int) : Int := IntKind.wrap .u8 n
def w32 (n : Int) : Int := IntKind.wrap .i32 n
def wu32 (n : Int) : Int := IntKind.wrap .u32 n
def wu64 (n : Int) : Int := IntKind.wrap .u64 n
def B (l : List UInt8) : ByteArray := ⟨l.toArray⟩
def nilqO {ρ : Type} (n : Nat) (a b : Option ρ) : Option ρ := match Nat.beq n 0 with
  | false => b
  | true => both a b
end
end Go.M
