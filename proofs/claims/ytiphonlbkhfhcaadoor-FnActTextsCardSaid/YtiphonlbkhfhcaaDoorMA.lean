/-
  A deterministic evaluator over the model's code with typed values; what its operations do in memory.
-/
import Derived.Calls
import Derived.Below
import Derived.Deep.Draws
import Derived.Laws.AppendOwn
import Derived.Laws.Slices
import Derived.Laws.MakeOwn
import Derived.Laws.BytesString
import Derived.Laws.Entries
set_option linter.unusedVariables false
namespace Go.M
open Go
noncomputable section

/-- The types of data that lie in slices. -/
inductive Ty where
  | int (k : IntKind) | bool | str | pair (a b : Ty) | list (t : Ty)
  deriving DecidableEq

@[reducible] def Ty.den : Ty → Type
  | .int _ => Int
  | .bool => Bool
  | .str => ByteArray
  | .pair a b => a.den × b.den
  | .list t => List t.den

def Ty.size : Ty → Nat
  | .pair a b => a.size + b.size
  | _ => 1

/-- What one cell holds. 'tr': a slice by value, only read; 'sl': a slice of an array of the call's own; 'own': one that is handed over. -/
inductive C where
  | int (k : IntKind) (n : Int)
  | bool (b : Bool)
  | str (s : ByteArray)
  | err (isNil : Bool)
  | nilP
  | nils (t : Ty)
  | tr (t : Ty) (xs : List t.den)
  | own (t : Ty) (xs : List t.den)
  | sl (o ver off : Nat) (len : Option Nat)
  | ptr (o off : Nat)
  | ep (o ver wv i off : Nat) (t : Ty) (x : t.den)
  | rp (t : Ty) (x : t.den) (off : Nat)
  | fn (g : FuncId) (caps : List (Nat × Nat))
  | dead

inductive V1 where
  | one (c : C)
  | agg (cs : List C)

inductive AV where
  | v (x : V1)
  | tup (xs : List V1)
  | undef
  | dead

inductive Body where
  | box (cs : List C)
  | arr (t : Ty) (xs : List t.den)
  | gone

/-- 'ver' turns at each append, 'wv' at each store into an element; 'frz': nobody writes it any more; 'app': it has been appended to. -/
structure Obj where
  ver : Nat
  wv : Nat
  frz : Bool
  app : Bool
  body : Body
def mkObj (b : Body) : Obj := ⟨0, 0, false, false, b⟩

structure St where
  slots : Nat → AV
  objs : Nat → Option Obj
  base : Nat

inductive K where
  | int (k : IntKind) | bool | str | err | slice (e : TypeId) | struct (fs : List (Nat × TypeId)) | arr (n : Nat) (e : TypeId) | ptr (e : TypeId) | func
/-- What the evaluator knows of a type. -/
structure TI where
  kind : K
  size : Nat
  bytes : Nat
  zero : List C
  ty : Option Ty
  cmp : Bool := false
def TI.agg (i : TI) : Bool := match i.kind with | .struct _ => true | .arr _ _ => true | _ => false

def cellsOf : (t : Ty) → t.den → List C
  | .int k, n => [.int k n]
  | .bool, b => [.bool b]
  | .str, s => [.str s]
  | .pair a b, x => cellsOf a x.1 ++ cellsOf b x.2
  | .list t, xs => [.tr t xs]

/-- Cells as data. -/
def unmk : (t : Ty) → List C → Option (t.den × List C)
  | .int k, cs => match cs with
    | .int k' n :: r => if k = k' then some (n, r) else none
    | _ => none
  | .bool, cs => match cs with
    | .bool b :: r => some (b, r)
    | _ => none
  | .str, cs => match cs with
    | .str s :: r => some (s, r)
    | _ => none
  | .pair a b, cs => match unmk a cs with
    | some (x, r) => match unmk b r with
      | some (y, r') => some ((x, y), r')
      | none => none
    | none => none
  | .list t, cs => match cs with
    | .tr t' xs :: r => if h : t' = t then some (h ▸ xs, r) else none
    | .nils t' :: r => if t' = t then some ([], r) else none
    | _ => none
def unmkAll (t : Ty) (cs : List C) : Option t.den := match unmk t cs with
  | some (x, []) => some x
  | _ => none
def unmkEach (t : Ty) : List (List C) → Option (List t.den)
  | [] => some []
  | cs :: r => match unmkAll t cs with
    | some x => match unmkEach t r with
      | some xs => some (x :: xs)
      | none => none
    | none => none

def idx {α : Type} (xs : List α) (i : Int) : Option α := bif decide (0 ≤ i) then xs[i.toNat]? else none
def bidx (s : ByteArray) (i : Int) : Option Int := bif decide (0 ≤ i) then (s.data.toList[i.toNat]?).map (fun b => (b.toNat : Int)) else none
def drop' {α : Type} : Nat → List α → List α
  | 0, xs => xs
  | n + 1, xs => xs.drop (n + 1)
def win {α : Type} (off : Nat) (len : Option Nat) (xs : List α) : List α :=
  match len with
  | none => drop' off xs
  | some n => (drop' off xs).take n
def toInt (n : Nat) : Int := n

/-- What an operation does: the value of its slot, objects that it lays or turns, objects that it looked at. -/
structure Eff where
  val : AV
  puts : List (Nat × Obj)
  reads : List Nat

inductive RV where
  | one (c : C)
  | agg (cs : List C)
  | box (cs : List C)
structure Ret where
  vals : List RV
  outs : List (List C)

/-- An argument as a callee sees it. 'io': the pointee of a pointer, which the callee may turn; 'rio': one that it only reads; 'own': a slice that it may write into (io: and that is handed back). -/
inductive Arg where
  | one (c : C)
  | agg (cs : List C)
  | io (cs : List C)
  | rio (cs : List C)
  | own (io : Bool) (t : Ty) (xs : List t.den)
  | fn (g : FuncId) (caps : List (List C))

structure Den : Type 1 where
  α : Type
  run : Option α
  enc : α → Ret
/-- One callee: which of its slice parameters it writes into (1: handed over; 2: handed back), and what it does. -/
structure Callee1 : Type 1 where
  modes : List Nat
  den : List Arg → Den
abbrev Tab := List (FuncId × Callee1)
def Tab.get (Γ : Tab) (g : FuncId) : Option Callee1 :=
  match Γ with
  | [] => none
  | (h, x) :: r => bif Nat.beq h g then some x else Tab.get r g

inductive Step : Type 1 where
  | fail
  | done (e : Eff)
  | chk (b : Bool) (e : Eff)
  | idx {t : Ty} (xs : List t.den) (i : Int) (k : t.den → Eff)
  | bidx (s : ByteArray) (i : Int) (k : Int → Eff)
  | call (d : Den) (k : Ret → Option Eff)
  | nilq (n : Nat) (f : Bool → Eff)

/-- e is what the step comes to. -/
def Step.yields (s : Step) (e : Eff) : Prop :=
  match s with
  | .fail => False
  | .done e' => e = e'
  | .chk b e' => b = true ∧ e = e'
  | .idx xs i f => ∃ x, M.idx xs i = some x ∧ e = f x
  | .bidx s i f => ∃ x, M.bidx s i = some x ∧ e = f x
  | .call d f => ∃ a, d.run = some a ∧ f (d.enc a) = some e
  | .nilq _ _ => False
open Classical in
/-- What two ways must both come to. -/
def both {ρ : Type} (a b : Option ρ) : Option ρ := if a = b then a else none
def Step.noq (s : Step) : Step := match s with
  | .nilq _ _ => .fail
  | s => s
def Step.out {ρ : Type} (s : Step) (k : Eff → Option ρ) : Option ρ :=
  match s with
  | .fail => none
  | .done e => k e
  | .chk b e => bif b then k e else none
  | .idx xs i f => (M.idx xs i).bind fun x => k (f x)
  | .bidx s i f => (M.bidx s i).bind fun x => k (f x)
  | .call d f => d.run.bind fun a => match f (d.enc a) with
    | some e => k e
    | none => none
  | .nilq n f => match Nat.beq n 0 with
    | false => k (f false)
    | true => both (k (f true)) (k (f false))

abbrev Look := Nat → Option Obj
def cur? (L : Look) (o ver : Nat) : Option Obj :=
  match L o with
  | some x => bif Nat.beq x.ver ver then some x else none
  | none => none

def nilOf (T : TypeId → Option TI) (ty : TypeId) : AV :=
  match T ty with
  | some ti => match ti.kind with
    | .slice e => match T e with
      | some ei => match ei.ty with
        | some t => .v (.one (.nils t))
        | none => .dead
      | none => .dead
    | _ => .dead
  | none => .dead

def constV (T : TypeId → Option TI) (ty : TypeId) (v : Value) : AV :=
  match v with
  | .int k n => .v (.one (.int k n))
  | .bool b => .v (.one (.bool b))
  | .string s => .v (.one (.str s))
  | .nilIface => .v (.one (.err true))
  | .pointer none => .v (.one .nilP)
  | .slice none 0 0 => nilOf T ty
  | _ => .dead

def val (T : TypeId → Option TI) (ρ : Nat → AV) (ty : TypeId) (x : Operand) : AV :=
  match x with
  | .tmp t => ρ t
  | .const v => constV T ty v
  | .func f => .v (.one (.fn f []))
  | .global _ => .dead

def put (f : Nat → AV) (d : Nat) (v : AV) : Nat → AV := fun i => bif Nat.beq i d then v else f i
def putD (f : Nat → AV) (d : Option Nat) (v : AV) : Nat → AV := match d with | some d => put f d v | none => f
def putO (f : Look) : List (Nat × Obj) → Look
  | [] => f
  | (o, x) :: r => putO (fun i => bif Nat.beq i o then some x else f i) r
def St.apply (σ : St) (d : Option Nat) (e : Eff) : St := { σ with slots := putD σ.slots d e.val, objs := putO σ.objs e.puts }

def one (c : C) : AV := .v (.one c)
def pureE (v : AV) : Step := .done ⟨v, [], []⟩

def intBin (op : BinOp) (k : IntKind) (a : Int) (b : Int) : Step :=
  match op with
  | .add => pureE (one (.int k (k.wrap (a + b))))
  | .sub => pureE (one (.int k (k.wrap (a - b))))
  | .mul => pureE (one (.int k (k.wrap (a * b))))
  | .quo => .chk (b != 0) ⟨one (.int k (k.wrap (a.tdiv b))), [], []⟩
  | .rem => .chk (b != 0) ⟨one (.int k (a.tmod b)), [], []⟩
  | .and => pureE (one (.int k (k.wrap (BitVec.ofInt k.bits a &&& BitVec.ofInt k.bits b).toNat)))
  | .or => pureE (one (.int k (k.wrap (BitVec.ofInt k.bits a ||| BitVec.ofInt k.bits b).toNat)))
  | .xor => pureE (one (.int k (k.wrap (BitVec.ofInt k.bits a ^^^ BitVec.ofInt k.bits b).toNat)))
  | .shl => .chk (!decide (b < 0)) ⟨one (.int k (k.wrap (a * 2 ^ (min b.toNat k.bits)))), [], []⟩
  | .shr => .chk (!decide (b < 0)) ⟨one (.int k (a.fdiv (2 ^ (min b.toNat k.bits)))), [], []⟩
  | .eql => pureE (one (.bool (a == b)))
  | .neq => pureE (one (.bool (a != b)))
  | .lss => pureE (one (.bool (decide (a < b))))
  | .leq => pureE (one (.bool (decide (a ≤ b))))
  | .gtr => pureE (one (.bool (decide (a > b))))
  | .geq => pureE (one (.bool (decide (a ≥ b))))
  | _ => .fail

def strBin (op : BinOp) (a b : ByteArray) : Step :=
  match op with
  | .add => .chk (decide (a.size + b.size ≤ 9223372036854775807)) ⟨one (.str (a ++ b)), [], []⟩
  | .eql => pureE (one (.bool (a.toList == b.toList)))
  | .neq => pureE (one (.bool (!(a.toList == b.toList))))
  | _ => .fail

/-- '==' of two structs of scalars, cell by cell. -/
def eqCells : List C → List C → Option Bool
  | [], [] => some true
  | x :: r, y :: r' => match eqCells r r' with
    | some b => match x, y with
      | .int k a, .int k' a' => bif decide (k = k') then some ((a == a') && b) else none
      | .bool a, .bool a' => some ((a == a') && b)
      | .str a, .str a' => some ((a == a') && b)
      | _, _ => none
    | none => none
  | _, _ => none

/-- Cells of the kinds that a type's zero has. -/
def kinds : List C → List C → Bool
  | [], [] => true
  | z :: zs, c :: cs => (match z, c with
    | .int k _, .int k' _ => decide (k = k')
    | .bool _, .bool _ => true
    | .str _, .str _ => true
    | _, _ => false) && kinds zs cs
  | _, _ => false
def intOps (op : BinOp) : Bool := match op with | .shl => true | .shr => true | _ => false
/-- ti: the operands' type; same: the second operand is the literal nil. -/
def binOp (ti : Option TI) (op : BinOp) (same : Bool) (x y : AV) : Step :=
  match x with
  | .v (.one (.int k a)) => match y with
    | .v (.one (.int k' b)) => bif decide (k = k') || intOps op then intBin op k a b else .fail
    | _ => .fail
  | .v (.one (.str a)) => match y with
    | .v (.one (.str b)) => strBin op a b
    | _ => .fail
  | .v (.one (.bool a)) => match y with
    | .v (.one (.bool b)) => match ti with
      | some i => match i.kind with
        | .bool => match op with
          | .eql => pureE (one (.bool (a == b)))
          | .neq => pureE (one (.bool (!(a == b))))
          | _ => .fail
        | _ => .fail
      | none => .fail
    | _ => .fail
  | .v (.one (.err a)) => match y with
    | .v (.one (.err true)) => match ti with
      | some i => match i.kind with
        | .err => bif same then (match op with
          | .eql => pureE (one (.bool a))
          | .neq => pureE (one (.bool (!a)))
          | _ => .fail) else .fail
        | _ => .fail
      | none => .fail
    | _ => .fail
  | .v (.one (.tr _ xs)) => match y with
    | .v (.one (.nils _)) => match ti with
      | some i => match i.kind with
        | .slice _ => match op with
          | .eql => .nilq xs.length fun b => ⟨one (.bool b), [], []⟩
          | .neq => .nilq xs.length fun b => ⟨one (.bool (!b)), [], []⟩
          | _ => .fail
        | _ => .fail
      | none => .fail
    | _ => .fail
  | .v (.agg cs) => match y with
    | .v (.agg cs') => match ti with
      | some i => match i.cmp with
        | true => match kinds i.zero cs with
          | true => match eqCells cs cs' with
            | some b => match op with
              | .eql => pureE (one (.bool b))
              | .neq => pureE (one (.bool (!b)))
              | _ => .fail
            | none => .fail
          | false => .fail
        | false => .fail
      | none => .fail
    | _ => .fail
  | _ => .fail

/-- A cell as it is handed on, only to be read. -/
def reifyC (L : Look) (c : C) : C × List Nat :=
  match c with
  | .sl o ver off len => match cur? L o ver with
    | some x => match x.body with
      | .arr t xs => (.tr t (win off len xs), [o])
      | _ => (.dead, [o])
    | none => (.dead, [o])
  | .int k n => (.int k n, [])
  | .bool b => (.bool b, [])
  | .str s => (.str s, [])
  | .err b => (.err b, [])
  | .nilP => (.nilP, [])
  | .nils t => (.tr t [], [])
  | .tr t xs => (.tr t xs, [])
  | _ => (.dead, [])
def reifyCs (L : Look) : List C → List C × List Nat
  | [] => ([], [])
  | c :: r => match reifyC L c with
    | (c', rs) => match reifyCs L r with
      | (cs, rs') => (c' :: cs, rs ++ rs')
def liveC (c : C) : Bool := match c with | .dead => false | .own _ _ => false | _ => true
def liveCs : List C → Bool
  | [] => true
  | c :: r => liveC c && liveCs r

/-- The length of a slice. -/
def sliceLen (L : Look) (c : C) : Option (Nat × List Nat) :=
  match c with
  | .nils _ => some (0, [])
  | .tr _ xs => some (xs.length, [])
  | .sl o ver off len => match cur? L o ver with
    | some x => match x.body with
      | .arr _ xs => some ((win off len xs).length, [o])
      | _ => none
    | none => none
  | _ => none

def lohi {α : Type} (xs : List α) (lo hi : Option Int) : List α :=
  match hi with
  | some h => match lo with
    | some l => (xs.take h.toNat).drop l.toNat
    | none => xs.take h.toNat
  | none => match lo with
    | some l => xs.drop l.toNat
    | none => xs
def lohiOk (len : Int) (lo hi : Option Int) : Bool :=
  match hi with
  | some h => match lo with
    | some l => decide (0 ≤ h) && decide (h ≤ len) && decide (0 ≤ l) && decide (l ≤ h)
    | none => decide (0 ≤ h) && decide (h ≤ len)
  | none => match lo with
    | some l => decide (0 ≤ l) && decide (l ≤ len)
    | none => true
def optInt (T : TypeId → Option TI) (ρ : Nat → AV) : Option Operand → Option (Option Int)
  | none => some none
  | some x => match val T ρ 3 x with
    | .v (.one (.int _ n)) => some (some n)
    | _ => none
def strCut (s : ByteArray) (lo hi : Option Int) : ByteArray :=
  match lo with
  | none => match hi with
    | none => s
    | some h => s.extract 0 h.toNat
  | some l => match hi with
    | none => s.extract l.toNat s.size
    | some h => s.extract l.toNat h.toNat
/-- The window of a window. -/
def subWin (off : Nat) (len : Option Nat) (lo hi : Option Int) : Nat × Option Nat :=
  match lo with
  | none => match hi with
    | none => (off, len)
    | some h => (off, some h.toNat)
  | some l => match hi with
    | some h => (off + l.toNat, some (h.toNat - l.toNat))
    | none => (off + l.toNat, match len with | none => none | some n => some (n - l.toNat))

/-- What a call hands back as its own becomes objects of the caller's. -/
def freshC (nm : Nat) : List C → List C × List (Nat × Obj)
  | [] => ([], [])
  | c :: r =>
    match c with
    | .own t xs => match freshC (nm + 1) r with
      | (cs, ps) => (.sl nm 0 0 none :: cs, (nm, mkObj (.arr t xs)) :: ps)
    | c => match freshC nm r with
      | (cs, ps) => (c :: cs, ps)
def freshV (nm : Nat) (x : RV) : V1 × List (Nat × Obj) :=
  match x with
  | .one c => match freshC nm [c] with
    | ([c'], ps) => (.one c', ps)
    | (_, ps) => (.one .dead, ps)
  | .agg cs => match freshC nm cs with
    | (cs', ps) => (.agg cs', ps)
  | .box cs => match freshC (nm + 1) cs with
    | (cs', ps) => (.one (.ptr nm 0), (nm, mkObj (.box cs')) :: ps)
def freshL (nm : Nat) : List RV → List V1 × List (Nat × Obj)
  | [] => ([], [])
  | x :: r => match freshV nm x with
    | (x', ps) => match freshL (nm + ps.length) r with
      | (r', qs) => (x' :: r', ps ++ qs)
def retVal (vs : List V1) : AV := match vs with | [x] => .v x | xs => .tup xs

def Ty.flat : Ty → Bool
  | .list _ => false
  | .pair a b => a.flat && b.flat
  | _ => true
def hasTr : List C → Bool
  | [] => false
  | .tr _ _ :: _ => true
  | .own t _ :: r => bif t.flat then hasTr r else true
  | _ :: r => hasTr r
def RV.hasTr : RV → Bool
  | .one c => M.hasTr [c]
  | .agg cs => M.hasTr cs
  | .box cs => M.hasTr cs
def Ret.hasTr (r : Ret) : Bool := r.vals.any RV.hasTr || r.outs.any M.hasTr

end
end Go.M
namespace Go.M
open Go
noncomputable section

inductive IO1 where
  | box (o off n : Nat)
  | arr (o : Nat)
structure Passed where
  arg : Arg
  reads : List Nat
  ios : List IO1
  gone : List Nat

/-- One cell of a pointee that is handed in to be changed. -/
def giveC (L : Look) (c : C) : C × List Nat × List Nat :=
  match c with
  | .sl o ver off len => match cur? L o ver with
    | some x => match x.body with
      | .arr t xs => bif x.frz then (.tr t (win off len xs), [o], []) else (.own t (win off len xs), [], [o])
      | _ => (.dead, [o], [])
    | none => (.dead, [o], [])
  | .nils t => (.own t [], [], [])
  | .int k n => (.int k n, [], [])
  | .bool b => (.bool b, [], [])
  | .str s => (.str s, [], [])
  | .err b => (.err b, [], [])
  | .nilP => (.nilP, [], [])
  | .tr t xs => (.tr t xs, [], [])
  | _ => (.dead, [], [])
def giveCs (L : Look) : List C → List C × List Nat × List Nat
  | [] => ([], [], [])
  | c :: r => match giveC L c with
    | (c', a, b) => match giveCs L r with
      | (cs, a', b') => (c' :: cs, a ++ a', b ++ b')

def segOf (cs0 : List C) (off : Nat) (n : Option Nat) : List C := match n with | some n => (cs0.drop off).take n | none => cs0.drop off
def passPtr (L : Look) (o off : Nat) (n : Option Nat) : Option Passed :=
  match L o with
  | some y => match y.body with
    | .box cs0 =>
      bif Nat.ble off cs0.length then (bif y.frz then match reifyCs L (segOf cs0 off n) with
        | (cs', rs) => some ⟨.rio cs', o :: rs, [], []⟩
      else match giveCs L (segOf cs0 off n) with
        | (cs', rs, gone) => some ⟨.io cs', rs, [.box o off (segOf cs0 off n).length], gone⟩) else none
    | _ => none
  | none => none
def passCap (L : Look) (o off : Nat) : Option (List C × List Nat) :=
  match L o with
  | some y => match y.body with
    | .box cs0 => bif Nat.ble off cs0.length then match reifyCs L (cs0.drop off) with
        | (cs', rs) => some (cs', o :: rs)
      else none
    | _ => none
  | none => none
def passCaps (L : Look) : List (Nat × Nat) → Option (List (List C) × List Nat)
  | [] => some ([], [])
  | p :: r => match passCap L p.1 p.2 with
    | some (cs, rs) => match passCaps L r with
      | some (css, rs') => some (cs :: css, rs ++ rs')
      | none => none
    | none => none
def ptrSize (T : TypeId → Option TI) (ty : TypeId) : Option Nat :=
  match T ty with
  | some ti => match ti.kind with
    | .ptr e => match T e with
      | some ei => some ei.size
      | none => none
    | _ => none
  | none => none
def passPlain (L : Look) (mode : Nat) (c : C) : Option Passed :=
  match mode with
  | 0 => match reifyC L c with
    | (.dead, _) => none
    | (c', rs) => some ⟨.one c', rs, [], []⟩
  | m + 1 => match c with
    | .sl o ver off len => match cur? L o ver with
      | some y => match y.body with
        | .arr t xs => bif y.frz then none else match m with
          | 0 => some ⟨.own false t (win off len xs), [], [], [o]⟩
          | _ => bif Nat.beq off 0 && (match len with | none => true | _ => false) then some ⟨.own true t xs, [], [.arr o], []⟩ else none
        | _ => none
      | none => none
    | .nils t => match m with
      | 0 => some ⟨.own false t [], [], [], []⟩
      | _ => none
    | _ => none
/-- An argument handed over. mode 0: a slice is only read; 1: it is given away; 2: it comes back. -/
def pass (T : TypeId → Option TI) (L : Look) (mode : Nat) (ty : TypeId) (x : AV) : Option Passed :=
  match x with
  | .v (.one c) => match c with
    | .ptr o off => match ptrSize T ty with
      | some n => passPtr L o off (some n)
      | none => none
    | .fn g caps => match passCaps L caps with
      | some (css, rs) => some ⟨.fn g css, rs, [], []⟩
      | none => none
    | c => passPlain L mode c
  | .v (.agg cs) => match reifyCs L cs with
    | (cs', rs) => bif liveCs cs' then some ⟨.agg cs', rs, [], []⟩ else none
  | _ => none
structure PassedL where
  args : List Arg
  reads : List Nat
  ios : List IO1
  gone : List Nat
def passAll (T : TypeId → Option TI) (L : Look) (ρ : Nat → AV) : List Nat → List Operand → List TypeId → Option PassedL
  | _, [], _ => some ⟨[], [], [], []⟩
  | ms, x :: r, ts => match pass T L (ms.headD 0) (ts.headD 0) (val T ρ (ts.headD 0) x) with
    | some a => match passAll T L ρ ms.tail r ts.tail with
      | some p => some ⟨a.arg :: p.args, a.reads ++ p.reads, a.ios ++ p.ios, a.gone ++ p.gone⟩
      | none => none
    | none => none
/-- The variables that a closure has captured, at a call of it. -/
def passCapsIo (L : Look) : List (Nat × Nat) → Option PassedL
  | [] => some ⟨[], [], [], []⟩
  | p :: r => match passPtr L p.1 p.2 none with
    | some a => match passCapsIo L r with
      | some q => some ⟨a.arg :: q.args, a.reads ++ q.reads, a.ios ++ q.ios, a.gone ++ q.gone⟩
      | none => none
    | none => none

def ioNames : List IO1 → List Nat
  | [] => []
  | .box o _ _ :: r => o :: ioNames r
  | .arr o :: r => o :: ioNames r
def nodupB : List Nat → Bool
  | [] => true
  | x :: r => !r.contains x && nodupB r

def newOk (L : Look) (ps : List (Nat × Obj)) : Bool := ps.all fun p => match L p.1 with | none => true | some _ => false
/-- What comes back through pointers. -/
def backIo (L : Look) (nm : Nat) : List IO1 → List (List C) → Option (List (Nat × Obj))
  | [], [] => some []
  | .box o off n :: r, cs :: rs => match L o with
    | some y => match y.body with
      | .box cs0 => match freshC nm cs with
        | (cs', ps) => bif Nat.beq cs'.length n && newOk L ps then match backIo L (nm + ps.length) r rs with
            | some qs => some ((o, { y with body := .box (cs0.take off ++ cs' ++ cs0.drop (off + n)) }) :: ps ++ qs)
            | none => none
          else none
      | _ => none
    | none => none
  | .arr o :: r, [.own t xs] :: rs => match L o with
    | some y => match y.body with
      | .arr t' xs' => bif decide (t = t') && decide (xs.length = xs'.length) then match backIo L nm r rs with
          | some qs => some ((o, { y with wv := y.wv + 1, body := .arr t xs }) :: qs)
          | none => none
        else none
      | _ => none
    | none => none
  | _, _ => none
def frzPuts (L : Look) : List Nat → List (Nat × Obj)
  | [] => []
  | o :: r => match L o with
    | some y => (o, { y with frz := true }) :: frzPuts L r
    | none => frzPuts L r
def gonePuts (L : Look) : List Nat → List (Nat × Obj)
  | [] => []
  | o :: r => match L o with
    | some y => (o, ⟨y.ver + 1, 0, true, true, .gone⟩) :: gonePuts L r
    | none => gonePuts L r
def disjB (a b : List Nat) : Bool := a.all fun x => !b.contains x
/-- May what has been read be frozen? -/
def frzOk (L : Look) (rs : List Nat) : Bool := rs.all fun o => match L o with
  | some y => match y.body with
    | .arr _ _ => true
    | _ => y.frz
  | none => true
def goneOk (L : Look) (rs : List Nat) : Bool := rs.all fun o => match L o with
  | some y => match y.body with
    | .arr _ _ => true
    | _ => false
  | none => false
/-- What a call does to the caller's objects. -/
def callEff (L : Look) (nm : Nat) (p : PassedL) (r : Ret) : Option Eff :=
  match freshL nm r.vals with
  | (vs, ps) => match backIo L (nm + ps.length) p.ios r.outs with
    | some qs => bif (!r.hasTr || frzOk L p.reads) && newOk L ps && goneOk L p.gone then
        some ⟨retVal vs, (bif r.hasTr then frzPuts L p.reads else []) ++ (gonePuts L p.gone ++ (ps ++ qs)), p.reads ++ (p.gone ++ ioNames p.ios)⟩
      else none
    | none => none

def callStep (T : TypeId → Option TI) (Γ : Tab) (ρ : Nat → AV) (L : Look) (nm : Nat) (f : Operand) (args : List Operand) (ts : List TypeId) : Step :=
  match val T ρ 0 f with
  | .v (.one (.fn g caps)) => match Γ.get g with
    | some ce => match passAll T L ρ ce.modes args ts with
      | some p => match passCapsIo L caps with
        | some q =>
          let pq : PassedL := ⟨p.args ++ q.args, p.reads ++ q.reads, p.ios ++ q.ios, p.gone ++ q.gone⟩
          bif nodupB (pq.gone ++ ioNames pq.ios) && disjB pq.reads (pq.gone ++ ioNames pq.ios) then .call (ce.den pq.args) (callEff L nm pq) else .fail
        | none => .fail
      | none => .fail
    | none => .fail
  | _ => .fail

/-- The cells of each part of a slice literal. -/
def partCells (T : TypeId → Option TI) (ρ : Nat → AV) (L : Look) (e : TypeId) : List (Nat × Operand) → Nat → Option (List (List C) × List Nat)
  | [], _ => some ([], [])
  | (i, x) :: r, j => bif Nat.beq i j then
      match val T ρ e x with
      | .v (.one c) => match reifyC L c with
        | (c', rs) => match partCells T ρ L e r (j + 1) with
          | some (css, rs') => some ([c'] :: css, rs ++ rs')
          | none => none
      | .v (.agg cs) => match reifyCs L cs with
        | (cs', rs) => match partCells T ρ L e r (j + 1) with
          | some (css, rs') => some (cs' :: css, rs ++ rs')
          | none => none
      | _ => none
    else none

def elemTy (T : TypeId → Option TI) (t : TypeId) : Option (TI × Ty) :=
  match T t with
  | some ti => match ti.kind with
    | .slice e => match T e with
      | some ei => match ei.ty with
        | some et => some (ei, et)
        | none => none
      | none => none
    | _ => none
  | none => none
def elemId (T : TypeId → Option TI) (t : TypeId) : TypeId :=
  match T t with
  | some ti => match ti.kind with
    | .slice e => e
    | _ => 0
  | none => 0

def elemSize (T : TypeId → Option TI) (t : TypeId) (n : Nat) : Bool :=
  match T t with
  | some ti => match ti.kind with
    | .slice e => match T e with
      | some ei => Nat.beq ei.size n
      | none => false
    | _ => false
  | none => false
def isStr (T : TypeId → Option TI) (t : TypeId) : Bool :=
  match T t with
  | some ti => match ti.kind with
    | .str => true
    | _ => false
  | none => false
def isSlice (T : TypeId → Option TI) (t : TypeId) : Bool :=
  match T t with
  | some ti => match ti.kind with
    | .slice _ => true
    | _ => false
  | none => false

def buildSliceStep (T : TypeId → Option TI) (ρ : Nat → AV) (L : Look) (nm : Nat) (t : TypeId) (n : Nat) (parts : List (Nat × Operand)) : Step :=
  match elemTy T t with
  | some (_, et) => bif Nat.beq n parts.length && Nat.ble (n * et.size) 16777216 then match partCells T ρ L (elemId T t) parts 0 with
      | some (css, rs) => match unmkEach et css with
        | some xs => .done ⟨one (.sl nm 0 0 none), frzPuts L rs ++ [(nm, mkObj (.arr et xs))], rs⟩
        | none => .fail
      | none => .fail
    else .fail
  | none => .fail

def cellsV (x : V1) : List C := match x with | .one c => [c] | .agg cs => cs
def ofCells (agg : Bool) (cs : List C) : Option AV :=
  match agg with
  | true => some (.v (.agg cs))
  | false => match cs with
    | [c] => some (one c)
    | _ => none

def loadStep (T : TypeId → Option TI) (L : Look) (t : TypeId) (a : AV) : Step :=
  match T t with
  | some ti => match a with
    | .v (.one (.rp et x off)) => bif decide (off + ti.size ≤ et.size) then match ofCells ti.agg (((cellsOf et x).drop off).take ti.size) with
        | some v => pureE v
        | none => .fail
      else .fail
    | .v (.one (.ep o ver wv i off et x)) => match cur? L o ver with
      | some y => bif Nat.beq y.wv wv && decide (off + ti.size ≤ et.size) then match ofCells ti.agg (((cellsOf et x).drop off).take ti.size) with
          | some v => .done ⟨v, [], [o]⟩
          | none => .fail
        else .fail
      | none => .fail
    | .v (.one (.ptr o off)) => match L o with
      | some y => match y.body with
        | .box cs => bif decide (off + ti.size ≤ cs.length) then match ofCells ti.agg ((cs.drop off).take ti.size) with
            | some v => .done ⟨v, [], [o]⟩
            | none => .fail
          else .fail
        | _ => .fail
      | none => .fail
    | _ => .fail
  | none => .fail

/-- An element with some of its cells written anew. -/
def setElem (t : Ty) (x : t.den) (off : Nat) (cs : List C) : Option t.den :=
  unmkAll t ((cellsOf t x).take off ++ cs ++ (cellsOf t x).drop (off + cs.length))

def storeStep (T : TypeId → Option TI) (L : Look) (t : TypeId) (a x : AV) : Step :=
  match T t with
  | some ti => match x with
    | .v w => bif Nat.beq (cellsV w).length ti.size then match a with
        | .v (.one (.ptr o off)) => match L o with
          | some y => match y.body with
            | .box cs => bif decide (off + ti.size ≤ cs.length) && liveCs (cellsV w) && !y.frz then
                .done ⟨.dead, [(o, { y with body := .box (cs.take off ++ cellsV w ++ cs.drop (off + ti.size)) })], [o]⟩ else .fail
            | _ => .fail
          | none => .fail
        | .v (.one (.ep o ver wv i off et x0)) => match cur? L o ver with
          | some y => match y.body with
            | .arr t' xs => match reifyCs L (cellsV w) with
              | (cs', rs) => bif Nat.beq y.wv wv && decide (off + ti.size ≤ et.size) && liveCs cs' && !y.frz && !rs.contains o then
                  match setElem et x0 off cs' with
                  | some x1 => if h : et = t' then .done ⟨.dead, frzPuts L rs ++ [(o, { y with wv := y.wv + 1, body := .arr t' (xs.set i (h ▸ x1)) })], o :: rs⟩ else .fail
                  | none => .fail
                else .fail
            | _ => .fail
          | none => .fail
        | _ => .fail
      else .fail
    | _ => .fail
  | none => .fail

def indexAddrStep (T : TypeId → Option TI) (L : Look) (xt : TypeId) (x i : AV) : Step :=
  match i with
  | .v (.one (.int _ n)) => match x with
    | .v (.one (.tr t xs)) => bif elemSize T xt t.size then .idx xs n fun x => ⟨one (.rp t x 0), [], []⟩ else .fail
    | .v (.one (.sl o ver off len)) => match cur? L o ver with
      | some y => match y.body with
        | .arr t xs => bif elemSize T xt t.size then .idx (win off len xs) n fun x => ⟨one (.ep o ver y.wv (n.toNat + off) 0 t x), [], [o]⟩ else .fail
        | _ => .fail
      | none => .fail
    | .v (.one (.ptr o off)) => match T xt with
      | some ti => match ti.kind with
        | .arr len e => match T e with
          | some ei => .chk (decide (0 ≤ n) && decide (n < len)) ⟨one (.ptr o (off + n.toNat * ei.size)), [], []⟩
          | none => .fail
        | _ => .fail
      | none => .fail
    | _ => .fail
  | _ => .fail

def sliceStep (T : TypeId → Option TI) (ρ : Nat → AV) (L : Look) (xt : TypeId) (x : AV) (lo hi : Option Operand) : Step :=
  match optInt T ρ lo with
  | some l => match optInt T ρ hi with
    | some h => match x with
      | .v (.one (.str s)) => bif isStr T xt then .chk (lohiOk (toInt s.size) l h) ⟨one (.str (strCut s l h)), [], []⟩ else .fail
      | .v (.one (.tr t xs)) => bif elemSize T xt t.size then .chk (lohiOk (toInt xs.length) l h) ⟨one (.tr t (lohi xs l h)), [], []⟩ else .fail
      | .v (.one (.nils t)) => bif elemSize T xt t.size then .chk (lohiOk (toInt 0) l h) ⟨one (.nils t), [], []⟩ else .fail
      | .v (.one (.sl o ver off len)) => match cur? L o ver with
        | some y => match y.body with
          | .arr t xs => bif elemSize T xt t.size then .chk (lohiOk (toInt (win off len xs).length) l h) ⟨one (match subWin off len l h with | (a, b) => .sl o ver a b), [], [o]⟩ else .fail
          | _ => .fail
        | none => .fail
      | _ => .fail
    | none => .fail
  | none => .fail

/-- 's[:0:0]': an empty slice that may not grow in place. -/
def slice3Step (T : TypeId → Option TI) (ρ : Nat → AV) (L : Look) (nm : Nat) (xt : TypeId) (x : AV) (lo hi mx : Option Operand) : Step :=
  match lo with
  | none => match optInt T ρ hi with
    | some (some 0) => match optInt T ρ mx with
      | some (some 0) => match x with
        | .v (.one (.tr t xs)) => bif elemSize T xt t.size then .done ⟨one (.sl nm 0 0 none), [(nm, mkObj (.arr t []))], []⟩ else .fail
        | .v (.one (.nils t)) => bif elemSize T xt t.size then .done ⟨one (.sl nm 0 0 none), [(nm, mkObj (.arr t []))], []⟩ else .fail
        | .v (.one (.sl o ver off len)) => match cur? L o ver with
          | some y => match y.body with
            | .arr t xs => bif elemSize T xt t.size && !Nat.beq nm o then .done ⟨one (.sl nm 0 0 none), [(nm, mkObj (.arr t []))], [o]⟩ else .fail
            | _ => .fail
          | none => .fail
        | _ => .fail
      | _ => .fail
    | _ => .fail
  | some _ => .fail

def maxBytes : Nat := 140737488355328

def appendStep (L : Look) (size bytes nm : Nat) (s x : AV) : Step :=
  match x with
  | .v (.one xc) => match reifyC L xc with
    | (xc', rs) =>
      let ys? : Option (Σ t : Ty, List t.den) := match xc' with
        | .tr t ys => some ⟨t, ys⟩
        | .nils t => some ⟨t, []⟩
        | _ => none
      match ys? with
      | some ⟨t', ys⟩ => bif Nat.beq t'.size size && Nat.blt 0 bytes then match s with
        | .v (.one (.sl o ver off len)) => match cur? L o ver with
          | some y => match y.body with
            | .arr t xs => if h : t' = t then
                bif !y.frz && !rs.contains o then
                  .chk (decide (((win off len xs).length + ys.length) * bytes ≤ maxBytes)) ⟨one (.sl o (ver + 1) 0 none), [(o, ⟨ver + 1, 0, false, true, .arr t (win off len xs ++ (h ▸ ys))⟩)], o :: rs⟩
                else .fail
              else .fail
            | _ => .fail
          | none => .fail
        | .v (.one (.nils t)) => if h : t' = t then
            bif rs.contains nm then .fail else .chk (decide (ys.length * bytes ≤ maxBytes)) ⟨one (.sl nm 0 0 none), [(nm, mkObj (.arr t (h ▸ ys)))], rs⟩
          else .fail
        | _ => .fail
        else .fail
      | none => .fail
  | _ => .fail

def bytesOfInts (xs : List Int) : ByteArray := ⟨(xs.map fun n => UInt8.ofNat n.toNat).toArray⟩

def isU8 (T : TypeId → Option TI) (s : TypeId) : Bool :=
  match T s with
  | some ti => match ti.kind with
    | .slice e => match T e with
      | some ei => match ei.kind with
        | .int .u8 => true
        | _ => false
      | none => false
    | _ => false
  | none => false
def convertStep (T : TypeId → Option TI) (L : Look) (s d : TypeId) (x : AV) : Step :=
  match T s with
  | some _ => match T d with
    | some ti => match ti.kind with
      | .int k => match x with
        | .v (.one (.int _ n)) => pureE (one (.int k (k.wrap n)))
        | _ => .fail
      | .str => match x with
        | .v (.one (.str s)) => pureE (one (.str s))
        | .v (.one c) => bif isU8 T s then match reifyC L c with
          | (.tr (.int .u8) xs, rs) => .done ⟨one (.str (bytesOfInts xs)), [], rs⟩
          | _ => .fail
          else .fail
        | _ => .fail
      | _ => .fail
    | none => .fail
  | none => .fail

def makeSliceStep (T : TypeId → Option TI) (nm : Nat) (t : TypeId) (l c : AV) : Step :=
  match elemTy T t with
  | some (ei, et) => match l with
    | .v (.one (.int .i64 n)) => match c with
      | .v (.one (.int .i64 m)) => match unmkAll et ei.zero with
        | some z => .chk (decide (n = m) && decide (0 ≤ n) && decide (n.toNat * ei.bytes ≤ maxBytes) && decide (n ≤ 9223372036854775807)) ⟨one (.sl nm 0 0 none), [(nm, mkObj (.arr et (List.replicate n.toNat z)))], []⟩
        | none => .fail
      | _ => .fail
    | _ => .fail
  | none => .fail

/-- A struct out of its parts. -/
def fillC (T : TypeId → Option TI) (ρ : Nat → AV) (fs : List (Nat × TypeId)) : List (Nat × Operand) → List C → Option (List C)
  | [], acc => some acc
  | (i, x) :: r, acc => match fs[i]? with
    | some (off, ft) => match T ft with
      | some fi => match val T ρ ft x with
        | .v w => bif Nat.beq (cellsV w).length fi.size && decide (off + fi.size ≤ acc.length) && liveCs (cellsV w) then fillC T ρ fs r (acc.take off ++ cellsV w ++ acc.drop (off + fi.size)) else none
        | _ => none
      | none => none
    | none => none

def fieldOff (T : TypeId → Option TI) (s : TypeId) (f : Nat) : Option (Nat × TypeId) :=
  match T s with
  | some ti => match ti.kind with
    | .struct fs => fs[f]?
    | _ => none
  | none => none

def fieldAddrStep (T : TypeId → Option TI) (L : Look) (s : TypeId) (x : AV) (f : Nat) : Step :=
  match fieldOff T s f with
  | some (off, ft) => match T ft with
    | some fi => bif Nat.beq fi.size 0 then .fail else match x with
      | .v (.one (.ptr o off0)) => pureE (one (.ptr o (off0 + off)))
      | .v (.one (.rp t x off0)) => pureE (one (.rp t x (off0 + off)))
      | .v (.one (.ep o ver wv i off0 t x)) => match cur? L o ver with
        | some y => bif Nat.beq y.wv wv then .done ⟨one (.ep o ver wv i (off0 + off) t x), [], [o]⟩ else .fail
        | none => .fail
      | _ => .fail
    | none => .fail
  | none => .fail
def fieldStep (T : TypeId → Option TI) (s : TypeId) (x : AV) (f : Nat) : Step :=
  match fieldOff T s f with
  | some (off, ft) => match T ft with
    | some fi => match x with
      | .v (.agg cs) => bif decide (off + fi.size ≤ cs.length) then match ofCells fi.agg ((cs.drop off).take fi.size) with
          | some v => pureE v
          | none => .fail
        else .fail
      | _ => .fail
    | none => .fail
  | none => .fail

def capsOf (ρ : Nat → AV) : List Operand → Option (List (Nat × Nat))
  | [] => some []
  | .tmp t :: r => match ρ t with
    | .v (.one (.ptr o off)) => match capsOf ρ r with
      | some l => some ((o, off) :: l)
      | none => none
    | _ => none
  | _ => none

def minmax (mx : Bool) (x y : AV) : Step :=
  match x with
  | .v (.one (.int k a)) => match y with
    | .v (.one (.int _ b)) => pureE (one (.int k (match mx with | true => bif decide (b > a) then b else a | false => bif decide (b < a) then b else a)))
    | _ => .fail
  | _ => .fail

/-- A row of elements of an array is written anew. -/
def rangeEff (o : Nat) (y : Obj) (t : Ty) (xs zs : List t.den) (off : Nat) (v : AV) (rs : List Nat) : Eff := ⟨v, [(o, { y with wv := y.wv + 1, body := .arr t (xs.take off ++ zs ++ xs.drop (off + zs.length)) })], o :: rs⟩
def clearStep (T : TypeId → Option TI) (L : Look) (t : TypeId) (x : AV) : Step :=
  match elemTy T t with
  | some (ei, et) => match x with
    | .v (.one (.sl o ver off len)) => match cur? L o ver with
      | some y => match y.body with
        | .arr t' xs => if h : et = t' then match unmkAll et ei.zero with
            | some z => match y.frz with
              | true => .fail
              | false => .done (rangeEff o y t' xs (List.replicate (win off len xs).length (h ▸ z)) off .dead [])
            | none => .fail
          else .fail
        | _ => .fail
      | none => .fail
    | .v (.one (.nils _)) => .done ⟨.dead, [], []⟩
    | _ => .fail
  | none => .fail
def copyStep (T : TypeId → Option TI) (L : Look) (t : TypeId) (x s : AV) : Step :=
  match elemTy T t with
  | some (ei, et) => match s with
    | .v (.one sc) => match reifyC L sc with
      | (.tr t2 ys, rs) => match x with
        | .v (.one (.sl o ver off len)) => match cur? L o ver with
          | some y => match y.body with
            | .arr t' xs => if h : t2 = t' then match !y.frz && !rs.contains o && decide (et = t') with
                | true => .done (rangeEff o y t' xs ((h ▸ ys : List t'.den).take (win off len xs).length) off (one (.int .i64 (toInt (Nat.min ys.length (win off len xs).length)))) rs)
                | false => .fail
              else .fail
            | _ => .fail
          | none => .fail
        | _ => .fail
      | _ => .fail
    | _ => .fail
  | none => .fail

def builtinStep (T : TypeId → Option TI) (ρ : Nat → AV) (L : Look) (nm : Nat) (b : Builtin) (args : List Operand) (ts : List TypeId) : Step :=
  match b with
  | .len => match args with
    | [x] => match ts with
      | [t] => match val T ρ t x with
        | .v (.one (.str s)) => bif isStr T t then pureE (one (.int .i64 (toInt s.size))) else .fail
        | .v (.one c) => bif isSlice T t then (match sliceLen L c with
          | some (n, rs) => .done ⟨one (.int .i64 (toInt n)), [], rs⟩
          | none => .fail) else .fail
        | _ => .fail
      | _ => .fail
    | _ => .fail
  | .append => match args with
    | [s, x] => match ts with
      | [t, t'] => bif Nat.beq t t' then match elemTy T t with
          | some (ei, _) => appendStep L ei.size ei.bytes nm (val T ρ t s) (val T ρ t x)
          | none => .fail
        else .fail
      | _ => .fail
    | _ => .fail
  | .clear => match args with
    | [x] => match ts with
      | [t] => clearStep T L t (val T ρ t x)
      | _ => .fail
    | _ => .fail
  | .copy => match args with
    | [x, s] => match ts with
      | [t, t'] => bif Nat.beq t t' then copyStep T L t (val T ρ t x) (val T ρ t' s) else .fail
      | _ => .fail
    | _ => .fail
  | .max => match args with
    | [x, y] => minmax true (val T ρ (ts.headD 0) x) (val T ρ (ts.tail.headD 0) y)
    | _ => .fail
  | .min => match args with
    | [x, y] => minmax false (val T ρ (ts.headD 0) x) (val T ρ (ts.tail.headD 0) y)
    | _ => .fail
  | _ => .fail

def isNilConst (x : Operand) : Bool := match x with | .const .nilIface => true | _ => false

def execOp (T : TypeId → Option TI) (Γ : Tab) (ρ : Nat → AV) (L : Look) (nm : Nat) (ty : TypeId) (op : Op) : Step :=
  match op with
  | .move x => pureE (val T ρ ty x)
  | .assign x => pureE (val T ρ ty x)
  | .pick c a b => match val T ρ 4 c with
    | .v (.one (.bool t)) => pureE (match t with | true => val T ρ ty a | false => val T ρ ty b)
    | _ => .fail
  | .binOp op xt x y _ => binOp (T xt) op (isNilConst y) (val T ρ xt x) (val T ρ xt y)
  | .unOp op xt x => match op with
    | .not => match val T ρ xt x with
      | .v (.one (.bool b)) => pureE (one (.bool (!b)))
      | _ => .fail
    | .neg => match val T ρ xt x with
      | .v (.one (.int k n)) => pureE (one (.int k (k.wrap (0 - n))))
      | _ => .fail
    | _ => .fail
  | .convert s d x => convertStep T L s d (val T ρ s x)
  | .extract x i => match val T ρ 0 x with
    | .tup vs => match vs[i]? with
      | some v => pureE (.v v)
      | none => .fail
    | _ => .fail
  | .buildSlice t n parts => buildSliceStep T ρ L nm t n parts.toList
  | .makeSlice t l c => makeSliceStep T nm t (val T ρ 3 l) (val T ρ 3 c)
  | .index xt x i => match val T ρ 3 i with
    | .v (.one (.int _ n)) => match val T ρ xt x with
      | .v (.one (.str s)) => bif isStr T xt then .bidx s n fun b => ⟨one (.int .u8 b), [], []⟩ else .fail
      | _ => .fail
    | _ => .fail
  | .slice xt x lo hi mx => match mx with
    | none => sliceStep T ρ L xt (val T ρ xt x) lo hi
    | some m => slice3Step T ρ L nm xt (val T ρ xt x) lo hi (some m)
  | .indexAddr xt x i => indexAddrStep T L xt (val T ρ xt x) (val T ρ 3 i)
  | .load t a => loadStep T L t (val T ρ 0 a)
  | .store t a x => storeStep T L t (val T ρ 0 a) (val T ρ t x)
  | .alloc e => match T e with
    | some ti => .done ⟨one (.ptr nm 0), [(nm, mkObj (.box ti.zero))], []⟩
    | none => .fail
  | .box e x => match T e with
    | some ti => match val T ρ e x with
      | .v w => bif Nat.beq (cellsV w).length ti.size && liveCs (cellsV w) then .done ⟨one (.ptr nm 0), [(nm, mkObj (.box (cellsV w)))], []⟩ else .fail
      | _ => .fail
    | none => .fail
  | .build t parts => match T t with
    | some ti => match ti.kind with
      | .struct fs => bif fs.all fun p => (T p.2).isSome then (match fillC T ρ fs parts.toList ti.zero with
        | some cs => pureE (.v (.agg cs))
        | none => .fail) else .fail
      | _ => .fail
    | none => .fail
  | .fieldAddr s x f => fieldAddrStep T L s (val T ρ 0 x) f
  | .field s x f => fieldStep T s (val T ρ s x) f
  | .nilCheck x => match val T ρ 0 x with
    | .v (.one (.ptr o off)) => pureE (one (.ptr o off))
    | _ => .fail
  | .makeFunc fn first captured => match fn with
    | .func g => match first.toList with
      | [] => match capsOf ρ captured.toList with
        | some l => pureE (one (.fn g l))
        | none => .fail
      | _ => .fail
    | _ => .fail
  | .call c => match c.callee with
    | .builtin b => builtinStep T ρ L nm b c.args.toList c.argTypes.toList
    | .value f => callStep T Γ ρ L nm f c.args.toList c.argTypes.toList
    | _ => .fail
  | _ => .fail

def isBin (op : Op) : Bool := match op with | .binOp _ _ _ _ _ => true | _ => false
/-- What has been done in a region so far: of each operation its number, what it looked at, what it laid or turned. -/
structure Done1 where
  i : Nat
  reads : List Nat
  puts : List Nat
/-- May operation i stand behind all those that need not come ahead of it? -/
def compatB (before : Nat) (reads puts : List Nat) : List Done1 → Bool
  | [] => true
  | d :: r => (before.testBit d.i || (disjB puts d.reads && disjB puts d.puts && disjB d.puts reads)) && compatB before reads puts r
def names1 (e : Eff) : List Nat := e.puts.map (·.1)

structure Cx where
  T : TypeId → Option TI
  Γ : Tab
  nt : Nat
  ann : Nat → List Nat
  N : Nat
  fz : List Nat := []

def effOk (L : Look) (e : Eff) : Bool := nodupB (names1 e) && e.puts.all fun p => e.reads.contains p.1 || (match L p.1 with | none => true | some _ => false)
def dstOk (nt : Nat) (d : Option Nat) : Bool := match d with | some d => Nat.blt d nt | none => true

def evalOps {ρ : Type} (X : Cx) (draw : Bool) (bef : List Nat) (all : List Oper) : List Oper → Nat → Nat → List Done1 → St → (St → Option ρ) → Option ρ
  | [], _, _, _, σ, k => k σ
  | o :: rest, i, nm, log, σ, k =>
    let go (σ : St) : Option ρ := (match draw || !isBin o.op with | true => (execOp X.T X.Γ σ.slots σ.objs nm o.type o.op).noq | false => execOp X.T X.Γ σ.slots σ.objs nm o.type o.op).out fun e =>
      bif dstOk X.nt o.dst && effOk σ.objs e && (!draw || compatB (bef.getD i 0) e.reads (names1 e) log) then evalOps X draw bef all rest (i + 1) (nm + 64) (⟨i, e.reads, names1 e⟩ :: log) (σ.apply o.dst e) k else none
    let skip (σ : St) : Option ρ := bif dstOk X.nt o.dst then evalOps X draw bef all rest (i + 1) (nm + 64) log { σ with slots := putD σ.slots o.dst .undef } k else none
    match o.guard with
    | none => go σ
    | some (j, want) => match (all[j]?).bind (·.dst) with
      | some g => match σ.slots g with
        | .v (.one (.bool b)) => match b with
          | true => match want with
            | true => go { σ with slots := put σ.slots g (one (.bool true)) }
            | false => skip { σ with slots := put σ.slots g (one (.bool true)) }
          | false => match want with
            | false => go { σ with slots := put σ.slots g (one (.bool false)) }
            | true => skip { σ with slots := put σ.slots g (one (.bool false)) }
        | .undef => skip σ
        | _ => none
      | none => none

inductive Ex where
  | normal | exit (id : Nat) | ret

def firstRegion : Code → Nat
  | .region id _ _ => id
  | .seq a _ => firstRegion a
  | .block _ b => firstRegion b
  | .loop b => firstRegion b
  | .cond _ a _ => firstRegion a
  | _ => 0

/-- The objects that are reached from cells, in order. -/
def names (L : Look) : Nat → List C → List Nat → List Nat
  | 0, _, acc => acc
  | _ + 1, [], acc => acc
  | n + 1, c :: work, acc =>
    match c with
    | .sl o ver _ _ => match cur? L o ver with
      | some _ => bif acc.contains o then names L n work acc else names L n work (acc ++ [o])
      | none => names L n work acc
    | .ptr o _ => bif acc.contains o then names L n work acc else
      match L o with
      | some y => match y.body with
        | .box cs => names L n (cs ++ work) (acc ++ [o])
        | _ => names L n work (acc ++ [o])
      | none => names L n work acc
    | .fn _ caps => names L n (caps.map (fun p => .ptr p.1 p.2) ++ work) acc
    | _ => names L n work acc
def AV.cells : AV → List C
  | .v (.one c) => [c]
  | .v (.agg cs) => cs
  | _ => []
def boxCells (L : Look) (o : Nat) : List C := match L o with
  | some y => match y.body with
    | .box cs => cs
    | _ => []
  | none => []
def renCaps (ρ : Nat → Option Nat) : List (Nat × Nat) → Option (List (Nat × Nat))
  | [] => some []
  | p :: r => match ρ p.1 with
    | some o => match renCaps ρ r with
      | some l => some ((o, p.2) :: l)
      | none => none
    | none => none
def renC (L : Look) (ρ : Nat → Option Nat) (c : C) : C :=
  match c with
  | .sl o ver off len => match cur? L o ver with
    | some _ => match ρ o with
      | some o' => .sl o' 0 off len
      | none => .dead
    | none => .dead
  | .ptr o off => match ρ o with
    | some o' => .ptr o' off
    | none => .dead
  | .ep _ _ _ _ _ _ _ => .dead
  | .fn g caps => match renCaps ρ caps with
    | some l => .fn g l
    | none => .dead
  | c => c
def renV (L : Look) (ρ : Nat → Option Nat) (x : AV) : AV :=
  match x with
  | .v (.one c) => .v (.one (renC L ρ c))
  | .v (.agg cs) => .v (.agg (cs.map (renC L ρ)))
  | _ => .dead
def renO (L : Look) (ρ : Nat → Option Nat) (pinned : Bool) (y : Obj) : Obj :=
  ⟨0, 0, y.frz, pinned && y.app, match y.body with
    | .box cs => .box (cs.map (renC L ρ))
    | .arr t xs => .arr t xs
    | .gone => .gone⟩
def ofKept (l : List (Nat × AV)) : Nat → AV :=
  match l with
  | [] => fun _ => .dead
  | (d, v) :: r => put (ofKept r) d v
def ofObjs (l : List (Option Obj)) : Look := fun i => (l[i]?).getD none
/-- Only some slots are kept, and what is reached from them; objects are numbered anew, the first 'pin' as they are. -/
def norm (pin : Nat) (keep : List Nat) (σ : St) : St :=
  let acc := names σ.objs 1000 ((List.range pin).flatMap (boxCells σ.objs) ++ keep.flatMap fun i => (σ.slots i).cells) (List.range pin)
  let ρ : Nat → Option Nat := fun o => acc.idxOf? o
  ⟨ofKept (keep.map fun i => (i, renV σ.objs ρ (σ.slots i))), ofObjs (acc.map fun o => match σ.objs o with
    | some y => some (renO σ.objs ρ (Nat.blt o pin) y)
    | none => none), 64 * (acc.length + 1)⟩

def loopN {ρ : Type} (pin : Nat) (keep : List Nat) (body : St → (Ex → St → Option ρ) → Option ρ) : Nat → St → (Ex → St → Option ρ) → Option ρ
  | 0, _, _ => none
  | n + 1, σ, k => body σ fun e σ' => match e with
    | .normal => loopN pin keep body n (norm pin keep σ') k
    | .exit id => k (.exit id) σ'
    | .ret => k .ret σ'

def ev {ρ : Type} (X : Cx) (pin : Nat) : Code → St → (Ex → St → Option ρ) → Option ρ
  | .skip, σ, k => k .normal σ
  | .region _ ops draw, σ, k => evalOps X draw (match draw with | true => (Region.before ops).toList | false => []) ops.toList ops.toList 0 σ.base [] σ fun σ' => k .normal { σ' with base := σ.base + 64 * ops.size }
  | .seq a b, σ, k => ev X pin a σ fun e σ' => match e with
    | .normal => ev X pin b σ' k
    | .exit id => k (.exit id) σ'
    | .ret => k .ret σ'
  | .cond c x y, σ, k => match val X.T σ.slots 4 c with
    | .v (.one (.bool b)) => match b with
      | true => ev X pin x (match c with | .tmp t => { σ with slots := put σ.slots t (one (.bool true)) } | _ => σ) k
      | false => ev X pin y (match c with | .tmp t => { σ with slots := put σ.slots t (one (.bool false)) } | _ => σ) k
    | _ => none
  | .block id b, σ, k => ev X pin b σ fun e σ' => match e with
    | .exit id' => bif Nat.beq id' id then k .normal σ' else k (.exit id') σ'
    | .normal => k .normal σ'
    | .ret => k .ret σ'
  | .loop b, σ, k => loopN pin (X.ann (firstRegion b)) (ev X pin b) X.N (norm pin (X.ann (firstRegion b)) σ) k
  | .exit id, σ, k => k (.exit id) σ
  | .ret, σ, k => k .ret σ
  | _, _, _ => none

def hasLoop (j : Nat) : Code → Bool
  | .seq a b => hasLoop j a || hasLoop j b
  | .block _ b => hasLoop j b
  | .loop b => Nat.beq (firstRegion b) j || hasLoop j b
  | .cond _ a b => hasLoop j a || hasLoop j b
  | _ => false
/-- From loop j on, n rounds left; ms: the rounds left of the loops around it, the outermost first. -/
def evAt {ρ : Type} (X : Cx) (pin : Nat) (j n : Nat) : List Nat → Code → St → (Ex → St → Option ρ) → Option ρ
  | ms, .seq a b, σ, k => bif hasLoop j a then evAt X pin j n ms a σ (fun e σ' => match e with
    | .normal => ev X pin b σ' k
    | .exit id => k (.exit id) σ'
    | .ret => k .ret σ') else evAt X pin j n ms b σ k
  | ms, .cond _ x y, σ, k => bif hasLoop j x then evAt X pin j n ms x σ k else evAt X pin j n ms y σ k
  | ms, .block id b, σ, k => evAt X pin j n ms b σ fun e σ' => match e with
    | .exit id' => bif Nat.beq id' id then k .normal σ' else k (.exit id') σ'
    | .normal => k .normal σ'
    | .ret => k .ret σ'
  | ms, .loop b, σ, k => bif Nat.beq (firstRegion b) j then loopN pin (X.ann (firstRegion b)) (ev X pin b) n σ k
    else evAt X pin j n ms.tail b σ fun e σ' => match e with
      | .normal => loopN pin (X.ann (firstRegion b)) (ev X pin b) (ms.headD 0) (norm pin (X.ann (firstRegion b)) σ') k
      | .exit id => k (.exit id) σ'
      | .ret => k .ret σ'
  | _, _, _, _ => none

/-! ### Entering and leaving a function -/
def pinned : List Arg → Nat
  | [] => 0
  | .io _ :: r => pinned r + 1
  | .own true _ _ :: r => pinned r + 1
  | _ :: r => pinned r
def capObjs (q : Nat) : List (List C) → List (Nat × Nat) × List (Nat × Obj)
  | [] => ([], [])
  | cs :: r => match capObjs (q + 1) r with
    | (l, ps) => ((q, 0) :: l, (q, ⟨0, 0, true, false, .box cs⟩) :: ps)
/-- p: the next pinned object; q: the next other one; i: the slot. -/
def initL : List Arg → Nat → Nat → Nat → List (Nat × AV) × List (Nat × Obj)
  | [], _, _, _ => ([], [])
  | a :: r, p, q, i => match a with
    | .one c => match initL r p q (i + 1) with
      | (l, ps) => ((i, one c) :: l, ps)
    | .agg cs => match initL r p q (i + 1) with
      | (l, ps) => ((i, .v (.agg cs)) :: l, ps)
    | .io cs => match freshC q cs with
      | (cs', ps0) => match initL r (p + 1) (q + ps0.length) (i + 1) with
        | (l, ps) => ((i, one (.ptr p 0)) :: l, (p, mkObj (.box cs')) :: ps0 ++ ps)
    | .rio cs => match initL r p (q + 1) (i + 1) with
      | (l, ps) => ((i, one (.ptr q 0)) :: l, (q, ⟨0, 0, true, false, .box cs⟩) :: ps)
    | .own true t xs => match initL r (p + 1) q (i + 1) with
      | (l, ps) => ((i, one (.sl p 0 0 none)) :: l, (p, mkObj (.arr t xs)) :: ps)
    | .own false t xs => match initL r p (q + 1) (i + 1) with
      | (l, ps) => ((i, one (.sl q 0 0 none)) :: l, (q, mkObj (.arr t xs)) :: ps)
    | .fn g caps => match capObjs q caps with
      | (cl, ps0) => match initL r p (q + caps.length) (i + 1) with
        | (l, ps) => ((i, one (.fn g cl)) :: l, ps0 ++ ps)
def initSt (args : List Arg) : St :=
  match initL args 0 (pinned args) 0 with
  | (l, ps) => ⟨ofKept l, putO (fun _ => none) ps, 64 * (ps.length + 1)⟩

/-- One cell handed back. used: the objects that have been handed back already. -/
def outC (L : Look) (used : List Nat) (c : C) : Option (C × List Nat) :=
  match c with
  | .sl o ver off len => match cur? L o ver with
    | some y => match y.body with
      | .arr t xs => bif y.frz then some (.tr t (win off len xs), used) else bif used.contains o then none else some (.own t (win off len xs), o :: used)
      | _ => none
    | none => none
  | .nils t => some (.own t [], used)
  | .int k n => some (.int k n, used)
  | .bool b => some (.bool b, used)
  | .str s => some (.str s, used)
  | .err b => some (.err b, used)
  | .nilP => some (.nilP, used)
  | .tr t xs => some (.tr t xs, used)
  | _ => none
def outCs (L : Look) : List Nat → List C → Option (List C × List Nat)
  | used, [] => some ([], used)
  | used, c :: r => match outC L used c with
    | some (c', u) => match outCs L u r with
      | some (cs, u') => some (c' :: cs, u')
      | none => none
    | none => none
def outV (L : Look) (pin : Nat) (used : List Nat) (x : V1) : Option (RV × List Nat) :=
  match x with
  | .agg cs => match outCs L used cs with
    | some (cs', u) => some (.agg cs', u)
    | none => none
  | .one c => match c with
    | .ptr o off => match L o with
      | some y => match y.body with
        | .box cs => bif Nat.beq off 0 && !y.frz && !used.contains o && !Nat.blt o pin then match outCs L (o :: used) cs with
            | some (cs', u) => some (.box cs', u)
            | none => none
          else none
        | _ => none
      | none => none
    | c => match outC L used c with
      | some (c', u) => some (.one c', u)
      | none => none
def resV (T : TypeId → Option TI) (σ : St) : ResultVar → Option V1
  | .tmp t => match σ.slots t with
    | .v x => some x
    | _ => none
  | .cell a ty => match σ.slots a with
    | .v (.one (.ptr o off)) => match loadStep T σ.objs ty (one (.ptr o off)) with
      | .done e => match e.val with
        | .v x => some x
        | _ => none
      | _ => none
    | _ => none
def resXs (T : TypeId → Option TI) (σ : St) : List ResultVar → Option (List V1)
  | [] => some []
  | r :: rs => match resV T σ r with
    | some v => match resXs T σ rs with
      | some vs => some (v :: vs)
      | none => none
    | none => none
/-- Cells that are handed back to be read alone: fz has their numbers. -/
def fzC (fz : List Nat) : Nat → List C → List C × List Nat
  | _, [] => ([], [])
  | i, c :: r => match fzC fz (i + 1) r with
    | (cs, os) => match fz.contains i with
      | true => match c with
        | .sl o ver off len => (.sl o ver off len :: cs, o :: os)
        | .nils t => (.tr t [] :: cs, os)
        | c => (c :: cs, os)
      | false => (c :: cs, os)
def fzV (fz : List Nat) : Nat → List V1 → List V1 × List Nat
  | _, [] => ([], [])
  | i, .one c :: r => match fzC fz i [c] with
    | ([c'], os) => match fzV fz (i + 1) r with
      | (xs, os') => (.one c' :: xs, os ++ os')
    | _ => ([], [])
  | i, .agg cs :: r => match fzC fz i cs with
    | (cs', os) => match fzV fz (i + cs.length) r with
      | (xs, os') => (.agg cs' :: xs, os ++ os')
def arrsB (L : Look) (os : List Nat) : Bool := os.all fun o => match L o with
  | some y => match y.body with
    | .arr _ _ => true
    | _ => false
  | none => false
def outVs (L : Look) (pin : Nat) : List Nat → List V1 → Option (List RV × List Nat)
  | used, [] => some ([], used)
  | used, v :: rs => match outV L pin used v with
    | some (v', u) => match outVs L pin u rs with
      | some (vs, u') => some (v' :: vs, u')
      | none => none
    | none => none
/-- What the pinned objects hold at the end. -/
def outPins (L : Look) : Nat → List Nat → List Nat → Option (List (List C))
  | 0, _, _ => some []
  | n + 1, used, ps => match ps with
    | [] => some []
    | p :: r => match L p with
      | some y => match y.body with
        | .box cs => bif !y.app && !y.frz && !used.contains p then match outCs L (p :: used) cs with
            | some (cs', u) => match outPins L n u r with
              | some l => some (cs' :: l)
              | none => none
            | none => none
          else none
        | .arr t xs => bif !y.app && !y.frz && !used.contains p then match outPins L n (p :: used) r with
            | some l => some ([.own t xs] :: l)
            | none => none
          else none
        | .gone => none
      | none => none
def finish {ρ : Type} (X : Cx) (pin : Nat) (f : Func) (fin : Ret → Option ρ) (e : Ex) (σ : St) : Option ρ :=
  match e with
  | .exit _ => none
  | _ => match resXs X.T σ f.results.toList with
    | some xs => match fzV X.fz 0 xs with
      | (xs', os) => bif arrsB σ.objs os then (match outVs (putO σ.objs (frzPuts σ.objs os)) pin [] xs' with
        | some (vs, u) => match outPins (putO σ.objs (frzPuts σ.objs os)) pin u (List.range pin) with
          | some outs => fin ⟨vs, outs⟩
          | none => none
        | none => none) else none
    | none => none
def run {ρ : Type} (X : Cx) (f : Func) (args : List Arg) (fin : Ret → Option ρ) : Option ρ :=
  match f.body with
  | none => none
  | some c => bif Nat.ble args.length f.ntmps then ev { X with nt := f.ntmps } (pinned args) c (initSt args) (finish { X with nt := f.ntmps } (pinned args) f fin) else none
def runAt {ρ : Type} (X : Cx) (f : Func) (pin j n : Nat) (ms : List Nat) (σ : St) (fin : Ret → Option ρ) : Option ρ :=
  match f.body with
  | none => none
  | some c => evAt { X with nt := f.ntmps } pin j n ms c σ (finish { X with nt := f.ntmps } pin f fin)
end
end Go.M
namespace Go.M
open Go

abbrev Pl := Option (Nat × Nat)

/-! ### What data reads as in memory -/
def Rd (w : World) (ok : Nat → Prop) : (t : Ty) → t.den → (Nat → Option Value) → Prop
  | .int k, n, f => f 0 = some (.int k n)
  | .bool, b, f => f 0 = some (.bool b)
  | .str, s, f => f 0 = some (.string s)
  | .pair a b, x, f => Rd w ok a x.1 f ∧ Rd w ok b x.2 (fun j => f (a.size + j))
  | .list t, xs, f => ∃ a cap, f 0 = some (.slice a xs.length cap) ∧ xs.length ≤ cap ∧ cap ≤ maxLen ∧
      (xs = [] ∨ ∃ b p, a = some ⟨b, p, none⟩ ∧ ok b ∧ ∀ i x, xs[i]? = some x → Rd w ok t x (fun j => w.cell? ⟨b, p + i * t.size + j, none⟩))
def RdS (w : World) (ok : Nat → Prop) (t : Ty) (xs : List t.den) (v : Value) : Prop := Rd w ok (.list t) xs (fun _ => some v)

theorem Ty.size_pos (t : Ty) : 0 < t.size := by
  induction t with
  | pair a b iha ihb => simp only [Ty.size]; omega
  | _ => simp [Ty.size]

theorem Rd.someCell {w : World} {ok : Nat → Prop} : ∀ {t : Ty} {x : t.den} {f : Nat → Option Value}, Rd w ok t x f → ∀ j, j < t.size → ∃ v, f j = some v ∧ v.oneCell' = true := by
  intro t
  induction t with
  | int k => intro x f h j hj; simp only [Ty.size] at hj; obtain rfl : j = 0 := by omega
             exact ⟨_, h, rfl⟩
  | bool => intro x f h j hj; simp only [Ty.size] at hj; obtain rfl : j = 0 := by omega
            exact ⟨_, h, rfl⟩
  | str => intro x f h j hj; simp only [Ty.size] at hj; obtain rfl : j = 0 := by omega
           exact ⟨_, h, rfl⟩
  | pair a b iha ihb =>
    intro x f h j hj
    simp only [Ty.size] at hj
    rcases Nat.lt_or_ge j a.size with hlt | hge
    · exact iha h.1 j hlt
    · have := ihb h.2 (j - a.size) (by omega)
      simpa [Nat.add_sub_cancel' hge] using this
  | list t _ =>
    intro x f h j hj; simp only [Ty.size] at hj; obtain rfl : j = 0 := by omega
    obtain ⟨a, cap, h, _⟩ := h
    exact ⟨_, h, rfl⟩

theorem Rd.congr {w : World} {ok : Nat → Prop} : ∀ {t : Ty} {x : t.den} {f g : Nat → Option Value}, Rd w ok t x f → (∀ j v, j < t.size → f j = some v → g j = some v) → Rd w ok t x g := by
  intro t
  induction t with
  | int k => intro x f g h hg; exact hg 0 _ (by simp [Ty.size]) h
  | bool => intro x f g h hg; exact hg 0 _ (by simp [Ty.size]) h
  | str => intro x f g h hg; exact hg 0 _ (by simp [Ty.size]) h
  | pair a b iha ihb =>
    intro x f g h hg
    exact ⟨iha h.1 fun j v hj => hg j v (by simp only [Ty.size]; omega), ihb h.2 fun j v hj => hg (a.size + j) v (by simp only [Ty.size]; omega)⟩
  | list t _ =>
    intro x f g h hg
    obtain ⟨a, cap, h, rest⟩ := h
    exact ⟨a, cap, hg 0 _ (by simp [Ty.size]) h, rest⟩

theorem cell?_of_heap {w w' : World} {b : Nat} (h : w'.heap[b]? = w.heap[b]?) (j : Nat) : w'.cell? ⟨b, j, none⟩ = w.cell? ⟨b, j, none⟩ := by simp [World.cell?, h]

theorem Rd.step {w w' : World} {ok ok' : Nat → Prop} (hw : ∀ b, ok b → b < w.heap.size → ok' b ∧ w'.heap[b]? = w.heap[b]?) :
    ∀ {t : Ty} {x : t.den} {f g : Nat → Option Value}, Rd w ok t x f → (∀ j v, j < t.size → f j = some v → g j = some v) → Rd w' ok' t x g := by
  intro t
  induction t with
  | int k => intro x f g h hg; exact hg 0 _ (by simp [Ty.size]) h
  | bool => intro x f g h hg; exact hg 0 _ (by simp [Ty.size]) h
  | str => intro x f g h hg; exact hg 0 _ (by simp [Ty.size]) h
  | pair a b iha ihb =>
    intro x f g h hg
    exact ⟨iha h.1 fun j v hj => hg j v (by simp only [Ty.size]; omega), ihb h.2 fun j v hj => hg (a.size + j) v (by simp only [Ty.size]; omega)⟩
  | list t ih =>
    intro x f g h hg
    obtain ⟨a, cap, h, hc, hm, rest⟩ := h
    refine ⟨a, cap, hg 0 _ (by simp [Ty.size]) h, hc, hm, ?_⟩
    rcases rest with rfl | ⟨b, p, rfl, hb, hx⟩
    · exact .inl rfl
    · by_cases hne : x = []
      · exact .inl hne
      · refine .inr ⟨b, p, rfl, ?_⟩
        obtain ⟨y, ys, rfl⟩ := List.exists_cons_of_ne_nil hne
        have hlt : b < w.heap.size := by
          obtain ⟨v, hv, _⟩ := (hx 0 y rfl).someCell 0 (Ty.size_pos t)
          exact World.block_lt_of_cell? w _ hv
        obtain ⟨h1, h2⟩ := hw b hb hlt
        exact ⟨h1, fun i z hz => ih (hx i z hz) fun j v _ hv => by rw [cell?_of_heap h2]; exact hv⟩

/-! ### Cells, objects -/
structure Env where
  w : World
  φ : Nat → Pl
  L : Look
  s0 : Nat
  ok0 : Nat → Prop

/-- A block that somebody may still write. -/
def Env.owned (E : Env) (b : Nat) : Prop := ∃ o y p, E.L o = some y ∧ y.frz = false ∧ E.φ o = some (b, p)
def Env.Ok (E : Env) (b : Nat) : Prop := (b < E.s0 → E.ok0 b) ∧ ¬ E.owned b

def bsz (w : World) (b : Nat) : Nat := match w.heap[b]? with
  | some (.cells c _ _) => c.size
  | _ => 0

def SlOK (w : World) (pl : Pl) (body : Body) (off : Nat) (len : Option Nat) (v : Value) : Prop :=
  match body with
  | .arr t xs => match pl with
    | none => xs = [] ∧ ∃ ad, v = .slice ad 0 0
    | some (b, p) => ∃ q cap, v = .slice (some ⟨b, q, none⟩) (win off len xs).length cap ∧ (win off len xs).length ≤ cap ∧ cap ≤ maxLen ∧
        (cap = 0 ∨ q = p + off * t.size) ∧ q + cap * t.size ≤ bsz w b
  | _ => False

def CapsOK (E : Env) : List (Nat × Nat) → List Value → Prop
  | [], vs => vs = []
  | c :: r, vs => ∃ b p y cs vs', E.φ c.1 = some (b, p) ∧ E.L c.1 = some y ∧ y.body = .box cs ∧ vs = .pointer (some ⟨b, p + c.2, none⟩) :: vs' ∧ CapsOK E r vs'

def RC (E : Env) (c : C) (v : Value) : Prop :=
  match c with
  | .int k n => v = .int k n
  | .bool b => v = .bool b
  | .str s => v = .string s
  | .err b => (b = true ∧ v = .nilIface) ∨ (b = false ∧ ∃ t u, v = .iface t u)
  | .nilP => v = .pointer none
  | .nils _ => v = .slice none 0 0
  | .tr t xs => RdS E.w E.Ok t xs v
  | .own _ _ => False
  | .sl o ver off len => (∃ a n cap, v = .slice a n cap) ∧ ∃ y, E.L o = some y ∧ ver ≤ y.ver ∧ (y.ver = ver → SlOK E.w (E.φ o) y.body off len v)
  | .ptr o off => ∃ b p y cs, E.φ o = some (b, p) ∧ E.L o = some y ∧ y.body = .box cs ∧ v = .pointer (some ⟨b, p + off, none⟩)
  | .ep o ver wv i off t x => (∃ a, v = .pointer a) ∧ ∃ y, E.L o = some y ∧ (ver < y.ver ∨ (ver = y.ver ∧ wv ≤ y.wv)) ∧
      (y.ver = ver → y.wv = wv → ∃ b p xs, E.φ o = some (b, p) ∧ v = .pointer (some ⟨b, p + i * t.size + off, none⟩) ∧ y.body = .arr t xs ∧ xs[i]? = some x)
  | .rp t x off => ∃ b p, v = .pointer (some ⟨b, p + off, none⟩) ∧ E.Ok b ∧ Rd E.w E.Ok t x (fun j => E.w.cell? ⟨b, p + j, none⟩)
  | .fn g caps => ∃ vs, CapsOK E caps vs ∧ v = .func (.func g) #[] vs.toArray
  | .dead => True

def RCs (E : Env) (cs : List C) (vs : List Value) : Prop := vs.length = cs.length ∧ ∀ (j : Nat) (c : C) (v : Value), cs[j]? = some c → vs[j]? = some v → RC E c v

def RV1 (E : Env) (x : V1) (v : Value) : Prop :=
  match x with
  | .one c => RC E c v
  | .agg cs => ∃ vs : Array Value, v = .agg vs ∧ RCs E cs vs.toList
def RVs (E : Env) : List V1 → List Value → Prop
  | [], vs => vs = []
  | x :: r, vs => ∃ v vs', vs = v :: vs' ∧ RV1 E x v ∧ RVs E r vs'
def RAV (E : Env) (x : AV) (v : Value) : Prop :=
  match x with
  | .v x => RV1 E x v
  | .tup xs => ∃ vs : Array Value, v = .tuple vs ∧ RVs E xs vs.toList
  | .undef => v = Go.undef
  | .dead => True

def ObjOK (E : Env) (o : Nat) (y : Obj) : Prop :=
  match y.body with
  | .gone => y.frz = true
  | .box cs => ∃ b p cur e, E.φ o = some (b, p) ∧ E.w.heap[b]? = some (.cells cur e (0, 0)) ∧ p + cs.length ≤ cur.size ∧ ∀ j c, cs[j]? = some c → ∃ v, cur[p + j]? = some v ∧ RC E c v ∧ v.oneCell' = true
  | .arr t xs => (E.φ o = none ∧ xs = []) ∨ ∃ b p cur e, E.φ o = some (b, p) ∧ E.w.heap[b]? = some (.cells cur e (0, 0)) ∧ p + xs.length * t.size ≤ cur.size ∧
      ∀ i x, xs[i]? = some x → Rd E.w E.Ok t x (fun j => cur[p + i * t.size + j]?)

def Body.sim (a b : Body) : Prop :=
  match a, b with
  | .box _, .box _ => True
  | .arr t xs, .arr t' ys => t = t' ∧ xs.length = ys.length
  | .gone, .gone => True
  | _, _ => False
theorem Body.sim_refl (a : Body) : a.sim a := by cases a <;> simp [Body.sim]

theorem win_length {α β : Type} (off : Nat) (len : Option Nat) (xs : List α) (ys : List β) (h : xs.length = ys.length) : (win off len xs).length = (win off len ys).length := by
  have hd : ∀ n, (drop' n xs).length = (drop' n ys).length := fun n => by cases n <;> simp [drop', h]
  cases len with
  | none => exact hd off
  | some n => simp [win, hd off]

theorem SlOK.sim {w w' : World} {pl : Pl} {a b : Body} {off : Nat} {len : Option Nat} {v : Value} (h : SlOK w pl a off len v) (hs : a.sim b)
    (hb : ∀ q p, pl = some (q, p) → bsz w q ≤ bsz w' q) : SlOK w' pl b off len v := by
  cases a with
  | box _ => cases h
  | gone => cases h
  | arr t xs =>
    cases b with
    | box _ => cases hs
    | gone => cases hs
    | arr t' ys =>
      obtain ⟨rfl, hl⟩ := hs
      cases pl with
      | none => obtain ⟨rfl, hv⟩ := h; exact ⟨List.eq_nil_of_length_eq_zero (by simpa using hl.symm), hv⟩
      | some bp =>
        obtain ⟨b, p⟩ := bp
        obtain ⟨q, cap, hv, h1, h2, h3, h4⟩ := h
        have hw := win_length off len xs ys hl
        exact ⟨q, cap, by rw [← hw]; exact hv, by rw [← hw]; exact h1, h2, h3, Nat.le_trans h4 (hb b p rfl)⟩

/-- What one step may do to an object. -/
structure ObjStep (φ φ' : Nat → Pl) (o : Nat) (y y' : Obj) : Prop where
  ver : y.ver ≤ y'.ver
  wv : y'.ver = y.ver → y.wv ≤ y'.wv
  sim : y'.ver = y.ver → φ' o = φ o ∧ y.body.sim y'.body
  same : y'.ver = y.ver → y'.wv = y.wv → y'.body = y.body ∨ ∃ cs, y.body = .box cs
  box : ∀ cs, y.body = .box cs → φ' o = φ o ∧ ∃ cs', y'.body = .box cs'
theorem ObjStep.refl {φ φ' : Nat → Pl} {o : Nat} (y : Obj) (h : φ' o = φ o) : ObjStep φ φ' o y y :=
  ⟨Nat.le_refl _, fun _ => Nat.le_refl _, fun _ => ⟨h, Body.sim_refl _⟩, fun _ _ => .inl rfl, fun cs hc => ⟨h, cs, hc⟩⟩

/-- From one environment to a later one: what was known of cells stays known. -/
structure EnvStep (E E' : Env) : Prop where
  objs : ∀ o y, E.L o = some y → ∃ y', E'.L o = some y' ∧ ObjStep E.φ E'.φ o y y'
  ok : ∀ b, E.Ok b → b < E.w.heap.size → E'.Ok b ∧ E'.w.heap[b]? = E.w.heap[b]?
  bsz : ∀ b, bsz E.w b ≤ bsz E'.w b

theorem CapsOK.step {E E' : Env} (h : EnvStep E E') : ∀ {caps : List (Nat × Nat)} {vs : List Value}, CapsOK E caps vs → CapsOK E' caps vs
  | [], _, hc => hc
  | c :: r, vs, hc => by
    obtain ⟨b, p, y, cs, vs', h1, h2, h3, h4, h5⟩ := hc
    obtain ⟨y', hy', hs⟩ := h.objs _ _ h2
    obtain ⟨hp, cs', hcs'⟩ := hs.box cs h3
    exact ⟨b, p, y', cs', vs', by rw [hp]; exact h1, hy', hcs', h4, CapsOK.step h h5⟩

theorem RC.step {E E' : Env} (h : EnvStep E E') {c : C} {v : Value} (hc : RC E c v) : RC E' c v := by
  cases c with
  | tr t xs => exact Rd.step (t := .list t) h.ok (show Rd E.w E.Ok (.list t) xs (fun _ => some v) from hc) fun _ _ _ h => h
  | sl o ver off len =>
    obtain ⟨hv, y, hy, hle, hs⟩ := hc
    obtain ⟨y', hy', st⟩ := h.objs o y hy
    refine ⟨hv, y', hy', Nat.le_trans hle st.ver, fun hver => ?_⟩
    have hyv : y.ver = ver := by have := st.ver; omega
    obtain ⟨hp, hsim⟩ := st.sim (by omega)
    rw [hp]
    exact (hs hyv).sim hsim fun q _ _ => h.bsz q
  | ptr o off =>
    obtain ⟨b, p, y, cs, h1, h2, h3, h4⟩ := hc
    obtain ⟨y', hy', hs⟩ := h.objs _ _ h2
    obtain ⟨hp, cs', hcs'⟩ := hs.box cs h3
    exact ⟨b, p, y', cs', by rw [hp]; exact h1, hy', hcs', h4⟩
  | ep o ver wv i off t x =>
    obtain ⟨hv, y, hy, hle, hs⟩ := hc
    obtain ⟨y', hy', st⟩ := h.objs o y hy
    have hver := st.ver
    refine ⟨hv, y', hy', ?_, fun h1 h2 => ?_⟩
    · rcases hle with hlt | ⟨he, hw⟩
      · exact .inl (by omega)
      · by_cases hv' : y'.ver = y.ver
        · exact .inr ⟨by omega, Nat.le_trans hw (st.wv hv')⟩
        · exact .inl (by omega)
    · have e1 : y.ver = ver := by omega
      have hw : wv ≤ y.wv := by omega
      have e2 : y'.ver = y.ver := by omega
      have e3 : y.wv = wv := by have := st.wv e2; omega
      obtain ⟨b, p, xs, g1, g2, g3, g4⟩ := hs e1 e3
      have hb : y'.body = y.body := by
        rcases st.same e2 (by omega) with hb | ⟨cs, hb⟩
        · exact hb
        · rw [g3] at hb; cases hb
      exact ⟨b, p, xs, by rw [(st.sim e2).1]; exact g1, g2, by rw [hb]; exact g3, g4⟩
  | rp t x off =>
    obtain ⟨b, p, hv, hb, hr⟩ := hc
    have hlt : b < E.w.heap.size := by
      obtain ⟨u, hu, _⟩ := hr.someCell 0 (Ty.size_pos t)
      exact World.block_lt_of_cell? E.w _ hu
    obtain ⟨h1, h2⟩ := h.ok b hb hlt
    exact ⟨b, p, hv, h1, Rd.step h.ok hr fun j u _ hu => by rw [cell?_of_heap h2]; exact hu⟩
  | fn g caps =>
    obtain ⟨vs, h1, h2⟩ := hc
    exact ⟨vs, h1.step h, h2⟩
  | _ => exact hc

theorem RC.one' {E : Env} {c : C} {v : Value} (h : RC E c v) (hl : liveC c = true) : v.oneCell' = true := by
  cases c with
  | int k n => cases h; rfl
  | bool b => cases h; rfl
  | str s => cases h; rfl
  | err b => rcases h with ⟨_, rfl⟩ | ⟨_, t, u, rfl⟩ <;> rfl
  | nilP => cases h; rfl
  | nils t => cases h; rfl
  | tr t xs => obtain ⟨u, hu, h1⟩ := Rd.someCell (t := .list t) (show Rd E.w E.Ok (.list t) xs (fun _ => some v) from h) 0 (by simp [Ty.size]); cases hu; exact h1
  | own t xs => cases h
  | sl o ver off len => obtain ⟨⟨a, n, cap, rfl⟩, _⟩ := h; rfl
  | ptr o off => obtain ⟨b, p, y, cs, _, _, _, rfl⟩ := h; rfl
  | ep o ver wv i off t x => obtain ⟨⟨a, rfl⟩, _⟩ := h; rfl
  | rp t x off => obtain ⟨b, p, rfl, _⟩ := h; rfl
  | fn g caps => obtain ⟨vs, _, rfl⟩ := h; rfl
  | dead => cases hl

theorem RCs.step {E E' : Env} (h : EnvStep E E') {cs : List C} {vs : List Value} (hc : RCs E cs vs) : RCs E' cs vs :=
  ⟨hc.1, fun j c v h1 h2 => (hc.2 j c v h1 h2).step h⟩
theorem RV1.step {E E' : Env} (h : EnvStep E E') {x : V1} {v : Value} (hc : RV1 E x v) : RV1 E' x v := by
  cases x with
  | one c => exact RC.step h hc
  | agg cs => obtain ⟨vs, rfl, hv⟩ := hc; exact ⟨vs, rfl, hv.step h⟩
theorem RVs.step {E E' : Env} (h : EnvStep E E') : ∀ {xs : List V1} {vs : List Value}, RVs E xs vs → RVs E' xs vs
  | [], _, hc => hc
  | _ :: _, _, ⟨v, vs', h1, h2, h3⟩ => ⟨v, vs', h1, h2.step h, RVs.step h h3⟩
theorem RAV.step {E E' : Env} (h : EnvStep E E') {x : AV} {v : Value} (hc : RAV E x v) : RAV E' x v := by
  cases x with
  | v x => exact RV1.step h hc
  | tup xs => obtain ⟨vs, rfl, hv⟩ := hc; exact ⟨vs, rfl, hv.step h⟩
  | undef => exact hc
  | dead => trivial

/-- An object whose block nobody has written is as it was. -/
theorem ObjOK.step {E E' : Env} (h : EnvStep E E') {o : Nat} {y y' : Obj} (hy : ObjOK E o y) (hb : y'.body = y.body) (hf : y.frz = true → y'.frz = true) (hp : E'.φ o = E.φ o)
    (hw : ∀ b p, E.φ o = some (b, p) → E'.w.heap[b]? = E.w.heap[b]?) : ObjOK E' o y' := by
  unfold ObjOK at *
  rw [hb]
  cases hbody : y.body with
  | gone => simp only [hbody] at hy ⊢; exact hf hy
  | box cs =>
    simp only [hbody] at hy ⊢
    obtain ⟨b, p, cur, e, h1, h2, h3, h4⟩ := hy
    exact ⟨b, p, cur, e, by rw [hp]; exact h1, by rw [hw b p h1]; exact h2, h3, fun j c hc => let ⟨v, g1, g2, g3⟩ := h4 j c hc; ⟨v, g1, g2.step h, g3⟩⟩
  | arr t xs =>
    simp only [hbody] at hy ⊢
    rcases hy with ⟨h1, h2⟩ | ⟨b, p, cur, e, h1, h2, h3, h4⟩
    · exact .inl ⟨by rw [hp]; exact h1, h2⟩
    · exact .inr ⟨b, p, cur, e, by rw [hp]; exact h1, by rw [hw b p h1]; exact h2, h3, fun i x hx => Rd.step h.ok (h4 i x hx) fun _ _ _ h => h⟩
end Go.M
namespace Go.M
open Go

/-- Where a call began: the world, the blocks that may be read, those that may be written; the pinned objects: name, block, offset, number of cells. -/
structure Start where
  P : Program
  nt : Nat
  w0 : World
  ok0 : Nat → Prop
  own0 : Nat → Prop
  boxes : List (Nat × Nat × Nat × Nat)
  arrs : List (Nat × Pl × Nat)
  own_ok : ∀ b, own0 b → ok0 b

structure Frame1 (S : Start) (w : World) : Prop where
  os : w.os = S.w0.os
  tape : w.tape = S.w0.tape
  output : w.output = S.w0.output
  size : S.w0.heap.size ≤ w.heap.size
  bsz : ∀ b, M.bsz S.w0 b ≤ M.bsz w b
  keep : ∀ b, b < S.w0.heap.size → ¬ S.own0 b → w.heap[b]? = S.w0.heap[b]?
  box : ∀ o b p n, (o, b, p, n) ∈ S.boxes → ∃ cur0 cur e, S.w0.heap[b]? = some (.cells cur0 e (0, 0)) ∧ w.heap[b]? = some (.cells cur e (0, 0)) ∧ cur.size = cur0.size ∧
    ∀ j, (j < p ∨ p + n ≤ j) → cur[j]? = cur0[j]?

def envOf (S : Start) (φ : Nat → Pl) (L : Look) (w : World) : Env := ⟨w, φ, L, S.w0.heap.size, S.ok0⟩

/-- What is kept of the objects. -/
structure Objs (S : Start) (φ : Nat → Pl) (L : Look) (w : World) : Prop where
  ok : ∀ o y, L o = some y → ObjOK (envOf S φ L w) o y
  blk : ∀ o y b p, L o = some y → φ o = some (b, p) → b < w.heap.size ∧ (b < S.w0.heap.size → S.ok0 b) ∧ (y.frz = false → b < S.w0.heap.size → S.own0 b)
  inj : ∀ o o' y y' b p p', L o = some y → L o' = some y' → y.frz = false → y'.body ≠ .gone → φ o = some (b, p) → φ o' = some (b, p') → o = o'
  box : ∀ o b p n, (o, b, p, n) ∈ S.boxes → φ o = some (b, p) ∧ ∃ y cs, L o = some y ∧ y.frz = false ∧ y.body = .box cs ∧ cs.length = n
  arr : ∀ o pl n, (o, pl, n) ∈ S.arrs → ∃ y, L o = some y ∧ (y.app = false → y.frz = false → φ o = pl ∧ ∃ t xs, y.body = .arr t xs ∧ xs.length = n)

structure Rel (S : Start) (φ : Nat → Pl) (σ : St) (a : Act) (w : World) : Prop where
  nt : a.tmps.size = S.nt
  defers : a.defers = []
  slots : ∀ i, RAV (envOf S φ σ.objs w) (σ.slots i) (a.tmps.getD i undef)
  objs : Objs S φ σ.objs w
  frame : Frame1 S w

/-- A world behind a step: only the blocks of Sx have been written. -/
structure WStep (w w' : World) (Sx : Nat → Prop) : Prop where
  os : w'.os = w.os
  tape : w'.tape = w.tape
  output : w'.output = w.output
  size : w.heap.size ≤ w'.heap.size
  keep : ∀ b, b < w.heap.size → ¬ Sx b → w'.heap[b]? = w.heap[b]?
  bsz : ∀ b, b < w.heap.size → bsz w b ≤ bsz w' b

theorem bsz_ge {w : World} {b : Nat} (h : ¬ b < w.heap.size) : bsz w b = 0 := by
  have : w.heap[b]? = none := Array.getElem?_eq_none (by omega)
  simp [bsz, this]
theorem WStep.bsz_all {w w' : World} {Sx : Nat → Prop} (h : WStep w w' Sx) (b : Nat) : M.bsz w b ≤ M.bsz w' b := by
  by_cases hb : b < w.heap.size
  · exact h.bsz b hb
  · rw [bsz_ge hb]; exact Nat.zero_le _
theorem WStep.refl (w : World) (Sx : Nat → Prop) : WStep w w Sx := ⟨rfl, rfl, rfl, Nat.le_refl _, fun _ _ _ => rfl, fun _ _ => Nat.le_refl _⟩
theorem bsz_of_heap {w w' : World} {b : Nat} (h : w'.heap[b]? = w.heap[b]?) : bsz w' b = bsz w b := by simp [bsz, h]
theorem WStep.drewN (w : World) (n : Nat) (Sx : Nat → Prop) : WStep w (w.drewN n) Sx := ⟨rfl, rfl, rfl, Nat.le_refl _, fun _ _ _ => rfl, fun _ _ => Nat.le_refl _⟩
theorem WStep.drew' {w w' : World} {Sx : Nat → Prop} (h : WStep w w' Sx) (n : Nat) : WStep w (w'.drewN n) Sx := ⟨h.os, h.tape, h.output, h.size, h.keep, h.bsz⟩
theorem WStep.alloc (w : World) (o : Go.Obj) (Sx : Nat → Prop) : WStep w (w.alloc o) Sx :=
  ⟨rfl, rfl, rfl, by simp, fun b hb _ => heap_alloc_old w o b hb, fun b hb => Nat.le_of_eq (bsz_of_heap (heap_alloc_old w o b hb)).symm⟩

/-- **A step of the objects.** Ch: the objects that may have changed. -/
structure OStep (S : Start) (φ φ' : Nat → Pl) (L L' : Look) (w w' : World) (Sx : Nat → Prop) (Ch : Nat → Prop) : Prop where
  ws : WStep w w' Sx
  /-- what is written was owned -/
  owned : ∀ b, Sx b → b < w.heap.size → ∃ o y p, L o = some y ∧ y.frz = false ∧ φ o = some (b, p) ∧ Ch o
  stay : ∀ o, ¬ Ch o → L' o = L o ∧ φ' o = φ o
  old : ∀ o y, L o = some y → Ch o → ∃ y', L' o = some y' ∧ ObjStep φ φ' o y y'
  /-- what is unfrozen now lies in a new block, or was unfrozen, there -/
  unfrz : ∀ o y' b p, L' o = some y' → Ch o → y'.frz = false → φ' o = some (b, p) → b < w.heap.size → ∃ o1 y1 p1, L o1 = some y1 ∧ y1.frz = false ∧ φ o1 = some (b, p1) ∧ Ch o1
  ok : ∀ o y', L' o = some y' → Ch o → EnvStep (envOf S φ L w) (envOf S φ' L' w') → ObjOK (envOf S φ' L' w') o y'
  blk : ∀ o y' b p, L' o = some y' → Ch o → φ' o = some (b, p) → b < w'.heap.size ∧ (b < w.heap.size → ∃ o1 y1 p1, L o1 = some y1 ∧ φ o1 = some (b, p1) ∧ (y'.frz = false → y1.frz = false))
  inj : ∀ o o' y y' b p p', L' o = some y → L' o' = some y' → Ch o → Ch o' → y.frz = false → y'.body ≠ .gone → φ' o = some (b, p) → φ' o' = some (b, p') → o = o'
  /-- an old block of a changed object was that of a changed one before, not gone -/
  injOld : ∀ o y' b p, L' o = some y' → Ch o → y'.body ≠ .gone → φ' o = some (b, p) → b < w.heap.size → ∃ o1 y1 p1, Ch o1 ∧ L o1 = some y1 ∧ y1.body ≠ .gone ∧ φ o1 = some (b, p1)
  box : ∀ o b p n, (o, b, p, n) ∈ S.boxes → Ch o → φ o = some (b, p) → ∀ y cs, L o = some y → y.frz = false → y.body = .box cs → φ' o = some (b, p) ∧ ∃ y' cs', L' o = some y' ∧ y'.frz = false ∧ y'.body = .box cs' ∧ cs'.length = cs.length
  boxW : ∀ o b p n, (o, b, p, n) ∈ S.boxes → ∀ cur e, w.heap[b]? = some (.cells cur e (0, 0)) → Sx b → ∃ cur', w'.heap[b]? = some (.cells cur' e (0, 0)) ∧ cur'.size = cur.size ∧ ∀ j, (j < p ∨ p + n ≤ j) → cur'[j]? = cur[j]?
  arr : ∀ o pl n, (o, pl, n) ∈ S.arrs → Ch o → ∀ y, L o = some y → ∃ y', L' o = some y' ∧ (y'.app = false → y'.frz = false → y.app = false ∧ y.frz = false ∧ φ' o = φ o ∧ y.body.sim y'.body)

theorem owned_iff {S : Start} {φ : Nat → Pl} {L : Look} {w : World} {b : Nat} : (envOf S φ L w).owned b ↔ ∃ o y p, L o = some y ∧ y.frz = false ∧ φ o = some (b, p) := Iff.rfl

theorem OStep.env {S : Start} {φ φ' : Nat → Pl} {L L' : Look} {w w' : World} {Sx Ch : Nat → Prop} (h : OStep S φ φ' L L' w w' Sx Ch) :
    EnvStep (envOf S φ L w) (envOf S φ' L' w') := by
  refine ⟨fun o y hy => ?_, fun b hb hlt => ?_, h.ws.bsz_all⟩
  · by_cases hc : Ch o
    · exact h.old o y hy hc
    · obtain ⟨h1, h2⟩ := h.stay o hc
      exact ⟨y, by rw [← hy]; exact h1, ObjStep.refl y h2⟩
  · have hno : ¬ (envOf S φ L w).owned b := hb.2
    refine ⟨⟨hb.1, fun ho => ?_⟩, h.ws.keep b hlt fun hS => hno ?_⟩
    · obtain ⟨o, y, p, h1, h2, h3⟩ := ho
      by_cases hc : Ch o
      · obtain ⟨o1, y1, p1, g1, g2, g3, _⟩ := h.unfrz o y b p h1 hc h2 h3 hlt
        exact hno ⟨o1, y1, p1, g1, g2, g3⟩
      · obtain ⟨g1, g2⟩ := h.stay o hc
        exact hno ⟨o, y, p, g1.symm.trans h1, h2, g2.symm.trans h3⟩
    · obtain ⟨o, y, p, h1, h2, h3, _⟩ := h.owned b hS hlt
      exact ⟨o, y, p, h1, h2, h3⟩

theorem OStep.objs {S : Start} {φ φ' : Nat → Pl} {L L' : Look} {w w' : World} {Sx Ch : Nat → Prop} (h : OStep S φ φ' L L' w w' Sx Ch) (ho : Objs S φ L w) (hsz : S.w0.heap.size ≤ w.heap.size) :
    Objs S φ' L' w' := by
  have henv := h.env
  refine ⟨fun o y hy => ?_, fun o y b p hy hp => ?_, fun o o' y y' b p p' hy hy' hf hg hp hp' => ?_, fun o b p n hm => ?_, fun o pl n hm => ?_⟩
  · by_cases hc : Ch o
    · exact h.ok o y hy hc henv
    · obtain ⟨h1, h2⟩ := h.stay o hc
      have hy0 : L o = some y := by rw [← h1]; exact hy
      by_cases hgone : y.body = .gone
      · have := ho.ok o y hy0
        unfold ObjOK at this ⊢
        rw [hgone] at this ⊢
        exact this
      · refine (ho.ok o y hy0).step henv rfl id h2 fun b p hp => h.ws.keep b (ho.blk o y b p hy0 hp).1 fun hS => ?_
        obtain ⟨o1, y1, p1, g1, g2, g3, g4⟩ := h.owned b hS (ho.blk o y b p hy0 hp).1
        have := ho.inj o1 o y1 y b p1 p g1 hy0 g2 hgone g3 hp
        exact hc (this ▸ g4)
  · by_cases hc : Ch o
    · obtain ⟨h1, h2⟩ := h.blk o y b p hy hc hp
      refine ⟨h1, ?_⟩
      by_cases hlt : b < w.heap.size
      · obtain ⟨o1, y1, p1, g1, g2, g3⟩ := h2 hlt
        have hb := ho.blk o1 y1 b p1 g1 g2
        exact ⟨hb.2.1, fun hf => hb.2.2 (g3 hf)⟩
      · exact ⟨fun hs => absurd (Nat.lt_of_lt_of_le hs hsz) hlt, fun _ hs => absurd (Nat.lt_of_lt_of_le hs hsz) hlt⟩
    · obtain ⟨h1, h2⟩ := h.stay o hc
      have hb := ho.blk o y b p (by rw [← h1]; exact hy) (by rw [← h2]; exact hp)
      exact ⟨Nat.lt_of_lt_of_le hb.1 h.ws.size, hb.2⟩
  · by_cases hc : Ch o
    · by_cases hc' : Ch o'
      · exact h.inj o o' y y' b p p' hy hy' hc hc' hf hg hp hp'
      · obtain ⟨h1, h2⟩ := h.stay o' hc'
        have hy0 : L o' = some y' := by rw [← h1]; exact hy'
        have hp0 : φ o' = some (b, p') := by rw [← h2]; exact hp'
        have hlt := (ho.blk o' y' b p' hy0 hp0).1
        obtain ⟨o1, y1, p1, g1, g2, g3, g4⟩ := h.unfrz o y b p hy hc hf hp hlt
        exact absurd (ho.inj o1 o' y1 y' b p1 p' g1 hy0 g2 hg g3 hp0 ▸ g4) hc'
    · obtain ⟨h1, h2⟩ := h.stay o hc
      have hy0 : L o = some y := by rw [← h1]; exact hy
      have hp0 : φ o = some (b, p) := by rw [← h2]; exact hp
      have hlt := (ho.blk o y b p hy0 hp0).1
      by_cases hc' : Ch o'
      · obtain ⟨o1, y1, p1, g1, g2, g3, g4⟩ := h.injOld o' y' b p' hy' hc' hg hp' hlt
        exact absurd (ho.inj o o1 y y1 b p p1 hy0 g2 hf g3 hp0 g4 ▸ g1) hc
      · obtain ⟨h3, h4⟩ := h.stay o' hc'
        exact ho.inj o o' y y' b p p' hy0 (by rw [← h3]; exact hy') hf hg hp0 (by rw [← h4]; exact hp')
  · obtain ⟨h1, y, cs, h2, h3, h4, h5⟩ := ho.box o b p n hm
    by_cases hc : Ch o
    · obtain ⟨g1, y', cs', g2, g3, g4, g5⟩ := h.box o b p n hm hc h1 y cs h2 h3 h4
      exact ⟨g1, y', cs', g2, g3, g4, g5.trans h5⟩
    · obtain ⟨g1, g2⟩ := h.stay o hc
      exact ⟨by rw [g2]; exact h1, y, cs, by rw [g1]; exact h2, h3, h4, h5⟩
  · obtain ⟨y, h1, h2⟩ := ho.arr o pl n hm
    by_cases hc : Ch o
    · obtain ⟨y', g1, g2⟩ := h.arr o pl n hm hc y h1
      refine ⟨y', g1, fun ha hf => ?_⟩
      obtain ⟨k1, k2, k3, k4⟩ := g2 ha hf
      obtain ⟨m1, t, xs, m2, m3⟩ := h2 k1 k2
      rw [m2] at k4
      cases hb : y'.body with
      | box _ => rw [hb] at k4; cases k4
      | gone => rw [hb] at k4; cases k4
      | arr t' ys => rw [hb] at k4; exact ⟨by rw [k3]; exact m1, t', ys, rfl, k4.2 ▸ m3⟩
    · obtain ⟨g1, g2⟩ := h.stay o hc
      exact ⟨y, by rw [g1]; exact h1, fun ha hf => by rw [g2]; exact h2 ha hf⟩

theorem Frame1.step {S : Start} {φ φ' : Nat → Pl} {L L' : Look} {w w' : World} {Sx Ch : Nat → Prop} (h : OStep S φ φ' L L' w w' Sx Ch) (ho : Objs S φ L w) (hf : Frame1 S w) : Frame1 S w' := by
  refine ⟨h.ws.os.trans hf.os, h.ws.tape.trans hf.tape, h.ws.output.trans hf.output, Nat.le_trans hf.size h.ws.size, fun b => Nat.le_trans (hf.bsz b) (h.ws.bsz_all b), fun b hb hn => ?_, fun o b p n hm => ?_⟩
  · have hlt := Nat.lt_of_lt_of_le hb hf.size
    rw [h.ws.keep b hlt fun hS => ?_]
    · exact hf.keep b hb hn
    · obtain ⟨o, y, p, h1, h2, h3, _⟩ := h.owned b hS hlt
      exact hn ((ho.blk o y b p h1 h3).2.2 h2 hb)
  · obtain ⟨cur0, cur, e, h1, h2, h3, h4⟩ := hf.box o b p n hm
    by_cases hS : Sx b
    · obtain ⟨cur', g1, g2, g3⟩ := h.boxW o b p n hm cur e h2 hS
      exact ⟨cur0, cur', e, h1, g1, g2.trans h3, fun j hj => (g3 j hj).trans (h4 j hj)⟩
    · have hlt : b < w.heap.size := (Array.getElem?_eq_some_iff.1 h2).1
      exact ⟨cur0, cur, e, h1, by rw [h.ws.keep b hlt hS]; exact h2, h3, h4⟩

theorem getD_put (a : Act) (d : Option Tmp) (v : Value) (i : Nat) : (a.put d v).tmps.getD i undef = match d with
    | some d => if i = d ∧ d < a.tmps.size then v else a.tmps.getD i undef
    | none => a.tmps.getD i undef := by
  cases d with
  | none => rfl
  | some d =>
    simp only [Act.put, Array.getD_eq_getD_getElem?, Array.getElem?_setIfInBounds]
    by_cases h : d = i
    · subst h
      by_cases hlt : d < a.tmps.size <;> simp [hlt]
    · have : ¬ (i = d ∧ d < a.tmps.size) := fun hh => h hh.1.symm
      simp [h, this]
theorem put_size (a : Act) (d : Option Tmp) (v : Value) : (a.put d v).tmps.size = a.tmps.size := by cases d <;> simp [Act.put]
theorem put_defers (a : Act) (d : Option Tmp) (v : Value) : (a.put d v).defers = a.defers := by cases d <;> rfl

theorem putD_at (f : Nat → AV) (d : Option Nat) (x : AV) (i : Nat) : putD f d x i = match d with
    | some d => if i = d then x else f i
    | none => f i := by
  cases d with
  | none => rfl
  | some d =>
    by_cases h : i = d
    · subst h; simp [putD, put]
    · have : Nat.beq i d = false := by
        cases hb : Nat.beq i d with
        | false => rfl
        | true => exact absurd (Nat.eq_of_beq_eq_true hb) h
      simp [putD, put, this, h]

/-- **One step**: the objects by an OStep, one slot by a value that fits. -/
theorem Rel.step {S : Start} {φ φ' : Nat → Pl} {σ : St} {a : Act} {w w' : World} {Sx Ch : Nat → Prop} (h : Rel S φ σ a w) {L' : Look} (ho : OStep S φ φ' σ.objs L' w w' Sx Ch)
    {d : Option Nat} {x : AV} {v : Value} (hd : dstOk S.nt d = true) (hx : RAV (envOf S φ' L' w') x v) :
    Rel S φ' ⟨putD σ.slots d x, L', σ.base⟩ (a.put d v) w' := by
  refine ⟨by rw [put_size]; exact h.nt, by rw [put_defers]; exact h.defers, fun i => ?_, ho.objs h.objs h.frame.size, h.frame.step ho h.objs⟩
  have hs := (h.slots i).step ho.env
  rw [getD_put]
  show RAV _ (putD σ.slots d x i) _
  rw [putD_at]
  cases d with
  | none => exact hs
  | some d =>
    have hlt : d < a.tmps.size := by rw [h.nt]; simpa [dstOk] using hd
    by_cases hi : i = d
    · subst hi; simpa [hlt] using hx
    · simpa [hi] using hs

/-- Nothing but the count of draws has turned. -/
theorem OStep.quiet (S : Start) (φ : Nat → Pl) (L : Look) (w : World) (n : Nat) : OStep S φ φ L L w (w.drewN n) (fun _ => False) (fun _ => False) where
  ws := WStep.drewN w n _
  owned := fun _ h => h.elim
  stay := fun _ _ => ⟨rfl, rfl⟩
  old := fun _ _ _ h => h.elim
  unfrz := fun _ _ _ _ _ h => h.elim
  ok := fun _ _ _ h => h.elim
  blk := fun _ _ _ _ _ h => h.elim
  inj := fun _ _ _ _ _ _ _ _ _ h => h.elim
  injOld := fun _ _ _ _ _ h => h.elim
  box := fun _ _ _ _ _ h => h.elim
  boxW := fun _ _ _ _ _ _ _ _ h => h.elim
  arr := fun _ _ _ _ h => h.elim
end Go.M
namespace Go.M
open Go

def zeroVal (c : C) : Option Value :=
  match c with
  | .int k n => some (.int k n)
  | .bool b => some (.bool b)
  | .str s => some (.string s)
  | .err true => some .nilIface
  | .nilP => some (.pointer none)
  | .nils _ => some (.slice none 0 0)
  | _ => none
def eqV (a b : Value) : Bool :=
  match a, b with
  | .int k n, .int k' n' => decide (k = k') && decide (n = n')
  | .bool x, .bool y => decide (x = y)
  | .string x, .string y => decide (x = y)
  | .nilIface, .nilIface => true
  | .pointer none, .pointer none => true
  | .slice none 0 0, .slice none 0 0 => true
  | _, _ => false
theorem eqV_eq {a b : Value} (h : eqV a b = true) : a = b := by
  unfold eqV at h
  split at h <;> simp_all
def zerosOk : List C → List Value → Bool
  | [], [] => true
  | c :: r, v :: vs => (match zeroVal c with | some u => eqV u v | none => false) && zerosOk r vs
  | _, _ => false
def kindB (P : Program) (k : K) (d : TypeDesc) : Bool :=
  match k, d with
  | .int k, .int k' => decide (k = k')
  | .bool, .bool => true
  | .str, .string => true
  | .err, .interface _ => true
  | .slice e, .slice e' => decide (e = e')
  | .struct fs, .struct gs => decide (fs = gs.toList.map fun f => (f.offset, f.type))
  | .arr n e, .array n' e' => decide (n = n') && decide (e = e')
  | .ptr e, .pointer e' => decide (e = e')
  | .func, .func _ _ _ => true
  | _, _ => false
def tfB (P : Program) (t : TypeId) (ti : TI) : Bool :=
  match P.info? t, P.underlying t with
  | some i, some d => decide (i.size = ti.size) && decide (i.bytes = ti.bytes) && decide (ti.zero.length = ti.size) &&
      (match i.zero with | some z => zerosOk ti.zero z.cells.toList | none => false) && kindB P ti.kind d &&
      (match ti.ty with | some et => decide (et.size = ti.size) | none => true) && (ti.agg || decide (ti.size = 1))
  | _, _ => false

def KindOK (P : Program) (t : TypeId) (k : K) : Prop :=
  match k with
  | .int k => P.underlying t = some (.int k)
  | .bool => P.underlying t = some .bool
  | .str => P.underlying t = some .string
  | .err => ∃ ms, P.underlying t = some (.interface ms)
  | .slice e => P.underlying t = some (.slice e)
  | .struct fs => ∃ gs, P.underlying t = some (.struct gs) ∧ fs = gs.toList.map fun f => (f.offset, f.type)
  | .arr n e => P.underlying t = some (.array n e)
  | .ptr e => P.underlying t = some (.pointer e)
  | .func => ∃ a b c, P.underlying t = some (.func a b c)

structure TF (P : Program) (t : TypeId) (ti : TI) : Prop where
  info : ∃ i z, P.info? t = some i ∧ i.size = ti.size ∧ i.bytes = ti.bytes ∧ i.zero = some z ∧ zerosOk ti.zero z.cells.toList = true
  zlen : ti.zero.length = ti.size
  kind : KindOK P t ti.kind
  elt : ∀ et, ti.ty = some et → et.size = ti.size
  one : ti.agg = false → ti.size = 1

theorem tf_of {P : Program} {t : TypeId} {ti : TI} (h : tfB P t ti = true) : TF P t ti := by
  unfold tfB at h
  split at h
  · rename_i i d hi hd
    simp only [Bool.and_eq_true, decide_eq_true_eq, Bool.or_eq_true] at h
    obtain ⟨⟨⟨⟨⟨⟨h1, h2⟩, h3⟩, h4⟩, h5⟩, h6⟩, h7⟩ := h
    refine ⟨?_, h3, ?_, ?_, ?_⟩
    · cases hz : i.zero with
      | none => rw [hz] at h4; cases h4
      | some z => rw [hz] at h4; exact ⟨i, z, hi, h1, h2, hz, h4⟩
    · unfold kindB at h5
      split at h5 <;> first
        | (cases h5; done)
        | (simp only [decide_eq_true_eq, Bool.and_eq_true] at h5; simp_all [KindOK])
        | simp_all [KindOK]
    · intro et he; rw [he] at h6; simpa using h6
    · intro ha; rcases h7 with h7 | h7
      · rw [ha] at h7; cases h7
      · exact h7
  · cases h

def TOK (P : Program) (T : TypeId → Option TI) : Prop := ∀ t ti, T t = some ti → TF P t ti

/-- A table as a list. -/
def lookT (l : List (TypeId × TI)) (t : TypeId) : Option TI :=
  match l with
  | [] => none
  | (u, ti) :: r => bif Nat.beq u t then some ti else lookT r t
theorem tok_of {P : Program} {l : List (TypeId × TI)} (h : (l.all fun p => tfB P p.1 p.2) = true) : TOK P (lookT l) := by
  induction l with
  | nil => intro t ti ht; cases ht
  | cons x r ih =>
    obtain ⟨u, ui⟩ := x
    simp only [List.all_cons, Bool.and_eq_true] at h
    intro t ti ht
    unfold lookT at ht
    cases hb : Nat.beq u t with
    | true =>
      rw [hb] at ht
      obtain rfl := Nat.eq_of_beq_eq_true hb
      simp only [cond_true, Option.some.injEq] at ht
      subst ht
      exact tf_of h.1
    | false => rw [hb] at ht; exact ih h.2 t ti ht

section
variable {P : Program}
theorem TF.isAgg {t : TypeId} {ti : TI} (h : TF P t ti) (w : World) : (isAgg t).run P w = .ok ti.agg w := by
  have hk := h.kind
  unfold TI.agg
  cases hkind : ti.kind <;> simp only [hkind, KindOK] at hk ⊢ <;> first
    | (obtain ⟨gs, hk, _⟩ := hk; simp [Go.isAgg, run_underlying hk]; done)
    | (obtain ⟨a, b, c, hk⟩ := hk; simp [Go.isAgg, run_underlying hk]; done)
    | (obtain ⟨a, hk⟩ := hk; simp [Go.isAgg, run_underlying hk]; done)
    | (simp [Go.isAgg, run_underlying hk]; done)
theorem TF.sizeOf {t : TypeId} {ti : TI} (h : TF P t ti) (w : World) : (Go.sizeOf t).run P w = .ok ti.size w := by
  obtain ⟨i, z, h1, h2, _⟩ := h.info
  simp [Go.sizeOf, typeInfo, h1, h2]
theorem TF.zeroValue {t : TypeId} {ti : TI} (h : TF P t ti) : ∃ z : Value, zerosOk ti.zero z.cells.toList = true ∧ ∀ w, (Go.zeroValue t).run P w = .ok z w := by
  obtain ⟨i, z, h1, h2, h3, h4, h5⟩ := h.info
  exact ⟨z, h5, fun w => by simp [Go.zeroValue, typeInfo, h1, h4]⟩
end

theorem zeroVal_RC {E : Env} {c : C} {v : Value} (h : zeroVal c = some v) : RC E c v ∧ v.oneCell' = true := by
  unfold zeroVal at h
  split at h <;> first
    | (cases h; done)
    | (obtain rfl := Option.some.inj h; exact ⟨rfl, rfl⟩)
    | (obtain rfl := Option.some.inj h; exact ⟨.inl ⟨rfl, rfl⟩, rfl⟩)
theorem zerosOk_spec : ∀ {cs : List C} {vs : List Value}, zerosOk cs vs = true → vs.length = cs.length ∧ ∀ (j : Nat) (c : C), cs[j]? = some c → ∃ v, vs[j]? = some v ∧ zeroVal c = some v
  | [], [], _ => ⟨rfl, fun j c h => by simp at h⟩
  | [], _ :: _, h => by cases h
  | _ :: _, [], h => by cases h
  | c :: r, v :: vs, h => by
    simp only [zerosOk, Bool.and_eq_true] at h
    obtain ⟨h1, h2⟩ := zerosOk_spec h.2
    refine ⟨by simp [h1], fun j d hj => ?_⟩
    cases j with
    | zero =>
      simp only [List.getElem?_cons_zero, Option.some.injEq] at hj ⊢
      subst hj
      cases hz : zeroVal c with
      | none => rw [hz] at h; cases h.1
      | some u => rw [hz] at h; exact ⟨u, by rw [eqV_eq h.1], rfl⟩
    | succ j => exact h2 j d hj

theorem val_RAV {S : Start} {φ : Nat → Pl} {σ : St} {a : Act} {w : World} (h : Rel S φ σ a w) (T : TypeId → Option TI) (ty : TypeId) (x : Operand) :
    RAV (envOf S φ σ.objs w) (val T σ.slots ty x) (a.eval x) := by
  cases x with
  | tmp t => exact h.slots t
  | global g => trivial
  | func f => exact ⟨[], rfl, rfl⟩
  | const v =>
    show RAV _ (constV T ty v) v
    unfold constV
    split <;> first
      | exact rfl
      | exact .inl ⟨rfl, rfl⟩
      | trivial
      | skip
    unfold nilOf
    repeat' split
    all_goals first | exact rfl | trivial
end Go.M
namespace Go.M
open Go

theorem both_some {ρ : Type} {a b : Option ρ} {r : ρ} (h : both a b = some r) : a = some r ∧ b = some r := by
  unfold both at h
  split at h
  · rename_i hab; exact ⟨h, hab ▸ h⟩
  · cases h
theorem Step.out_some {ρ : Type} {s : Step} {k : Eff → Option ρ} {r : ρ} (h : s.out k = some r) : (∃ e, s.yields e ∧ k e = some r) ∨ ∃ n f, s = .nilq n f ∧ ∀ b, (n ≠ 0 → b = false) → k (f b) = some r := by
  cases s with
  | fail => cases h
  | done e => exact .inl ⟨e, rfl, h⟩
  | chk b e =>
    cases b with
    | true => exact .inl ⟨e, ⟨rfl, rfl⟩, h⟩
    | false => cases h
  | idx xs i f =>
    obtain ⟨x, h1, h2⟩ := Option.bind_eq_some_iff.1 h
    exact .inl ⟨f x, ⟨x, h1, rfl⟩, h2⟩
  | bidx s i f =>
    obtain ⟨x, h1, h2⟩ := Option.bind_eq_some_iff.1 h
    exact .inl ⟨f x, ⟨x, h1, rfl⟩, h2⟩
  | call d f =>
    obtain ⟨x, h1, h2⟩ := Option.bind_eq_some_iff.1 h
    cases hf : f (d.enc x) with
    | none => rw [hf] at h2; cases h2
    | some e => rw [hf] at h2; exact .inl ⟨e, ⟨x, h1, hf⟩, h2⟩
  | nilq n f =>
    refine .inr ⟨n, f, rfl, fun b hb => ?_⟩
    simp only [Step.out] at h
    split at h
    · rename_i hn
      have : n ≠ 0 := fun h0 => by subst h0; simp at hn
      rw [hb this]; exact h
    · obtain ⟨h1, h2⟩ := both_some h
      cases b
      · exact h2
      · exact h1
theorem Step.noq_some {ρ : Type} {s : Step} {k : Eff → Option ρ} {r : ρ} (h : s.noq.out k = some r) : ∃ e, s.yields e ∧ k e = some r := by
  rcases Step.out_some h with ⟨e, h1, h2⟩ | ⟨n, f, h1, _⟩
  · refine ⟨e, ?_, h2⟩
    cases s <;> exact h1
  · cases s <;> cases h1

/-- The operation gives a value that fits, and does nothing else. -/
def Quiet (S : Start) (φ : Nat → Pl) (σ : St) (a : Act) (w : World) (o : Oper) (e : Eff) : Prop :=
  e.puts = [] ∧ ∃ v n, (Go.execOp a.eval o).run S.P w = .ok (.value v) (w.drewN n) ∧ RAV (envOf S φ σ.objs w) e.val v
theorem Quiet.mk' {S : Start} {φ : Nat → Pl} {σ : St} {a : Act} {w : World} {o : Oper} {e : Eff} (h1 : e.puts = []) {v : Value}
    (h2 : (Go.execOp a.eval o).run S.P w = .ok (.value v) w) (h3 : RAV (envOf S φ σ.objs w) e.val v) : Quiet S φ σ a w o e := ⟨h1, v, 0, h2, h3⟩

section
variable {S : Start} {φ : Nat → Pl} {σ : St} {a : Act} {w : World} {o : Oper} {e : Eff} {T : TypeId → Option TI}

theorem run_value {v : Value} (s : Sem Value) (h : s.run S.P w = .ok v w) : (do pure (Next.value (← s)) : Sem Next).run S.P w = .ok (.value v) w := by simp [h]

theorem q_move (h : Rel S φ σ a w) {x : Operand} (ho : o.op = .move x ∨ o.op = .assign x) (he : (pureE (val T σ.slots o.type x)).yields e) : Quiet S φ σ a w o e := by
  cases he
  refine Quiet.mk' rfl (v := a.eval x) ?_ (val_RAV h T _ x)
  rcases ho with ho | ho <;> simp [Go.execOp, ho]

theorem bool_of {x : AV} {t : Bool} (hx : x = .v (.one (.bool t))) {E : Env} {v : Value} (h : RAV E x v) : v = .bool t := by subst hx; exact h
theorem int_of {x : AV} {k : IntKind} {n : Int} (hx : x = .v (.one (.int k n))) {E : Env} {v : Value} (h : RAV E x v) : v = .int k n := by subst hx; exact h
theorem str_of {x : AV} {s : ByteArray} (hx : x = .v (.one (.str s))) {E : Env} {v : Value} (h : RAV E x v) : v = .string s := by subst hx; exact h

theorem q_pick (h : Rel S φ σ a w) {c x y : Operand} (ho : o.op = .pick c x y)
    (he : (match val T σ.slots 4 c with
    | .v (.one (.bool t)) => pureE (match t with | true => val T σ.slots o.type x | false => val T σ.slots o.type y)
    | _ => .fail).yields e) : Quiet S φ σ a w o e := by
  split at he
  · rename_i t ht
    have hc := bool_of ht (val_RAV h T 4 c)
    cases he
    cases t with
    | true => exact Quiet.mk' rfl (v := a.eval x) (by simp [Go.execOp, ho, hc, asBool]) (val_RAV h T _ x)
    | false => exact Quiet.mk' rfl (v := a.eval y) (by simp [Go.execOp, ho, hc, asBool]) (val_RAV h T _ y)
  · cases he

theorem run_intBin {op : BinOp} {k k' : IntKind} {m n : Int} {t : TypeId} {e : Eff} {E : Env} (hk : k = k' ∨ intOps op = true) (he : (intBin op k m n).yields e) (P : Program) (w : World) :
    e.puts = [] ∧ ∃ v, (Go.binOp op t (.int k m) (.int k' n)).run P w = .ok v w ∧ RAV E e.val v := by
  cases op
  case quo | rem =>
    obtain ⟨hb, rfl⟩ := he
    rcases hk with rfl | hk
    · have hb' : n ≠ 0 := by simpa using hb
      exact ⟨rfl, _, by simp [Go.binOp, Op.intDiv, hb'], rfl⟩
    · cases hk
  case shl | shr =>
    obtain ⟨hb, rfl⟩ := he
    have hb' : ¬ n < 0 := by simpa using hb
    exact ⟨rfl, _, by simp only [Go.binOp, Op.shift]; rw [if_neg hb']; rfl, rfl⟩
  all_goals first
    | exact he.elim
    | (cases he
       rcases hk with rfl | hk
       · exact ⟨rfl, _, by simp [Go.binOp, Op.intArith, Op.intBits, Op.intCmp], rfl⟩
       · cases hk)
theorem run_strBin {op : BinOp} {x y : ByteArray} {t : TypeId} {e : Eff} {E : Env} (he : (strBin op x y).yields e) (P : Program) (w : World) :
    e.puts = [] ∧ ∃ v, (Go.binOp op t (.string x) (.string y)).run P w = .ok v w ∧ RAV E e.val v := by
  cases op
  case add =>
    obtain ⟨hb, rfl⟩ := he
    have hb' : ¬ (((x.size + y.size : Nat) : Int) > IntKind.i64.max) := by
      have : x.size + y.size ≤ 9223372036854775807 := by simpa using hb
      have hm : IntKind.i64.max = 9223372036854775807 := by rfl
      rw [hm]; omega
    exact ⟨rfl, _, by simp only [Go.binOp, Op.stringOp]; rw [if_neg hb']; rfl, rfl⟩
  all_goals first
    | exact he.elim
    | (cases he
       exact ⟨rfl, _, by simp [Go.binOp, Op.stringOp], rfl⟩)

theorem guard_plain {P : Program} {op : BinOp} {t : TypeId} {x y : Operand} {u v : Value} (w : World) (h1 : u ≠ .nilIface) (h2 : ∀ c, u ≠ .agg c) : (eqGuard op t x y u v).run P w = .ok () w := by
  cases op <;> simp only [eqGuard] <;> cases u <;> first
    | exact absurd rfl h1
    | exact absurd rfl (h2 _)
    | simp
end
end Go.M
namespace Go.M
open Go

/-- What the proofs ask of the table of types. -/
structure TFacts (P : Program) (T : TypeId → Option TI) : Prop where
  tok : TOK P T
  cmp : ∀ t ti, T t = some ti → ti.cmp = true → ∀ (op : BinOp) (x y : Operand) (cs cs' : List C) (b : Bool) (vs vs' : Array Value) (E : Env),
    kinds ti.zero cs = true → eqCells cs cs' = some b → RCs E cs vs.toList → RCs E cs' vs'.toList → ∀ w,
    (eqGuard op t x y (.agg vs) (.agg vs')).run P w = .ok () w ∧ (Op.equal t (.agg vs) (.agg vs')).run P w = .ok b w

section
variable {S : Start} {φ : Nat → Pl} {σ : St} {a : Act} {w : World} {o : Oper} {e : Eff} {T : TypeId → Option TI}

theorem equalIn_bool {P : Program} {t : TypeId} (h : P.underlying t = some .bool) (d : Nat) (x y : Bool) (w : World) : (Op.equalIn (d + 1) t (.bool x) (.bool y)).run P w = .ok (x == y) w := by
  simp [Op.equalIn, run_underlying h]
theorem equalIn_nil {P : Program} {t : TypeId} {ms : Array (String × TypeId)} (h : P.underlying t = some (.interface ms)) (d : Nat) (w : World) : (Op.equalIn (d + 1) t .nilIface .nilIface).run P w = .ok true w := by
  simp [Op.equalIn, run_underlying h]
theorem equalIn_held {P : Program} {t : TypeId} {ms : Array (String × TypeId)} (h : P.underlying t = some (.interface ms)) (d : Nat) (u : TypeId) (v : Value) (w : World) : (Op.equalIn (d + 1) t (.iface u v) .nilIface).run P w = .ok false w := by
  simp [Op.equalIn, run_underlying h]
theorem run_equal_bool {P : Program} {t : TypeId} (h : P.underlying t = some .bool) (x y : Bool) (w : World) : (Op.equal t (.bool x) (.bool y)).run P w = .ok (x == y) w := equalIn_bool h 9999 x y w
theorem run_equal_nil {P : Program} {t : TypeId} {ms : Array (String × TypeId)} (h : P.underlying t = some (.interface ms)) (w : World) : (Op.equal t .nilIface .nilIface).run P w = .ok true w := equalIn_nil h 9999 w
theorem run_equal_held {P : Program} {t : TypeId} {ms : Array (String × TypeId)} (h : P.underlying t = some (.interface ms)) (u : TypeId) (v : Value) (w : World) : (Op.equal t (.iface u v) .nilIface).run P w = .ok false w := equalIn_held h 9999 u v w

theorem q_binOp (hT : TFacts S.P T) (h : Rel S φ σ a w) {op : BinOp} {xt yt : TypeId} {x y : Operand} (ho : o.op = .binOp op xt x y yt)
    (he : (binOp (T xt) op (isNilConst y) (val T σ.slots xt x) (val T σ.slots xt y)).yields e) : Quiet S φ σ a w o e := by
  have hx := val_RAV h T xt x
  have hy := val_RAV h T xt y
  have fin : ∀ {v : Value}, (eqGuard op xt x y (a.eval x) (a.eval y)).run S.P w = .ok () w → (Go.binOp op xt (a.eval x) (a.eval y)).run S.P w = .ok v w →
      (Go.execOp a.eval o).run S.P w = .ok (.value v) w := fun h1 h2 => by simp [Go.execOp, ho, h1, h2]
  unfold binOp at he
  split at he
  · rename_i k m hxe
    split at he
    · rename_i k' n hye
      have e1 := int_of hxe hx
      have e2 := int_of hye hy
      cases hc : (decide (k = k') || intOps op) with
      | false => rw [hc] at he; cases he
      | true =>
        rw [hc] at he
        obtain ⟨h1, v, h2, h3⟩ := run_intBin (k' := k') (t := xt) (E := envOf S φ σ.objs w) (by simpa using hc) he S.P w
        exact Quiet.mk' h1 (fin (by rw [e1, e2]; exact guard_plain w (by simp) (by simp)) (by rw [e1, e2]; exact h2)) h3
    · cases he
  · rename_i s hxe
    split at he
    · rename_i s' hye
      have e1 := str_of hxe hx
      have e2 := str_of hye hy
      obtain ⟨h1, v, h2, h3⟩ := run_strBin (t := xt) (E := envOf S φ σ.objs w) he S.P w
      exact Quiet.mk' h1 (fin (by rw [e1, e2]; exact guard_plain w (by simp) (by simp)) (by rw [e1, e2]; exact h2)) h3
    · cases he
  · rename_i b hxe
    split at he
    · rename_i b' hye
      have e1 := bool_of hxe hx
      have e2 := bool_of hye hy
      split at he
      · rename_i i hi
        split at he
        · rename_i hk
          have hu : S.P.underlying xt = some .bool := by have := (hT.tok xt i hi).kind; rw [hk] at this; exact this
          split at he <;> first
            | (cases he; done)
            | (cases he
               refine Quiet.mk' rfl (fin (by rw [e1, e2]; exact guard_plain w (by simp) (by simp)) (by rw [e1, e2]; simp [Go.binOp, run_equal_bool hu]; rfl)) ?_
               simp [RAV, RV1, RC, one])
        · cases he
      · cases he
    · cases he
  · rename_i b hxe
    rw [hxe] at hx
    split at he
    · rename_i hye
      rw [hye] at hy
      have e2 : a.eval y = .nilIface := by rcases hy with ⟨_, hy⟩ | ⟨hf, _⟩; exact hy; cases hf
      split at he
      · rename_i i hi
        split at he
        · rename_i hk
          obtain ⟨ms, hu⟩ : ∃ ms, S.P.underlying xt = some (.interface ms) := by have := (hT.tok xt i hi).kind; rw [hk] at this; exact this
          cases hn : isNilConst y with
          | false => rw [hn] at he; cases he
          | true =>
            rw [hn] at he
            have hyc : y = .const .nilIface := by unfold isNilConst at hn; split at hn; rfl; cases hn
            subst hyc
            rcases hx with ⟨rfl, e1⟩ | ⟨rfl, t, u, e1⟩
            · have hg : (eqGuard op xt x (.const .nilIface) (a.eval x) (a.eval (.const .nilIface))).run S.P w = .ok () w := by
                rw [e1, e2]; cases op <;> simp [eqGuard]
              simp only [cond_true] at he
              split at he <;> first
                | (cases he; done)
                | (cases he
                   refine Quiet.mk' rfl (fin hg (by rw [e1, e2]; simp [Go.binOp, run_equal_nil hu]; rfl)) ?_
                   simp [RAV, RV1, RC, one])
            · have hg : (eqGuard op xt x (.const .nilIface) (a.eval x) (a.eval (.const .nilIface))).run S.P w = .ok () w := by
                rw [e1]; exact guard_plain w (by simp) (by simp)
              simp only [cond_true] at he
              split at he <;> first
                | (cases he; done)
                | (cases he
                   refine Quiet.mk' rfl (fin hg (by rw [e1, e2]; simp [Go.binOp, run_equal_held hu]; rfl)) ?_
                   simp [RAV, RV1, RC, one])
        · cases he
      · cases he
    · cases he
  · split at he
    · split at he
      · split at he
        · split at he <;> exact he.elim
        · exact he.elim
      · exact he.elim
    · exact he.elim
  · rename_i cs hxe
    rw [hxe] at hx
    split at he
    · rename_i cs' hye
      rw [hye] at hy
      obtain ⟨vs, e1, r1⟩ := hx
      obtain ⟨vs', e2, r2⟩ := hy
      split at he
      · rename_i i hi
        split at he
        · rename_i hc
          split at he
          · rename_i hkd
            split at he
            · rename_i b hb
              obtain ⟨hg, hq⟩ := hT.cmp xt i hi hc op x y cs cs' b vs vs' _ hkd hb r1 r2 w
              split at he <;> first
                | (cases he; done)
                | (cases he
                   refine Quiet.mk' rfl (fin (by rw [e1, e2]; exact hg) (by rw [e1, e2]; simp [Go.binOp, hq]; rfl)) ?_
                   simp [RAV, RV1, RC, one])
            · cases he
          · cases he
        · cases he
      · cases he
    · cases he
  · cases he

theorem q_not (h : Rel S φ σ a w) {xt : TypeId} {x : Operand} (ho : o.op = .unOp .not xt x)
    (he : (match val T σ.slots xt x with
      | .v (.one (.bool b)) => pureE (one (.bool (!b)))
      | _ => .fail).yields e) : Quiet S φ σ a w o e := by
  split at he
  · rename_i b hb
    have hv := bool_of hb (val_RAV h T xt x)
    cases he
    exact Quiet.mk' rfl (v := .bool !b) (by simp [Go.execOp, ho, hv, Op.unary]) rfl
  · cases he
theorem q_neg (h : Rel S φ σ a w) {xt : TypeId} {x : Operand} (ho : o.op = .unOp .neg xt x)
    (he : (match val T σ.slots xt x with
      | .v (.one (.int k n)) => pureE (one (.int k (k.wrap (0 - n))))
      | _ => .fail).yields e) : Quiet S φ σ a w o e := by
  split at he
  · rename_i k n hb
    have hv := int_of hb (val_RAV h T xt x)
    cases he
    exact Quiet.mk' rfl (v := .int k (k.wrap (0 - n))) (by simp [Go.execOp, ho, hv, Op.unary, Op.intArith]) rfl
  · cases he
theorem RVs_get {E : Env} : ∀ {xs : List V1} {vs : List Value} {i : Nat} {x : V1}, RVs E xs vs → xs[i]? = some x → ∃ v, vs[i]? = some v ∧ RV1 E x v
  | _ :: _, _, 0, x, ⟨v, vs', rfl, h2, _⟩, hx => by simp at hx; subst hx; exact ⟨v, rfl, h2⟩
  | _ :: r, _, i + 1, x, ⟨v, vs', rfl, _, h3⟩, hx => RVs_get (xs := r) (i := i) h3 (by simpa using hx)
  | [], _, _, _, _, hx => by simp at hx
theorem q_extract (h : Rel S φ σ a w) {x : Operand} {i : Nat} (ho : o.op = .extract x i)
    (he : (match val T σ.slots 0 x with
    | .tup vs => match vs[i]? with
      | some v => pureE (.v v)
      | none => .fail
    | _ => .fail).yields e) : Quiet S φ σ a w o e := by
  split at he
  · rename_i xs hx
    have hv := val_RAV h T 0 x
    rw [hx] at hv
    obtain ⟨vs, e1, hr⟩ := hv
    split at he
    · rename_i v1 hi
      cases he
      obtain ⟨v, h1, h2⟩ := RVs_get hr hi
      refine Quiet.mk' rfl (v := v) ?_ h2
      have h1' : vs[i]? = some v := by simpa using h1
      simp [Go.execOp, ho, e1, Instr.extract, h1']
    · cases he
  · cases he
theorem kind_str (hT : TOK S.P T) {t : TypeId} (h : isStr T t = true) : S.P.underlying t = some .string := by
  unfold isStr at h
  split at h
  · rename_i ti hti
    split at h
    · rename_i hk; have := (hT t ti hti).kind; rw [hk] at this; exact this
    · cases h
  · cases h
theorem kind_slice (hT : TOK S.P T) {t : TypeId} {n : Nat} (h : elemSize T t n = true) : ∃ e i, S.P.underlying t = some (.slice e) ∧ S.P.info? e = some i ∧ i.size = n := by
  unfold elemSize at h
  split at h
  · rename_i ti hti
    split at h
    · rename_i e hk
      split at h
      · rename_i ei hei
        obtain ⟨i, z, h1, h2, _⟩ := (hT e ei hei).info
        have hu := (hT t ti hti).kind
        rw [hk] at hu
        exact ⟨e, i, hu, h1, h2.trans (Nat.eq_of_beq_eq_true h)⟩
      · cases h
    · cases h
  · cases h
theorem kind_slice' (hT : TOK S.P T) {t : TypeId} (h : isSlice T t = true) : ∃ e, S.P.underlying t = some (.slice e) := by
  unfold isSlice at h
  split at h
  · rename_i ti hti
    split at h
    · rename_i e hk; have hu := (hT t ti hti).kind; rw [hk] at hu; exact ⟨e, hu⟩
    · cases h
  · cases h

theorem q_index (hT : TOK S.P T) (h : Rel S φ σ a w) {xt : TypeId} {x i : Operand} (ho : o.op = .index xt x i)
    (he : (match val T σ.slots 3 i with
    | .v (.one (.int _ n)) => match val T σ.slots xt x with
      | .v (.one (.str s)) => bif isStr T xt then Step.bidx s n fun b => ⟨one (.int .u8 b), [], []⟩ else .fail
      | _ => .fail
    | _ => .fail).yields e) : Quiet S φ σ a w o e := by
  split at he
  · rename_i k n hi
    have hn := int_of hi (val_RAV h T 3 i)
    split at he
    · rename_i s hs
      have hv := str_of hs (val_RAV h T xt x)
      cases hb : isStr T xt with
      | false => rw [hb] at he; cases he
      | true =>
        rw [hb] at he
        obtain ⟨b, hbi, rfl⟩ := he
        have hu := kind_str hT hb
        unfold bidx at hbi
        cases hp : decide (0 ≤ n) with
        | false => rw [hp] at hbi; cases hbi
        | true =>
          rw [hp] at hbi
          have hp' : 0 ≤ n := by simpa using hp
          simp only [cond_true, Option.map_eq_some_iff] at hbi
          obtain ⟨c, hc, rfl⟩ := hbi
          have hget : s[n.toNat]? = some c := by
            have hlt : n.toNat < s.size := by
              have := (List.getElem?_eq_some_iff.1 hc).1
              simpa using this
            have : s.data.toList[n.toNat]? = some s[n.toNat] := by
              rw [List.getElem?_eq_getElem (by simpa using hlt)]; rfl
            rw [this] at hc
            simp only [Option.some.injEq] at hc
            subst hc
            simp [hlt]
          exact Quiet.mk' rfl (v := .int .u8 c.toNat) (by simp [Go.execOp, ho, hn, hv, Instr.index, asIntOf, run_underlying hu, hp', hget]) rfl
    · cases he
  · cases he
theorem q_nilCheck (h : Rel S φ σ a w) {x : Operand} (ho : o.op = .nilCheck x)
    (he : (match val T σ.slots 0 x with
    | .v (.one (.ptr o off)) => pureE (one (.ptr o off))
    | _ => .fail).yields e) : Quiet S φ σ a w o e := by
  split at he
  · rename_i o' off hx
    have hv := val_RAV h T 0 x
    rw [hx] at hv
    cases he
    obtain ⟨b, p, y, cs, h1, h2, h3, h4⟩ := hv
    exact Quiet.mk' rfl (v := a.eval x) (by simp [Go.execOp, ho, h4]) ⟨b, p, y, cs, h1, h2, h3, h4⟩
  · cases he
end
end Go.M
namespace Go.M
open Go

theorem run_loadAt {P : Program} {t : TypeId} {ti : TI} (h : TF P t ti) {b q : Nat} {vs : List Value} (w : World) (hl : vs.length = ti.size)
    (hv : ∀ (j : Nat) (v : Value), vs[j]? = some v → w.cell? ⟨b, q + j, none⟩ = some v) :
    ∃ v, (Instr.loadAt t (.pointer (some ⟨b, q, none⟩))).run P w = .ok v w ∧ ((ti.agg = true ∧ v = .agg vs.toArray) ∨ (ti.agg = false ∧ vs = [v])) := by
  cases ha : ti.agg with
  | true =>
    have hc := run_loadCells_list (P := P) w ⟨b, q, none⟩ vs (fun j v hj => by rw [Addr.add_lit]; exact hv j v hj)
    rw [hl] at hc
    exact ⟨_, by simp [Instr.loadAt, Instr.sureAddr, loadVar, h.isAgg, ha, h.sizeOf, hc], .inl ⟨rfl, rfl⟩⟩
  | false =>
    have h1 := h.one ha
    rw [h1] at hl
    match vs, hl with
    | [v], _ =>
      have hc := hv 0 v rfl
      simp only [Nat.add_zero] at hc
      exact ⟨v, by simp [Instr.loadAt, Instr.sureAddr, loadVar, h.isAgg, ha, hc], .inr ⟨rfl, rfl⟩⟩

theorem ofCells_RAV {E : Env} {agg : Bool} {cs : List C} {vs : List Value} {v : Value} {x : AV} (h : ofCells agg cs = some x) (hr : RCs E cs vs)
    (hv : (agg = true ∧ v = .agg vs.toArray) ∨ (agg = false ∧ vs = [v])) : RAV E x v := by
  rcases hv with ⟨rfl, rfl⟩ | ⟨rfl, rfl⟩
  · simp only [ofCells, Option.some.injEq] at h
    subst h
    exact ⟨vs.toArray, rfl, by simpa using hr⟩
  · unfold ofCells at h
    simp only at h
    split at h
    · simp only [Option.some.injEq] at h
      subst h
      exact hr.2 0 _ v rfl rfl
    · cases h

theorem RCs.seg {E : Env} {cs : List C} {vs : List Value} (h : RCs E cs vs) (off n : Nat) : RCs E ((cs.drop off).take n) ((vs.drop off).take n) := by
  refine ⟨by simp [h.1], fun j c v hc hv => ?_⟩
  rw [List.getElem?_take] at hc hv
  split at hc
  · rename_i hlt
    rw [if_pos hlt] at hv
    rw [List.getElem?_drop] at hc hv
    exact h.2 _ c v hc hv
  · cases hc

/-- The cells of an element, as they lie. -/
theorem Rd.cells {E : Env} : ∀ {t : Ty} {x : t.den} {f : Nat → Option Value}, Rd E.w E.Ok t x f → ∃ vs : List Value, vs.length = t.size ∧ (∀ (j : Nat) (v : Value), vs[j]? = some v → f j = some v) ∧ RCs E (cellsOf t x) vs ∧ (cellsOf t x).length = t.size ∧ ∀ v ∈ vs, v.oneCell' = true := by
  intro t
  induction t with
  | int k => intro x f h; exact ⟨[.int k x], rfl, fun j v hj => by
      cases j with
      | zero => simp at hj; subst hj; exact h
      | succ j => simp at hj, ⟨rfl, fun j c v hc hv => by
      cases j with
      | zero => simp [cellsOf] at hc hv; subst hc; subst hv; rfl
      | succ j => simp at hv⟩, rfl, by simp [Value.oneCell']⟩
  | bool => intro x f h; exact ⟨[.bool x], rfl, fun j v hj => by
      cases j with
      | zero => simp at hj; subst hj; exact h
      | succ j => simp at hj, ⟨rfl, fun j c v hc hv => by
      cases j with
      | zero => simp [cellsOf] at hc hv; subst hc; subst hv; rfl
      | succ j => simp at hv⟩, rfl, by simp [Value.oneCell']⟩
  | str => intro x f h; exact ⟨[.string x], rfl, fun j v hj => by
      cases j with
      | zero => simp at hj; subst hj; exact h
      | succ j => simp at hj, ⟨rfl, fun j c v hc hv => by
      cases j with
      | zero => simp [cellsOf] at hc hv; subst hc; subst hv; rfl
      | succ j => simp at hv⟩, rfl, by simp [Value.oneCell']⟩
  | list t _ =>
    intro x f h
    obtain ⟨v, hv, h1⟩ := h.someCell 0 (by simp [Ty.size])
    refine ⟨[v], rfl, fun j u hj => ?_, ⟨rfl, fun j c u hc hu => ?_⟩, rfl, by simpa using h1⟩
    · cases j with
      | zero => simp at hj; subst hj; exact hv
      | succ j => simp at hj
    · cases j with
      | zero =>
        simp [cellsOf] at hc hu
        subst hc
        subst hu
        exact Rd.congr (g := fun _ => some v) h fun j w hj hw => by
          simp only [Ty.size] at hj
          obtain rfl : j = 0 := by omega
          exact hv.symm.trans hw
      | succ j => simp at hu
  | pair a b iha ihb =>
    intro x f h
    obtain ⟨vs, l1, f1, r1, c1, o1⟩ := iha h.1
    obtain ⟨us, l2, f2, r2, c2, o2⟩ := ihb h.2
    refine ⟨vs ++ us, by simp [Ty.size, l1, l2], fun j v hj => ?_, ⟨by simp [cellsOf, l1, l2, c1, c2], fun j c v hc hv => ?_⟩, by simp [cellsOf, c1, c2, Ty.size], fun v hv => ?_⟩
    · rw [List.getElem?_append] at hj
      split at hj
      · exact f1 j v hj
      · rename_i hge
        have := f2 _ v hj
        rw [l1] at this hge
        simpa [Nat.add_sub_cancel' (Nat.le_of_not_lt hge)] using this
    · simp only [cellsOf, List.getElem?_append, c1, l1] at hc hv
      split at hc
      · rename_i hlt
        rw [if_pos hlt] at hv
        exact r1.2 j c v hc hv
      · rename_i hge
        rw [if_neg hge] at hv
        exact r2.2 _ c v hc hv
    · rcases List.mem_append.1 hv with hv | hv
      · exact o1 v hv
      · exact o2 v hv

section
variable {S : Start} {φ : Nat → Pl} {σ : St} {a : Act} {w : World} {o : Oper} {e : Eff} {T : TypeId → Option TI}

theorem cur?_some {L : Look} {o ver : Nat} {y : Obj} (h : cur? L o ver = some y) : L o = some y ∧ y.ver = ver := by
  unfold cur? at h
  split at h
  · rename_i x hx
    cases hb : Nat.beq x.ver ver with
    | true => rw [hb] at h; simp only [cond_true, Option.some.injEq] at h; subst h; exact ⟨hx, Nat.eq_of_beq_eq_true hb⟩
    | false => rw [hb] at h; cases h
  · cases h

/-- The cells of a box, as they lie. -/
theorem box_cells {E : Env} {o : Nat} {y : Obj} {cs : List C} (h : ObjOK E o y) (hb : y.body = .box cs) : ∃ b p vs, E.φ o = some (b, p) ∧ vs.length = cs.length ∧ RCs E cs vs ∧
    (∀ (j : Nat) (v : Value), vs[j]? = some v → E.w.cell? ⟨b, p + j, none⟩ = some v) ∧ ∀ v ∈ vs, v.oneCell' = true := by
  unfold ObjOK at h
  rw [hb] at h
  obtain ⟨b, p, cur, e, h1, h2, h3, h4⟩ := h
  refine ⟨b, p, (cur.toList.drop p).take cs.length, h1, by simp; omega, ⟨by simp; omega, fun j c v hc hv => ?_⟩, fun j v hv => ?_, fun v hv => ?_⟩
  · obtain ⟨u, g1, g2, _⟩ := h4 j c hc
    rw [List.getElem?_take] at hv
    split at hv
    · rw [List.getElem?_drop] at hv
      have : cur[p + j]? = some v := by simpa using hv
      rw [this] at g1
      cases g1
      exact g2
    · cases hv
  · rw [List.getElem?_take] at hv
    split at hv
    · rw [List.getElem?_drop] at hv
      rw [cell_of_row E.w b (p + j) cur e (0, 0) h2]
      simpa using hv
    · cases hv
  · obtain ⟨j, hj⟩ := List.getElem?_of_mem hv
    rw [List.getElem?_take] at hj
    split at hj
    · rename_i hlt
      obtain ⟨c, hc⟩ : ∃ c, cs[j]? = some c := ⟨cs[j], by simp [hlt]⟩
      obtain ⟨u, g1, _, g3⟩ := h4 j c hc
      rw [List.getElem?_drop] at hj
      have : cur[p + j]? = some v := by simpa using hj
      rw [this] at g1
      cases g1
      exact g3
    · cases hj

theorem q_load (hT : TOK S.P T) (h : Rel S φ σ a w) {t : TypeId} {x : Operand} (ho : o.op = .load t x) (he : (loadStep T σ.objs t (val T σ.slots 0 x)).yields e) : Quiet S φ σ a w o e := by
  have hx := val_RAV h T 0 x
  have fin : ∀ {v : Value}, (Instr.loadAt t (a.eval x)).run S.P w = .ok v w → (Go.execOp a.eval o).run S.P w = .ok (.value v) w := fun h2 => by simp [Go.execOp, ho, h2]
  unfold loadStep at he
  split at he
  · rename_i ti hti
    have hF := hT t ti hti
    split at he
    · rename_i et x0 off hxe
      rw [hxe] at hx
      obtain ⟨b, p, hv, hb, hr⟩ := hx
      cases hd : decide (off + ti.size ≤ et.size) with
      | false => rw [hd] at he; cases he
      | true =>
        rw [hd] at he
        simp only [cond_true] at he
        have hle : off + ti.size ≤ et.size := by simpa using hd
        split at he
        · rename_i av hav
          cases he
          obtain ⟨vs, l1, f1, r1, c1, o1⟩ := hr.cells
          have hl : ((vs.drop off).take ti.size).length = ti.size := by simp; omega
          obtain ⟨v, g1, g2⟩ := run_loadAt hF (b := b) (q := p + off) w hl (fun j v hj => by
            rw [List.getElem?_take] at hj
            split at hj
            · rw [List.getElem?_drop] at hj
              have := f1 _ v hj
              rw [Nat.add_assoc]; exact this
            · cases hj)
          exact Quiet.mk' rfl (fin (by rw [hv]; exact g1)) (ofCells_RAV hav (r1.seg off ti.size) g2)
        · cases he
    · rename_i o' ver wv i off et x0 hxe
      rw [hxe] at hx
      split at he
      · rename_i y hy
        obtain ⟨hy0, hver⟩ := cur?_some hy
        cases hd : (Nat.beq y.wv wv && decide (off + ti.size ≤ et.size)) with
        | false => rw [hd] at he; cases he
        | true =>
          rw [hd] at he
          simp only [cond_true] at he
          simp only [Bool.and_eq_true, decide_eq_true_eq] at hd
          have hle := hd.2
          have hwv := Nat.eq_of_beq_eq_true hd.1
          split at he
          · rename_i av hav
            cases he
            obtain ⟨_, y', g1, _, g2⟩ := hx
            have : y' = y := by have hh : σ.objs o' = some y' := g1; rw [hy0] at hh; cases hh; rfl
            subst this
            obtain ⟨b, p, xs, k1, k2, k3, k4⟩ := g2 hver hwv
            have hobj := h.objs.ok o' y' hy0
            unfold ObjOK at hobj
            rw [k3] at hobj
            rcases hobj with ⟨m1, rfl⟩ | ⟨b', p', cur, ee, m1, m2, m3, m4⟩
            · simp at k4
            · have hpp : (envOf S φ σ.objs w).φ o' = some (b, p) := k1
              rw [hpp] at m1
              cases m1
              obtain ⟨vs, l1, f1, r1, c1, o1⟩ := (m4 i x0 k4).cells (E := envOf S φ σ.objs w)
              have hl : ((vs.drop off).take ti.size).length = ti.size := by simp; omega
              obtain ⟨v, g1, g2⟩ := run_loadAt hF (b := b) (q := p + i * et.size + off) w hl (fun j v hj => by
                rw [List.getElem?_take] at hj
                split at hj
                · rw [List.getElem?_drop] at hj
                  have := f1 _ v hj
                  rw [cell_of_row w b _ cur ee (0, 0) m2]
                  simpa [Nat.add_assoc] using this
                · cases hj)
              exact Quiet.mk' rfl (fin (by rw [k2]; exact g1)) (ofCells_RAV hav (r1.seg off ti.size) g2)
          · cases he
      · cases he
    · rename_i o' off hxe
      rw [hxe] at hx
      split at he
      · rename_i y hy
        split at he
        · rename_i cs hcs
          cases hd : decide (off + ti.size ≤ cs.length) with
          | false => rw [hd] at he; cases he
          | true =>
            rw [hd] at he
            simp only [cond_true] at he
            have hle : off + ti.size ≤ cs.length := by simpa using hd
            split at he
            · rename_i av hav
              cases he
              obtain ⟨b, p, y', cs', g1, g2, g3, g4⟩ := hx
              obtain ⟨b', p', vs, k1, k2, k3, k4, _⟩ := box_cells (h.objs.ok o' y hy) hcs
              rw [g1] at k1
              cases k1
              have hl : ((vs.drop off).take ti.size).length = ti.size := by simp; omega
              obtain ⟨v, m1, m2⟩ := run_loadAt hF (b := b) (q := p + off) w hl (fun j v hj => by
                rw [List.getElem?_take] at hj
                split at hj
                · rw [List.getElem?_drop] at hj
                  have := k4 _ v hj
                  rw [Nat.add_assoc]; exact this
                · cases hj)
              exact Quiet.mk' rfl (fin (by rw [g4]; exact m1)) (ofCells_RAV hav (k3.seg off ti.size) m2)
            · cases he
        · cases he
      · cases he
    · cases he
  · cases he
end
end Go.M
namespace Go.M
open Go

/-- A cell that leads to no object. -/
def RP (w : World) (ok : Nat → Prop) (c : C) (v : Value) : Prop :=
  match c with
  | .int k n => v = .int k n
  | .bool b => v = .bool b
  | .str s => v = .string s
  | .err b => (b = true ∧ v = .nilIface) ∨ (b = false ∧ ∃ t u, v = .iface t u)
  | .nilP => v = .pointer none
  | .nils _ => v = .slice none 0 0
  | .tr t xs => RdS w ok t xs v
  | _ => False
theorem RP.toRC {E : Env} {c : C} {v : Value} (h : RP E.w E.Ok c v) : RC E c v := by cases c <;> first | exact h | exact h.elim
theorem RP.mono {w : World} {ok ok' : Nat → Prop} {c : C} {v : Value} (h : RP w ok c v) (hk : ∀ b, ok b → ok' b) : RP w ok' c v := by
  cases c with
  | tr t xs => exact Rd.step (t := .list t) (fun b hb _ => ⟨hk b hb, rfl⟩) (show Rd w ok (.list t) xs (fun _ => some v) from h) fun _ _ _ h => h
  | _ => exact h
theorem RP.one' {w : World} {ok : Nat → Prop} {c : C} {v : Value} (h : RP w ok c v) : v.oneCell' = true := by
  cases c with
  | int k n => cases h; rfl
  | bool b => cases h; rfl
  | str s => cases h; rfl
  | err b => rcases h with ⟨_, rfl⟩ | ⟨_, t, u, rfl⟩ <;> rfl
  | nilP => cases h; rfl
  | nils t => cases h; rfl
  | tr t xs => obtain ⟨u, hu, h1⟩ := Rd.someCell (t := .list t) (show Rd w ok (.list t) xs (fun _ => some v) from h) 0 (by simp [Ty.size]); cases hu; exact h1
  | _ => exact h.elim

/-- The blocks of some objects. -/
def blocksOf (φ : Nat → Pl) (os : List Nat) (b : Nat) : Prop := ∃ o ∈ os, ∃ p, φ o = some (b, p)

theorem win_get {α : Type} {xs : List α} {off : Nat} {len : Option Nat} {i : Nat} {x : α} (h : (win off len xs)[i]? = some x) : xs[off + i]? = some x := by
  have hd : ∀ n i, (drop' n xs)[i]? = xs[n + i]? := fun n i => by
    cases n with
    | zero => simp [drop']
    | succ n => simp [drop', List.getElem?_drop]
  cases len with
  | none => rw [← hd]; exact h
  | some n =>
    simp only [win, List.getElem?_take] at h
    split at h
    · rw [← hd]; exact h
    · cases h

/-- A slice of an object reads as its window. -/
theorem sl_read {S : Start} {φ : Nat → Pl} {L : Look} {w : World} {o off : Nat} {len : Option Nat} {y : Obj} {t : Ty} {xs : List t.den} {v : Value}
    (hobj : ObjOK (envOf S φ L w) o y) (hb : y.body = .arr t xs) (hs : SlOK w (φ o) y.body off len v) :
    ∀ ok' : Nat → Prop, (∀ b, (envOf S φ L w).Ok b → ok' b) → (∀ b p, φ o = some (b, p) → ok' b) → RdS w ok' t (win off len xs) v := by
  intro ok' h1 h2
  unfold ObjOK at hobj
  rw [hb] at hobj hs
  simp only [SlOK] at hs
  rcases hobj with ⟨g1, rfl⟩ | ⟨b, p, cur, e, g1, g2, g3, g4⟩
  · have g1' : φ o = none := g1
    rw [g1'] at hs
    obtain ⟨_, ad, rfl⟩ := hs
    have hw : win off len ([] : List t.den) = [] := by
      cases len <;> cases off <;> simp [win, drop']
    rw [hw]
    exact ⟨ad, 0, rfl, Nat.le_refl _, Nat.zero_le _, .inl rfl⟩
  · have g1' : φ o = some (b, p) := g1
    rw [g1'] at hs
    obtain ⟨q, cap, rfl, k1, k2, k3, k4⟩ := hs
    refine ⟨_, cap, rfl, k1, k2, ?_⟩
    by_cases hne : win off len xs = []
    · exact .inl hne
    · refine .inr ⟨b, q, rfl, h2 b p g1', fun i x hx => ?_⟩
      have hpos : 0 < (win off len xs).length := List.length_pos_iff.2 hne
      have hq : q = p + off * t.size := by
        rcases k3 with k3 | k3
        · omega
        · exact k3
      refine Rd.step (w := w) (fun b hb _ => ⟨h1 b hb, rfl⟩) (g4 (off + i) x (win_get hx)) fun j v _ hv => ?_
      rw [cell_of_row w b _ cur e (0, 0) g2, hq]
      rw [show p + off * t.size + i * t.size + j = p + (off + i) * t.size + j by rw [Nat.add_mul]; omega]
      exact hv

theorem reifyC_spec {S : Start} {φ : Nat → Pl} {L : Look} {w : World} (hO : Objs S φ L w) {c c' : C} {rs : List Nat} {v : Value} (hc : RC (envOf S φ L w) c v) (hr : reifyC L c = (c', rs))
    (hl : liveC c' = true) : ∀ ok' : Nat → Prop, (∀ b, (envOf S φ L w).Ok b → ok' b) → (∀ b, blocksOf φ rs b → ok' b) → RP w ok' c' v := by
  intro ok' h1 h2
  have base : ∀ {d : C}, RP w (envOf S φ L w).Ok d v → RP w ok' d v := fun hd => hd.mono h1
  cases c with
  | sl o ver off len =>
    simp only [reifyC] at hr
    split at hr
    · rename_i y hy
      obtain ⟨hy0, hver⟩ := cur?_some hy
      split at hr
      · rename_i t xs hb
        cases hr
        obtain ⟨_, y', g1, _, g2⟩ := hc
        have : y' = y := by have hh : L o = some y' := g1; rw [hy0] at hh; cases hh; rfl
        subst this
        exact sl_read (hO.ok o y' hy0) hb (g2 hver) ok' h1 fun b p hp => h2 b ⟨o, by simp, p, hp⟩
      · cases hr; cases hl
    · cases hr; cases hl
  | int k n => cases hr; exact hc
  | bool b => cases hr; exact hc
  | str s => cases hr; exact hc
  | err b => cases hr; exact hc
  | nilP => cases hr; exact hc
  | nils t => cases hr; exact ⟨none, 0, by rw [show v = .slice none 0 0 from hc]; rfl, Nat.le_refl _, by unfold maxLen; omega, .inl rfl⟩
  | tr t xs => cases hr; exact base hc
  | _ => cases hr; cases hl

def RPs (w : World) (ok : Nat → Prop) (cs : List C) (vs : List Value) : Prop := vs.length = cs.length ∧ ∀ (j : Nat) (c : C) (v : Value), cs[j]? = some c → vs[j]? = some v → RP w ok c v
theorem RPs.toRCs {E : Env} {cs : List C} {vs : List Value} (h : RPs E.w E.Ok cs vs) : RCs E cs vs := ⟨h.1, fun j c v h1 h2 => (h.2 j c v h1 h2).toRC⟩

theorem reifyCs_len {L : Look} : ∀ {cs cs' : List C} {rs : List Nat}, reifyCs L cs = (cs', rs) → cs'.length = cs.length
  | [], _, _, h => by cases h; rfl
  | c :: r, cs', rs, h => by
    simp only [reifyCs] at h
    cases h
    simp [reifyCs_len (L := L) (cs := r) rfl]

theorem reifyCs_spec {S : Start} {φ : Nat → Pl} {L : Look} {w : World} (hO : Objs S φ L w) : ∀ {cs cs' : List C} {rs : List Nat} {vs : List Value}, RCs (envOf S φ L w) cs vs → reifyCs L cs = (cs', rs) →
    liveCs cs' = true → ∀ ok' : Nat → Prop, (∀ b, (envOf S φ L w).Ok b → ok' b) → (∀ b, blocksOf φ rs b → ok' b) → RPs w ok' cs' vs
  | [], _, _, vs, hc, hr, hl, ok', h1, h2 => by cases hr; exact ⟨hc.1, fun j c v h => by simp at h⟩
  | c :: r, cs', rs, vs, hc, hr, hl, ok', h1, h2 => by
    simp only [reifyCs] at hr
    cases hr
    simp only [liveCs, Bool.and_eq_true] at hl
    match vs, hc with
    | [], hc => exact absurd hc.1 (by simp)
    | v :: vs, hc =>
      have e1 := reifyC_spec hO (hc.2 0 c v rfl rfl) (c' := (reifyC L c).1) (rs := (reifyC L c).2) rfl hl.1 ok' h1 (fun b ⟨o, ho, p, hp⟩ => h2 b ⟨o, List.mem_append.2 (.inl ho), p, hp⟩)
      have e2 := reifyCs_spec hO (cs := r) (vs := vs) ⟨by have := hc.1; simpa using this, fun j d u hd hu => hc.2 (j + 1) d u (by simpa using hd) (by simpa using hu)⟩ (cs' := (reifyCs L r).1) (rs := (reifyCs L r).2) rfl hl.2 ok' h1
        (fun b ⟨o, ho, p, hp⟩ => h2 b ⟨o, List.mem_append.2 (.inr ho), p, hp⟩)
      refine ⟨by simp [e2.1], fun j d u hd hu => ?_⟩
      cases j with
      | zero => simp at hd hu; subst hd; subst hu; exact e1
      | succ j => exact e2.2 j d u (by simpa using hd) (by simpa using hu)

/-! ### Freezing -/
def frzL (L : Look) (os : List Nat) : Look := fun o => if o ∈ os then (L o).map (fun y => { y with frz := true }) else L o
theorem putO_append (f : Look) (a b : List (Nat × Obj)) : putO f (a ++ b) = putO (putO f a) b := by
  induction a generalizing f with
  | nil => rfl
  | cons x r ih => exact ih _
theorem nat_beq_iff {a b : Nat} : Nat.beq a b = true ↔ a = b := ⟨Nat.eq_of_beq_eq_true, fun h => by subst h; simp⟩
theorem nat_beq_false {a b : Nat} (h : a ≠ b) : Nat.beq a b = false := by
  cases hb : Nat.beq a b with
  | false => rfl
  | true => exact absurd (Nat.eq_of_beq_eq_true hb) h

theorem putO_frz (L0 L : Look) : ∀ (os : List Nat), (∀ o, o ∈ os → ∀ y, L0 o = some y → ∃ y', L o = some y' ∧ ({ y' with frz := true } : Obj) = { y with frz := true }) →
    (∀ o, o ∈ os → L0 o = none → L o = none) → putO L (frzPuts L0 os) = frzL L os
  | [], _, _ => by funext o; simp [frzPuts, putO, frzL]
  | o :: r, h, hn => by
    simp only [frzPuts]
    cases hy : L0 o with
    | none =>
      simp only
      rw [putO_frz L0 L r (fun o ho => h o (by simp [ho])) (fun o ho => hn o (by simp [ho]))]
      funext i
      simp only [frzL, List.mem_cons]
      by_cases hi : i = o
      · subst hi
        rw [hn i (by simp) hy]
        simp
      · simp [hi]
    | some y =>
      simp only [putO]
      obtain ⟨y', hy', he⟩ := h o (by simp) y hy
      rw [putO_frz L0 _ r ?_ ?_]
      · funext i
        simp only [frzL, List.mem_cons]
        by_cases hi : i = o
        · subst hi
          simp [hy', ← he]
        · simp [hi, nat_beq_false hi]
      · intro i hi z hz
        by_cases hio : i = o
        · subst hio
          rw [hy] at hz
          cases hz
          exact ⟨{ y with frz := true }, by simp, rfl⟩
        · obtain ⟨z', g1, g2⟩ := h i (by simp [hi]) z hz
          exact ⟨z', by simp [nat_beq_false hio, g1], g2⟩
      · intro i hi hz
        by_cases hio : i = o
        · subst hio; rw [hy] at hz; cases hz
        · simp [nat_beq_false hio, hn i (by simp [hi]) hz]
theorem putO_frz' (L : Look) (os : List Nat) : putO L (frzPuts L os) = frzL L os :=
  putO_frz L L os (fun o _ y hy => ⟨y, hy, rfl⟩) fun o _ h => h

theorem frzL_some {L : Look} {os : List Nat} {o : Nat} {y : Obj} (h : frzL L os o = some y) : ∃ y0, L o = some y0 ∧ ((o ∈ os ∧ y = { y0 with frz := true }) ∨ (o ∉ os ∧ y = y0)) := by
  unfold frzL at h
  split at h
  · rename_i ho
    rw [Option.map_eq_some_iff] at h
    obtain ⟨y0, h1, rfl⟩ := h
    exact ⟨y0, h1, .inl ⟨ho, rfl⟩⟩
  · rename_i ho; exact ⟨y, h, .inr ⟨ho, rfl⟩⟩

/-- Freezing turns nothing in the world. No pinned object may be frozen. -/
theorem OStep.freeze {S : Start} {φ : Nat → Pl} {L : Look} {w : World} (os : List Nat) (hO : Objs S φ L w) (hbx : ∀ o b p n, (o, b, p, n) ∈ S.boxes → o ∉ os) :
    OStep S φ φ L (frzL L os) w w (fun _ => False) (fun o => o ∈ os) where
  ws := WStep.refl w _
  owned := fun _ h => h.elim
  stay := fun o ho => ⟨by simp [frzL, ho], rfl⟩
  old := fun o y hy ho => ⟨{ y with frz := true }, by simp [frzL, ho, hy], ⟨Nat.le_refl _, fun _ => Nat.le_refl _, fun _ => ⟨rfl, Body.sim_refl _⟩, fun _ _ => .inl rfl, fun cs hc => ⟨rfl, cs, hc⟩⟩⟩
  unfrz := fun o y' b p hy' ho hf => by
    obtain ⟨y0, _, ⟨_, rfl⟩ | ⟨hn, _⟩⟩ := frzL_some hy'
    · cases hf
    · exact absurd ho hn
  ok := fun o y' hy' ho henv => by
    obtain ⟨y0, h0, ⟨_, rfl⟩ | ⟨hn, _⟩⟩ := frzL_some hy'
    · exact (hO.ok o y0 h0).step henv rfl (fun _ => rfl) rfl fun _ _ _ => rfl
    · exact absurd ho hn
  blk := fun o y' b p hy' ho hp => by
    obtain ⟨y0, h0, ⟨_, rfl⟩ | ⟨hn, _⟩⟩ := frzL_some hy'
    · exact ⟨(hO.blk o y0 b p h0 hp).1, fun _ => ⟨o, y0, p, h0, hp, fun h => by cases h⟩⟩
    · exact absurd ho hn
  inj := fun o o' y y' b p p' hy hy' ho ho' hf => by
    obtain ⟨y0, h0, ⟨_, rfl⟩ | ⟨hn, _⟩⟩ := frzL_some hy
    · cases hf
    · exact absurd ho hn
  injOld := fun o y' b p hy' ho hg hp _ => by
    obtain ⟨y0, h0, ⟨_, rfl⟩ | ⟨hn, _⟩⟩ := frzL_some hy'
    · exact ⟨o, y0, p, ho, h0, hg, hp⟩
    · exact absurd ho hn
  box := fun o b p n hm ho => absurd ho (hbx o b p n hm)
  boxW := fun _ _ _ _ _ _ _ _ h => h.elim
  arr := fun o pl n hm ho y hy => ⟨{ y with frz := true }, by simp [frzL, ho, hy], fun _ h => by cases h⟩
end Go.M
