/-
  Regions whose order is drawn: any order gives what the text's order gives.
-/
import Derived.Test.YtiphonlbkhfhcaaDoorMD
set_option linter.unusedVariables false
namespace Go.M
open Go

/-- Two fillings of the slots that agree on some operands. -/
def Agr (ρ ρ' : Nat → AV) (xs : List Operand) : Prop := ∀ t, Operand.tmp t ∈ xs → ρ' t = ρ t
theorem Agr.val {ρ ρ' : Nat → AV} {xs : List Operand} (h : Agr ρ ρ' xs) {x : Operand} (hx : x ∈ xs) (T : TypeId → Option TI) (ty : TypeId) : M.val T ρ' ty x = M.val T ρ ty x := by
  cases x with
  | tmp t => exact h t hx
  | _ => rfl
theorem Agr.sub {ρ ρ' : Nat → AV} {xs ys : List Operand} (h : Agr ρ ρ' xs) (hs : ∀ y ∈ ys, y ∈ xs) : Agr ρ ρ' ys := fun t ht => h t (hs _ ht)

section
variable {T : TypeId → Option TI} {ρ ρ' : Nat → AV} {L : Look}

theorem optInt_congr {x : Option Operand} (h : Agr ρ ρ' x.toList) : optInt T ρ' x = optInt T ρ x := by
  cases x with
  | none => rfl
  | some x => simp only [optInt, h.val (x := x) (by simp) T 3]
theorem fillC_congr {fs : List (Nat × TypeId)} : ∀ {parts : List (Nat × Operand)} {acc : List C}, Agr ρ ρ' (parts.map (·.2)) → fillC T ρ' fs parts acc = fillC T ρ fs parts acc
  | [], _, _ => rfl
  | (i, x) :: r, acc, h => by
    have hx : ∀ ty, M.val T ρ' ty x = M.val T ρ ty x := fun ty => h.val (x := x) (by simp) T ty
    have hr : ∀ acc, fillC T ρ' fs r acc = fillC T ρ fs r acc := fun acc => fillC_congr (h.sub fun y hy => by simp only [List.map_cons, List.mem_cons]; exact .inr hy)
    simp only [fillC, hx, hr]
theorem partCells_congr {el : TypeId} : ∀ {parts : List (Nat × Operand)} {j : Nat}, Agr ρ ρ' (parts.map (·.2)) → partCells T ρ' L el parts j = partCells T ρ L el parts j
  | [], _, _ => rfl
  | (i, x) :: r, j, h => by
    have hx : ∀ ty, M.val T ρ' ty x = M.val T ρ ty x := fun ty => h.val (x := x) (by simp) T ty
    have hr : ∀ j, partCells T ρ' L el r j = partCells T ρ L el r j := fun j => partCells_congr (h.sub fun y hy => by simp only [List.map_cons, List.mem_cons]; exact .inr hy)
    simp only [partCells, hx, hr]
theorem passAll_congr : ∀ {ms : List Nat} {xs : List Operand} {ts : List TypeId}, Agr ρ ρ' xs → passAll T L ρ' ms xs ts = passAll T L ρ ms xs ts
  | _, [], _, _ => rfl
  | ms, x :: r, ts, h => by
    have hx : ∀ ty, M.val T ρ' ty x = M.val T ρ ty x := fun ty => h.val (x := x) (by simp) T ty
    have hr : ∀ ms ts, passAll T L ρ' ms r ts = passAll T L ρ ms r ts := fun ms ts => passAll_congr (h.sub fun y hy => by simp [hy])
    simp only [passAll, hx, hr]
theorem capsOf_congr : ∀ {xs : List Operand}, Agr ρ ρ' xs → capsOf ρ' xs = capsOf ρ xs
  | [], _ => rfl
  | x :: r, h => by
    have hr := capsOf_congr (h.sub (ys := r) fun y hy => by simp [hy])
    cases x with
    | tmp t => simp only [capsOf, h t (by simp), hr]
    | _ => rfl

theorem execOp_slots {Γ : Tab} {nm : Nat} {ty : TypeId} {op : Op} (h : Agr ρ ρ' op.operands.toList) : M.execOp T Γ ρ' L nm ty op = M.execOp T Γ ρ L nm ty op := by
  have hv : ∀ x ty, x ∈ op.operands.toList → M.val T ρ' ty x = M.val T ρ ty x := fun x ty hx => h.val hx T ty
  cases op with
  | pick c x y => simp only [M.execOp, hv c 4 (by simp [Op.operands]), hv x ty (by simp [Op.operands]), hv y ty (by simp [Op.operands])]
  | move x => simp only [M.execOp, hv x ty (by simp [Op.operands])]
  | assign x => simp only [M.execOp, hv x ty (by simp [Op.operands])]
  | binOp op xt x y yt => simp only [M.execOp, hv x xt (by simp [Op.operands]), hv y xt (by simp [Op.operands])]
  | unOp op xt x => simp only [M.execOp, hv x xt (by simp [Op.operands])]
  | convert s d x => simp only [M.execOp, hv x s (by simp [Op.operands])]
  | extract x i => simp only [M.execOp, hv x 0 (by simp [Op.operands])]
  | buildSlice t n parts => simp only [M.execOp, buildSliceStep, partCells_congr (T := T) (L := L) (h.sub (ys := parts.toList.map (·.2)) fun y hy => by simpa [Op.operands] using hy)]
  | build t parts => simp only [M.execOp, fillC_congr (T := T) (h.sub (ys := parts.toList.map (·.2)) fun y hy => by simpa [Op.operands] using hy)]
  | makeSlice t l c => simp only [M.execOp, hv l 3 (by simp [Op.operands]), hv c 3 (by simp [Op.operands])]
  | index xt x i => simp only [M.execOp, hv x xt (by simp [Op.operands]), hv i 3 (by simp [Op.operands])]
  | slice xt x lo hi mx =>
    have h1 := optInt_congr (T := T) (x := lo) (h.sub fun y hy => by simp [Op.operands] at hy ⊢; simp [hy])
    have h2 := optInt_congr (T := T) (x := hi) (h.sub fun y hy => by simp [Op.operands] at hy ⊢; simp [hy])
    cases mx with
    | none => simp only [M.execOp, sliceStep, hv x xt (by simp [Op.operands]), h1, h2]
    | some m =>
      have h3 := optInt_congr (T := T) (x := some m) (h.sub fun y hy => by simp [Op.operands] at hy ⊢; simp [hy])
      simp only [M.execOp, slice3Step, hv x xt (by simp [Op.operands]), h2, h3]
  | indexAddr xt x i => simp only [M.execOp, hv x xt (by simp [Op.operands]), hv i 3 (by simp [Op.operands])]
  | load t x => simp only [M.execOp, hv x 0 (by simp [Op.operands])]
  | store t x y => simp only [M.execOp, hv x 0 (by simp [Op.operands]), hv y t (by simp [Op.operands])]
  | alloc t => rfl
  | box t x => simp only [M.execOp, hv x t (by simp [Op.operands])]
  | fieldAddr s x f => simp only [M.execOp, hv x 0 (by simp [Op.operands])]
  | field s x f => simp only [M.execOp, hv x s (by simp [Op.operands])]
  | nilCheck x => simp only [M.execOp, hv x 0 (by simp [Op.operands])]
  | makeFunc fn first captured => simp only [M.execOp, capsOf_congr (h.sub (ys := captured.toList) fun y hy => by simp [Op.operands]; right; simpa using hy)]
  | call c =>
    obtain ⟨callee, args, ats⟩ := c
    have hargs : Agr ρ ρ' args.toList := h.sub fun y hy => by simp [Op.operands, Call.operands]; right; simpa using hy
    cases callee with
    | value f => simp only [M.execOp, callStep, hv f 0 (by simp [Op.operands, Call.operands]), passAll_congr (T := T) (L := L) hargs]
    | invoke _ _ => rfl
    | builtin b =>
      have hx : ∀ x ty, x ∈ args.toList → M.val T ρ' ty x = M.val T ρ ty x := fun x ty hx => hargs.val hx T ty
      simp only [M.execOp]
      cases b <;> simp only [builtinStep] <;> rcases hal : args.toList with _ | ⟨x, _ | ⟨y, _ | _⟩⟩ <;> simp only
      all_goals first
        | rfl
        | (simp only [hal] at hx; simp only [hx x _ (by simp), hx y _ (by simp)]; done)
        | (simp only [hal] at hx; simp only [hx x _ (by simp)]; done)
  | _ => rfl
end
end Go.M
namespace Go.M
open Go

theorem cur?_congr {L L' : Look} {o ver : Nat} (h : L' o = L o) : cur? L' o ver = cur? L o ver := by simp only [cur?, h]
theorem reifyC_local {L L' : Look} {c c' : C} {rs : List Nat} (h : reifyC L c = (c', rs)) (hL : ∀ o ∈ rs, L' o = L o) : reifyC L' c = (c', rs) := by
  cases c with
  | sl o ver off len =>
    have ho : o ∈ rs := by
      simp only [reifyC] at h
      split at h
      · split at h <;> (cases h; simp)
      · cases h; simp
    rw [← h]
    simp only [reifyC, cur?_congr (ver := ver) (hL o ho)]
  | _ => exact h
theorem reifyCs_local {L L' : Look} : ∀ {cs cs' : List C} {rs : List Nat}, reifyCs L cs = (cs', rs) → (∀ o ∈ rs, L' o = L o) → reifyCs L' cs = (cs', rs)
  | [], _, _, h, _ => h
  | c :: r, cs', rs, h, hL => by
    simp only [reifyCs] at h
    cases h
    simp only [reifyCs, reifyC_local (L' := L') (c := c) (c' := (reifyC L c).1) (rs := (reifyC L c).2) rfl (fun o ho => hL o (by simp [ho])), reifyCs_local (L' := L') (cs := r) (cs' := (reifyCs L r).1) (rs := (reifyCs L r).2) rfl (fun o ho => hL o (by simp [ho]))]

theorem partCells_local {T : TypeId → Option TI} {ρ : Nat → AV} {L L' : Look} {el : TypeId} : ∀ {parts : List (Nat × Operand)} {j : Nat} {css : List (List C)} {rs : List Nat}, partCells T ρ L el parts j = some (css, rs) → (∀ o ∈ rs, L' o = L o) →
    partCells T ρ L' el parts j = some (css, rs)
  | [], _, _, _, h, _ => h
  | (i, x) :: r, j, css, rs, h, hL => by
    simp only [partCells] at h ⊢
    cases hij : Nat.beq i j with
    | false => rw [hij] at h; cases h
    | true =>
      rw [hij] at h
      simp only [cond_true] at h ⊢
      split at h
      · rename_i c hc
        rcases hre : reifyC L c with ⟨c', rs1⟩
        rw [hre] at h
        simp only at h
        split at h
        · rename_i css2 rs2 hp
          cases h
          rw [reifyC_local hre fun o ho => hL o (by simp [ho])]
          simp only [partCells_local hp fun o ho => hL o (by simp [ho])]
        · cases h
      · rename_i cs hc
        rcases hre : reifyCs L cs with ⟨c', rs1⟩
        rw [hre] at h
        simp only at h
        split at h
        · rename_i css2 rs2 hp
          cases h
          rw [reifyCs_local hre fun o ho => hL o (by simp [ho])]
          simp only [partCells_local hp fun o ho => hL o (by simp [ho])]
        · cases h
      · cases h
theorem frzPuts_local {L L' : Look} : ∀ {rs : List Nat}, (∀ o ∈ rs, L' o = L o) → frzPuts L' rs = frzPuts L rs
  | [], _ => rfl
  | r :: rs, h => by simp only [frzPuts, h r (by simp), frzPuts_local (rs := rs) fun o ho => h o (List.mem_cons_of_mem _ ho)]
theorem gonePuts_local {L L' : Look} : ∀ {rs : List Nat}, (∀ o ∈ rs, L' o = L o) → gonePuts L' rs = gonePuts L rs
  | [], _ => rfl
  | r :: rs, h => by simp only [gonePuts, h r (by simp), gonePuts_local (rs := rs) fun o ho => h o (List.mem_cons_of_mem _ ho)]
theorem giveC_local {L L' : Look} {c c' : C} {rs gn : List Nat} (h : giveC L c = (c', rs, gn)) (hL : ∀ o ∈ rs ++ gn, L' o = L o) : giveC L' c = (c', rs, gn) := by
  cases c with
  | sl o ver off len =>
    have ho : o ∈ rs ++ gn := by
      simp only [giveC] at h
      split at h
      · rename_i y _
        split at h
        · cases hf : y.frz <;> (rw [hf] at h; cases h; simp)
        · cases h; simp
      · cases h; simp
    rw [← h]
    simp only [giveC, cur?_congr (ver := ver) (hL o ho)]
  | _ => exact h
theorem giveCs_local {L L' : Look} : ∀ {cs cs' : List C} {rs gn : List Nat}, giveCs L cs = (cs', rs, gn) → (∀ o ∈ rs ++ gn, L' o = L o) → giveCs L' cs = (cs', rs, gn)
  | [], _, _, _, h, _ => h
  | c :: r, cs', rs, gn, h, hL => by
    simp only [giveCs] at h
    cases h
    have h1 := giveC_local (L' := L') (c := c) (c' := (giveC L c).1) (rs := (giveC L c).2.1) (gn := (giveC L c).2.2) rfl (fun o ho => hL o (by rcases List.mem_append.1 ho with ho | ho <;> simp [ho]))
    have h2 := giveCs_local (L' := L') (cs := r) (cs' := (giveCs L r).1) (rs := (giveCs L r).2.1) (gn := (giveCs L r).2.2) rfl (fun o ho => hL o (by rcases List.mem_append.1 ho with ho | ho <;> simp [ho]))
    simp only [giveCs, h1, h2]

theorem passPtr_local {L L' : Look} {o off : Nat} {k : Option Nat} {a : Passed} (h : passPtr L o off k = some a) (hL : ∀ x ∈ a.reads ++ (a.gone ++ ioNames a.ios), L' x = L x) : passPtr L' o off k = some a := by
  unfold passPtr at h ⊢
  split at h
  · rename_i y hy
    split at h
    · rename_i cs0 hb
      cases hoff : Nat.ble off cs0.length with
      | false => simp [hoff] at h
      | true =>
        simp only [hoff, cond_true] at h
        generalize hcs : segOf cs0 off k = cs at h
        cases hf : y.frz with
        | true =>
          rw [hf] at h
          simp only [cond_true] at h
          rcases hr : reifyCs L cs with ⟨cs', rs⟩
          rw [hr] at h
          cases h
          rw [hL o (by simp), hy]
          simp only [hb, hoff, hf, hcs, cond_true, reifyCs_local hr fun x hx => hL x (by simp [hx])]
        | false =>
          rw [hf] at h
          simp only [cond_false] at h
          rcases hr : giveCs L cs with ⟨cs', rs, gn⟩
          rw [hr] at h
          cases h
          rw [hL o (by simp [ioNames]), hy]
          simp only [hb, hoff, hf, hcs, cond_true, cond_false, giveCs_local hr fun x hx => hL x (by rcases List.mem_append.1 hx with hx | hx <;> simp [hx])]
    · cases h
  · cases h
end Go.M
namespace Go.M
open Go

theorem passCaps_local {L L' : Look} : ∀ {caps : List (Nat × Nat)} {css : List (List C)} {rs : List Nat}, passCaps L caps = some (css, rs) → (∀ x ∈ rs, L' x = L x) → passCaps L' caps = some (css, rs)
  | [], _, _, h, _ => h
  | p :: r, css, rs, h, hL => by
    simp only [passCaps] at h ⊢
    split at h
    · rename_i cs rs1 h1
      split at h
      · rename_i css2 rs2 h2
        cases h
        have h3 : passCap L' p.1 p.2 = some (cs, rs1) := by
          unfold passCap at h1 ⊢
          split at h1
          · rename_i y hy
            split at h1
            · rename_i cs0 hb
              cases hoff : Nat.ble p.2 cs0.length with
              | false => simp [hoff] at h1
              | true =>
                rw [hoff] at h1
                simp only [cond_true] at h1
                rcases hr : reifyCs L (cs0.drop p.2) with ⟨cs', rs'⟩
                rw [hr] at h1
                cases h1
                rw [hL p.1 (by simp), hy]
                simp only [hb, hoff, cond_true, reifyCs_local hr fun x hx => hL x (by simp [hx])]
            · cases h1
          · cases h1
        rw [h3]
        simp only [passCaps_local h2 fun x hx => hL x (by simp [hx])]
      · cases h
    · cases h

theorem passPlain_local {L L' : Look} {mode : Nat} {c : C} {a : Passed} (h : passPlain L mode c = some a) (hL : ∀ x ∈ a.reads ++ (a.gone ++ ioNames a.ios), L' x = L x) : passPlain L' mode c = some a := by
  unfold passPlain at h ⊢
  cases mode with
  | zero =>
    simp only at h ⊢
    rcases hr : reifyC L c with ⟨c', rs⟩
    rw [hr] at h
    have ha : a.reads = rs := by cases c' <;> first | (cases h; done) | (cases h; rfl)
    rw [reifyC_local hr fun x hx => hL x (by simp [ha, hx])]
    exact h
  | succ m =>
    simp only at h ⊢
    split at h
    · rename_i o ver off len
      have ho : o ∈ a.reads ++ (a.gone ++ ioNames a.ios) := by
        split at h
        · rename_i y _
          split at h
          · cases hf : y.frz with
            | true => rw [hf] at h; cases h
            | false =>
              rw [hf] at h
              cases m with
              | zero => cases h; simp
              | succ m =>
                simp only [cond_false] at h
                cases len with
                | some n => simp at h
                | none =>
                  cases hc : Nat.beq off 0 with
                  | false => simp [hc] at h
                  | true => simp [hc] at h; subst h; simp [ioNames]
          · cases h
        · cases h
      simp only [cur?_congr (ver := ver) (hL o ho)]
      exact h
    · exact h
    · exact h

theorem pass_local {T : TypeId → Option TI} {L L' : Look} {mode : Nat} {ty : TypeId} {x : AV} {a : Passed} (h : pass T L mode ty x = some a) (hL : ∀ x ∈ a.reads ++ (a.gone ++ ioNames a.ios), L' x = L x) : pass T L' mode ty x = some a := by
  cases x with
  | dead => exact h
  | undef => exact h
  | tup xs => exact h
  | v x =>
    cases x with
    | agg cs =>
      simp only [pass] at h ⊢
      rcases hr : reifyCs L cs with ⟨cs', rs⟩
      rw [hr] at h
      simp only at h
      cases hl : liveCs cs' with
      | false => rw [hl] at h; cases h
      | true =>
        rw [hl] at h
        cases h
        rw [reifyCs_local hr fun x hx => hL x (by simp [hx])]
        simp only [hl, cond_true]
    | one c =>
      cases c with
      | ptr o off =>
        simp only [pass] at h ⊢
        split at h
        · exact passPtr_local h hL
        · cases h
      | fn g caps =>
        simp only [pass] at h ⊢
        split at h
        · rename_i css rs hc
          cases h
          rw [passCaps_local hc fun x hx => hL x (by simp [hx])]
        · cases h
      | _ => simp only [pass] at h ⊢; exact passPlain_local h hL

theorem passAll_local {T : TypeId → Option TI} {ρ : Nat → AV} {L L' : Look} : ∀ {ms : List Nat} {xs : List Operand} {ts : List TypeId} {p : PassedL}, passAll T L ρ ms xs ts = some p → (∀ x ∈ p.reads ++ (p.gone ++ ioNames p.ios), L' x = L x) →
    passAll T L' ρ ms xs ts = some p
  | _, [], _, _, h, _ => h
  | ms, x :: r, ts, p, h, hL => by
    simp only [passAll] at h ⊢
    split at h
    · rename_i pa hpa
      split at h
      · rename_i pr hpr
        cases h
        simp only [ioNames_append, List.mem_append] at hL
        rw [pass_local hpa fun x hx => hL x (by simp only [List.mem_append] at hx; rcases hx with hx | hx | hx <;> simp [hx])]
        simp only [passAll_local hpr fun x hx => hL x (by simp only [List.mem_append] at hx; rcases hx with hx | hx | hx <;> simp [hx])]
      · cases h
    · cases h
theorem passCapsIo_local {L L' : Look} : ∀ {caps : List (Nat × Nat)} {p : PassedL}, passCapsIo L caps = some p → (∀ x ∈ p.reads ++ (p.gone ++ ioNames p.ios), L' x = L x) → passCapsIo L' caps = some p
  | [], _, h, _ => h
  | c :: r, p, h, hL => by
    simp only [passCapsIo] at h ⊢
    split at h
    · rename_i pa hpa
      split at h
      · rename_i pr hpr
        cases h
        simp only [ioNames_append, List.mem_append] at hL
        rw [passPtr_local hpa fun x hx => hL x (by simp only [List.mem_append] at hx; rcases hx with hx | hx | hx <;> simp [hx])]
        simp only [passCapsIo_local hpr fun x hx => hL x (by simp only [List.mem_append] at hx; rcases hx with hx | hx | hx <;> simp [hx])]
      · cases h
    · cases h

theorem newOk_local {L L' : Look} {ps : List (Nat × Obj)} (hL : ∀ x ∈ ps, L' x.1 = L x.1) : newOk L' ps = newOk L ps := by
  unfold newOk
  rw [Bool.eq_iff_iff, List.all_eq_true, List.all_eq_true]
  exact ⟨fun h x hx => by have := h x hx; rw [hL x hx] at this; exact this, fun h x hx => by rw [hL x hx]; exact h x hx⟩
theorem backIo_local {L L' : Look} : ∀ {ios : List IO1} {outs : List (List C)} {nm : Nat} {qs : List (Nat × Obj)}, backIo L nm ios outs = some qs → (∀ x ∈ qs, L' x.1 = L x.1) → backIo L' nm ios outs = some qs
  | [], [], _, _, h, _ => h
  | [], _ :: _, _, _, h, _ => by cases h
  | .box o off n :: r, [], _, _, h, _ => by cases h
  | .arr o :: r, [], _, _, h, _ => by cases h
  | .box o off n :: r, cs :: rs, nm, qs, h, hL => by
    simp only [backIo] at h ⊢
    split at h
    · rename_i y hy
      split at h
      · rename_i cs0 hb
        rcases hf : freshC nm cs with ⟨cs', ps⟩
        rw [hf] at h
        simp only at h
        cases hc : (Nat.beq cs'.length n && newOk L ps) with
        | false => rw [hc] at h; cases h
        | true =>
          rw [hc] at h
          simp only [cond_true] at h
          split at h
          · rename_i qs2 hq
            cases h
            have ho : L' o = L o := hL _ (List.mem_cons_self ..)
            have hn : newOk L' ps = newOk L ps := newOk_local fun x hx => hL x (by simp [hx])
            rw [ho, hy]
            simp only [hb, hn, hc, cond_true, backIo_local hq fun x hx => hL x (by simp [hx])]
          · cases h
      · cases h
    · cases h
  | .arr o :: r, [] :: rs, nm, qs, h, hL => by simp [backIo] at h
  | .arr o :: r, (c :: c2 :: out) :: rs, nm, qs, h, hL => by cases c <;> simp [backIo] at h
  | .arr o :: r, [c] :: rs, nm, qs, h, hL => by
    cases c with
    | own t xs =>
      simp only [backIo] at h ⊢
      split at h
      · rename_i y hy
        split at h
        · rename_i t' xs' hb
          cases hc : (decide (t = t') && decide (xs.length = xs'.length)) with
          | false => rw [hc] at h; cases h
          | true =>
            rw [hc] at h
            simp only [cond_true] at h
            split at h
            · rename_i qs2 hq
              cases h
              have ho : L' o = L o := hL _ (List.mem_cons_self ..)
              rw [ho, hy]
              simp only [hb, hc, cond_true, backIo_local hq fun x hx => hL x (by simp [hx])]
            · cases h
        · cases h
      · cases h
    | _ => simp [backIo] at h
theorem goneOk_local {L L' : Look} {rs : List Nat} (hL : ∀ x ∈ rs, L' x = L x) : goneOk L' rs = goneOk L rs := by
  unfold goneOk
  rw [Bool.eq_iff_iff, List.all_eq_true, List.all_eq_true]
  exact ⟨fun h x hx => by have := h x hx; rw [hL x hx] at this; exact this, fun h x hx => by rw [hL x hx]; exact h x hx⟩
theorem frzOk_local {L L' : Look} {rs : List Nat} (hL : ∀ x ∈ rs, L' x = L x) : frzOk L' rs = frzOk L rs := by
  unfold frzOk
  rw [Bool.eq_iff_iff, List.all_eq_true, List.all_eq_true]
  exact ⟨fun h x hx => by have := h x hx; rw [hL x hx] at this; exact this, fun h x hx => by rw [hL x hx]; exact h x hx⟩
theorem callEff_local {L L' : Look} {nm : Nat} {p : PassedL} {r : Ret} {e : Eff} (h : callEff L nm p r = some e) (hL : ∀ x ∈ e.reads ++ names1 e, L' x = L x) : callEff L' nm p r = some e := by
  unfold callEff at h ⊢
  rcases hfl : freshL nm r.vals with ⟨vs, ps⟩
  rw [hfl] at h
  simp only at h ⊢
  split at h
  · rename_i qs hq
    cases hc : ((!r.hasTr || frzOk L p.reads) && newOk L ps && goneOk L p.gone) with
    | false => rw [hc] at h; cases h
    | true =>
      rw [hc] at h
      cases h
      have hr : ∀ x ∈ p.reads, L' x = L x := fun x hx => hL x (by simp [hx])
      have hg : ∀ x ∈ p.gone, L' x = L x := fun x hx => hL x (by simp [hx])
      have hn : ∀ x ∈ ps ++ qs, L' x.1 = L x.1 := fun x hx => hL x.1 (by
        refine List.mem_append.2 (.inr ?_)
        simp only [names1, List.map_append, List.mem_append, List.mem_map]
        rcases List.mem_append.1 hx with hx | hx
        · exact .inr (.inr (.inl ⟨x, hx, rfl⟩))
        · exact .inr (.inr (.inr ⟨x, hx, rfl⟩)))
      rw [backIo_local hq fun x hx => hn x (by simp [hx])]
      have h1 : newOk L' ps = newOk L ps := newOk_local fun x hx => hn x (by simp [hx])
      simp only [frzOk_local hr, h1, goneOk_local hg, hc, cond_true, frzPuts_local hr, gonePuts_local hg]
  · cases h
end Go.M
namespace Go.M
open Go

theorem cond_some {α : Type} {b : Bool} {x e : α} (h : (bif b then some x else none) = some e) : b = true ∧ e = x := by
  cases b with
  | true => cases h; exact ⟨rfl, rfl⟩
  | false => cases h

section
variable {T : TypeId → Option TI} {ρ : Nat → AV} {L L' : Look} {e : Eff}

theorem convertStep_local {s d : TypeId} {x : AV} (he : (convertStep T L s d x).yields e) (hL : ∀ o ∈ e.reads ++ names1 e, L' o = L o) : (convertStep T L' s d x).yields e := by
  unfold convertStep at he ⊢
  split at he
  · split at he
    · split at he
      · exact he
      · split at he
        · exact he
        · rename_i c _
          cases hu : isU8 T s with
          | false => rw [hu] at he; exact he.elim
          | true =>
            rw [hu] at he
            rcases hr : reifyC L c with ⟨c', rs⟩
            rw [hr] at he
            simp only [cond_true] at he ⊢
            split at he
            · rename_i xs rs' hx
              cases hx
              cases he
              rw [reifyC_local hr fun x hx => hL x (by simp [hx])]
              rfl
            · exact he.elim
        · exact he.elim
      · exact he.elim
    · exact he.elim
  · exact he.elim

theorem buildSliceStep_local {nm : Nat} {t : TypeId} {n : Nat} {parts : List (Nat × Operand)} (he : (buildSliceStep T ρ L nm t n parts).yields e) (hL : ∀ o ∈ e.reads ++ names1 e, L' o = L o) : (buildSliceStep T ρ L' nm t n parts).yields e := by
  unfold buildSliceStep at he ⊢
  split at he
  · rename_i ei et _
    cases hc : (Nat.beq n parts.length && Nat.ble (n * et.size) 16777216) with
    | false => rw [hc] at he; exact he.elim
    | true =>
      rw [hc] at he
      simp only [cond_true] at he ⊢
      split at he
      · rename_i css rs hp
        split at he
        · rename_i xs hx
          cases he
          rw [partCells_local hp fun x hx => hL x (by simp [hx])]
          simp only [hx, frzPuts_local (rs := rs) fun x hx => hL x (by simp [hx])]
          rfl
        · exact he.elim
      · exact he.elim
  · exact he.elim

theorem loadStep_local {t : TypeId} {a : AV} (he : (loadStep T L t a).yields e) (hL : ∀ o ∈ e.reads ++ names1 e, L' o = L o) : (loadStep T L' t a).yields e := by
  unfold loadStep at he ⊢
  split at he
  · rename_i ti _
    split at he
    · exact he
    · rename_i o ver wv i off et x
      split at he
      · rename_i y hy
        cases hc : (Nat.beq y.wv wv && decide (off + ti.size ≤ et.size)) with
        | false => rw [hc] at he; exact he.elim
        | true =>
          rw [hc] at he
          simp only [cond_true] at he
          split at he
          · rename_i v hv
            cases he
            simp only [cur?_congr (ver := ver) (hL o (by simp)), hy, hc, cond_true]
            rfl
          · exact he.elim
      · exact he.elim
    · rename_i o off
      split at he
      · rename_i y hy
        split at he
        · rename_i cs hb
          cases hc : decide (off + ti.size ≤ cs.length) with
          | false => rw [hc] at he; exact he.elim
          | true =>
            rw [hc] at he
            simp only [cond_true] at he
            split at he
            · rename_i v hv
              cases he
              simp only [hL o (by simp), hy, hb, hc, cond_true, hv]
              rfl
            · exact he.elim
        · exact he.elim
      · exact he.elim
    · exact he.elim
  · exact he.elim

theorem storeStep_local {t : TypeId} {a x : AV} (he : (storeStep T L t a x).yields e) (hL : ∀ o ∈ e.reads ++ names1 e, L' o = L o) : (storeStep T L' t a x).yields e := by
  unfold storeStep at he ⊢
  split at he
  · rename_i ti _
    split at he
    · rename_i w
      cases hsz : Nat.beq (cellsV w).length ti.size with
      | false => rw [hsz] at he; exact he.elim
      | true =>
        rw [hsz] at he
        simp only [cond_true] at he ⊢
        split at he
        · rename_i o off
          split at he
          · rename_i y hy
            split at he
            · rename_i cs hb
              cases hc : (decide (off + ti.size ≤ cs.length) && liveCs (cellsV w) && !y.frz) with
              | false => rw [hc] at he; exact he.elim
              | true =>
                rw [hc] at he
                simp only [cond_true] at he
                cases he
                simp only [hL o (by simp), hy, hb, hc, cond_true]
                rfl
            · exact he.elim
          · exact he.elim
        · rename_i o ver wv i off et x0
          split at he
          · rename_i y hy
            split at he
            · rename_i t' xs hb
              rcases hr : reifyCs L (cellsV w) with ⟨cs', rs⟩
              rw [hr] at he
              simp only at he
              cases hc : (Nat.beq y.wv wv && decide (off + ti.size ≤ et.size) && liveCs cs' && !y.frz && !rs.contains o) with
              | false => rw [hc] at he; exact he.elim
              | true =>
                rw [hc] at he
                simp only [cond_true] at he
                split at he
                · rename_i x1 hx1
                  split at he
                  · rename_i ht
                    subst ht
                    cases he
                    rw [cur?_congr (ver := ver) (hL o (by simp)), hy]
                    simp only [hb]
                    rw [reifyCs_local hr fun x hx => hL x (by simp [hx])]
                    simp only [hc, cond_true, hx1, dite_true, frzPuts_local (rs := rs) fun x hx => hL x (by simp [hx])]
                    rfl
                  · exact he.elim
                · exact he.elim
            · exact he.elim
          · exact he.elim
        · exact he.elim
    · exact he.elim
  · exact he.elim

theorem indexAddrStep_local {xt : TypeId} {x i : AV} (he : (indexAddrStep T L xt x i).yields e) (hL : ∀ o ∈ e.reads ++ names1 e, L' o = L o) : (indexAddrStep T L' xt x i).yields e := by
  unfold indexAddrStep at he ⊢
  split at he
  · rename_i n
    split at he
    · exact he
    · rename_i o ver off len
      split at he
      · rename_i y hy
        split at he
        · rename_i t xs hb
          have ho : L' o = L o := by
            cases hc : elemSize T xt t.size with
            | false => rw [hc] at he; exact he.elim
            | true => rw [hc] at he; obtain ⟨x, _, rfl⟩ := he; exact hL o (by simp)
          simp only [cur?_congr (ver := ver) ho, hy, hb]
          exact he
        · exact he.elim
      · exact he.elim
    · exact he
    · exact he.elim
  · exact he.elim

theorem sliceStep_local {xt : TypeId} {x : AV} {lo hi : Option Operand} (he : (sliceStep T ρ L xt x lo hi).yields e) (hL : ∀ o ∈ e.reads ++ names1 e, L' o = L o) : (sliceStep T ρ L' xt x lo hi).yields e := by
  unfold sliceStep at he ⊢
  split at he
  · rename_i l hl
    split at he
    · rename_i h hh
      split at he
      · exact he
      · exact he
      · exact he
      · rename_i o ver off len
        split at he
        · rename_i y hy
          split at he
          · rename_i t xs hb
            have ho : L' o = L o := by
              cases hc : elemSize T xt t.size with
              | false => rw [hc] at he; exact he.elim
              | true => rw [hc] at he; obtain ⟨_, rfl⟩ := he; exact hL o (by simp)
            simp only [cur?_congr (ver := ver) ho, hy, hb]
            exact he
          · exact he.elim
        · exact he.elim
      · exact he.elim
    · exact he.elim
  · exact he.elim

theorem slice3Step_local {nm : Nat} {xt : TypeId} {x : AV} {lo hi mx : Option Operand} (he : (slice3Step T ρ L nm xt x lo hi mx).yields e) (hL : ∀ o ∈ e.reads ++ names1 e, L' o = L o) : (slice3Step T ρ L' nm xt x lo hi mx).yields e := by
  unfold slice3Step at he ⊢
  split at he
  · split at he
    · split at he
      · split at he
        · exact he
        · exact he
        · rename_i o ver off len
          split at he
          · rename_i y hy
            split at he
            · rename_i t xs hb
              have ho : L' o = L o := by
                cases hc : (elemSize T xt t.size && !Nat.beq nm o) with
                | false => rw [hc] at he; exact he.elim
                | true => rw [hc] at he; cases he; exact hL o (by simp)
              simp only [cur?_congr (ver := ver) ho, hy, hb]
              exact he
            · exact he.elim
          · exact he.elim
        · exact he.elim
      · exact he.elim
    · exact he.elim
  · exact he.elim

theorem clearStep_local {t : TypeId} {x : AV} (he : (clearStep T L t x).yields e) (hL : ∀ o ∈ e.reads ++ names1 e, L' o = L o) : (clearStep T L' t x).yields e := by
  unfold clearStep at he ⊢
  split at he
  · split at he
    · rename_i o ver off len
      split at he
      · rename_i y hy
        split at he
        · rename_i t' xs hb
          have ho : L' o = L o := by
            split at he
            · split at he
              · split at he
                · exact he.elim
                · cases he; exact hL o (by simp [rangeEff])
              · exact he.elim
            · exact he.elim
          simp only [cur?_congr (ver := ver) ho, hy, hb]
          exact he
        · exact he.elim
      · exact he.elim
    · exact he
    · exact he.elim
  · exact he.elim

theorem copyStep_local {t : TypeId} {x s : AV} (he : (copyStep T L t x s).yields e) (hL : ∀ o ∈ e.reads ++ names1 e, L' o = L o) : (copyStep T L' t x s).yields e := by
  unfold copyStep at he ⊢
  split at he
  · split at he
    · rename_i sc
      rcases hr : reifyC L sc with ⟨c', rs⟩
      rw [hr] at he
      split at he
      · rename_i t2 ys rs' hc'
        cases hc'
        split at he
        · rename_i o ver off len
          split at he
          · rename_i y hy
            split at he
            · rename_i t' xs hb
              have ho : L' o = L o ∧ ∀ z ∈ rs, L' z = L z := by
                split at he
                · split at he
                  · cases he; exact ⟨hL o (by simp [rangeEff]), fun z hz => hL z (by simp [rangeEff, hz])⟩
                  · exact he.elim
                · exact he.elim
              rw [reifyC_local hr ho.2]
              simp only [cur?_congr (ver := ver) ho.1, hy, hb]
              exact he
            · exact he.elim
          · exact he.elim
        · exact he.elim
      · exact he.elim
    · exact he.elim
  · exact he.elim

theorem fieldAddrStep_local {s : TypeId} {x : AV} {f : Nat} (he : (fieldAddrStep T L s x f).yields e) (hL : ∀ o ∈ e.reads ++ names1 e, L' o = L o) : (fieldAddrStep T L' s x f).yields e := by
  unfold fieldAddrStep at he ⊢
  split at he
  · rename_i off ft _
    split at he
    · rename_i fi _
      cases hz : Nat.beq fi.size 0 with
      | true => rw [hz] at he; exact he.elim
      | false =>
        rw [hz] at he
        simp only [cond_false] at he ⊢
        split at he
        · exact he
        · exact he
        · rename_i o ver wv i off0 t x
          split at he
          · rename_i y hy
            cases hc : Nat.beq y.wv wv with
            | false => rw [hc] at he; exact he.elim
            | true =>
              rw [hc] at he
              cases he
              simp only [cur?_congr (ver := ver) (hL o (by simp)), hy, hc]
              rfl
          · exact he.elim
        · exact he.elim
    · exact he.elim
  · exact he.elim

theorem appendStep_local {size bytes nm : Nat} {s x : AV} (he : (appendStep L size bytes nm s x).yields e) (hL : ∀ o ∈ e.reads ++ names1 e, L' o = L o) : (appendStep L' size bytes nm s x).yields e := by
  unfold appendStep at he ⊢
  split at he
  · rename_i xc
    rcases hr : reifyC L xc with ⟨xc', rs⟩
    rw [hr] at he
    simp only at he
    have hrs : (∀ o ∈ rs, L' o = L o) → reifyC L' xc = (xc', rs) := fun h => reifyC_local hr h
    split at he
    · rename_i t' ys hys
      cases hc : (Nat.beq t'.size size && Nat.blt 0 bytes) with
      | false => rw [hc] at he; exact he.elim
      | true =>
        rw [hc] at he
        simp only [cond_true] at he
        split at he
        · rename_i o ver off len
          split at he
          · rename_i y hy
            split at he
            · rename_i t xs hb
              split at he
              · rename_i ht
                cases hd : (!y.frz && !rs.contains o) with
                | false => rw [hd] at he; exact he.elim
                | true =>
                  have he0 := he
                  rw [hd] at he
                  obtain ⟨_, rfl⟩ := he
                  rw [hrs fun x hx => hL x (by simp [hx])]
                  simp only [hys, hc, cond_true, cur?_congr (ver := ver) (hL o (by simp)), hy, hb, dif_pos ht]
                  exact he0
              · exact he.elim
            · exact he.elim
          · exact he.elim
        · rename_i t
          split at he
          · rename_i ht
            cases hn : rs.contains nm with
            | true => rw [hn] at he; exact he.elim
            | false =>
              have he0 := he
              rw [hn] at he
              obtain ⟨_, rfl⟩ := he
              rw [hrs fun x hx => hL x (by simp [hx])]
              simp only [hys, hc, cond_true, dif_pos ht]
              exact he0
          · exact he.elim
        · exact he.elim
    · exact he.elim
  · exact he.elim

theorem sliceLen_local {c : C} {n : Nat} {rs : List Nat} (h : sliceLen L c = some (n, rs)) (hL : ∀ o ∈ rs, L' o = L o) : sliceLen L' c = some (n, rs) := by
  cases c with
  | sl o ver off len =>
    simp only [sliceLen] at h ⊢
    split at h
    · rename_i y hy
      split at h
      · rename_i t xs hb
        cases h
        simp only [cur?_congr (ver := ver) (hL o (by simp)), hy, hb]
      · cases h
    · cases h
  | _ => exact h

theorem builtinStep_local {nm : Nat} {b : Builtin} {args : List Operand} {ts : List TypeId} (he : (builtinStep T ρ L nm b args ts).yields e) (hL : ∀ o ∈ e.reads ++ names1 e, L' o = L o) : (builtinStep T ρ L' nm b args ts).yields e := by
  unfold builtinStep at he ⊢
  cases b <;> simp only at he ⊢ <;> try exact he
  case len =>
    split at he
    · split at he
      · split at he
        · exact he
        · rename_i t _ c _ _
          cases hs : isSlice T t with
          | false => rw [hs] at he; exact he.elim
          | true =>
            rw [hs] at he
            simp only [cond_true] at he ⊢
            split at he
            · rename_i n rs hn
              cases he
              rw [sliceLen_local hn fun x hx => hL x (by simp [hx])]
              rfl
            · exact he.elim
        · exact he.elim
      · exact he.elim
    · exact he.elim
  case clear =>
    split at he
    · split at he
      · exact clearStep_local he hL
      · exact he.elim
    · exact he.elim
  case copy =>
    split at he
    · split at he
      · rename_i t t'
        cases hs : Nat.beq t t' with
        | false => rw [hs] at he; exact he.elim
        | true =>
          rw [hs] at he
          simp only [cond_true] at he ⊢
          exact copyStep_local he hL
      · exact he.elim
    · exact he.elim
  case append =>
    split at he
    · split at he
      · rename_i t t'
        cases hs : Nat.beq t t' with
        | false => rw [hs] at he; exact he.elim
        | true =>
          rw [hs] at he
          simp only [cond_true] at he ⊢
          split at he
          · exact appendStep_local he hL
          · exact he.elim
      · exact he.elim
    · exact he.elim

theorem callStep_local {Γ : Tab} {nm : Nat} {f : Operand} {args : List Operand} {ts : List TypeId} (he : (callStep T Γ ρ L nm f args ts).yields e) (hL : ∀ o ∈ e.reads ++ names1 e, L' o = L o) : (callStep T Γ ρ L' nm f args ts).yields e := by
  unfold callStep at he ⊢
  split at he
  · rename_i g caps hf
    split at he
    · rename_i ce hg
      split at he
      · rename_i p hp
        split at he
        · rename_i q hq
          simp only at he
          cases hc : (nodupB ((p.gone ++ q.gone) ++ ioNames (p.ios ++ q.ios)) && disjB (p.reads ++ q.reads) ((p.gone ++ q.gone) ++ ioNames (p.ios ++ q.ios))) with
          | false => rw [hc] at he; exact he.elim
          | true =>
            rw [hc] at he
            obtain ⟨r, hr, hce⟩ := he
            have hrd : e.reads = (p.reads ++ q.reads) ++ ((p.gone ++ q.gone) ++ ioNames (p.ios ++ q.ios)) := by
              unfold callEff at hce
              split at hce
              split at hce
              · rename_i qs _
                obtain ⟨_, rfl⟩ := cond_some hce
                rfl
              · cases hce
            have hL' : ∀ o, (o ∈ p.reads ∨ o ∈ q.reads ∨ o ∈ p.gone ∨ o ∈ q.gone ∨ o ∈ ioNames p.ios ∨ o ∈ ioNames q.ios) → L' o = L o := fun o ho => hL o (List.mem_append.2 (.inl (by
              rw [hrd, ioNames_append]
              simp only [List.mem_append]
              rcases ho with h | h | h | h | h | h <;> simp [h])))
            rw [passAll_local hp fun x hx => hL' x (by simp only [List.mem_append] at hx; rcases hx with h | h | h <;> simp [h])]
            rw [passCapsIo_local hq fun x hx => hL' x (by simp only [List.mem_append] at hx; rcases hx with h | h | h <;> simp [h])]
            simp only [hc, cond_true]
            exact ⟨r, hr, callEff_local hce hL⟩
        · exact he.elim
      · exact he.elim
    · exact he.elim
  · exact he.elim

theorem execOp_local {Γ : Tab} {nm : Nat} {ty : TypeId} {op : Op} (he : (M.execOp T Γ ρ L nm ty op).yields e) (hL : ∀ o ∈ e.reads ++ names1 e, L' o = L o) : (M.execOp T Γ ρ L' nm ty op).yields e := by
  cases op with
  | convert s d x => exact convertStep_local he hL
  | buildSlice t n parts => exact buildSliceStep_local he hL
  | slice xt x lo hi mx =>
    cases mx with
    | none => exact sliceStep_local he hL
    | some _ => exact slice3Step_local he hL
  | indexAddr xt x i => exact indexAddrStep_local he hL
  | load t x => exact loadStep_local he hL
  | store t x y => exact storeStep_local he hL
  | fieldAddr s x f => exact fieldAddrStep_local he hL
  | call c =>
    obtain ⟨callee, args, ats⟩ := c
    cases callee with
    | value f => exact callStep_local he hL
    | invoke _ _ => exact he
    | builtin b => exact builtinStep_local he hL
  | _ => exact he
end
end Go.M
namespace Go.M
open Go

abbrev R1 := Oper × Option Eff
def rval (r : Option Eff) : AV := match r with | some e => e.val | none => .undef
def rputs (r : Option Eff) : List (Nat × Obj) := match r with | some e => e.puts | none => []
def stepR (σ : St) (x : R1) : St := ⟨putD σ.slots x.1.dst (rval x.2), putO σ.objs (rputs x.2), σ.base⟩
def runD : (Nat → Bool) → List R1 → St → St
  | _, [], σ => σ
  | D, x :: r, σ => runD (fun m => D (m + 1)) r (bif D 0 then stepR σ x else σ)

theorem putO_out {x : Nat} : ∀ {ps : List (Nat × Obj)} {L : Look}, x ∉ ps.map (·.1) → putO L ps x = L x
  | [], _, _ => rfl
  | (o, y) :: r, L, h => by
    simp only [List.map_cons, List.mem_cons, not_or] at h
    simp only [putO]
    rw [putO_out h.2]
    simp [nat_beq_false h.1]
theorem putO_in {x : Nat} : ∀ {ps : List (Nat × Obj)} {L L' : Look}, x ∈ ps.map (·.1) → putO L ps x = putO L' ps x
  | [], _, _, h => by simp at h
  | (o, y) :: r, L, L', h => by
    simp only [putO]
    by_cases hr : x ∈ r.map (·.1)
    · exact putO_in hr
    · simp only [List.map_cons, List.mem_cons] at h
      rcases h with h | h
      · rw [putO_out hr, putO_out hr]; simp [h]
      · exact absurd h hr
theorem putO_comm {L : Look} {ps qs : List (Nat × Obj)} (h : ∀ x ∈ ps.map (·.1), x ∉ qs.map (·.1)) : putO (putO L ps) qs = putO (putO L qs) ps := by
  funext x
  by_cases hp : x ∈ ps.map (·.1)
  · rw [putO_out (h x hp)]; exact putO_in hp
  · rw [putO_out (ps := ps) hp]
    by_cases hq : x ∈ qs.map (·.1)
    · exact putO_in hq
    · rw [putO_out hq, putO_out hq, putO_out hp]
theorem putD_comm {f : Nat → AV} {d d' : Option Nat} {v v' : AV} (h : ∀ x, d = some x → d' ≠ some x) : putD (putD f d v) d' v' = putD (putD f d' v') d v := by
  funext i
  rw [putD_at, putD_at]
  cases d with
  | none => cases d' with
    | none => rfl
    | some x' => simp only [putD_at]
  | some x => cases d' with
    | none => simp only [putD_at]
    | some x' =>
      have hne : x' ≠ x := fun e => h x rfl (by rw [e])
      simp only [putD_at]
      by_cases h1 : i = x'
      · subst h1; simp [hne]
      · simp [h1]

def Apart1 (x y : R1) : Prop := (∀ d, x.1.dst = some d → y.1.dst ≠ some d) ∧ ∀ o ∈ (rputs x.2).map (·.1), o ∉ (rputs y.2).map (·.1)
theorem stepR_comm {σ : St} {x y : R1} (h : Apart1 x y) : stepR (stepR σ x) y = stepR (stepR σ y) x := by
  unfold stepR
  simp only [putD_comm h.1, putO_comm h.2]

theorem runD_push {x : R1} : ∀ {l : List R1} {D : Nat → Bool} {σ : St}, (∀ (j : Nat) (y : R1), l[j]? = some y → D j = true → Apart1 x y) → runD D l (stepR σ x) = stepR (runD D l σ) x
  | [], _, _, _ => rfl
  | y :: r, D, σ, h => by
    simp only [runD]
    have ih := fun {σ : St} => runD_push (x := x) (l := r) (D := fun m => D (m + 1)) (σ := σ) fun j z hz hd => h (j + 1) z (by simpa using hz) hd
    cases h0 : D 0 with
    | false => exact ih
    | true =>
      simp only [cond_true]
      rw [stepR_comm (h 0 y rfl h0)]
      exact ih
theorem runD_add : ∀ {l : List R1} {i : Nat} {x : R1} {D : Nat → Bool} {σ : St}, l[i]? = some x → D i = false → (∀ (j : Nat) (y : R1), i < j → l[j]? = some y → D j = true → Apart1 x y) →
    runD (fun m => D m || Nat.beq m i) l σ = stepR (runD D l σ) x
  | [], i, x, D, σ, hi, _, _ => by simp at hi
  | y :: r, 0, x, D, σ, hi, hd, h => by
    simp only [List.getElem?_cons_zero, Option.some.injEq] at hi
    subst hi
    simp only [runD, hd, Bool.false_or, Nat.beq_refl, cond_true, cond_false]
    have e : (fun m => D (m + 1) || Nat.beq (m + 1) 0) = fun m => D (m + 1) := by
      funext m
      have : Nat.beq (m + 1) 0 = false := rfl
      rw [this, Bool.or_false]
    rw [e]
    exact runD_push fun j z hz hd => h (j + 1) z (by omega) (by simpa using hz) hd
  | y :: r, i + 1, x, D, σ, hi, hd, h => by
    simp only [runD]
    have e0 : (D 0 || Nat.beq 0 (i + 1)) = D 0 := by
      have : Nat.beq 0 (i + 1) = false := rfl
      rw [this, Bool.or_false]
    have e : (fun m => D (m + 1) || Nat.beq (m + 1) (i + 1)) = fun m => D (m + 1) || Nat.beq m i := by
      funext m
      have : Nat.beq (m + 1) (i + 1) = Nat.beq m i := rfl
      rw [this]
    rw [e0, e]
    exact runD_add (D := fun m => D (m + 1)) (by simpa using hi) hd fun j z hj hz hd => h (j + 1) z (by omega) (by simpa using hz) hd

theorem runD_slots {t : Nat} : ∀ {l : List R1} {D D' : Nat → Bool} {σ σ' : St}, σ.slots t = σ'.slots t → (∀ (j : Nat) (y : R1), l[j]? = some y → D j ≠ D' j → y.1.dst ≠ some t) → (runD D l σ).slots t = (runD D' l σ').slots t
  | [], _, _, _, _, h, _ => h
  | y :: r, D, D', σ, σ', h, hd => by
    simp only [runD]
    refine runD_slots ?_ fun j z hz hne => hd (j + 1) z (by simpa using hz) hne
    have h1 : ∀ σ : St, y.1.dst ≠ some t → (stepR σ y).slots t = σ.slots t := fun σ hne => by
      simp only [stepR, putD_at]
      cases hy : y.1.dst with
      | none => rfl
      | some d => simp only; rw [if_neg]; rintro rfl; exact hne hy
    have h2 : (stepR σ y).slots t = (stepR σ' y).slots t := by
      simp only [stepR, putD_at]
      cases hy : y.1.dst with
      | none => exact h
      | some d => simp only; split <;> first | rfl | exact h
    cases h0 : D 0 <;> cases h0' : D' 0 <;> simp only [cond_true, cond_false]
    · exact h
    · rw [h1 σ' (hd 0 y rfl (by rw [h0, h0']; simp))]; exact h
    · rw [h1 σ (hd 0 y rfl (by rw [h0, h0']; simp))]; exact h
    · exact h2
theorem runD_objs {x : Nat} : ∀ {l : List R1} {D D' : Nat → Bool} {σ σ' : St}, σ.objs x = σ'.objs x → (∀ (j : Nat) (y : R1), l[j]? = some y → D j ≠ D' j → x ∉ (rputs y.2).map (·.1)) → (runD D l σ).objs x = (runD D' l σ').objs x
  | [], _, _, _, _, h, _ => h
  | y :: r, D, D', σ, σ', h, hd => by
    simp only [runD]
    refine runD_objs ?_ fun j z hz hne => hd (j + 1) z (by simpa using hz) hne
    have h1 : ∀ σ : St, x ∉ (rputs y.2).map (·.1) → (stepR σ y).objs x = σ.objs x := fun σ hne => putO_out hne
    have h2 : (stepR σ y).objs x = (stepR σ' y).objs x := by
      by_cases hm : x ∈ (rputs y.2).map (·.1)
      · exact putO_in hm
      · rw [h1 _ hm, h1 _ hm]; exact h
    cases h0 : D 0 <;> cases h0' : D' 0 <;> simp only [cond_true, cond_false]
    · exact h
    · rw [h1 σ' (hd 0 y rfl (by rw [h0, h0']; simp))]; exact h
    · rw [h1 σ (hd 0 y rfl (by rw [h0, h0']; simp))]; exact h
    · exact h2
theorem runD_congr : ∀ {l : List R1} {D D' : Nat → Bool} {σ : St}, (∀ j, j < l.length → D j = D' j) → runD D l σ = runD D' l σ
  | [], _, _, _, _ => rfl
  | y :: r, D, D', σ, h => by
    simp only [runD]
    rw [h 0 (by simp)]
    exact runD_congr fun j hj => h (j + 1) (by simp; omega)

/-- Is the guard of an operation fulfilled? -/
def gsat (all : List Oper) (o : Oper) (σ : St) : Option Bool :=
  match o.guard with
  | none => some true
  | some (j, want) => match (all[j]?).bind (·.dst) with
    | some g => match σ.slots g with
      | .v (.one (.bool b)) => some (b == want)
      | .undef => some false
      | _ => none
    | none => none
structure Fact1 (X : Cx) (bef : List Nat) (all : List Oper) (i nm : Nat) (log : List Done1) (σ : St) (x : R1) : Prop where
  guard : gsat all x.1 σ = some x.2.isSome
  dst : dstOk X.nt x.1.dst = true
  run : ∀ e, x.2 = some e → (M.execOp X.T X.Γ σ.slots σ.objs nm x.1.type x.1.op).yields e ∧ effOk σ.objs e = true ∧ compatB (bef.getD i 0) e.reads (names1 e) log = true
def logOf (i : Nat) (x : R1) (log : List Done1) : List Done1 := match x.2 with
  | some e => ⟨i, e.reads, names1 e⟩ :: log
  | none => log
def Good (X : Cx) (bef : List Nat) (all : List Oper) : List R1 → Nat → Nat → List Done1 → St → Prop
  | [], _, _, _, _ => True
  | x :: r, i, nm, log, σ => Fact1 X bef all i nm log σ x ∧ Good X bef all r (i + 1) (nm + 64) (logOf i x log) (stepR σ x)

theorem evalOps_good {ρ : Type} {r : ρ} {X : Cx} {bef : List Nat} {all : List Oper} {k : St → Option ρ} : ∀ {rest : List Oper} {i nm : Nat} {log : List Done1} {σ : St}, evalOps X true bef all rest i nm log σ k = some r →
    ∃ l : List R1, l.map (·.1) = rest ∧ Good X bef all l i nm log σ ∧ k (runD (fun _ => true) l σ) = some r
  | [], i, nm, log, σ, h => ⟨[], rfl, trivial, h⟩
  | o :: rest, i, nm, log, σ, h => by
    have go : ∀ {σ0 : St}, σ0 = σ → gsat all o σ = some true → ((match true || !isBin o.op with | true => (M.execOp X.T X.Γ σ0.slots σ0.objs nm o.type o.op).noq | false => M.execOp X.T X.Γ σ0.slots σ0.objs nm o.type o.op).out fun e =>
        bif dstOk X.nt o.dst && effOk σ0.objs e && (!true || compatB (bef.getD i 0) e.reads (names1 e) log) then evalOps X true bef all rest (i + 1) (nm + 64) (⟨i, e.reads, names1 e⟩ :: log) (σ0.apply o.dst e) k else none) = some r →
        ∃ l : List R1, l.map (·.1) = o :: rest ∧ Good X bef all l i nm log σ ∧ k (runD (fun _ => true) l σ) = some r := by
      intro σ0 hσ hg hh
      subst hσ
      obtain ⟨e, h1, h2⟩ := Step.noq_some hh
      cases hc : (dstOk X.nt o.dst && effOk σ0.objs e && (!true || compatB (bef.getD i 0) e.reads (names1 e) log)) with
      | false => rw [hc] at h2; cases h2
      | true =>
        rw [hc] at h2
        simp only [Bool.and_eq_true, Bool.not_true, Bool.false_or] at hc
        obtain ⟨l, g1, g2, g3⟩ := evalOps_good h2
        exact ⟨(o, some e) :: l, by simp [g1], ⟨⟨hg, hc.1.1, fun e' he' => by cases he'; exact ⟨h1, hc.1.2, hc.2⟩⟩, g2⟩, g3⟩
    have skip : ∀ {σ0 : St}, σ0 = σ → gsat all o σ = some false → (bif dstOk X.nt o.dst then evalOps X true bef all rest (i + 1) (nm + 64) log { σ0 with slots := putD σ0.slots o.dst .undef } k else none) = some r →
        ∃ l : List R1, l.map (·.1) = o :: rest ∧ Good X bef all l i nm log σ ∧ k (runD (fun _ => true) l σ) = some r := by
      intro σ0 hσ hg hh
      subst hσ
      cases hc : dstOk X.nt o.dst with
      | false => rw [hc] at hh; cases hh
      | true =>
        rw [hc] at hh
        obtain ⟨l, g1, g2, g3⟩ := evalOps_good hh
        exact ⟨(o, none) :: l, by simp [g1], ⟨⟨hg, hc, fun e' he' => by cases he'⟩, g2⟩, g3⟩
    simp only [evalOps] at h
    cases hg : o.guard with
    | none =>
      rw [hg] at h
      exact go rfl (by simp [gsat, hg]) h
    | some jw =>
      obtain ⟨j, want⟩ := jw
      rw [hg] at h
      simp only at h
      split at h
      · rename_i g hgd
        split at h
        · rename_i b hb
          have hself : ({ σ with slots := put σ.slots g (one (.bool b)) } : St) = σ := by
            rw [put_self (x := one (.bool b)) hb]
          have hgs : gsat all o σ = some (b == want) := by simp only [gsat, hg, hgd, hb]
          cases b <;> cases want <;> simp only at h
          · exact go hself hgs h
          · exact skip hself hgs h
          · exact skip hself hgs h
          · exact go hself hgs h
        · rename_i hb
          exact skip rfl (by simp only [gsat, hg, hgd, hb]) h
        · cases h
      · cases h
end Go.M
namespace Go.M
open Go

theorem compatB_mem {bef : Nat} {rd pt : List Nat} : ∀ {log : List Done1}, compatB bef rd pt log = true → ∀ d ∈ log, bef.testBit d.i = true ∨ ((∀ x ∈ pt, x ∉ d.reads) ∧ (∀ x ∈ pt, x ∉ d.puts) ∧ ∀ x ∈ d.puts, x ∉ rd)
  | [], _, d, hd => by simp at hd
  | y :: r, h, d, hd => by
    simp only [compatB, Bool.and_eq_true, Bool.or_eq_true] at h
    rcases List.mem_cons.1 hd with rfl | hd
    · rcases h.1 with h1 | h1
      · exact .inl h1
      · right
        have conv : ∀ {a b : List Nat}, disjB a b = true → ∀ x ∈ a, x ∉ b := fun {a b} hh x hx => by
          have := List.all_eq_true.1 hh x hx
          simpa using this
        exact ⟨conv h1.1.1, conv h1.1.2, conv h1.2⟩
    · exact compatB_mem h.2 d hd

/-- The state behind the first i operations of the text. -/
def pre (l : List R1) (i : Nat) (σ : St) : St := runD (fun m => decide (m < i)) l σ
theorem pre_succ {x : R1} {r : List R1} {i : Nat} {σ : St} : pre (x :: r) (i + 1) σ = pre r i (stepR σ x) := by
  simp only [pre, runD, Nat.zero_lt_succ, decide_true, cond_true]
  exact runD_congr fun j _ => by simp

/-- What is known of the i-th operation. -/
structure At (X : Cx) (bef : List Nat) (all : List Oper) (l : List R1) (σ : St) (i nm : Nat) (x : R1) : Prop where
  guard : gsat all x.1 (pre l i σ) = some x.2.isSome
  dst : dstOk X.nt x.1.dst = true
  run : ∀ e, x.2 = some e → (M.execOp X.T X.Γ (pre l i σ).slots (pre l i σ).objs nm x.1.type x.1.op).yields e ∧ effOk (pre l i σ).objs e = true

theorem Good.at {X : Cx} {bef : List Nat} {all : List Oper} : ∀ {l : List R1} {i0 nm : Nat} {log : List Done1} {σ : St}, Good X bef all l i0 nm log σ → ∀ i x, l[i]? = some x → ∃ nm', At X bef all l σ i nm' x
  | [], _, _, _, _, _, i, x, h => by simp at h
  | y :: r, i0, nm, log, σ, hg, 0, x, h => by
    simp only [List.getElem?_cons_zero, Option.some.injEq] at h
    subst h
    have e : pre (y :: r) 0 σ = σ := by
      have : ∀ l : List R1, runD (fun _ => false) l σ = σ := fun l => by
        induction l with
        | nil => rfl
        | cons z t ih => exact ih
      simp only [pre, Nat.not_lt_zero, decide_false]
      exact this _
    exact ⟨nm, by rw [e]; exact hg.1.guard, hg.1.dst, fun e' he' => by rw [e]; exact ⟨(hg.1.run e' he').1, (hg.1.run e' he').2.1⟩⟩
  | y :: r, i0, nm, log, σ, hg, i + 1, x, h => by
    obtain ⟨nm', h1, h2, h3⟩ := Good.at hg.2 i x (by simpa using h)
    exact ⟨nm', by rw [pre_succ]; exact h1, h2, by rw [pre_succ]; exact h3⟩
theorem Good.log {X : Cx} {bef : List Nat} {all : List Oper} : ∀ {l : List R1} {i0 nm : Nat} {log : List Done1} {σ : St}, Good X bef all l i0 nm log σ → ∀ i o e, l[i]? = some (o, some e) → ∀ d ∈ log,
    (bef.getD (i0 + i) 0).testBit d.i = true ∨ ((∀ x ∈ names1 e, x ∉ d.reads) ∧ (∀ x ∈ names1 e, x ∉ d.puts) ∧ ∀ x ∈ d.puts, x ∉ e.reads)
  | [], _, _, _, _, _, i, o, e, h => by simp at h
  | y :: r, i0, nm, log, σ, hg, 0, o, e, h => by
    simp only [List.getElem?_cons_zero, Option.some.injEq] at h
    subst h
    exact compatB_mem (hg.1.run e rfl).2.2
  | y :: r, i0, nm, log, σ, hg, i + 1, o, e, h => fun d hd => by
    have := Good.log hg.2 i o e (by simpa using h) d (by unfold logOf; split <;> simp [hd])
    rw [show i0 + (i + 1) = i0 + 1 + i by omega]
    exact this
theorem Good.pair {X : Cx} {bef : List Nat} {all : List Oper} : ∀ {l : List R1} {i0 nm : Nat} {log : List Done1} {σ : St}, Good X bef all l i0 nm log σ → ∀ i j o e o' e', l[i]? = some (o, some e) → l[j]? = some (o', some e') → j < i →
    (bef.getD (i0 + i) 0).testBit (i0 + j) = true ∨ ((∀ x ∈ names1 e, x ∉ e'.reads) ∧ (∀ x ∈ names1 e, x ∉ names1 e') ∧ ∀ x ∈ names1 e', x ∉ e.reads)
  | [], _, _, _, _, _, i, j, o, e, o', e', h, _, _ => by simp at h
  | y :: r, i0, nm, log, σ, hg, 0, j, o, e, o', e', h, h', hj => by omega
  | y :: r, i0, nm, log, σ, hg, i + 1, 0, o, e, o', e', h, h', hj => by
    simp only [List.getElem?_cons_zero, Option.some.injEq] at h'
    subst h'
    have := Good.log hg.2 i o e (by simpa using h) ⟨i0, e'.reads, names1 e'⟩ (by simp [logOf])
    rw [show i0 + (i + 1) = i0 + 1 + i by omega]
    exact this
  | y :: r, i0, nm, log, σ, hg, i + 1, j + 1, o, e, o', e', h, h', hj => by
    have := Good.pair hg.2 i j o e o' e' (by simpa using h) (by simpa using h') (by omega)
    rw [show i0 + (i + 1) = i0 + 1 + i by omega, show i0 + (j + 1) = i0 + 1 + j by omega]
    exact this

structure RegOK (ops : Array Oper) : Prop where
  back : ∀ i o, ops[i]? = some o → ∀ e ∈ o.after, Region.binds .any e = true → e.on < i
  bef : ∀ i o j, ops[i]? = some o → j < i → ((Region.before ops).toList.getD i 0).testBit j = true → ∃ e ∈ o.after, Region.binds .any e = true ∧ (e.on = j ∨ (j < e.on ∧ ((Region.before ops).toList.getD e.on 0).testBit j = true))
  apart : ∀ i o j p, ops[i]? = some o → ops[j]? = some p → j < i → ((Region.before ops).toList.getD i 0).testBit j = false → o.apart ops p = true

theorem regChk_spec {ops : Array Oper} (h : regChk ops = true) : RegOK ops := by
  simp only [regChk, Bool.and_eq_true, List.all_eq_true, List.mem_range] at h
  have h := h.2
  have row : ∀ i o, ops[i]? = some o → (∀ e ∈ o.after.toList, (!Region.binds .any e || Nat.blt e.on i) = true) ∧ ∀ j, j < i → (match ops[j]? with
      | none => false
      | some p => bif ((Region.before ops).toList.getD i 0).testBit j then o.after.toList.any fun e => Region.binds .any e && (Nat.beq e.on j || (Nat.blt j e.on && ((Region.before ops).toList.getD e.on 0).testBit j))
        else o.apart ops p) = true := by
    intro i o ho
    have := h i (Array.getElem?_eq_some_iff.1 ho).1
    rw [ho] at this
    simp only [Bool.and_eq_true, List.all_eq_true, List.mem_range] at this
    exact this
  refine ⟨fun i o ho e he hb => ?_, fun i o j ho hj hb => ?_, fun i o j p ho hp hj hb => ?_⟩
  · have := (row i o ho).1 e (by simpa using he)
    rw [hb] at this
    simpa using this
  · have := (row i o ho).2 j hj
    split at this
    · cases this
    · rw [hb] at this
      simp only [cond_true, List.any_eq_true, Bool.and_eq_true, Bool.or_eq_true] at this
      obtain ⟨e, h1, h2, h3⟩ := this
      exact ⟨e, by simpa using h1, h2, h3.imp (fun h => Nat.eq_of_beq_eq_true h) fun h => ⟨by simpa using h.1, h.2⟩⟩
  · have := (row i o ho).2 j hj
    rw [hp] at this
    simp only [hb, cond_false] at this
    exact this

/-- In a closed set, all that must come ahead of a member's is in it. -/
theorem closed_bef {ops : Array Oper} (hR : RegOK ops) {D : Nat → Bool} (hD : ∀ i o, ops[i]? = some o → D i = true → ∀ e ∈ o.after, Region.binds .any e = true → D e.on = true) :
    ∀ (i : Nat) (o : Oper), ops[i]? = some o → (∀ e ∈ o.after, Region.binds .any e = true → D e.on = true) → ∀ j, j < i → ((Region.before ops).toList.getD i 0).testBit j = true → D j = true := by
  intro i
  induction i using Nat.strongRecOn with
  | _ i ih =>
    intro o ho hd j hj hb
    obtain ⟨e, h1, h2, h3⟩ := hR.bef i o j ho hj hb
    have hlt := hR.back i o ho e h1 h2
    rcases h3 with h3 | h3
    · exact h3 ▸ hd e h1 h2
    · have hi : i < ops.size := (Array.getElem?_eq_some_iff.1 ho).1
      have hon : ops[e.on]? = some ops[e.on] := Array.getElem?_eq_getElem (by omega)
      exact ih e.on hlt _ hon (hD e.on _ hon (hd e h1 h2)) j h3.1 h3.2

theorem gsat_congr {all : List Oper} {o : Oper} {σ σ' : St} (h : ∀ j w g, o.guard = some (j, w) → (all[j]?).bind (·.dst) = some g → σ'.slots g = σ.slots g) : gsat all o σ' = gsat all o σ := by
  unfold gsat
  cases hg : o.guard with
  | none => rfl
  | some jw =>
    obtain ⟨j, w⟩ := jw
    simp only
    cases hb : (all[j]?).bind (·.dst) with
    | none => rfl
    | some g => simp only [h j w g hg hb]

theorem Rel.slots' {S : Start} {φ : Nat → Pl} {σ : St} {a : Act} {w : World} (h : Rel S φ σ a w) (n : Nat) : Rel S φ σ a { w with drawn := w.drawn + n } := by
  have hk := (OStep.quiet S φ σ.objs w n).keep h.objs h.frame
  exact ⟨h.nt, h.defers, fun i => (h.slots i).step hk.env, hk.objs, hk.frame⟩

theorem countP_lt {l : List Nat} {p q : Nat → Bool} (h : ∀ x ∈ l, q x = true → p x = true) {i : Nat} (hi : i ∈ l) (h1 : p i = true) (h2 : q i = false) : l.countP q < l.countP p := by
  induction l with
  | nil => simp at hi
  | cons y r ih =>
    have hm : r.countP q ≤ r.countP p := List.countP_mono_left fun x hx hq => h x (by simp [hx]) hq
    rcases List.mem_cons.1 hi with rfl | hi
    · rw [List.countP_cons_of_pos h1, List.countP_cons_of_neg (by rw [h2]; simp)]
      omega
    · have := ih (fun x hx => h x (by simp [hx])) hi
      rw [List.countP_cons, List.countP_cons]
      have hy := h y (by simp)
      by_cases hq : q y = true
      · rw [if_pos hq, if_pos (hy hq)]; omega
      · rw [if_neg hq]; split <;> omega

section
variable {S : Start} {X : Cx} {J : GInv}

theorem draw_ok (hX : CxOK S J X) (hnt : X.nt = S.nt) (hm : S.P.follows .mixedOrders = true) {ops : Array Oper} (hchk : regChk ops = true)
    {ρ : Type} {r : ρ} {id : Nat} {k : St → Option ρ} {Q : Exit → Act → World → Prop} {φ : Nat → Pl} {σ : St} {a : Act} {w : World} (h : Rel S φ σ a w)
    (he : evalOps X true (Region.before ops).toList ops.toList ops.toList 0 σ.base [] σ k = some r)
    (hk : ∀ φ' σ' a' w', Rel S φ' σ' a' w' → k σ' = some r → Q .normal a' w') : (Code.region id ops true).wp S.P Q a w := by
  obtain ⟨l, g1, g2, g3⟩ := evalOps_good he
  have hR := regChk_spec hchk
  have hlen : l.length = ops.size := by have := congrArg List.length g1; simpa using this
  have hop : ∀ (i : Nat) (x : R1), l[i]? = some x → ops[i]? = some x.1 := fun i x hx => by
    have : (l.map (·.1))[i]? = some x.1 := by simp [hx]
    rw [g1] at this
    simpa using this
  -- what two operations have to do with each other where neither must come ahead
  have pair : ∀ (i j : Nat) (x y : R1), l[i]? = some x → l[j]? = some y → j < i → ((Region.before ops).toList.getD i 0).testBit j = false →
      (∀ d, x.1.dst = some d → y.1.dst ≠ some d ∧ d ∉ y.1.looksAt ops) ∧ (∀ d, y.1.dst = some d → d ∉ x.1.looksAt ops) ∧
      ∀ e e', x.2 = some e → y.2 = some e' → (∀ z ∈ names1 e, z ∉ e'.reads) ∧ (∀ z ∈ names1 e, z ∉ names1 e') ∧ ∀ z ∈ names1 e', z ∉ e.reads := by
    intro i j x y hx hy hj hb
    obtain ⟨a1, a2, a3⟩ := Oper.apart_spec (hR.apart i x.1 j y.1 (hop i x hx) (hop j y hy) hj hb)
    refine ⟨fun d hd => ⟨a2 d hd, a1 d hd⟩, a3, fun e e' h1 h2 => ?_⟩
    obtain ⟨o, rx⟩ := x
    obtain ⟨o', ry⟩ := y
    subst h1; subst h2
    have := g2.pair i j o e o' e' hx hy hj
    simp only [Nat.zero_add, hb, Bool.false_eq_true, false_or] at this
    exact this
  have main : ∀ (fuel : Nat) (listed : Array Bool) (φ : Nat → Pl) (a : Act) (w : World), listed.size = ops.size → (List.range ops.size).countP (fun i => !listed.getD i true) ≤ fuel →
      (∀ i o, ops[i]? = some o → listed.getD i false = true → ∀ e ∈ o.after, Region.binds .any e = true → listed.getD e.on false = true) →
      Rel S φ (runD (fun m => listed.getD m false) l σ) a w → wpAny S.P .any ops Q fuel listed a w := by
    intro fuel
    induction fuel with
    | zero =>
      intro listed φ a w hsz hc hcl hrel
      have hall : ∀ i, i < ops.size → listed.getD i true = true := fun i hi => by
        have := List.countP_eq_zero.1 (Nat.le_zero.1 hc) i (List.mem_range.2 hi)
        simpa using this
      refine ⟨?_, ?_⟩
      · rw [List.eq_nil_iff_forall_not_mem]
        intro i hi
        obtain ⟨h1, o, h2, _⟩ := mem_ready.1 hi
        have := hall i (Array.getElem?_eq_some_iff.1 h2).1
        rw [this] at h1; cases h1
      · refine hk φ _ a w hrel ?_
        rw [← g3]
        congr 1
        refine runD_congr fun j hj => ?_
        have := hall j (by omega)
        rw [Array.getD_eq_getD_getElem?] at this ⊢
        rw [Array.getElem?_eq_getElem (by omega)] at this ⊢
        exact this
    | succ fuel ih =>
      intro listed φ a w hsz hc hcl hrel
      refine ⟨fun hnil => ?_, fun i hi => ?_⟩
      · -- nothing is ready: all are done
        have hall : ∀ i, i < ops.size → listed.getD i true = true := by
          intro i
          induction i using Nat.strongRecOn with
          | _ i ihi =>
            intro hi
            cases hl : listed.getD i true with
            | true => rfl
            | false =>
              exfalso
              have : i ∈ Region.ready .any ops listed := mem_ready.2 ⟨hl, ops[i], Array.getElem?_eq_getElem hi, fun e he hb => by
                have hlt := hR.back i ops[i] (Array.getElem?_eq_getElem hi) e he hb
                have := ihi e.on hlt (by omega)
                rw [Array.getD_eq_getD_getElem?] at this ⊢
                rw [Array.getElem?_eq_getElem (by omega)] at this ⊢
                exact this⟩
              rw [hnil] at this
              cases this
        refine hk φ _ a w hrel ?_
        rw [← g3]
        congr 1
        refine runD_congr fun j hj => ?_
        have := hall j (by omega)
        rw [Array.getD_eq_getD_getElem?] at this ⊢
        rw [Array.getElem?_eq_getElem (by omega)] at this ⊢
        exact this
      · obtain ⟨hun, o, ho, hready⟩ := mem_ready.1 hi
        have hilt : i < ops.size := (Array.getElem?_eq_some_iff.1 ho).1
        have hun' : listed.getD i false = false := by
          rw [Array.getD_eq_getD_getElem?] at hun ⊢
          rw [Array.getElem?_eq_getElem (by omega)] at hun ⊢
          exact hun
        have hx : l[i]? = some l[i] := List.getElem?_eq_getElem (by omega)
        generalize l[i] = x at hx
        have hox : x.1 = o := by have := hop i x hx; rw [ho] at this; exact (Option.some.inj this).symm
        obtain ⟨nm, hat⟩ := g2.at i x hx
        have hbef : ∀ j, j < i → ((Region.before ops).toList.getD i 0).testBit j = true → listed.getD j false = true :=
          closed_bef hR (D := fun m => listed.getD m false) hcl i o ho hready
        -- those whose state differs from the text's
        have hdiff : ∀ (j : Nat) (y : R1), l[j]? = some y → listed.getD j false ≠ decide (j < i) → (∀ d, y.1.dst = some d → d ∉ x.1.looksAt ops ∧ x.1.dst ≠ some d) ∧
            ∀ e e', x.2 = some e → y.2 = some e' → (∀ z ∈ names1 e', z ∉ e.reads) ∧ (∀ z ∈ names1 e', z ∉ names1 e) := by
          intro j y hy hne
          by_cases hji : j < i
          · have hnb : ((Region.before ops).toList.getD i 0).testBit j = false := by
              cases hb : ((Region.before ops).toList.getD i 0).testBit j with
              | false => rfl
              | true => exact absurd (hbef j hji hb) (by simpa [hji] using hne)
            obtain ⟨p1, p2, p3⟩ := pair i j x y hx hy hji hnb
            refine ⟨fun d hd => ⟨p2 d hd, fun hxd => (p1 d hxd).1 hd⟩, fun e e' h1 h2 => ?_⟩
            obtain ⟨q1, q2, q3⟩ := p3 e e' h1 h2
            exact ⟨q3, fun z hz hz' => q2 z hz' hz⟩
          · have hlj : listed.getD j false = true := by simpa [hji] using hne
            have hij : i < j := by
              rcases Nat.lt_or_ge i j with h | h
              · exact h
              · have : j = i := by omega
                subst this; rw [hun'] at hlj; cases hlj
            have hnb : ((Region.before ops).toList.getD j 0).testBit i = false := by
              cases hb : ((Region.before ops).toList.getD j 0).testBit i with
              | false => rfl
              | true =>
                have hoj := hop j y hy
                have := closed_bef hR (D := fun m => listed.getD m false) hcl j y.1 hoj (hcl j y.1 hoj hlj) i hij hb
                rw [hun'] at this; cases this
            obtain ⟨p1, p2, p3⟩ := pair j i y x hy hx hij hnb
            refine ⟨fun d hd => ⟨(p1 d hd).2, fun hxd => (p1 d hd).1 hxd⟩, fun e e' h1 h2 => ?_⟩
            obtain ⟨q1, q2, q3⟩ := p3 e' e h2 h1
            exact ⟨q1, q2⟩
        have hslot : ∀ t, t ∈ x.1.looksAt ops → (runD (fun m => listed.getD m false) l σ).slots t = (pre l i σ).slots t := fun t ht =>
          runD_slots rfl fun j y hy hne hd => ((hdiff j y hy hne).1 t hd).1 ht
        have hgs : gsat ops.toList x.1 (runD (fun m => listed.getD m false) l σ) = some x.2.isSome := by
          rw [← hat.guard]
          refine gsat_congr fun j wnt g hgd hb => hslot g ?_
          have hb' : (ops[j]?).bind (·.dst) = some g := by simpa using hb
          simp [Oper.looksAt, hgd, hb']
        -- the next state
        have hnext : runD (fun m => (listed.setIfInBounds i true).getD m false) l σ = stepR (runD (fun m => listed.getD m false) l σ) x := by
          rw [← runD_add (i := i) hx hun' fun j y hij hy hlj => ?_]
          · refine runD_congr fun j hj => ?_
            simp only [Array.getD_eq_getD_getElem?, Array.getElem?_setIfInBounds]
            by_cases hji : i = j
            · subst hji; simp [show i < listed.size by omega]
            · have : Nat.beq j i = false := nat_beq_false (fun e => hji e.symm)
              simp [hji, this]
          · obtain ⟨d1, d2⟩ := hdiff j y hy (by rw [hlj]; simp; omega)
            refine ⟨fun d hxd hyd => (d1 d hyd).2 hxd, fun z hz hz' => ?_⟩
            obtain ⟨ox, rx⟩ := x
            obtain ⟨oy, ry⟩ := y
            cases rx with
            | none => simp [rputs] at hz
            | some e => cases ry with
              | none => simp [rputs] at hz'
              | some e' => exact (d2 e e' rfl rfl).2 z hz' hz
        have hK : ∀ φ' a' w', Rel S φ' (stepR (runD (fun m => listed.getD m false) l σ) x) a' w' → wpAny S.P .any ops Q fuel (listed.setIfInBounds i true) a' w' := by
          intro φ' a' w' hrel'
          refine ih _ φ' a' w' (by simp [hsz]) ?_ ?_ (by rw [hnext]; exact hrel')
          · have := countP_lt (l := List.range ops.size) (p := fun j => !listed.getD j true) (q := fun j => !(listed.setIfInBounds i true).getD j true) (i := i) (fun j hj hq => ?_) (List.mem_range.2 hilt) (by simp [hun]) ?_
            · omega
            · by_cases hji : i = j
              · subst hji
                rw [Array.getD_eq_getD_getElem?, Array.getElem?_setIfInBounds] at hq
                simp [show i < listed.size by omega] at hq
              · rw [getD_set_ne true hji] at hq; exact hq
            · simp only [Array.getD_eq_getD_getElem?, Array.getElem?_setIfInBounds]
              simp [show i < listed.size by omega]
          · intro j oj hoj hl e he hb
            by_cases hji : i = j
            · subst hji
              rw [ho] at hoj; cases hoj
              exact getD_set_true (hready e he hb)
            · rw [getD_set_ne false hji] at hl
              exact getD_set_true (hcl j oj hoj hl e he hb)
        have hd := hat.dst
        unfold wpOp
        rw [ho]
        simp only
        have hyield : Region.wanted o (yielded ops a.tmps) = x.2.isSome := by
          rw [← hox]
          unfold gsat at hgs
          unfold Region.wanted
          cases hg : x.1.guard with
          | none => rw [hg] at hgs; exact Option.some.inj hgs
          | some jw =>
            obtain ⟨j, wnt⟩ := jw
            rw [hg] at hgs
            simp only at hgs ⊢
            split at hgs
            · rename_i g hgd
              split at hgs
              · rename_i b hb
                have h1 : (ops[j]?).bind (·.dst) = some g := by simpa using hgd
                rw [← Option.some.inj hgs]
                simp only [yielded, h1, Option.bind_some, slot_bool hrel hb]
                cases b <;> cases wnt <;> rfl
              · rename_i hb
                have h1 : (ops[j]?).bind (·.dst) = some g := by simpa using hgd
                rw [← Option.some.inj hgs]
                have h2 := hrel.slots g
                rw [hb] at h2
                have h2 : a.tmps.getD g undef = undef := h2
                refine beq_eq_false_iff_ne.2 ?_
                simp only [yielded, h1, Option.bind_some]
                cases hg2 : a.tmps[g]? with
                | none => simp
                | some u =>
                  rw [Array.getD_eq_getD_getElem?, hg2] at h2
                  have h2 : u = .tuple #[] := h2
                  subst h2
                  simp
              · cases hgs
            · cases hgs
        obtain ⟨ox, rx⟩ := x
        simp only at hox
        subst hox
        rw [hyield]
        cases rx with
        | none =>
          simp only [Option.isSome_none, Bool.false_eq_true, if_false]
          exact hK φ _ _ (step_skip hnt hrel hd)
        | some e =>
          simp only [Option.isSome_some, if_true]
          obtain ⟨r1, r2⟩ := hat.run e rfl
          have hobj : ∀ z ∈ e.reads ++ names1 e, (runD (fun m => listed.getD m false) l σ).objs z = (pre l i σ).objs z := fun z hz =>
            runD_objs rfl fun j y hy hne hm => by
              obtain ⟨oy, ry⟩ := y
              cases ry with
              | none => simp [rputs] at hm
              | some e' =>
                obtain ⟨d1, d2⟩ := (hdiff j (oy, some e') hy hne).2 e e' rfl rfl
                rcases List.mem_append.1 hz with hz | hz
                · exact d1 z hm hz
                · exact d2 z hm hz
          have hag : Agr (pre l i σ).slots (runD (fun m => listed.getD m false) l σ).slots ox.op.operands.toList := fun t ht => hslot t (by
            unfold Oper.looksAt
            exact List.mem_append.2 (.inl (List.mem_filterMap.2 ⟨.tmp t, ht, rfl⟩)))
          have r1' := execOp_local r1 hobj
          rw [← execOp_slots hag] at r1'
          have r2' : effOk (runD (fun m => listed.getD m false) l σ).objs e = true := by
            rw [← r2]
            unfold effOk
            congr 1
            rw [Bool.eq_iff_iff, List.all_eq_true, List.all_eq_true]
            have : ∀ p ∈ e.puts, (runD (fun m => listed.getD m false) l σ).objs p.1 = (pre l i σ).objs p.1 := fun p hp => hobj p.1 (List.mem_append.2 (.inr (List.mem_map.2 ⟨p, hp, rfl⟩)))
            exact ⟨fun h p hp => by rw [← this p hp]; exact h p hp, fun h p hp => by rw [this p hp]; exact h p hp⟩
          exact .inl (step_go hX hnt hrel r1' hd r2' fun φ' a' w' h' => hK φ' a' w' h')
  refine wp_region_any hm (main ops.size _ φ a _ (by simp) ?_ ?_ ?_)
  · refine Nat.le_trans List.countP_le_length ?_
    simp
  · intro i o _ hl
    exfalso
    rw [Array.getD_eq_getD_getElem?] at hl
    by_cases hi : i < ops.size
    · simp [hi] at hl
    · simp [hi] at hl
  · have e : runD (fun m => (Array.replicate ops.size false).getD m false) l σ = σ := by
      have : ∀ (l : List R1) (D : Nat → Bool), (∀ m, D m = false) → runD D l σ = σ := fun l => by
        induction l with
        | nil => intro D _; rfl
        | cons z t ih => intro D hD; simp only [runD, hD 0, cond_false]; exact ih _ fun m => hD (m + 1)
      refine this l _ fun m => ?_
      rw [Array.getD_eq_getD_getElem?]
      by_cases hi : m < ops.size
      · simp [hi]
      · simp [hi]
    rw [e]
    exact h.slots' 1
end
end Go.M
