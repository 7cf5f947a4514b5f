/-
  Operations, continued.
-/
import Derived.Test.YtiphonlbkhfhcaaDoorMA
import Derived.Great.BuildSlice
set_option linter.unusedVariables false
namespace Go.M
open Go

section
variable {S : Start} {φ : Nat → Pl} {σ : St} {a : Act} {w : World} {o : Oper} {e : Eff} {T : TypeId → Option TI}

theorem fieldOff_some (hT : TOK S.P T) {s : TypeId} {f off : Nat} {ft : TypeId} (h : fieldOff T s f = some (off, ft)) :
    ∃ gs g, S.P.underlying s = some (.struct gs) ∧ gs[f]? = some g ∧ g.offset = off ∧ g.type = ft := by
  unfold fieldOff at h
  split at h
  · rename_i ti hti
    split at h
    · rename_i fs hk
      have hu := (hT s ti hti).kind
      rw [hk] at hu
      obtain ⟨gs, h1, rfl⟩ := hu
      rw [List.getElem?_map, Option.map_eq_some_iff] at h
      obtain ⟨g, hg, hp⟩ := h
      cases hp
      exact ⟨gs, g, h1, by simpa using hg, rfl, rfl⟩
    · cases h
  · cases h

theorem q_fieldAddr (hT : TOK S.P T) (h : Rel S φ σ a w) {s : TypeId} {x : Operand} {f : Nat} (ho : o.op = .fieldAddr s x f)
    (he : (fieldAddrStep T σ.objs s (val T σ.slots 0 x) f).yields e) : Quiet S φ σ a w o e := by
  have hx := val_RAV h T 0 x
  unfold fieldAddrStep at he
  split at he
  · rename_i off ft hoff
    obtain ⟨gs, g, hu, hg, rfl, rfl⟩ := fieldOff_some hT hoff
    split at he
    · rename_i fi hfi
      cases hz : Nat.beq fi.size 0 with
      | true => rw [hz] at he; cases he
      | false =>
        rw [hz] at he
        simp only [cond_false] at he
        have hne : fi.size ≠ 0 := fun h0 => by rw [h0] at hz; cases hz
        have hF := hT g.type fi hfi
        have fin : ∀ {b q : Nat}, a.eval x = .pointer (some ⟨b, q, none⟩) → (Go.execOp a.eval o).run S.P w = .ok (.value (.pointer (some ⟨b, q + g.offset, none⟩))) w := fun hp => by
          simp [Go.execOp, ho, hp, Instr.fieldAt, run_underlying hu, hg, Instr.sureAddr, fieldPlace, hF.sizeOf, hne, Addr.add_lit]
        split at he
        · rename_i o' off0 hxe
          rw [hxe] at hx
          cases he
          obtain ⟨b, p, y, cs, g1, g2, g3, g4⟩ := hx
          exact Quiet.mk' rfl (fin g4) ⟨b, p, y, cs, g1, g2, g3, by simp [Nat.add_assoc]⟩
        · rename_i t x0 off0 hxe
          rw [hxe] at hx
          cases he
          obtain ⟨b, p, g1, g2, g3⟩ := hx
          exact Quiet.mk' rfl (fin g1) ⟨b, p, by simp [Nat.add_assoc], g2, g3⟩
        · rename_i o' ver wv i off0 t x0 hxe
          rw [hxe] at hx
          split at he
          · rename_i y hy
            obtain ⟨hy0, hver⟩ := cur?_some hy
            cases hb : Nat.beq y.wv wv with
            | false => rw [hb] at he; cases he
            | true =>
              rw [hb] at he
              have hwv := Nat.eq_of_beq_eq_true hb
              obtain ⟨_, y', g1, g2, g3⟩ := hx
              have : y' = y := by have hh : σ.objs o' = some y' := g1; rw [hy0] at hh; cases hh; rfl
              subst this
              obtain ⟨b, p, xs, k1, k2, k3, k4⟩ := g3 hver hwv
              cases he
              exact Quiet.mk' rfl (fin k2) ⟨⟨_, rfl⟩, y', hy0, .inr ⟨hver.symm, Nat.le_of_eq hwv.symm⟩, fun _ _ => ⟨b, p, xs, k1, by simp [Nat.add_assoc], k3, k4⟩⟩
          · cases he
        · cases he
    · cases he
  · cases he

theorem q_field (hT : TOK S.P T) (h : Rel S φ σ a w) {s : TypeId} {x : Operand} {f : Nat} (ho : o.op = .field s x f)
    (he : (fieldStep T s (val T σ.slots s x) f).yields e) : Quiet S φ σ a w o e := by
  have hx := val_RAV h T s x
  unfold fieldStep at he
  split at he
  · rename_i off ft hoff
    obtain ⟨gs, g, hu, hg, rfl, rfl⟩ := fieldOff_some hT hoff
    split at he
    · rename_i fi hfi
      have hF := hT g.type fi hfi
      split at he
      · rename_i cs hxe
        rw [hxe] at hx
        obtain ⟨vs, hv, hr⟩ := hx
        cases hd : decide (g.offset + fi.size ≤ cs.length) with
        | false => rw [hd] at he; cases he
        | true =>
          rw [hd] at he
          simp only [cond_true] at he
          have hle : g.offset + fi.size ≤ cs.length := by simpa using hd
          split at he
          · rename_i av hav
            cases he
            have hlen : vs.size = cs.length := by simpa using hr.1
            cases ha : fi.agg with
            | true =>
              rw [ha] at hav
              refine Quiet.mk' rfl (v := .agg (vs.extract g.offset (g.offset + fi.size))) (by simp [Go.execOp, ho, hv, Instr.field, run_underlying hu, hg, asAgg, part, hF.isAgg, ha, hF.sizeOf])
                (ofCells_RAV hav (hr.seg g.offset fi.size) (.inl ⟨rfl, ?_⟩))
              congr 1
              apply Array.toList_inj.1
              simp []
            | false =>
              rw [ha] at hav
              have h1 := hF.one ha
              have hlt : g.offset < vs.size := by omega
              refine Quiet.mk' rfl (v := vs[g.offset]) (by simp [Go.execOp, ho, hv, Instr.field, run_underlying hu, hg, asAgg, part, hF.isAgg, ha, hlt])
                (ofCells_RAV hav (hr.seg g.offset fi.size) (.inr ⟨rfl, ?_⟩))
              rw [h1, List.take_one, List.head?_drop]
              simp [hlt]
          · cases he
      · cases he
    · cases he
  · cases he

theorem kind_u8 (hT : TOK S.P T) {s : TypeId} (h : isU8 T s = true) : ∃ el, S.P.underlying s = some (.slice el) ∧ S.P.underlying el = some (.int .u8) := by
  unfold isU8 at h
  split at h
  · rename_i ti hti
    split at h
    · rename_i el hk
      split at h
      · rename_i ei hei
        split at h
        · rename_i hk2
          have h1 := (hT s ti hti).kind
          have h2 := (hT el ei hei).kind
          rw [hk] at h1
          rw [hk2] at h2
          exact ⟨el, h1, h2⟩
        · cases h
      · cases h
    · cases h
  · cases h
theorem bytes_fold (xs : List Int) : xs.foldl (fun r n => r.push (UInt8.ofNat n.toNat)) ByteArray.empty = bytesOfInts xs := by
  have key : ∀ (xs : List Int) (s : ByteArray), xs.foldl (fun r n => r.push (UInt8.ofNat n.toNat)) s = ⟨s.data ++ (xs.map fun n => UInt8.ofNat n.toNat).toArray⟩ := by
    intro xs
    induction xs with
    | nil => intro s; simp
    | cons n r ih =>
      intro s
      rw [List.foldl_cons, ih]
      simp [ByteArray.push]
  rw [key]
  simp [bytesOfInts, ByteArray.empty, ByteArray.emptyWithCapacity]
  rfl
theorem q_convert (hT : TOK S.P T) (h : Rel S φ σ a w) {s d : TypeId} {x : Operand} (ho : o.op = .convert s d x)
    (he : (convertStep T σ.objs s d (val T σ.slots s x)).yields e) : Quiet S φ σ a w o e := by
  have hx := val_RAV h T s x
  unfold convertStep at he
  split at he
  · rename_i si hsi
    obtain ⟨sd, hsd⟩ : ∃ sd, S.P.underlying s = some sd := by
      have hk := (hT s si hsi).kind
      unfold KindOK at hk
      split at hk <;> first
        | exact ⟨_, hk⟩
        | (obtain ⟨ms, hk⟩ := hk; exact ⟨_, hk⟩)
        | (obtain ⟨gs, hk, _⟩ := hk; exact ⟨_, hk⟩)
        | (obtain ⟨_, _, _, hk⟩ := hk; exact ⟨_, hk⟩)
    split at he
    · rename_i di hdi
      have hk := (hT d di hdi).kind
      split at he
      · rename_i k hkind
        rw [hkind] at hk
        have hu : S.P.underlying d = some (.int k) := hk
        split at he
        · rename_i k' n hxe
          have hv := int_of hxe hx
          cases he
          exact Quiet.mk' rfl (v := .int k (k.wrap n)) (by simp [Go.execOp, ho, hv, convert, run_underlying hsd, run_underlying hu, Conv.intToInt]) rfl
        · cases he
      · rename_i hkind
        rw [hkind] at hk
        have hu : S.P.underlying d = some .string := hk
        split at he
        · rename_i s' hxe
          have hv := str_of hxe hx
          cases he
          refine Quiet.mk' rfl (v := .string s') ?_ rfl
          simp only [Go.execOp, ho, hv, convert, Sem.run_bind, run_underlying hsd, run_underlying hu, Result.andThen_ok]
          cases sd <;> rfl
        · rename_i c _ hxe
          rw [hxe] at hx
          cases hb : isU8 T s with
          | false => rw [hb] at he; cases he
          | true =>
            rw [hb] at he
            simp only [cond_true] at he
            obtain ⟨el, hus, hue⟩ := kind_u8 hT hb
            split at he
            · rename_i xs rs hre
              cases he
              have hrd : RdS w (fun _ => True) (.int .u8) xs (a.eval x) := reifyC_spec h.objs hx hre rfl (fun _ => True) (fun _ _ => trivial) (fun _ _ => trivial)
              obtain ⟨ad, cap, hv, hc1, hc2, hc3⟩ := hrd
              have hv : a.eval x = .slice ad xs.length cap := by simpa using hv
              refine Quiet.mk' rfl (v := .string (bytesOfInts xs)) ?_ rfl
              have hrun : (Conv.bytesToString (.slice ad xs.length cap)).run S.P w = .ok (.string (bytesOfInts xs)) w := by
                have hload : ∀ ad', ad = some ad' → (loadCells ad' xs.length).run S.P w = .ok (xs.map (Value.int .u8)).toArray w := fun ad' had => by
                  have := run_loadCells_list (P := S.P) w ad' (xs.map (Value.int .u8)) (fun j v hj => by
                    rcases hc3 with rfl | ⟨b, p, hb, _, hr⟩
                    · simp at hj
                    · rw [had] at hb
                      cases hb
                      rw [List.getElem?_map, Option.map_eq_some_iff] at hj
                      obtain ⟨n, hn, rfl⟩ := hj
                      have := hr j n hn
                      rw [Addr.add_lit]
                      simpa [Rd, Ty.size] using this)
                  simpa using this
                cases ad with
                | none =>
                  rcases hc3 with rfl | ⟨b, p, hb, _⟩
                  · rfl
                  · cases hb
                | some ad => rw [← bytes_fold]; exact run_bytesToString w ad xs.length cap xs (hload ad rfl)
              simp only [Go.execOp, ho, hv, convert, Sem.run_bind, run_underlying hus, run_underlying hu, run_underlying hue, Result.andThen_ok, hrun]
              rfl
            · cases he
        · cases he
      · cases he
    · cases he
  · cases he
end
end Go.M
namespace Go.M
open Go

section
variable {S : Start} {φ : Nat → Pl} {σ : St} {a : Act} {w : World} {o : Oper} {e : Eff} {T : TypeId → Option TI}

theorem RdS.eq {ok : Nat → Prop} {t : Ty} {xs : List t.den} {v : Value} (h : RdS w ok t xs v) : ∃ ad cap, v = .slice ad xs.length cap ∧ xs.length ≤ cap ∧ cap ≤ maxLen ∧
    (xs = [] ∨ ∃ b p, ad = some ⟨b, p, none⟩ ∧ ok b ∧ ∀ (i : Nat) (x : t.den), xs[i]? = some x → Rd w ok t x (fun j => w.cell? ⟨b, p + i * t.size + j, none⟩)) := by
  obtain ⟨ad, cap, hv, h1, h2, h3⟩ := h
  exact ⟨ad, cap, by simpa using hv, h1, h2, h3⟩

theorem idx_some {α : Type} {xs : List α} {i : Int} {x : α} (h : idx xs i = some x) : 0 ≤ i ∧ i < xs.length ∧ xs[i.toNat]? = some x := by
  unfold idx at h
  cases hd : decide (0 ≤ i) with
  | false => rw [hd] at h; cases h
  | true =>
    rw [hd] at h
    simp only [cond_true] at h
    have h0 : 0 ≤ i := by simpa using hd
    have := (List.getElem?_eq_some_iff.1 h).1
    exact ⟨h0, by omega, h⟩

theorem q_indexAddr (hT : TOK S.P T) (h : Rel S φ σ a w) {xt : TypeId} {x i : Operand} (ho : o.op = .indexAddr xt x i)
    (he : (indexAddrStep T σ.objs xt (val T σ.slots xt x) (val T σ.slots 3 i)).yields e) : Quiet S φ σ a w o e := by
  have hx := val_RAV h T xt x
  have hi := val_RAV h T 3 i
  unfold indexAddrStep at he
  split at he
  · rename_i k n hie
    have hn := int_of hie hi
    split at he
    · rename_i t xs hxe
      rw [hxe] at hx
      cases hs : elemSize T xt t.size with
      | false => rw [hs] at he; cases he
      | true =>
        rw [hs] at he
        obtain ⟨x0, hix, rfl⟩ := he
        obtain ⟨h0, hlt, hget⟩ := idx_some hix
        obtain ⟨el, inf, hu, hinf, hsz⟩ := kind_slice hT hs
        obtain ⟨ad, cap, hv, h1, h2, h3⟩ := RdS.eq (show RdS w _ t xs (a.eval x) from hx)
        rcases h3 with rfl | ⟨b, p, rfl, hok, hr⟩
        · simp at hget
        · refine Quiet.mk' rfl (v := .pointer (some ⟨b, p + n.toNat * t.size, none⟩)) ?_ ⟨b, p + n.toNat * t.size, by simp, hok, hr n.toNat x0 hget⟩
          simp [Go.execOp, ho, hn, hv, Instr.indexAt, asIntOf, run_underlying hu, h0, hlt, sizeOf, typeInfo, hinf, hsz, Addr.add_lit]
    · rename_i o' ver off len hxe
      rw [hxe] at hx
      split at he
      · rename_i y hy
        obtain ⟨hy0, hver⟩ := cur?_some hy
        split at he
        · rename_i t xs hb
          cases hs : elemSize T xt t.size with
          | false => rw [hs] at he; cases he
          | true =>
            rw [hs] at he
            obtain ⟨x0, hix, rfl⟩ := he
            obtain ⟨h0, hlt, hget⟩ := idx_some hix
            obtain ⟨el, inf, hu, hinf, hsz⟩ := kind_slice hT hs
            obtain ⟨_, y', g1, _, g2⟩ := hx
            have : y' = y := by have hh : σ.objs o' = some y' := g1; rw [hy0] at hh; cases hh; rfl
            subst this
            have hsl := g2 hver
            rw [hb] at hsl
            cases hp : (envOf S φ σ.objs w).φ o' with
            | none =>
              rw [hp] at hsl
              obtain ⟨rfl, _⟩ := hsl
              have hw : win off len ([] : List t.den) = [] := by cases len <;> cases off <;> simp [win, drop']
              rw [hw] at hget
              simp at hget
            | some bp =>
              obtain ⟨b, p⟩ := bp
              rw [hp] at hsl
              obtain ⟨q, cap, hv, k1, k2, k3, k4⟩ := hsl
              have hq : q = p + off * t.size := by
                rcases k3 with k3 | k3
                · have := List.getElem?_eq_some_iff.1 hget
                  obtain ⟨hl, _⟩ := this
                  omega
                · exact k3
              refine Quiet.mk' rfl (v := .pointer (some ⟨b, q + n.toNat * t.size, none⟩)) ?_ ⟨⟨_, rfl⟩, y', hy0, .inr ⟨hver.symm, Nat.le_refl _⟩, fun _ _ => ⟨b, p, xs, hp, ?_, hb, ?_⟩⟩
              · simp [Go.execOp, ho, hn, hv, Instr.indexAt, asIntOf, run_underlying hu, h0, hlt, sizeOf, typeInfo, hinf, hsz, Addr.add_lit]
              · simp only [Value.pointer.injEq, Option.some.injEq, Addr.mk.injEq, true_and, and_true, Nat.add_zero]
                rw [hq, Nat.add_mul]; omega
              · rw [Nat.add_comm]; exact win_get hget
        · cases he
      · cases he
    · rename_i o' off hxe
      rw [hxe] at hx
      split at he
      · rename_i ti hti
        split at he
        · rename_i len el hk
          split at he
          · rename_i ei hei
            obtain ⟨hb, rfl⟩ := he
            simp only [Bool.and_eq_true, decide_eq_true_eq] at hb
            have hu := (hT xt ti hti).kind
            rw [hk] at hu
            have hu : S.P.underlying xt = some (.array len el) := hu
            obtain ⟨inf, z, hinf, hsz, _⟩ := (hT el ei hei).info
            obtain ⟨b, p, y, cs, g1, g2, g3, g4⟩ := hx
            refine Quiet.mk' rfl (v := .pointer (some ⟨b, p + off + n.toNat * ei.size, none⟩)) ?_ ⟨b, p, y, cs, g1, g2, g3, by simp [Nat.add_assoc]⟩
            simp [Go.execOp, ho, hn, g4, Instr.indexAt, asIntOf, run_underlying hu, hb.1, hb.2, sizeOf, typeInfo, hinf, hsz, Addr.add_lit, Instr.sureAddr]
          · cases he
        · cases he
      · cases he
    · cases he
  · cases he

theorem q_len (hT : TOK S.P T) (h : Rel S φ σ a w) {x : Operand} {t : TypeId} {ty : TypeId} {args : Array Operand} {ats : Array TypeId} (hargs : args.toList = [x]) (hats : ats.toList = [t])
    (ho : o.op = .call { callee := .builtin .len, args := args, argTypes := ats })
    (he : (match val T σ.slots t x with
        | .v (.one (.str s)) => bif isStr T t then pureE (one (.int .i64 (toInt s.size))) else Step.fail
        | .v (.one c) => bif isSlice T t then (match sliceLen σ.objs c with
          | some (n, rs) => .done ⟨one (.int .i64 (toInt n)), [], rs⟩
          | none => .fail) else .fail
        | _ => .fail).yields e) : Quiet S φ σ a w o e := by
  have hx := val_RAV h T t x
  have ea : args = #[x] := by apply Array.toList_inj.1; simpa using hargs
  have et : ats = #[t] := by apply Array.toList_inj.1; simpa using hats
  subst ea
  subst et
  split at he
  · rename_i s hxe
    have hv := str_of hxe hx
    cases hb : isStr T t with
    | false => rw [hb] at he; cases he
    | true =>
      rw [hb] at he
      cases he
      have hu := kind_str hT hb
      exact Quiet.mk' rfl (v := .int .i64 s.size) (by simp [Go.execOp, ho, resolve, invoke, builtin, Builtin.len_, run_underlying hu, hv, goInt]) rfl
  · rename_i c _ hxe
    rw [hxe] at hx
    cases hb : isSlice T t with
    | false => rw [hb] at he; cases he
    | true =>
      rw [hb] at he
      obtain ⟨el, hu⟩ := kind_slice' hT hb
      have fin : ∀ {ad : Option Addr} {n cap : Nat}, a.eval x = .slice ad n cap → (Go.execOp a.eval o).run S.P w = .ok (.value (.int .i64 n)) w := fun hv => by
        simp [Go.execOp, ho, resolve, invoke, builtin, Builtin.len_, run_underlying hu, hv, goInt]
      simp only [cond_true] at he
      split at he
      · rename_i n rs hn
        cases he
        cases c with
        | nils t' =>
          simp only [sliceLen, Option.some.injEq, Prod.mk.injEq] at hn
          obtain ⟨rfl, rfl⟩ := hn
          exact Quiet.mk' rfl (fin hx) rfl
        | tr t' xs =>
          simp only [sliceLen, Option.some.injEq, Prod.mk.injEq] at hn
          obtain ⟨rfl, rfl⟩ := hn
          obtain ⟨ad, cap, hv, _⟩ := RdS.eq (show RdS w _ t' xs (a.eval x) from hx)
          exact Quiet.mk' rfl (fin hv) rfl
        | sl o' ver off len =>
          simp only [sliceLen] at hn
          split at hn
          · rename_i y hy
            obtain ⟨hy0, hver⟩ := cur?_some hy
            split at hn
            · rename_i t' xs hbd
              cases hn
              obtain ⟨_, y', g1, _, g2⟩ := hx
              have : y' = y := by have hh : σ.objs o' = some y' := g1; rw [hy0] at hh; cases hh; rfl
              subst this
              obtain ⟨ad, cap, hv, _⟩ := RdS.eq (sl_read (h.objs.ok o' y' hy0) hbd (g2 hver) (fun _ => True) (fun _ _ => trivial) fun _ _ _ => trivial)
              exact Quiet.mk' rfl (fin hv) rfl
            · cases hn
          · cases hn
        | _ => cases hn
      · cases he
  · cases he

theorem q_minmax (h : Rel S φ σ a w) {x y : Operand} {t t' : TypeId} {mx : Bool} {args : Array Operand} {ats : Array TypeId} (hargs : args.toList = [x, y])
    (ho : o.op = .call { callee := .builtin (if mx = true then .max else .min), args := args, argTypes := ats })
    (he : (minmax mx (val T σ.slots t x) (val T σ.slots t' y)).yields e) : Quiet S φ σ a w o e := by
  have hx := val_RAV h T t x
  have hy := val_RAV h T t' y
  have ea : args = #[x, y] := by apply Array.toList_inj.1; simpa using hargs
  subst ea
  unfold minmax at he
  split at he
  · rename_i k m hxe
    split at he
    · rename_i k' n hye
      have e1 := int_of hxe hx
      have e2 := int_of hye hy
      cases he
      cases mx with
      | true =>
        refine Quiet.mk' rfl (v := .int k (if n > m then n else m)) (by simp [Go.execOp, ho, resolve, invoke, builtin, Builtin.max_, Builtin.max2, e1, e2]) ?_
        show Value.int k _ = Value.int k _
        by_cases hc : n > m <;> simp [hc]
      | false =>
        refine Quiet.mk' rfl (v := .int k (if n < m then n else m)) (by simp [Go.execOp, ho, resolve, invoke, builtin, Builtin.min_, Builtin.min2, e1, e2]) ?_
        show Value.int k _ = Value.int k _
        by_cases hc : n < m <;> simp [hc]
    · cases he
  · cases he

theorem caps_ok (h : Rel S φ σ a w) : ∀ {l : List Operand} {caps : List (Nat × Nat)}, capsOf σ.slots l = some caps → CapsOK (envOf S φ σ.objs w) caps (l.map a.eval)
  | [], _, hc => by cases hc; rfl
  | .tmp t :: r, caps, hc => by
    simp only [capsOf] at hc
    split at hc
    · rename_i o' off ht
      split at hc
      · rename_i l hl
        cases hc
        have hs := h.slots t
        rw [ht] at hs
        obtain ⟨b, p, y, cs, g1, g2, g3, g4⟩ := hs
        exact ⟨b, p, y, cs, _, g1, g2, g3, by simp [Act.eval, g4], caps_ok h hl⟩
      · cases hc
    · cases hc
  | .const _ :: _, _, hc => by cases hc
  | .global _ :: _, _, hc => by cases hc
  | .func _ :: _, _, hc => by cases hc

theorem q_makeFunc (h : Rel S φ σ a w) {fn : Fn} {first captured : Array Operand} (ho : o.op = .makeFunc fn first captured)
    (he : (match fn with
    | .func g => match first.toList with
      | [] => match capsOf σ.slots captured.toList with
        | some l => pureE (one (.fn g l))
        | none => Step.fail
      | _ => .fail
    | _ => .fail).yields e) : Quiet S φ σ a w o e := by
  split at he
  · rename_i g
    split at he
    · rename_i hf
      split at he
      · rename_i l hl
        cases he
        have hc := caps_ok h hl
        have ef : first = #[] := by apply Array.toList_inj.1; simpa using hf
        subst ef
        refine Quiet.mk' rfl (v := .func (.func g) #[] (captured.map a.eval)) (by simp [Go.execOp, ho, Instr.makeFunc]) ⟨_, hc, ?_⟩
        congr 1
        apply Array.toList_inj.1
        simp
      · cases he
    · cases he
  · cases he
end
end Go.M
namespace Go.M
open Go

theorem drop'_eq {α : Type} (n : Nat) (xs : List α) : drop' n xs = xs.drop n := by cases n <;> simp [drop']
theorem win_len {α : Type} (off : Nat) (len : Option Nat) (xs : List α) : (win off len xs).length = match len with | none => xs.length - off | some n => min n (xs.length - off) := by
  cases len <;> simp [win, drop'_eq]

section
variable {S : Start} {φ : Nat → Pl} {σ : St} {a : Act} {w : World} {o : Oper} {e : Eff} {T : TypeId → Option TI}

theorem optInt_none {x : Option Operand} (h : optInt T σ.slots x = some none) : x = none := by
  cases x with
  | none => rfl
  | some x => simp only [optInt] at h; split at h <;> cases h
theorem optInt_some (hr : Rel S φ σ a w) {x : Option Operand} {n : Int} (h : optInt T σ.slots x = some (some n)) : ∃ y k, x = some y ∧ a.eval y = .int k n := by
  cases x with
  | none => cases h
  | some x =>
    simp only [optInt] at h
    split at h
    · rename_i k m hm; cases h; exact ⟨x, k, rfl, int_of hm (val_RAV hr T 3 x)⟩
    · cases h

theorem lohi_facts {n : Nat} {l h : Option Int} (hok : lohiOk (toInt n) l h = true) : match l, h with
    | none, none => True
    | none, some h => 0 ≤ h ∧ h ≤ (n : Int)
    | some l, none => 0 ≤ l ∧ l ≤ (n : Int)
    | some l, some h => ((0 ≤ h ∧ h ≤ (n : Int)) ∧ 0 ≤ l) ∧ l ≤ h := by
  have e : toInt n = (n : Int) := rfl
  rw [e] at hok
  generalize (n : Int) = m at *
  cases l <;> cases h <;> first | trivial | (simpa only [lohiOk, Bool.and_eq_true, decide_eq_true_eq] using hok)

/-- The bounds that a cut comes to. -/
def loN (l : Option Int) : Nat := match l with | some l => l.toNat | none => 0
def hiN (len : Nat) (h : Option Int) : Nat := match h with | some h => h.toNat | none => len

theorem run_cut (hr : Rel S φ σ a w) {xt : TypeId} {x : Operand} {lo hi : Option Operand} (ho : o.op = .slice xt x lo hi none) {l h : Option Int} (hl : optInt T σ.slots lo = some l) (hh : optInt T σ.slots hi = some h)
    {el : TypeId} {inf : TypeInfo} (hu : S.P.underlying xt = some (.slice el)) (hinf : S.P.info? el = some inf) {ad : Option Addr} {len cap : Nat} (hv : a.eval x = .slice ad len cap) (hc : len ≤ cap)
    (hok : lohiOk (toInt len) l h = true) :
    loN l ≤ hiN len h ∧ hiN len h ≤ len ∧
    (Go.execOp a.eval o).run S.P w = .ok (.value (.slice (if cap = loN l then ad else ad.map (·.add (loN l * inf.size))) (hiN len h - loN l) (cap - loN l))) w := by
  cases l with
  | none =>
    have := optInt_none hl
    subst this
    cases h with
    | none =>
      have := optInt_none hh
      subst this
      exact ⟨by simp [loN], by simp [hiN], by simp [Go.execOp, ho, hv, Instr.sliceAt, Instr.slice, run_underlying hu, Instr.sliceBounds, sizeOf, typeInfo, hinf, loN, hiN]⟩
    | some h =>
      obtain ⟨y, k, rfl, hy⟩ := optInt_some hr hh
      replace hok := lohi_facts hok
      have h2 : h ≤ (cap : Int) := by omega
      exact ⟨by simp [loN], by simp [hiN]; omega, by
        simp [Go.execOp, ho, hv, hy, Instr.sliceAt, Instr.slice, run_underlying hu, Instr.sliceBounds, run_sliceBound _ _ _ _ _ hok.1 h2, sizeOf, typeInfo, hinf, loN, hiN]⟩
  | some l =>
    obtain ⟨z, kz, rfl, hz⟩ := optInt_some hr hl
    cases h with
    | none =>
      have := optInt_none hh
      subst this
      replace hok := lohi_facts hok
      exact ⟨by simp [loN, hiN]; omega, by simp [hiN], by
        simp [Go.execOp, ho, hv, hz, Instr.sliceAt, Instr.slice, run_underlying hu, Instr.sliceBounds, run_sliceBound _ _ _ _ _ hok.1 hok.2, sizeOf, typeInfo, hinf, loN, hiN]; by_cases hcc : cap = l.toNat <;> simp [hcc]⟩
    | some h =>
      obtain ⟨y, k, rfl, hy⟩ := optInt_some hr hh
      replace hok := lohi_facts hok
      obtain ⟨⟨⟨h0, h1⟩, h2⟩, h3⟩ := hok
      have h4 : h ≤ (cap : Int) := by omega
      have h5 : l ≤ (h.toNat : Int) := by omega
      exact ⟨by simp [loN, hiN]; omega, by simp [hiN]; omega, by
        simp [Go.execOp, ho, hv, hz, hy, Instr.sliceAt, Instr.slice, run_underlying hu, Instr.sliceBounds, run_sliceBound _ _ _ _ _ h0 h4, run_sliceBound _ _ _ _ _ h2 h5, sizeOf, typeInfo, hinf, loN, hiN]; by_cases hcc : cap = l.toNat <;> simp [hcc]⟩

theorem lohi_eq {α : Type} (xs : List α) (l h : Option Int) : lohi xs l h = (xs.take (hiN xs.length h)).drop (loN l) := by
  cases l <;> cases h <;> simp [lohi, hiN, loN]

theorem RdS.cut {ok : Nat → Prop} {t : Ty} {xs : List t.den} {ad : Option Addr} {cap l h : Nat} (hr : RdS w ok t xs (.slice ad xs.length cap)) (h1 : l ≤ h) (h2 : h ≤ xs.length) {size : Nat} (hs : size = t.size) :
    RdS w ok t ((xs.take h).drop l) (.slice (if cap = l then ad else ad.map (·.add (l * size))) (h - l) (cap - l)) := by
  obtain ⟨ad', cap', hv, g1, g2, g3⟩ := RdS.eq hr
  cases hv
  have hlen : ((xs.take h).drop l).length = h - l := by simp; omega
  refine ⟨_, cap - l, by rw [hlen], by rw [hlen]; omega, by omega, ?_⟩
  by_cases hne : (xs.take h).drop l = []
  · exact .inl hne
  · have hpos : 0 < h - l := by rw [← hlen]; exact List.length_pos_iff.2 hne
    rcases g3 with rfl | ⟨b, p, rfl, hb, hx⟩
    · simp at hne
    · refine .inr ⟨b, p + l * t.size, ?_, hb, fun i x hi => ?_⟩
      · rw [if_neg (by omega), hs]; simp [Addr.add_lit]
      · rw [List.getElem?_drop, List.getElem?_take] at hi
        split at hi
        · have := hx (l + i) x hi
          refine this.congr fun j v _ hv => ?_
          rw [show p + l * t.size + i * t.size + j = p + (l + i) * t.size + j by rw [Nat.add_mul]; omega]
          exact hv
        · cases hi

theorem SlOK.cut {pl : Pl} {t : Ty} {xs : List t.den} {off : Nat} {len : Option Nat} {ad : Option Addr} {n cap : Nat} {lo hi : Option Int} (hs : SlOK w pl (.arr t xs) off len (.slice ad n cap)) (hn : n = (win off len xs).length)
    (h1 : loN lo ≤ hiN n hi) (h2 : hiN n hi ≤ n) {size : Nat} (hsz : size = t.size) :
    SlOK w pl (.arr t xs) (subWin off len lo hi).1 (subWin off len lo hi).2 (.slice (if cap = loN lo then ad else ad.map (·.add (loN lo * size))) (hiN n hi - loN lo) (cap - loN lo)) := by
  subst hsz
  cases pl with
  | none =>
    obtain ⟨rfl, ad0, hv⟩ := hs
    cases hv
    have hw : win off len ([] : List t.den) = [] := by cases len <;> simp [win, drop'_eq]
    have h3 : hiN 0 hi = 0 := by omega
    have h4 : loN lo = 0 := by omega
    rw [h3, h4]
    exact ⟨rfl, _, rfl⟩
  | some bp =>
    obtain ⟨b, p⟩ := bp
    obtain ⟨q, c, hv, k1, k2, k3, k4⟩ := hs
    cases hv
    have hlen : (win (subWin off len lo hi).1 (subWin off len lo hi).2 xs).length = hiN (win off len xs).length hi - loN lo := by
      have hL := win_len off len xs
      have hW := win_len (subWin off len lo hi).1 (subWin off len lo hi).2 xs
      rw [hW]
      cases lo with
      | none =>
        cases hi with
        | none => simp only [subWin, loN, hiN, Nat.sub_zero]; exact hL.symm
        | some h => simp only [subWin, loN, hiN, Nat.sub_zero] at *; cases len <;> simp only at hL <;> omega
      | some l =>
        cases hi with
        | none => cases len <;> simp only [subWin, loN, hiN] at * <;> omega
        | some h => cases len <;> simp only [subWin, loN, hiN] at * <;> omega
    have hoff : (subWin off len lo hi).1 = off + loN lo := by cases lo <;> cases hi <;> rfl
    have hsz := Ty.size_pos t
    by_cases hc : cap = loN lo
    · rw [if_pos hc]
      refine ⟨q, cap - loN lo, by rw [hlen], by rw [hlen]; omega, by omega, .inl (by omega), ?_⟩
      have : (cap - loN lo) * t.size ≤ cap * t.size := Nat.mul_le_mul_right _ (by omega)
      omega
    · rw [if_neg hc]
      have hq : q = p + off * t.size := by
        rcases k3 with k3 | k3
        · omega
        · exact k3
      refine ⟨q + loN lo * t.size, cap - loN lo, by rw [hlen]; simp [Addr.add_lit], by rw [hlen]; omega, by omega, .inr ?_, ?_⟩
      · rw [hoff, hq, Nat.add_mul]; omega
      · rw [Nat.add_assoc, ← Nat.add_mul, Nat.add_sub_cancel' (by omega)]; exact k4

theorem str_cut (hr : Rel S φ σ a w) {xt : TypeId} {x : Operand} {lo hi : Option Operand} (ho : o.op = .slice xt x lo hi none) {l h : Option Int} (hl : optInt T σ.slots lo = some l) (hh : optInt T σ.slots hi = some h)
    (hu : S.P.underlying xt = some .string) {s : ByteArray} (hv : a.eval x = .string s) (hok : lohiOk (toInt s.size) l h = true) :
    (Go.execOp a.eval o).run S.P w = .ok (.value (.string (strCut s l h))) w := by
  cases l with
  | none =>
    have := optInt_none hl
    subst this
    cases h with
    | none =>
      have := optInt_none hh
      subst this
      simp [Go.execOp, ho, hv, Instr.sliceAt, Instr.slice, run_underlying hu, Instr.sliceBounds, strCut]
    | some h =>
      obtain ⟨y, k, rfl, hy⟩ := optInt_some hr hh
      replace hok := lohi_facts hok
      simp [Go.execOp, ho, hv, hy, Instr.sliceAt, Instr.slice, run_underlying hu, Instr.sliceBounds, run_sliceBound _ _ _ _ _ hok.1 hok.2, strCut]
  | some l =>
    obtain ⟨z, kz, rfl, hz⟩ := optInt_some hr hl
    cases h with
    | none =>
      have := optInt_none hh
      subst this
      replace hok := lohi_facts hok
      simp [Go.execOp, ho, hv, hz, Instr.sliceAt, Instr.slice, run_underlying hu, Instr.sliceBounds, run_sliceBound _ _ _ _ _ hok.1 hok.2, strCut]
    | some h =>
      obtain ⟨y, k, rfl, hy⟩ := optInt_some hr hh
      replace hok := lohi_facts hok
      obtain ⟨⟨⟨h0, h1⟩, h2⟩, h3⟩ := hok
      have h5 : l ≤ (h.toNat : Int) := by omega
      simp [Go.execOp, ho, hv, hz, hy, Instr.sliceAt, Instr.slice, run_underlying hu, Instr.sliceBounds, run_sliceBound _ _ _ _ _ h0 h1, run_sliceBound _ _ _ _ _ h2 h5, strCut]

theorem q_slice (hT : TOK S.P T) (hr : Rel S φ σ a w) {xt : TypeId} {x : Operand} {lo hi : Option Operand} (ho : o.op = .slice xt x lo hi none)
    (he : (sliceStep T σ.slots σ.objs xt (val T σ.slots xt x) lo hi).yields e) : Quiet S φ σ a w o e := by
  have hx := val_RAV hr T xt x
  unfold sliceStep at he
  split at he
  · rename_i l hl
    split at he
    · rename_i h hh
      split at he
      · rename_i s hxe
        have hv := str_of hxe hx
        cases hs : isStr T xt with
        | false => rw [hs] at he; cases he
        | true =>
          rw [hs] at he
          obtain ⟨hok, rfl⟩ := he
          exact Quiet.mk' rfl (str_cut hr ho hl hh (kind_str hT hs) hv hok) rfl
      · rename_i t xs hxe
        rw [hxe] at hx
        cases hs : elemSize T xt t.size with
        | false => rw [hs] at he; cases he
        | true =>
          rw [hs] at he
          obtain ⟨hok, rfl⟩ := he
          obtain ⟨el, inf, hu, hinf, hsz⟩ := kind_slice hT hs
          have hx' : RdS w _ t xs (a.eval x) := hx
          obtain ⟨ad, cap, hv, g1, _⟩ := RdS.eq hx'
          obtain ⟨k1, k2, k3⟩ := run_cut hr ho hl hh hu hinf hv g1 hok
          rw [hv] at hx'
          refine Quiet.mk' rfl k3 ?_
          have := hx'.cut k1 k2 hsz
          rw [← lohi_eq] at this
          exact this
      · rename_i t hxe
        rw [hxe] at hx
        cases hs : elemSize T xt t.size with
        | false => rw [hs] at he; cases he
        | true =>
          rw [hs] at he
          obtain ⟨hok, rfl⟩ := he
          obtain ⟨el, inf, hu, hinf, hsz⟩ := kind_slice hT hs
          obtain ⟨k1, k2, k3⟩ := run_cut hr ho hl hh hu hinf (show a.eval x = .slice none 0 0 from hx) (Nat.le_refl _) hok
          refine Quiet.mk' rfl k3 ?_
          have h3 : hiN 0 h = 0 := by omega
          have h4 : loN l = 0 := by omega
          rw [h3, h4]
          rfl
      · rename_i o' ver off len hxe
        rw [hxe] at hx
        split at he
        · rename_i y hy
          obtain ⟨hy0, hver⟩ := cur?_some hy
          split at he
          · rename_i t xs hb
            cases hs : elemSize T xt t.size with
            | false => rw [hs] at he; cases he
            | true =>
              rw [hs] at he
              obtain ⟨hok, rfl⟩ := he
              obtain ⟨el, inf, hu, hinf, hsz⟩ := kind_slice hT hs
              obtain ⟨_, y', g1, _, g2⟩ := hx
              have : y' = y := by have hh : σ.objs o' = some y' := g1; rw [hy0] at hh; cases hh; rfl
              subst this
              have hsl := g2 hver
              rw [hb] at hsl
              obtain ⟨ad, cap, hv, m1, _⟩ := RdS.eq (sl_read (hr.objs.ok o' y' hy0) hb (g2 hver) (fun _ => True) (fun _ _ => trivial) fun _ _ _ => trivial)
              obtain ⟨k1, k2, k3⟩ := run_cut hr ho hl hh hu hinf hv m1 hok
              rw [hv] at hsl
              refine Quiet.mk' rfl k3 ⟨⟨_, _, _, rfl⟩, y', hy0, Nat.le_of_eq hver.symm, fun _ => ?_⟩
              rw [hb]
              exact hsl.cut rfl k1 k2 hsz
          · cases he
        · cases he
      · cases he
    · cases he
  · cases he
end
end Go.M
namespace Go.M
open Go

theorem Body.sim_trans {a b c : Body} (h1 : a.sim b) (h2 : b.sim c) : a.sim c := by
  cases a <;> cases b <;> cases c <;> simp_all [Body.sim]
theorem ObjStep.trans {φ φ' φ'' : Nat → Pl} {o : Nat} {y y' y'' : Obj} (h1 : ObjStep φ φ' o y y') (h2 : ObjStep φ' φ'' o y' y'') : ObjStep φ φ'' o y y'' where
  ver := Nat.le_trans h1.ver h2.ver
  wv := fun h => by
    have a := h1.ver
    have b := h2.ver
    exact Nat.le_trans (h1.wv (by omega)) (h2.wv (by omega))
  sim := fun h => by
    have a := h1.ver
    have b := h2.ver
    obtain ⟨g1, g2⟩ := h1.sim (by omega)
    obtain ⟨g3, g4⟩ := h2.sim (by omega)
    exact ⟨g3.trans g1, Body.sim_trans g2 g4⟩
  same := fun h hw => by
    have a := h1.ver
    have b := h2.ver
    have e1 : y'.ver = y.ver := by omega
    have e2 : y''.ver = y'.ver := by omega
    have c := h1.wv e1
    have d := h2.wv e2
    rcases h1.same e1 (by omega) with g | g
    · rcases h2.same e2 (by omega) with k | ⟨cs, k⟩
      · exact .inl (k.trans g)
      · exact .inr ⟨cs, g ▸ k⟩
    · exact .inr g
  box := fun cs h => by
    obtain ⟨g1, cs', g2⟩ := h1.box cs h
    obtain ⟨g3, cs'', g4⟩ := h2.box cs' g2
    exact ⟨g3.trans g1, cs'', g4⟩

theorem EnvStep.trans {E E' E'' : Env} (h1 : EnvStep E E') (h2 : EnvStep E' E'') : EnvStep E E'' where
  objs := fun o y hy => by
    obtain ⟨y', g1, g2⟩ := h1.objs o y hy
    obtain ⟨y'', g3, g4⟩ := h2.objs o y' g1
    exact ⟨y'', g3, g2.trans g4⟩
  ok := fun b hb hlt => by
    obtain ⟨g1, g2⟩ := h1.ok b hb hlt
    have hlt' : b < E'.w.heap.size := by
      rw [Array.getElem?_eq_getElem hlt] at g2
      exact (Array.getElem?_eq_some_iff.1 g2).1
    obtain ⟨g3, g4⟩ := h2.ok b g1 hlt'
    exact ⟨g3, g4.trans g2⟩
  bsz := fun b => Nat.le_trans (h1.bsz b) (h2.bsz b)

structure Keep (S : Start) (φ φ' : Nat → Pl) (L L' : Look) (w w' : World) : Prop where
  env : EnvStep (envOf S φ L w) (envOf S φ' L' w')
  objs : Objs S φ' L' w'
  frame : Frame1 S w'
theorem OStep.keep {S : Start} {φ φ' : Nat → Pl} {L L' : Look} {w w' : World} {Sx Ch : Nat → Prop} (h : OStep S φ φ' L L' w w' Sx Ch) (ho : Objs S φ L w) (hf : Frame1 S w) : Keep S φ φ' L L' w w' :=
  ⟨h.env, h.objs ho hf.size, hf.step h ho⟩
theorem Keep.trans {S : Start} {φ φ' φ'' : Nat → Pl} {L L' L'' : Look} {w w' w'' : World} (h1 : Keep S φ φ' L L' w w') (h2 : Keep S φ' φ'' L' L'' w' w'') : Keep S φ φ'' L L'' w w'' :=
  ⟨h1.env.trans h2.env, h2.objs, h2.frame⟩

theorem Rel.keep {S : Start} {φ φ' : Nat → Pl} {σ : St} {a : Act} {w w' : World} (h : Rel S φ σ a w) {L' : Look} (ho : Keep S φ φ' σ.objs L' w w')
    {d : Option Nat} {x : AV} {v : Value} (hd : dstOk S.nt d = true) (hx : RAV (envOf S φ' L' w') x v) (base : Nat) :
    Rel S φ' ⟨putD σ.slots d x, L', base⟩ (a.put d v) w' := by
  refine ⟨by rw [put_size]; exact h.nt, by rw [put_defers]; exact h.defers, fun i => ?_, ho.objs, ho.frame⟩
  have hs := (h.slots i).step ho.env
  rw [getD_put]
  show RAV _ (putD σ.slots d x i) _
  rw [putD_at]
  cases d with
  | none => exact hs
  | some d =>
    have hlt : d < a.tmps.size := by rw [h.nt]; simpa [dstOk] using hd
    by_cases hi : i = d
    · subst hi; simpa [hlt] using hx
    · simpa [hi] using hs

/-- **What an operation does is what the evaluator says.** -/
def OpOK (S : Start) (φ : Nat → Pl) (σ : St) (a : Act) (w : World) (o : Oper) (e : Eff) : Prop :=
  ∀ (K : Act → World → Prop) (Q : Exit → Act → World → Prop),
    (∀ v w' φ', Keep S φ φ' σ.objs (putO σ.objs e.puts) w w' → RAV (envOf S φ' (putO σ.objs e.puts) w') e.val v → K (a.put o.dst v) w') → o.wp S.P a w K Q

section
variable {S : Start} {φ : Nat → Pl} {σ : St} {a : Act} {w : World} {o : Oper} {e : Eff} {T : TypeId → Option TI}

theorem OpOK.of_value {v : Value} {w' : World} {φ' : Nat → Pl} (hr : (Go.execOp a.eval o).run S.P w = .ok (.value v) w')
    (hk : Keep S φ φ' σ.objs (putO σ.objs e.puts) w w') (hv : RAV (envOf S φ' (putO σ.objs e.puts) w') e.val v) : OpOK S φ σ a w o e := by
  intro K Q h
  unfold Oper.wp
  rw [hr, Oper.upon_value]
  exact h v w' φ' hk hv
theorem OpOK.of_skip {w' : World} {φ' : Nat → Pl} (hr : (Go.execOp a.eval o).run S.P w = .ok .skip w')
    (hk : Keep S φ φ' σ.objs (putO σ.objs e.puts) w w') (hv : e.val = .dead) : OpOK S φ σ a w o e := by
  intro K Q h
  unfold Oper.wp
  rw [hr, Oper.upon_skip]
  exact h undef w' φ' hk (by rw [hv]; trivial)
theorem Quiet.ok (hr : Rel S φ σ a w) (h : Quiet S φ σ a w o e) : OpOK S φ σ a w o e := by
  obtain ⟨hp, v, n, h1, h2⟩ := h
  have hk := (OStep.quiet S φ σ.objs w n).keep hr.objs hr.frame
  refine OpOK.of_value (φ' := φ) h1 (by rw [hp]; exact hk) (by rw [hp]; exact h2.step hk.env)

def setP (φ : Nat → Pl) (nm : Nat) (pl : Pl) : Nat → Pl := fun o => if o = nm then pl else φ o

theorem putO_one (L : Look) (nm : Nat) (y : Obj) : putO L [(nm, y)] = fun i => if i = nm then some y else L i := by
  funext i
  by_cases h : i = nm
  · subst h; simp [putO]
  · simp [putO, h, nat_beq_false h]

/-- A new object, in a new block or in none. -/
theorem OStep.fresh {L : Look} {w w' : World} {nm : Nat} (hO : Objs S φ L w) (hn : L nm = none) (ws : WStep w w' (fun _ => False)) (y : Obj) (pl : Pl)
    (hb : ∀ b p, pl = some (b, p) → w.heap.size ≤ b ∧ b < w'.heap.size)
    (hok : EnvStep (envOf S φ L w) (envOf S (setP φ nm pl) (putO L [(nm, y)]) w') → ObjOK (envOf S (setP φ nm pl) (putO L [(nm, y)]) w') nm y) :
    OStep S φ (setP φ nm pl) L (putO L [(nm, y)]) w w' (fun _ => False) (fun o => o = nm) where
  ws := ws
  owned := fun _ h => h.elim
  stay := fun o ho => ⟨by rw [putO_one]; simp [ho], by simp [setP, ho]⟩
  old := fun o y0 hy ho => by subst ho; rw [hn] at hy; cases hy
  unfrz := fun o y' b p _ ho _ hp hlt => by
    subst ho
    have := hb b p (by simpa [setP] using hp)
    omega
  ok := fun o y' hy' ho henv => by
    subst ho
    have : y' = y := by rw [putO_one] at hy'; simpa using hy'.symm
    subst this
    exact hok henv
  blk := fun o y' b p _ ho hp => by
    subst ho
    have := hb b p (by simpa [setP] using hp)
    exact ⟨this.2, fun hlt => by omega⟩
  inj := fun o o' _ _ _ _ _ _ _ ho ho' _ _ _ _ => ho.trans ho'.symm
  injOld := fun o y' b p _ ho _ hp hlt => by
    subst ho
    have := hb b p (by simpa [setP] using hp)
    omega
  box := fun o b p n hm ho => by
    subst ho
    obtain ⟨_, y0, cs, h, _⟩ := hO.box _ b p n hm
    rw [hn] at h; cases h
  boxW := fun _ _ _ _ _ _ _ _ h => h.elim
  arr := fun o pl n hm ho => by
    subst ho
    obtain ⟨y0, h, _⟩ := hO.arr _ pl n hm
    rw [hn] at h; cases h

theorem nodupB_iff : ∀ {l : List Nat}, nodupB l = true → l.Nodup
  | [], _ => List.nodup_nil
  | x :: r, h => by
    simp only [nodupB, Bool.and_eq_true] at h
    exact List.nodup_cons.2 ⟨by simpa using h.1, nodupB_iff h.2⟩
theorem effOk_spec {L : Look} {e : Eff} (h : effOk L e = true) : (names1 e).Nodup ∧ ∀ p ∈ e.puts, p.1 ∈ e.reads ∨ L p.1 = none := by
  simp only [effOk, Bool.and_eq_true, List.all_eq_true, Bool.or_eq_true] at h
  refine ⟨nodupB_iff h.1, fun p hp => ?_⟩
  rcases h.2 p hp with g | g
  · exact .inl (by simpa using g)
  · right
    cases hL : L p.1 with
    | none => rfl
    | some y => rw [hL] at g; cases g
end
end Go.M
namespace Go.M
open Go

theorem liveCs_mem : ∀ {cs : List C}, liveCs cs = true → ∀ (j : Nat) (c : C), cs[j]? = some c → liveC c = true
  | [], _, j, c, h => by simp at h
  | d :: r, hl, j, c, h => by
    simp only [liveCs, Bool.and_eq_true] at hl
    cases j with
    | zero => simp at h; subst h; exact hl.1
    | succ j => exact liveCs_mem hl.2 j c (by simpa using h)
theorem cells_one {v : Value} (h : v.oneCell' = true) : v.cells = #[v] := by cases v <;> first | rfl | cases h
/-- A value's cells, one by one. -/
theorem RV1.cells {E : Env} {x : V1} {v : Value} (h : RV1 E x v) (hl : liveCs (cellsV x) = true) : RCs E (cellsV x) v.cells.toList ∧ ∀ u ∈ v.cells.toList, u.oneCell' = true := by
  cases x with
  | one c =>
    have h1 := RC.one' h (liveCs_mem hl 0 c rfl)
    rw [cells_one h1]
    refine ⟨⟨rfl, fun j d u hd hu => ?_⟩, fun u hu => ?_⟩
    · cases j with
      | zero => simp [cellsV] at hd hu; subst hd; subst hu; exact h
      | succ j => simp at hu
    · simp at hu; subst hu; exact h1
  | agg cs =>
    obtain ⟨vs, rfl, hr⟩ := h
    refine ⟨hr, fun u hu => ?_⟩
    obtain ⟨j, hj⟩ := List.getElem?_of_mem hu
    obtain ⟨c, hc⟩ : ∃ c, cs[j]? = some c := by
      have := (List.getElem?_eq_some_iff.1 hj).1
      have hlen := hr.1
      exact ⟨cs[j]'(by simp only [Value.cells] at *; omega), by simp⟩
    exact RC.one' (hr.2 j c u hc hj) (liveCs_mem hl j c hc)

theorem RPs.cells {w : World} {ok : Nat → Prop} {cs : List C} {vs : List Value} (h : RPs w ok cs vs) : ∀ v ∈ vs, v.oneCell' = true := by
  intro u hu
  obtain ⟨j, hj⟩ := List.getElem?_of_mem hu
  obtain ⟨c, hc⟩ : ∃ c, cs[j]? = some c := by
    have := (List.getElem?_eq_some_iff.1 hj).1
    exact ⟨cs[j]'(by rw [← h.1]; omega), by simp⟩
  exact (h.2 j c u hc hj).one'

/-! ### Cells written over cells -/
def splice {α : Type} (xs : List α) (off : Nat) (ys : List α) : List α := xs.take off ++ ys ++ xs.drop (off + ys.length)
theorem splice_length {α : Type} {xs ys : List α} {off : Nat} (h : off + ys.length ≤ xs.length) : (splice xs off ys).length = xs.length := by
  simp only [splice, List.length_append, List.length_take, List.length_drop]; omega
theorem splice_get {α : Type} {xs ys : List α} {off : Nat} (h : off + ys.length ≤ xs.length) (j : Nat) : (splice xs off ys)[j]? = if j < off then xs[j]? else if j < off + ys.length then ys[j - off]? else xs[j]? := by
  simp only [splice, List.append_assoc, List.getElem?_append, List.length_take, List.getElem?_take, List.getElem?_drop]
  have e : min off xs.length = off := by omega
  rw [e]
  by_cases h1 : j < off
  · simp [h1]
  · rw [if_neg h1, if_neg h1]
    by_cases h2 : j < off + ys.length
    · rw [if_pos (by omega), if_pos h2]
    · rw [if_neg (by omega), if_neg h2]
      congr 1
      omega
theorem RCs.splice {E : Env} {cs ds : List C} {vs us : List Value} {off : Nat} (h1 : RCs E cs vs) (h2 : RCs E ds us) (hl : off + ds.length ≤ cs.length) : RCs E (M.splice cs off ds) (M.splice vs off us) := by
  have hl' : off + us.length ≤ vs.length := by rw [h1.1, h2.1]; exact hl
  refine ⟨by rw [splice_length hl, splice_length hl', h1.1], fun j c v hc hv => ?_⟩
  rw [splice_get hl] at hc
  rw [splice_get hl', h2.1] at hv
  by_cases g1 : j < off
  · rw [if_pos g1] at hc hv; exact h1.2 j c v hc hv
  · rw [if_neg g1] at hc hv
    by_cases g2 : j < off + ds.length
    · rw [if_pos g2] at hc hv; exact h2.2 _ c v hc hv
    · rw [if_neg g2] at hc hv; exact h1.2 j c v hc hv

theorem foldl_set (off : Nat) : ∀ (vs : List Value) (k : Nat) (cells : Array Value), off + k + vs.length ≤ cells.size →
    ((vs.zipIdx k).foldl (fun cs (x : Value × Nat) => cs.setIfInBounds (off + x.2) x.1) cells).toList = splice cells.toList (off + k) vs
  | [], k, cells, _ => by simp [splice]
  | v :: r, k, cells, h => by
    simp only [List.zipIdx_cons, List.foldl_cons]
    simp only [List.length_cons] at h
    rw [foldl_set off r (k + 1) _ (by simp; omega)]
    apply List.ext_getElem?
    intro j
    rw [splice_get (by simp; omega), splice_get (by simp; omega)]
    simp only [Array.toList_setIfInBounds, List.getElem?_set, Array.length_toList, List.length_cons]
    by_cases g1 : j < off + k
    · rw [if_pos (by omega), if_pos g1, if_neg (by omega)]
    · rw [if_neg g1]
      by_cases g2 : j = off + k
      · subst g2
        simp
        omega
      · by_cases g3 : j < off + k + (r.length + 1)
        · rw [if_neg (by omega), if_pos (by omega), if_pos g3]
          rw [show j - (off + k) = j - (off + (k + 1)) + 1 by omega]
          simp
        · rw [if_neg (by omega), if_neg (by omega), if_neg g3, if_neg (by omega)]

theorem fill_cons (place : Nat → Option (Nat × Nat)) (cells : Array Value) (i off size : Nat) (v : Value) (rest : List (Nat × Value)) (hp : place i = some (off, size)) (hs : v.cells.size = size) (hl : off + size ≤ cells.size) :
    Instr.fill place cells ((i, v) :: rest) = Instr.fill place (splice cells.toList off v.cells.toList).toArray rest := by
  simp only [Instr.fill, hp]
  rw [if_neg (by simp [hs]; omega)]
  congr 1
  apply Array.toList_inj.1
  have := foldl_set off v.cells.toList 0 cells (by simp; omega)
  simp only [Nat.add_zero] at this
  rw [← this, ← Array.foldl_toList, Array.toList_zipIdx]

section
variable {S : Start} {φ : Nat → Pl} {σ : St} {a : Act} {w : World} {o : Oper} {e : Eff} {T : TypeId → Option TI}

theorem fillC_spec (hT : TOK S.P T) (h : Rel S φ σ a w) {gs : Array Field} {places : List (Nat × Nat)} (hp : gs.toList.mapM (fun f => (S.P.info? f.type).map fun i => (f.offset, i.size)) = some places) :
    ∀ {parts : List (Nat × Operand)} {acc cs : List C} {vs : Array Value}, fillC T σ.slots (gs.toList.map fun f => (f.offset, f.type)) parts acc = some cs → RCs (envOf S φ σ.objs w) acc vs.toList →
    ∃ us : Array Value, Instr.fill (places.toArray[·]?) vs (parts.map fun p => (p.1, a.eval p.2)) = some us ∧ RCs (envOf S φ σ.objs w) cs us.toList
  | [], acc, cs, vs, hf, hr => by cases hf; exact ⟨vs, rfl, hr⟩
  | (i, x) :: r, acc, cs, vs, hf, hr => by
    simp only [fillC] at hf
    split at hf
    · rename_i off ft hi
      split at hf
      · rename_i fi hfi
        split at hf
        · rename_i v hv
          cases hc : (Nat.beq (cellsV v).length fi.size && decide (off + fi.size ≤ acc.length) && liveCs (cellsV v)) with
          | false => rw [hc] at hf; cases hf
          | true =>
            rw [hc] at hf
            simp only [Bool.and_eq_true, decide_eq_true_eq] at hc
            obtain ⟨⟨h1, h2⟩, h3⟩ := hc
            have h1 := Nat.eq_of_beq_eq_true h1
            have hx := val_RAV h T ft x
            rw [hv] at hx
            obtain ⟨k1, k2⟩ := RV1.cells hx h3
            rw [List.getElem?_map, Option.map_eq_some_iff] at hi
            obtain ⟨f, hf1, hf2⟩ := hi
            cases hf2
            obtain ⟨inf, z, m1, m2, _⟩ := (hT f.type fi hfi).info
            have hpl : places.toArray[i]? = some (f.offset, fi.size) := by
              have hlen : places[i]? = some (f.offset, fi.size) := by
                have hg : ∀ (l : List Field) (pl : List (Nat × Nat)) (i : Nat), l.mapM (fun f => (S.P.info? f.type).map fun i => (f.offset, i.size)) = some pl → l[i]? = some f → pl[i]? = some (f.offset, fi.size) := by
                  intro l
                  induction l with
                  | nil => intro pl i _ hh; simp at hh
                  | cons g l ih =>
                    intro pl i hm hh
                    simp only [List.mapM_cons, Option.bind_eq_bind, Option.pure_def, Option.bind_eq_some_iff] at hm
                    obtain ⟨q, hq, ql, hql, hqe⟩ := hm
                    cases hqe
                    cases i with
                    | zero =>
                      simp at hh
                      subst hh
                      rw [m1] at hq
                      simp at hq
                      simp [← hq, m2]
                    | succ i => simpa using ih ql i hql (by simpa using hh)
                exact hg _ _ i hp hf1
              simpa using hlen
            have hsz : (a.eval x).cells.size = fi.size := by
              have := k1.1
              rw [h1] at this
              simpa using this
            have hr1 := hr.1
            simp only [cond_true] at hf
            obtain ⟨us, g1, g2⟩ := fillC_spec hT h hp (vs := (splice vs.toList f.offset (a.eval x).cells.toList).toArray) hf (by
              have := hr.splice k1 (off := f.offset) (by rw [h1]; exact h2)
              simpa [splice, h1] using this)
            refine ⟨us, ?_, g2⟩
            simp only [List.map_cons]
            rw [fill_cons _ _ i f.offset fi.size _ _ hpl hsz (by simp at hr1; omega)]
            exact g1
        · cases hf
      · cases hf
    · cases hf

theorem zeros_RCs {E : Env} {cs : List C} {vs : List Value} (h : zerosOk cs vs = true) : RCs E cs vs ∧ ∀ v ∈ vs, v.oneCell' = true := by
  obtain ⟨h1, h2⟩ := zerosOk_spec h
  refine ⟨⟨h1, fun j c v hc hv => ?_⟩, fun v hv => ?_⟩
  · obtain ⟨u, g1, g2⟩ := h2 j c hc
    rw [hv] at g1
    cases g1
    exact (zeroVal_RC g2).1
  · obtain ⟨j, hj⟩ := List.getElem?_of_mem hv
    have hlt := (List.getElem?_eq_some_iff.1 hj).1
    obtain ⟨u, g1, g2⟩ := h2 j (cs[j]'(by omega)) (by simp)
    rw [hj] at g1
    cases g1
    exact (zeroVal_RC (E := ⟨default, fun _ => none, fun _ => none, 0, fun _ => False⟩) g2).2

theorem mapM_places : ∀ (l : List Field), (∀ f ∈ l, (S.P.info? f.type).isSome = true) → ∃ pl, l.mapM (fun f => (S.P.info? f.type).map fun i => (f.offset, i.size)) = some pl
  | [], _ => ⟨[], rfl⟩
  | f :: l, h => by
    obtain ⟨pl, hpl⟩ := mapM_places l fun g hg => h g (by simp [hg])
    obtain ⟨i, hi⟩ := Option.isSome_iff_exists.1 (h f (by simp))
    exact ⟨(f.offset, i.size) :: pl, by simp [List.mapM_cons, hi, hpl]⟩

theorem q_build (hT : TOK S.P T) (h : Rel S φ σ a w) {t : TypeId} {parts : Array (Nat × Operand)} (ho : o.op = .build t parts)
    (he : (match T t with
    | some ti => match ti.kind with
      | .struct fs => bif fs.all fun p => (T p.2).isSome then (match fillC T σ.slots fs parts.toList ti.zero with
        | some cs => pureE (.v (.agg cs))
        | none => .fail) else .fail
      | _ => Step.fail
    | none => .fail).yields e) : Quiet S φ σ a w o e := by
  split at he
  · rename_i ti hti
    split at he
    · rename_i fs hk
      have hF := hT t ti hti
      have hu := hF.kind
      rw [hk] at hu
      obtain ⟨gs, hu, rfl⟩ := hu
      cases hall : ((gs.toList.map fun f => (f.offset, f.type)).all fun p => (T p.2).isSome) with
      | false => rw [hall] at he; cases he
      | true =>
        rw [hall] at he
        simp only [cond_true] at he
        split at he
        · rename_i cs hcs
          cases he
          obtain ⟨places, hpl⟩ := mapM_places (S := S) gs.toList fun f hf => by
            have := List.all_eq_true.1 hall (f.offset, f.type) (List.mem_map.2 ⟨f, hf, rfl⟩)
            obtain ⟨fi, hfi⟩ := Option.isSome_iff_exists.1 this
            obtain ⟨i, z, h1, _⟩ := (hT f.type fi hfi).info
            simp [h1]
          obtain ⟨inf, z, m1, m2, m3, m4, m5⟩ := hF.info
          obtain ⟨us, g1, g2⟩ := fillC_spec hT h hpl hcs (zeros_RCs m5).1
          refine Quiet.mk' rfl (v := .agg us) ?_ ⟨us, rfl, g2⟩
          have hb : S.P.built t (parts.map fun x => (x.1, a.eval x.2)).toList = some us := by
            unfold Program.built
            simp only [m1, hu, m4, hpl]
            simpa using g1
          simp [Go.execOp, ho, run_build w t _ us hb]
        · cases he
    · cases he
  · cases he

/-! ### Boxes -/
theorem box_ObjOK {E : Env} {nm b : Nat} {cs : List C} {cur : Array Value} {el : TypeId} (hp : E.φ nm = some (b, 0)) (hw : E.w.heap[b]? = some (.cells cur el (0, 0))) (hr : RCs E cs cur.toList)
    (h1 : ∀ u ∈ cur.toList, u.oneCell' = true) : ObjOK E nm (mkObj (.box cs)) := by
  refine ⟨b, 0, cur, el, hp, hw, by have := hr.1; simp at this; omega, fun j c hc => ?_⟩
  have hj : j < cur.toList.length := by rw [hr.1]; exact (List.getElem?_eq_some_iff.1 hc).1
  have hv : cur.toList[j]? = some cur.toList[j] := by simp
  refine ⟨cur.toList[j], by simp, hr.2 j c _ hc hv, h1 _ (List.mem_of_getElem? hv)⟩

theorem setP_self (nm : Nat) (pl : Pl) : setP φ nm pl nm = pl := by simp [setP]

/-- A new block of cells, and a new object that lies in it. -/
theorem fresh_alloc {L : Look} {nm : Nat} (hO : Objs S φ L w) (hf : Frame1 S w) (hn : L nm = none) (n : Nat) (y : Obj) (cur : Array Value) (el : TypeId)
    (hok : EnvStep (envOf S φ L w) (envOf S (setP φ nm (some (w.heap.size, 0))) (putO L [(nm, y)]) ((w.drewN n).alloc (.cells cur el))) →
      ((w.drewN n).alloc (.cells cur el)).heap[w.heap.size]? = some (.cells cur el (0, 0)) → ObjOK (envOf S (setP φ nm (some (w.heap.size, 0))) (putO L [(nm, y)]) ((w.drewN n).alloc (.cells cur el))) nm y) :
    Keep S φ (setP φ nm (some (w.heap.size, 0))) L (putO L [(nm, y)]) w ((w.drewN n).alloc (.cells cur el)) := by
  have hws : WStep w ((w.drewN n).alloc (.cells cur el)) (fun _ => False) := by
    have := WStep.alloc (w.drewN n) (.cells cur el) (fun _ => False)
    exact ⟨this.os, this.tape, this.output, this.size, this.keep, this.bsz⟩
  exact (OStep.fresh hO hn hws y (some (w.heap.size, 0)) (fun b p hp => by cases hp; exact ⟨Nat.le_refl _, by simp⟩) fun henv => hok henv (heap_alloc_new (w.drewN n) _)).keep hO hf

theorem o_alloc (hT : TOK S.P T) (h : Rel S φ σ a w) {t : TypeId} {nm : Nat} (ho : o.op = .alloc t)
    (he : (match T t with
    | some ti => Step.done ⟨one (.ptr nm 0), [(nm, mkObj (.box ti.zero))], []⟩
    | none => Step.fail).yields e) (hok : effOk σ.objs e = true) : OpOK S φ σ a w o e := by
  split at he
  · rename_i ti hti
    cases he
    obtain ⟨_, h2⟩ := effOk_spec hok
    have hn : σ.objs nm = none := by
      rcases h2 (nm, mkObj (.box ti.zero)) (by simp) with g | g
      · simp at g
      · exact g
    obtain ⟨z, z1, z2⟩ := (hT t ti hti).zeroValue
    refine OpOK.of_value (v := .pointer (some ⟨w.heap.size, 0, none⟩)) (w' := w.alloc (.cells z.cells t)) (φ' := setP φ nm (some (w.heap.size, 0)))
      (by simp [Go.execOp, ho, Instr.alloc, z2, newVar, newRow])
      (fresh_alloc h.objs h.frame hn 0 _ z.cells t fun henv hw => box_ObjOK (setP_self nm _) hw (zeros_RCs z1).1 (zeros_RCs (E := envOf S φ σ.objs w) z1).2)
      ⟨w.heap.size, 0, mkObj (.box ti.zero), ti.zero, setP_self nm _, by show putO σ.objs _ nm = _; rw [putO_one]; simp, rfl, rfl⟩
  · cases he

theorem o_box (hT : TOK S.P T) (h : Rel S φ σ a w) {t : TypeId} {x : Operand} {nm : Nat} (ho : o.op = .box t x)
    (he : (match T t with
    | some ti => match val T σ.slots t x with
      | .v w => bif Nat.beq (cellsV w).length ti.size && liveCs (cellsV w) then Step.done ⟨one (.ptr nm 0), [(nm, mkObj (.box (cellsV w)))], []⟩ else Step.fail
      | _ => Step.fail
    | none => .fail).yields e) (hok : effOk σ.objs e = true) : OpOK S φ σ a w o e := by
  split at he
  · rename_i ti hti
    split at he
    · rename_i v hv
      cases hb : (Nat.beq (cellsV v).length ti.size && liveCs (cellsV v)) with
      | false => rw [hb] at he; cases he
      | true =>
        rw [hb] at he
        cases he
        simp only [Bool.and_eq_true] at hb
        have hx := val_RAV h T t x
        rw [hv] at hx
        obtain ⟨k1, k2⟩ := RV1.cells hx hb.2
        obtain ⟨_, h2⟩ := effOk_spec hok
        have hn : σ.objs nm = none := by
          rcases h2 (nm, mkObj (.box (cellsV v))) (by simp) with g | g
          · simp at g
          · exact g
        refine OpOK.of_value (v := .pointer (some ⟨w.heap.size, 0, none⟩)) (w' := w.alloc (.cells (a.eval x).cells t)) (φ' := setP φ nm (some (w.heap.size, 0)))
          (by simp [Go.execOp, ho, Instr.box, newVar, newRow])
          (fresh_alloc h.objs h.frame hn 0 _ (a.eval x).cells t fun henv hw => box_ObjOK (setP_self nm _) hw (k1.step henv) k2)
          ⟨w.heap.size, 0, mkObj (.box (cellsV v)), cellsV v, setP_self nm _, by show putO σ.objs _ nm = _; rw [putO_one]; simp, rfl, rfl⟩
    · cases he
  · cases he
end
end Go.M
namespace Go.M
open Go

theorem unmk_spec {w : World} {ok : Nat → Prop} : ∀ {t : Ty} {cs r : List C} {x : t.den} {vs : List Value}, unmk t cs = some (x, r) → RPs w ok cs vs →
    Rd w ok t x (fun j => vs[j]?) ∧ RPs w ok r (vs.drop t.size) ∧ cs.length = t.size + r.length := by
  have tail : ∀ {c : C} {r : List C} {vs : List Value}, RPs w ok (c :: r) vs → ∃ v, vs[0]? = some v ∧ RP w ok c v ∧ RPs w ok r (vs.drop 1) := by
    intro c r vs h
    match vs, h with
    | [], h => exact absurd h.1 (by simp)
    | v :: us, h =>
      refine ⟨v, rfl, h.2 0 c v rfl rfl, ⟨by have := h.1; simpa using this, fun j d u hd hu => h.2 (j + 1) d u (by simpa using hd) (by simpa using hu)⟩⟩
  intro t
  induction t with
  | int k =>
    intro cs r x vs h hr
    simp only [unmk] at h
    split at h
    · rename_i k' n rest
      split at h
      · rename_i hk
        subst hk
        cases h
        obtain ⟨v, g1, g2, g3⟩ := tail hr
        exact ⟨by show vs[0]? = _; rw [g1]; exact congrArg some g2, g3, by simp [Ty.size]; omega⟩
      · cases h
    · cases h
  | bool =>
    intro cs r x vs h hr
    simp only [unmk] at h
    split at h
    · cases h
      obtain ⟨v, g1, g2, g3⟩ := tail hr
      exact ⟨by show vs[0]? = _; rw [g1]; exact congrArg some g2, g3, by simp [Ty.size]; omega⟩
    · cases h
  | str =>
    intro cs r x vs h hr
    simp only [unmk] at h
    split at h
    · cases h
      obtain ⟨v, g1, g2, g3⟩ := tail hr
      exact ⟨by show vs[0]? = _; rw [g1]; exact congrArg some g2, g3, by simp [Ty.size]; omega⟩
    · cases h
  | pair a b iha ihb =>
    intro cs r x vs h hr
    simp only [unmk] at h
    split at h
    · rename_i y r1 h1
      split at h
      · rename_i z r2 h2
        cases h
        obtain ⟨g1, g2, g3⟩ := iha h1 hr
        obtain ⟨k1, k2, k3⟩ := ihb h2 g2
        refine ⟨⟨g1, ?_⟩, by simpa [Ty.size, List.drop_drop, Nat.add_comm] using k2, by simp only [Ty.size]; omega⟩
        exact k1.congr fun j v _ hv => by rw [List.getElem?_drop] at hv; exact hv
      · cases h
    · cases h
  | list t _ =>
    intro cs r x vs h hr
    simp only [unmk] at h
    split at h
    · rename_i t' xs rest
      split at h
      · rename_i ht
        subst ht
        cases h
        obtain ⟨v, g1, g2, g3⟩ := tail hr
        exact ⟨by
          have g2' : RdS w ok t' xs v := g2
          refine Rd.congr (t := .list t') (f := fun _ => some v) g2' fun j u hj hu => ?_
          simp only [Ty.size] at hj
          obtain rfl : j = 0 := by omega
          rw [g1]; exact hu, g3, by simp [Ty.size]; omega⟩
      · cases h
    · rename_i t' rest
      split at h
      · rename_i ht
        subst ht
        cases h
        obtain ⟨v, g1, g2, g3⟩ := tail hr
        exact ⟨⟨none, 0, by show vs[0]? = _; rw [g1]; exact congrArg some g2, Nat.le_refl _, Nat.zero_le _, .inl rfl⟩, g3, by simp [Ty.size]; omega⟩
      · cases h
    · cases h

theorem unmkAll_spec {w : World} {ok : Nat → Prop} {t : Ty} {cs : List C} {x : t.den} {vs : List Value} (h : unmkAll t cs = some x) (hr : RPs w ok cs vs) :
    Rd w ok t x (fun j => vs[j]?) ∧ vs.length = t.size := by
  unfold unmkAll at h
  split at h
  · rename_i y hy
    cases h
    obtain ⟨h1, _, h3⟩ := unmk_spec hy hr
    exact ⟨h1, by rw [hr.1]; simpa using h3⟩
  · cases h

theorem unmkEach_len {t : Ty} : ∀ {css : List (List C)} {xs : List t.den}, unmkEach t css = some xs → xs.length = css.length
  | [], xs, h => by cases h; rfl
  | cs :: r, xs, h => by
    simp only [unmkEach] at h
    split at h
    · split at h
      · rename_i ys hys
        cases h
        simp [unmkEach_len hys]
      · cases h
    · cases h

theorem live_unmk : ∀ {t : Ty} {cs r : List C} {x : t.den}, unmk t cs = some (x, r) → liveCs r = true → liveCs cs = true := by
  intro t
  induction t with
  | int k => intro cs r x h hl; simp only [unmk] at h; split at h
             · split at h
               · cases h; simpa [liveCs, liveC] using hl
               · cases h
             · cases h
  | bool => intro cs r x h hl; simp only [unmk] at h; split at h
            · cases h; simpa [liveCs, liveC] using hl
            · cases h
  | str => intro cs r x h hl; simp only [unmk] at h; split at h
           · cases h; simpa [liveCs, liveC] using hl
           · cases h
  | pair a b iha ihb =>
    intro cs r x h hl
    simp only [unmk] at h
    split at h
    · rename_i y r1 h1
      split at h
      · rename_i z r2 h2
        cases h
        exact iha h1 (ihb h2 hl)
      · cases h
    · cases h
  | list t _ =>
    intro cs r x h hl
    simp only [unmk] at h
    split at h
    · split at h
      · cases h; simpa [liveCs, liveC] using hl
      · cases h
    · split at h
      · cases h; simpa [liveCs, liveC] using hl
      · cases h
    · cases h
theorem live_unmkAll {t : Ty} {cs : List C} {x : t.den} (h : unmkAll t cs = some x) : liveCs cs = true := by
  unfold unmkAll at h
  split at h
  · rename_i y hy; exact live_unmk hy rfl
  · cases h

/-- The names that a cell's reading has met are arrays. -/
theorem reifyC_names {L : Look} {c c' : C} {rs : List Nat} (hr : reifyC L c = (c', rs)) (hl : liveC c' = true) : ∀ o ∈ rs, ∃ y t xs, L o = some y ∧ y.body = .arr t xs := by
  intro o ho
  cases c with
  | sl o' ver off len =>
    simp only [reifyC] at hr
    split at hr
    · rename_i y hy
      split at hr
      · rename_i t xs hb
        cases hr
        simp at ho
        subst ho
        exact ⟨y, t, xs, (cur?_some hy).1, hb⟩
      · cases hr; cases hl
    · cases hr; cases hl
  | _ => cases hr <;> first | (cases hl; done) | simp at ho
theorem reifyCs_names {L : Look} : ∀ {cs cs' : List C} {rs : List Nat}, reifyCs L cs = (cs', rs) → liveCs cs' = true → ∀ o ∈ rs, ∃ y t xs, L o = some y ∧ y.body = .arr t xs
  | [], _, _, h, _, o, ho => by cases h; simp at ho
  | c :: r, cs', rs, h, hl, o, ho => by
    simp only [reifyCs] at h
    cases h
    simp only [liveCs, Bool.and_eq_true] at hl
    rcases List.mem_append.1 ho with ho | ho
    · exact reifyC_names (L := L) (c := c) rfl hl.1 o ho
    · exact reifyCs_names (L := L) (cs := r) rfl hl.2 o ho
theorem names_free {S : Start} {φ : Nat → Pl} {L : Look} {w : World} (hO : Objs S φ L w) {rs : List Nat} (h : ∀ o ∈ rs, ∃ y t xs, L o = some y ∧ y.body = .arr t xs) :
    ∀ o b p n, (o, b, p, n) ∈ S.boxes → o ∉ rs := by
  intro o b p n hm ho
  obtain ⟨y, t, xs, h1, h2⟩ := h o ho
  obtain ⟨_, y', cs, g1, _, g3, _⟩ := hO.box o b p n hm
  rw [h1] at g1
  cases g1
  rw [h2] at g3
  cases g3

section
variable {S : Start} {φ : Nat → Pl} {σ : St} {a : Act} {w : World} {o : Oper} {e : Eff} {T : TypeId → Option TI}

/-- What is frozen may be read. -/
theorem frz_ok {L : Look} (hO : Objs S φ L w) (rs : List Nat) (hn : ∀ o ∈ rs, ∃ y t xs, L o = some y ∧ y.body = .arr t xs) :
    (∀ b, (envOf S φ L w).Ok b → (envOf S φ (frzL L rs) w).Ok b) ∧ ∀ b, blocksOf φ rs b → (envOf S φ (frzL L rs) w).Ok b := by
  refine ⟨fun b hb => ⟨hb.1, fun ⟨o, y, p, h1, h2, h3⟩ => ?_⟩, fun b ⟨o, ho, p, hp⟩ => ?_⟩
  · obtain ⟨y0, g1, ⟨_, rfl⟩ | ⟨_, rfl⟩⟩ := frzL_some h1
    · cases h2
    · exact hb.2 ⟨o, _, p, g1, h2, h3⟩
  · obtain ⟨y, t, xs, h1, h2⟩ := hn o ho
    refine ⟨(hO.blk o y b p h1 hp).2.1, fun ⟨o', y', p', k1, k2, k3⟩ => ?_⟩
    obtain ⟨y0, g1, ⟨_, rfl⟩ | ⟨g2, rfl⟩⟩ := frzL_some k1
    · cases k2
    · have := hO.inj o' o _ y b p' p g1 h1 k2 (by rw [h2]; simp) k3 hp
      exact g2 (this ▸ ho)

/-- The rows of what has been read. -/
theorem reify_frz {L : Look} (hO : Objs S φ L w) (hf : Frame1 S w) (rs : List Nat) (hn : ∀ o ∈ rs, ∃ y t xs, L o = some y ∧ y.body = .arr t xs) : Keep S φ φ L (putO L (frzPuts L rs)) w w := by
  rw [putO_frz']
  exact (OStep.freeze rs hO (names_free hO hn)).keep hO hf

def PartsOK (S : Start) (φ : Nat → Pl) (σ : St) (a : Act) (w : World) (et : Ty) (parts : List (Nat × Operand)) (j : Nat) (css : List (List C)) (rs : List Nat) (xs : List et.den) : Prop :=
  (∀ o ∈ rs, ∃ y t xs, σ.objs o = some y ∧ y.body = .arr t xs) ∧
    ∀ ok' : Nat → Prop, (∀ b, (envOf S φ σ.objs w).Ok b → ok' b) → (∀ b, blocksOf φ rs b → ok' b) →
    parts.length = css.length ∧ ∀ (acc : Array Value), (j + parts.length) * et.size ≤ acc.size → ∃ us : Array Value,
      Instr.fill (fun i => some (i * et.size, et.size)) acc (parts.map fun p => (p.1, a.eval p.2)) = some us ∧ us.size = acc.size ∧
      (∀ i, i < j * et.size → us[i]? = acc[i]?) ∧
      ∀ i x, xs[i]? = some x → Rd w ok' et x (fun k => us[(j + i) * et.size + k]?)
theorem partCells_spec (h : Rel S φ σ a w) {el : TypeId} {et : Ty} : ∀ {parts : List (Nat × Operand)} {j : Nat} {css : List (List C)} {rs : List Nat} {xs : List et.den}, partCells T σ.slots σ.objs el parts j = some (css, rs) →
    unmkEach et css = some xs → PartsOK S φ σ a w et parts j css rs xs
  | [], j, css, rs, xs, hp, hu => by
    cases hp
    cases hu
    exact ⟨by simp, fun ok' _ _ => ⟨rfl, fun acc _ => ⟨acc, rfl, rfl, fun _ _ => rfl, by simp⟩⟩⟩
  | (i, x) :: r, j, css, rs, xs, hp, hu => by
    have main : ∀ (cs : List C) (rs1 : List Nat) (css2 : List (List C)) (rs2 : List Nat), i = j → css = cs :: css2 → rs = rs1 ++ rs2 → partCells T σ.slots σ.objs el r (j + 1) = some (css2, rs2) →
        (liveCs cs = true → (∀ o ∈ rs1, ∃ y t xs, σ.objs o = some y ∧ y.body = .arr t xs) ∧ ∀ ok' : Nat → Prop, (∀ b, (envOf S φ σ.objs w).Ok b → ok' b) → (∀ b, blocksOf φ rs1 b → ok' b) →
          RPs w ok' cs (a.eval x).cells.toList) → PartsOK S φ σ a w et ((i, x) :: r) j css rs xs := by
      intro cs rs1 css2 rs2 hij hcss hrs hp2 hcs
      subst hij hcss hrs
      simp only [unmkEach] at hu
      split at hu
      · rename_i y hy
        split at hu
        · rename_i ys hys
          cases hu
          obtain ⟨n1, c1⟩ := hcs (live_unmkAll hy)
          obtain ⟨n2, c2⟩ := partCells_spec h hp2 hys
          refine ⟨fun o ho => ?_, fun ok' h1 h2 => ?_⟩
          · rcases List.mem_append.1 ho with ho | ho
            · exact n1 o ho
            · exact n2 o ho
          · have d1 := c1 ok' h1 fun b ⟨o, ho, p, hp⟩ => h2 b ⟨o, List.mem_append.2 (.inl ho), p, hp⟩
            obtain ⟨l2, d2⟩ := c2 ok' h1 fun b ⟨o, ho, p, hp⟩ => h2 b ⟨o, List.mem_append.2 (.inr ho), p, hp⟩
            obtain ⟨e1, e2⟩ := unmkAll_spec hy d1
            refine ⟨by simp [l2], fun acc hacc => ?_⟩
            have hsz : (a.eval x).cells.size = et.size := by simpa using e2
            simp only [List.length_cons] at hacc
            have hle : i * et.size + et.size ≤ acc.size := by
              have : (i + 1) * et.size ≤ (i + (r.length + 1)) * et.size := Nat.mul_le_mul_right _ (by omega)
              rw [Nat.add_mul, Nat.one_mul] at this
              omega
            have hsl : (splice acc.toList (i * et.size) (a.eval x).cells.toList).length = acc.size := by rw [splice_length (by simp; omega)]; simp
            obtain ⟨us, f1, f2, f3, f4⟩ := d2 (splice acc.toList (i * et.size) (a.eval x).cells.toList).toArray (by
              simp only [List.size_toArray, hsl]
              rw [show i + 1 + r.length = i + (r.length + 1) by omega]
              exact hacc)
            have hlow : ∀ k, k < (i + 1) * et.size → us[k]? = (splice acc.toList (i * et.size) (a.eval x).cells.toList)[k]? := fun k hk => by
              rw [f3 k hk]; simp
            refine ⟨us, ?_, by rw [f2]; simpa using hsl, fun k hk => ?_, fun m z hz => ?_⟩
            · simp only [List.map_cons]
              rw [fill_cons _ _ i (i * et.size) et.size _ _ rfl hsz hle]
              exact f1
            · rw [hlow k (by rw [Nat.add_mul]; omega), splice_get (by simp; omega), if_pos hk]
              simp
            · cases m with
              | zero =>
                simp at hz
                subst hz
                refine e1.congr fun k v hk hv => ?_
                rw [Nat.add_zero, hlow _ (by rw [Nat.add_mul]; omega), splice_get (by simp; omega), if_neg (by omega), if_pos (by simp; omega)]
                rw [Nat.add_sub_cancel_left]
                exact hv
              | succ m =>
                have := f4 m z (by simpa using hz)
                rw [show i + (m + 1) = i + 1 + m by omega]
                exact this
        · cases hu
      · cases hu
    simp only [partCells] at hp
    cases hij : Nat.beq i j with
    | false => rw [hij] at hp; cases hp
    | true =>
      rw [hij] at hp
      simp only [cond_true] at hp
      have hx := val_RAV h T el x
      split at hp
      · rename_i c hc
        rw [hc] at hx
        split at hp
        · rename_i css2 rs2 hp2
          cases hp
          refine main [(reifyC σ.objs c).1] (reifyC σ.objs c).2 css2 rs2 (Nat.eq_of_beq_eq_true hij) rfl rfl hp2 fun hl => ?_
          simp only [liveCs, Bool.and_eq_true] at hl
          refine ⟨reifyC_names rfl hl.1, fun ok' h1 h2 => ?_⟩
          have hrp := reifyC_spec h.objs hx rfl hl.1 ok' h1 h2
          rw [cells_one hrp.one']
          exact ⟨rfl, fun k d u hd hu => by
            cases k with
            | zero => simp at hd hu; subst hd; subst hu; exact hrp
            | succ k => simp at hd⟩
        · cases hp
      · rename_i cs hc
        rw [hc] at hx
        obtain ⟨vs, hv, hr⟩ := hx
        split at hp
        · rename_i css2 rs2 hp2
          cases hp
          refine main (reifyCs σ.objs cs).1 (reifyCs σ.objs cs).2 css2 rs2 (Nat.eq_of_beq_eq_true hij) rfl rfl hp2 fun hl => ?_
          refine ⟨reifyCs_names rfl hl, fun ok' h1 h2 => ?_⟩
          rw [hv]
          exact reifyCs_spec h.objs hr rfl hl ok' h1 h2
        · cases hp
      · cases hp

theorem frzPuts_mem {L : Look} {nm : Nat} {y : Obj} (k : L nm = some y) : ∀ {rs : List Nat}, nm ∈ rs → nm ∈ (frzPuts L rs).map (·.1)
  | r :: rs, g => by
    simp only [frzPuts]
    rcases List.mem_cons.1 g with rfl | g
    · rw [k]; simp
    · cases L r with
      | none => exact frzPuts_mem k g
      | some z => simp only [List.map_cons, List.mem_cons]; exact .inr (frzPuts_mem k g)
theorem zeroVal_RP {w : World} {ok : Nat → Prop} {c : C} {v : Value} (h : zeroVal c = some v) : RP w ok c v := by
  unfold zeroVal at h
  split at h <;> first
    | (cases h; done)
    | (obtain rfl := Option.some.inj h; exact rfl)
    | (obtain rfl := Option.some.inj h; exact .inl ⟨rfl, rfl⟩)
theorem elemTy_spec {t : TypeId} {ei : TI} {et : Ty} (h : elemTy T t = some (ei, et)) : ∃ el ti, T t = some ti ∧ ti.kind = .slice el ∧ T el = some ei ∧ ei.ty = some et ∧ elemId T t = el := by
  unfold elemTy at h
  split at h
  · rename_i ti hti
    split at h
    · rename_i el hk
      split at h
      · rename_i ei' hei
        split at h
        · rename_i et' het
          cases h
          exact ⟨el, ti, hti, hk, hei, het, by simp [elemId, hti, hk]⟩
        · cases h
      · cases h
    · cases h
  · cases h

theorem bsz_at {w : World} {b : Nat} {cur : Array Value} {el : TypeId} {fr : Nat × Nat} (h : w.heap[b]? = some (.cells cur el fr)) : bsz w b = cur.size := by simp [bsz, h]
theorem win_all {α : Type} (xs : List α) : win 0 none xs = xs := rfl

/-- A new array, by a new name. -/
theorem arr_fresh {L : Look} {nm : Nat} (hO : Objs S φ L w) (hf : Frame1 S w) (hn : L nm = none) (k : Nat) {et : Ty} {xs : List et.den} {cur : Array Value} (el : TypeId)
    (hsz : xs.length * et.size ≤ cur.size) (hrd : ∀ i x, xs[i]? = some x → Rd w (envOf S φ L w).Ok et x (fun j => cur[i * et.size + j]?)) {n cap : Nat} (hx : xs.length = n) (hc : n ≤ cap) (hm : cap ≤ maxLen) (hcap : cap * et.size ≤ cur.size) :
    Keep S φ (setP φ nm (some (w.heap.size, 0))) L (putO L [(nm, mkObj (.arr et xs))]) w ((w.drewN k).alloc (.cells cur el)) ∧
    RAV (envOf S (setP φ nm (some (w.heap.size, 0))) (putO L [(nm, mkObj (.arr et xs))]) ((w.drewN k).alloc (.cells cur el))) (one (.sl nm 0 0 none)) (.slice (some ⟨w.heap.size, 0, none⟩) n cap) := by
  have hk := fresh_alloc hO hf hn k (mkObj (.arr et xs)) cur el fun henv hw => by
    refine .inr ⟨w.heap.size, 0, cur, el, setP_self nm _, hw, by simpa using hsz, fun i x hi => ?_⟩
    refine Rd.step henv.ok (hrd i x hi) fun j v _ hv => ?_
    rw [Nat.zero_add]
    exact hv
  refine ⟨hk, ⟨⟨_, _, _, rfl⟩, mkObj (.arr et xs), by show putO L _ nm = _; rw [putO_one]; simp, Nat.le_refl _, fun _ => ?_⟩⟩
  show SlOK _ (setP φ nm _ nm) (.arr et xs) 0 none _
  rw [setP_self]
  refine ⟨0, cap, by rw [win_all, hx], by rw [win_all, hx]; exact hc, hm, .inr (by simp), ?_⟩
  have hw : ((w.drewN k).alloc (.cells cur el)).heap[w.heap.size]? = some (.cells cur el (0, 0)) := heap_alloc_new (w.drewN k) _
  show 0 + cap * et.size ≤ bsz ((w.drewN k).alloc (.cells cur el)) w.heap.size
  rw [bsz_at hw]
  omega

theorem o_buildSlice (hT : TOK S.P T) (h : Rel S φ σ a w) {t : TypeId} {n nm : Nat} {parts : Array (Nat × Operand)} (ho : o.op = .buildSlice t n parts)
    (he : (buildSliceStep T σ.slots σ.objs nm t n parts.toList).yields e) (hok : effOk σ.objs e = true) : OpOK S φ σ a w o e := by
  unfold buildSliceStep at he
  split at he
  · rename_i ei et hel
    obtain ⟨el, ti, t1, t2, t3, t4, t5⟩ := elemTy_spec hel
    cases hb : (Nat.beq n parts.toList.length && Nat.ble (n * et.size) 16777216) with
    | false => rw [hb] at he; cases he
    | true =>
      rw [hb] at he
      simp only [cond_true] at he
      simp only [Bool.and_eq_true] at hb
      have hn1 := Nat.eq_of_beq_eq_true hb.1
      have hn2 := Nat.le_of_ble_eq_true hb.2
      split at he
      · rename_i css rs hp
        split at he
        · rename_i xs hu
          cases he
          rw [t5] at hp
          obtain ⟨n1, p2⟩ := partCells_spec h hp hu
          have hlen := unmkEach_len hu
          have hk1 := reify_frz h.objs h.frame rs n1
          rw [putO_frz'] at hk1
          obtain ⟨f1, f2⟩ := frz_ok h.objs rs n1
          obtain ⟨l1, p3⟩ := p2 _ f1 f2
          have hnm : frzL σ.objs rs nm = none := by
            obtain ⟨g1, g2⟩ := effOk_spec hok
            have hnone : σ.objs nm = none := by
              rcases g2 (nm, mkObj (.arr et xs)) (by simp) with g | g
              · obtain ⟨y, t', xs', k1, k2⟩ := n1 nm g
                exfalso
                have hmem := frzPuts_mem k1 g
                simp only [names1, List.map_append, List.map_cons, List.map_nil] at g1
                rw [List.nodup_append] at g1
                exact g1.2.2 nm hmem nm (by simp) rfl
              · exact g
            simp [frzL, hnone]
          have hsz := (hT el ei t3).elt et t4
          obtain ⟨inf, z, m1, m2, m3, m4, m5⟩ := (hT el ei t3).info
          have hut := (hT t ti t1).kind
          rw [t2] at hut
          have hut : S.P.underlying t = some (.slice el) := hut
          have hpos := Ty.size_pos et
          have hzl : z.cells.size = et.size := by
            have := (zerosOk_spec m5).1
            rw [(hT el ei t3).zlen] at this
            simp at this
            omega
          have run : ∃ us : Array Value, (Go.execOp a.eval o).run S.P w = .ok (.value (.slice (some ⟨w.heap.size, 0, none⟩) n n)) (w.alloc (.cells us el)) ∧ us.size = n * et.size ∧
              ∀ i x, xs[i]? = some x → Rd w (envOf S φ (frzL σ.objs rs) w).Ok et x (fun k => us[i * et.size + k]?) := by
            have hst : inf.size = et.size := by omega
            by_cases hz : n = 0
            · subst hz
              have hpn : parts = #[] := by apply Array.toList_inj.1; exact List.eq_nil_of_length_eq_zero hn1.symm
              subst hpn
              refine ⟨#[], ?_, by simp, fun i x hi => ?_⟩
              · simp [Go.execOp, ho, Instr.buildSlice, run_underlying hut, sizeOf, typeInfo, m1, Instr.fill, newRow, Array.range_zero']
              · have : xs = [] := List.eq_nil_of_length_eq_zero (by rw [hlen, ← l1]; simp)
                subst this
                simp at hi
            · obtain ⟨us, g1, g2, g3, g4⟩ := p3 ((Array.range (n * et.size)).map (z.cells[· % z.cells.size]!)) (by simp; rw [hn1]; simp)
              refine ⟨us, ?_, by rw [g2]; simp, fun i x hi => by have := g4 i x hi; rw [Nat.zero_add] at this; exact this⟩
              have hr := run_buildSlice (P := S.P) w t el n (parts.map fun x => (x.1, a.eval x.2)) us inf z hut m1 m4 (by rw [hst]; omega)
                (by rw [hst]; exact Nat.mul_ne_zero hz (by omega)) (by rw [hst]; simpa using g1)
              simp [Go.execOp, ho, hr]
          obtain ⟨us, r1, r2, r3⟩ := run
          have hxl : xs.length = n := by rw [hlen, ← l1]; exact hn1.symm
          have hn64 : n ≤ maxLen := by
            have : n * 1 ≤ n * et.size := Nat.mul_le_mul_left _ hpos
            simp only [maxLen]; omega
          obtain ⟨k1, k2⟩ := arr_fresh hk1.objs hk1.frame hnm 0 el (by rw [r2, hxl]; exact Nat.le_refl _) r3 hxl (Nat.le_refl _) hn64 (Nat.le_of_eq r2.symm)
          have hL : putO σ.objs (frzPuts σ.objs rs ++ [(nm, mkObj (.arr et xs))]) = putO (frzL σ.objs rs) [(nm, mkObj (.arr et xs))] := by rw [putO_append, putO_frz']
          exact OpOK.of_value r1 (by rw [hL]; exact hk1.trans k1) (by rw [hL]; exact k2)
        · cases he
      · cases he
  · cases he

theorem o_makeSlice (hT : TOK S.P T) (h : Rel S φ σ a w) {t : TypeId} {l c : Operand} {nm : Nat} (ho : o.op = .makeSlice t l c)
    (he : (makeSliceStep T nm t (val T σ.slots 3 l) (val T σ.slots 3 c)).yields e) (hok : effOk σ.objs e = true) : OpOK S φ σ a w o e := by
  unfold makeSliceStep at he
  split at he
  · rename_i ei et hel
    obtain ⟨el, ti, t1, t2, t3, t4, t5⟩ := elemTy_spec hel
    split at he
    · rename_i n hl
      split at he
      · rename_i m hc
        have hl := int_of hl (val_RAV h T 3 l)
        have hc := int_of hc (val_RAV h T 3 c)
        split at he
        · rename_i z0 hz0
          obtain ⟨hb, rfl⟩ := he
          simp only [Bool.and_eq_true, decide_eq_true_eq] at hb
          obtain ⟨⟨⟨b1, b2⟩, b3⟩, b4⟩ := hb
          subst b1
          obtain ⟨_, h2⟩ := effOk_spec hok
          have hn : σ.objs nm = none := by
            rcases h2 (nm, mkObj (.arr et (List.replicate n.toNat z0))) (by simp) with g | g
            · simp at g
            · exact g
          obtain ⟨inf, z, m1, m2, m3, m4, m5⟩ := (hT el ei t3).info
          have hut := (hT t ti t1).kind
          rw [t2] at hut
          have hut : S.P.underlying t = some (.slice el) := hut
          have hsz := (hT el ei t3).elt et t4
          have hpos := Ty.size_pos et
          have hzr : RPs w (envOf S φ σ.objs w).Ok ei.zero z.cells.toList := by
            refine ⟨(zerosOk_spec m5).1, fun j d u hd hu => ?_⟩
            obtain ⟨u', k1, k2⟩ := (zerosOk_spec m5).2 j d hd
            rw [hu] at k1
            cases k1
            exact zeroVal_RP k2
          obtain ⟨e1, e2⟩ := unmkAll_spec hz0 hzr
          have hr := run_make (P := S.P) w t el inf z hut m1 m4 .i64 .i64 n n b2 (Int.le_refl _) (by
            have : (n.toNat : Int) = n := by omega
            have h3 : ((n.toNat * ei.bytes : Nat) : Int) ≤ 140737488355328 := by simp only [maxBytes] at b3; omega
            rw [Int.natCast_mul, this] at h3
            rw [m3, Int.mul_comm]
            omega) b4
          have hst : inf.size = et.size := by omega
          have hzs : z.cells.size = et.size := by simpa using e2
          rw [hst] at hr
          obtain ⟨k1, k2⟩ := arr_fresh (xs := List.replicate n.toNat z0) (cur := madeCells z.cells (n.toNat * et.size)) (n := n.toNat) (cap := n.toNat) h.objs h.frame hn 0 el (by simp [size_madeCells]) (fun i x hi => by
            have hi' : i < n.toNat := by
              have := (List.getElem?_eq_some_iff.1 hi).1
              simpa using this
            have hx : x = z0 := by
              rw [List.getElem?_replicate, if_pos hi'] at hi
              exact (Option.some.inj hi).symm
            subst hx
            refine e1.congr fun j v hj hv => ?_
            have hlt : i * et.size + j < n.toNat * et.size := by
              have : (i + 1) * et.size ≤ n.toNat * et.size := Nat.mul_le_mul_right _ (by omega)
              rw [Nat.add_mul] at this
              omega
            have hmod : (i * et.size + j) % z.cells.size = j := by rw [hzs, Nat.add_comm, Nat.add_mul_mod_self_right]; exact Nat.mod_eq_of_lt hj
            have hv' : z.cells[j]? = some v := by simpa using hv
            simp only [madeCells, Array.getElem?_map, Array.getElem?_range, if_pos hlt, Option.map_some, hmod]
            rw [getElem!_def, hv']) (by simp) (Nat.le_refl _) (by simp only [maxLen]; omega) (by simp [size_madeCells])
          exact OpOK.of_value (by simp [Go.execOp, ho, hl, hc, hr]; rfl) k1 k2
        · cases he
      · cases he
    · cases he
  · cases he
end
end Go.M
namespace Go.M
open Go

section
variable {S : Start} {φ : Nat → Pl} {σ : St} {a : Act} {w : World} {o : Oper} {e : Eff} {T : TypeId → Option TI}

theorem OStep.write {L : Look} (hO : Objs S φ L w) {o : Nat} {y y' : Obj} {b p : Nat} {cur cur' : Array Value} {el : TypeId} (hy : L o = some y) (hf : y.frz = false) (hp : φ o = some (b, p))
    (hw : w.heap[b]? = some (.cells cur el (0, 0))) (hs : cur'.size = cur.size) (hf' : y'.frz = false) (happ : y'.app = y.app) (hver : y'.ver = y.ver) (hwv : y.wv ≤ y'.wv) (hsim : y.body.sim y'.body)
    (hsame : y'.wv = y.wv → y'.body = y.body ∨ ∃ cs, y.body = .box cs) (hbox : ∀ cs, y.body = .box cs → ∃ cs', y'.body = .box cs' ∧ cs'.length = cs.length)
    (hout : ∀ cs, y.body = .box cs → ∀ j, (j < p ∨ p + cs.length ≤ j) → cur'[j]? = cur[j]?)
    (hok : EnvStep (envOf S φ L w) (envOf S φ (putO L [(o, y')]) (w.setRow b cur')) → (w.setRow b cur').heap[b]? = some (.cells cur' el (0, 0)) → ObjOK (envOf S φ (putO L [(o, y')]) (w.setRow b cur')) o y') :
    OStep S φ φ L (putO L [(o, y')]) w (w.setRow b cur') (fun x => x = b) (fun x => x = o) where
  ws := ⟨rfl, rfl, rfl, by simp, fun b' _ hb' => setRow_other w b b' cur' hb', fun b' _ => by
    by_cases h : b' = b
    · subst h; rw [bsz_at hw, bsz_at (setRow_heap w b' cur cur' el (0, 0) hw)]; omega
    · exact Nat.le_of_eq (bsz_of_heap (setRow_other w b b' cur' h)).symm⟩
  owned := fun b' hb' _ => by subst hb'; exact ⟨o, y, p, hy, hf, hp, rfl⟩
  stay := fun o' ho' => ⟨by rw [putO_one]; simp [ho'], rfl⟩
  old := fun o' y0 hy0 ho' => by
    subst ho'
    rw [hy] at hy0
    cases hy0
    exact ⟨y', by rw [putO_one]; simp, ⟨Nat.le_of_eq hver.symm, fun _ => hwv, fun _ => ⟨rfl, hsim⟩, fun _ h => hsame h, fun cs hc => ⟨rfl, (hbox cs hc).elim fun cs' h => ⟨cs', h.1⟩⟩⟩⟩
  unfrz := fun o' y0 b' p' _ ho' _ hp' _ => by subst ho'; exact ⟨o', y, p', hy, hf, hp', rfl⟩
  ok := fun o' y0 hy0 ho' henv => by
    subst ho'
    have : y0 = y' := by rw [putO_one] at hy0; simpa using hy0.symm
    subst this
    exact hok henv (setRow_heap w b cur cur' el (0, 0) hw)
  blk := fun o' y0 b' p' hy0 ho' hp' => by
    subst ho'
    have hb := hO.blk _ y b' p' hy hp'
    exact ⟨by simpa using hb.1, fun _ => ⟨_, y, p', hy, hp', fun _ => hf⟩⟩
  inj := fun _ _ _ _ _ _ _ _ _ h h' _ _ _ _ => h.trans h'.symm
  injOld := fun o' y0 b' p' hy0 ho' hg hp' _ => by
    subst ho'
    have : y0 = y' := by rw [putO_one] at hy0; simpa using hy0.symm
    subst this
    refine ⟨_, y, p', rfl, hy, fun hgone => ?_, hp'⟩
    rw [hgone] at hsim
    cases hb : y0.body with
    | gone => exact hg hb
    | box _ => rw [hb] at hsim; cases hsim
    | arr _ _ => rw [hb] at hsim; cases hsim
  box := fun o' b' p' n hm ho' hp' y0 cs hy0 hf0 hb0 => by
    subst ho'
    rw [hy] at hy0
    cases hy0
    obtain ⟨cs', g1, g2⟩ := hbox cs hb0
    exact ⟨hp', y', cs', by rw [putO_one]; simp, hf', g1, g2⟩
  boxW := fun o1 b1 p1 n1 hm cur1 e1 hw1 hb1 => by
    subst hb1
    rw [hw] at hw1
    cases hw1
    obtain ⟨k1, y1, cs1, k2, k3, k4, k5⟩ := hO.box o1 b1 p1 n1 hm
    have := hO.inj o o1 y y1 b1 p p1 hy k2 hf (by rw [k4]; simp) hp k1
    subst this
    rw [hy] at k2
    cases k2
    rw [hp] at k1
    cases k1
    exact ⟨cur', setRow_heap w b1 cur cur' el (0, 0) hw, hs, fun j hj => hout cs1 k4 j (by omega)⟩
  arr := fun o' pl n hm ho' y0 hy0 => by
    subst ho'
    rw [hy] at hy0
    cases hy0
    exact ⟨y', by rw [putO_one]; simp, fun h1 h2 => ⟨by rw [← happ]; exact h1, hf, rfl, hsim⟩⟩

theorem run_storeAt {P : Program} {t : TypeId} {ti : TI} (h : TF P t ti) {b q : Nat} {v : Value} {cur : Array Value} {el : TypeId} (w : World) (hw : w.heap[b]? = some (.cells cur el (0, 0))) (hl : v.cells.size = ti.size)
    (hfit : q + ti.size ≤ cur.size) (h1 : ∀ u ∈ v.cells.toList, u.oneCell' = true) :
    (Instr.storeAt t (.pointer (some ⟨b, q, none⟩)) v).run P w = .ok () (w.setRow b (splice cur.toList q v.cells.toList).toArray) := by
  have hst := run_storeCells_at P b q el v.cells.toList 0 cur w hw (by simp; omega) h1
  simp only [Nat.add_zero] at hst
  simp only [Instr.storeAt, Instr.sureAddr, storeVar, Sem.run_bind, Sem.run_pure, Result.andThen_ok, h.sizeOf, hl, ne_eq, not_true_eq_false, if_false]
  exact hst

theorem splice_out {α : Type} {xs ys : List α} {off : Nat} (h : off + ys.length ≤ xs.length) {j : Nat} (hj : j < off ∨ off + ys.length ≤ j) : (splice xs off ys)[j]? = xs[j]? := by
  rw [splice_get h]
  by_cases h1 : j < off
  · rw [if_pos h1]
  · rw [if_neg h1, if_neg (by omega)]

theorem o_storeBox (hT : TOK S.P T) (h : Rel S φ σ a w) {t : TypeId} {x ad : Operand} {ti : TI} {v : V1} {o' off : Nat} {y : Obj} {cs : List C} (ho : o.op = .store t ad x) (hti : T t = some ti) (hv : val T σ.slots t x = .v v)
    (hlen : (cellsV v).length = ti.size) (had : val T σ.slots 0 ad = .v (.one (.ptr o' off))) (hy : σ.objs o' = some y) (hb : y.body = .box cs) (hoff : off + ti.size ≤ cs.length) (hlive : liveCs (cellsV v) = true) (hfrz : y.frz = false) :
    OpOK S φ σ a w o ⟨.dead, [(o', { y with body := .box (cs.take off ++ cellsV v ++ cs.drop (off + ti.size)) })], [o']⟩ := by
  have hx := val_RAV h T t x
  rw [hv] at hx
  obtain ⟨k1, k2⟩ := RV1.cells hx hlive
  have ha := val_RAV h T 0 ad
  rw [had] at ha
  obtain ⟨b, p, y', cs', g1, g2, g3, g4⟩ := ha
  have e1 : y' = y := by have hh : σ.objs o' = some y' := g2; rw [hy] at hh; cases hh; rfl
  subst e1
  have hobj := h.objs.ok o' y' hy
  unfold ObjOK at hobj
  rw [hb] at hobj
  obtain ⟨b', p', cur, el, m1, m2, m3, m4⟩ := hobj
  have g1' : φ o' = some (b, p) := g1
  have m1' : φ o' = some (b', p') := m1
  rw [g1'] at m1'
  cases m1'
  have hsz : (a.eval x).cells.size = ti.size := by have := k1.1; rw [hlen] at this; simpa using this
  have hl2 : (a.eval x).cells.toList.length = ti.size := by simpa using hsz
  have hfit : p + off + ti.size ≤ cur.size := by omega
  have hfit' : p + off + (a.eval x).cells.toList.length ≤ cur.toList.length := by rw [hl2]; simpa using hfit
  have run := run_storeAt (hT t ti hti) w (b := b) (q := p + off) m2 hsz hfit k2
  have hspl : cs.take off ++ cellsV v ++ cs.drop (off + ti.size) = splice cs off (cellsV v) := by simp [splice, hlen]
  rw [hspl]
  have hfitc : off + (cellsV v).length ≤ cs.length := by rw [hlen]; exact hoff
  have hstep := OStep.write h.objs (o := o') (y := y') (y' := { y' with body := .box (splice cs off (cellsV v)) }) (cur' := (splice cur.toList (p + off) (a.eval x).cells.toList).toArray) hy hfrz g1' m2
    (by simp only [List.size_toArray]; rw [splice_length hfit']; simp) hfrz rfl rfl (Nat.le_refl _) (by rw [hb]; trivial) (fun _ => .inr ⟨cs, hb⟩) (fun cs0 hc0 => ⟨_, rfl, by rw [hb] at hc0; cases hc0; exact splice_length hfitc⟩)
    (fun cs0 hc0 j hj => by
      rw [hb] at hc0
      cases hc0
      have : (splice cur.toList (p + off) (a.eval x).cells.toList)[j]? = cur.toList[j]? := splice_out hfit' (by rw [hl2]; omega)
      simpa using this)
    (fun henv hw => by
      refine ⟨b, p, _, el, g1', hw, ?_, fun j c hc => ?_⟩
      · simp only [List.size_toArray]
        rw [splice_length hfit', splice_length hfitc]
        simpa using m3
      · rw [splice_get hfitc] at hc
        have hget : ∀ k, (splice cur.toList (p + off) (a.eval x).cells.toList).toArray[k]? = (splice cur.toList (p + off) (a.eval x).cells.toList)[k]? := fun k => List.getElem?_toArray ..
        rw [hget, splice_get hfit', hl2]
        by_cases c1 : j < off
        · rw [if_pos c1] at hc
          rw [if_pos (by omega)]
          obtain ⟨u, d1, d2, d3⟩ := m4 j c hc
          exact ⟨u, by simpa using d1, RC.step henv d2, d3⟩
        · rw [if_neg c1, hlen] at hc
          by_cases c2 : j < off + ti.size
          · rw [if_pos c2] at hc
            rw [if_neg (by omega), if_pos (by omega), show p + j - (p + off) = j - off by omega]
            have hlt : j - off < (a.eval x).cells.toList.length := by omega
            have hu : (a.eval x).cells.toList[j - off]? = some ((a.eval x).cells.toList[j - off]'hlt) := by simp
            exact ⟨_, hu, RC.step henv (k1.2 _ c _ hc hu), k2 _ (List.mem_of_getElem? hu)⟩
          · rw [if_neg c2] at hc
            rw [if_neg (by omega), if_neg (by omega)]
            obtain ⟨u, d1, d2, d3⟩ := m4 j c hc
            exact ⟨u, by simpa using d1, RC.step henv d2, d3⟩)
  refine OpOK.of_skip (φ' := φ) (w' := w.setRow b (splice cur.toList (p + off) (a.eval x).cells.toList).toArray) ?_ (hstep.keep h.objs h.frame) rfl
  simp [Go.execOp, ho, g4, run]

def plainC (c : C) : Prop := match c with | .int _ _ => True | .bool _ => True | .str _ => True | .tr _ _ => True | _ => False
theorem cellsOf_plain : ∀ (t : Ty) (x : t.den), ∀ c ∈ cellsOf t x, plainC c
  | .int k, x, c, h => by simp [cellsOf] at h; subst h; trivial
  | .bool, x, c, h => by simp [cellsOf] at h; subst h; trivial
  | .str, x, c, h => by simp [cellsOf] at h; subst h; trivial
  | .list t, x, c, h => by simp [cellsOf] at h; subst h; trivial
  | .pair a b, x, c, h => by
    simp only [cellsOf, List.mem_append] at h
    rcases h with h | h
    · exact cellsOf_plain a x.1 c h
    · exact cellsOf_plain b x.2 c h
theorem plain_RP {E : Env} {c : C} {v : Value} (hp : plainC c) (h : RC E c v) : RP E.w E.Ok c v := by cases c <;> first | exact h | exact hp.elim
theorem plain_RPs {E : Env} {cs : List C} {vs : List Value} (hp : ∀ c ∈ cs, plainC c) (h : RCs E cs vs) : RPs E.w E.Ok cs vs := ⟨h.1, fun j c v hc hv => plain_RP (hp c (List.mem_of_getElem? hc)) (h.2 j c v hc hv)⟩

theorem RPs.splice {w : World} {ok : Nat → Prop} {cs ds : List C} {vs us : List Value} {off : Nat} (h1 : RPs w ok cs vs) (h2 : RPs w ok ds us) (hl : off + ds.length ≤ cs.length) : RPs w ok (M.splice cs off ds) (M.splice vs off us) := by
  have hl' : off + us.length ≤ vs.length := by rw [h1.1, h2.1]; exact hl
  refine ⟨by rw [splice_length hl, splice_length hl', h1.1], fun j c v hc hv => ?_⟩
  rw [splice_get hl] at hc
  rw [splice_get hl', h2.1] at hv
  by_cases g1 : j < off
  · rw [if_pos g1] at hc hv; exact h1.2 j c v hc hv
  · rw [if_neg g1] at hc hv
    by_cases g2 : j < off + ds.length
    · rw [if_pos g2] at hc hv; exact h2.2 _ c v hc hv
    · rw [if_neg g2] at hc hv; exact h1.2 j c v hc hv

theorem o_storeElem (hT : TOK S.P T) (h : Rel S φ σ a w) {t : TypeId} {x ad : Operand} {ti : TI} {v : V1} {o' ver wv i off : Nat} {et : Ty} {x0 x1 : et.den} {y : Obj} {xs : List et.den} {cs' : List C} {rs : List Nat}
    (ho : o.op = .store t ad x) (hti : T t = some ti) (hv : val T σ.slots t x = .v v) (hlen : (cellsV v).length = ti.size) (had : val T σ.slots 0 ad = .v (.one (.ep o' ver wv i off et x0)))
    (hcur : cur? σ.objs o' ver = some y) (hb : y.body = .arr et xs) (hr : reifyCs σ.objs (cellsV v) = (cs', rs)) (hwv : y.wv = wv) (hoff : off + ti.size ≤ et.size) (hlive : liveCs cs' = true) (hfrz : y.frz = false) (hno : o' ∉ rs)
    (hset : setElem et x0 off cs' = some x1) :
    OpOK S φ σ a w o ⟨.dead, frzPuts σ.objs rs ++ [(o', { y with wv := y.wv + 1, body := .arr et (xs.set i x1) })], o' :: rs⟩ := by
  obtain ⟨hy, hver⟩ := cur?_some hcur
  have hx := val_RAV h T t x
  rw [hv] at hx
  have hlv : liveCs (cellsV v) = true := by
    have : ∀ (l l' : List C) (r : List Nat), reifyCs σ.objs l = (l', r) → liveCs l' = true → liveCs l = true := by
      intro l
      induction l with
      | nil => intro _ _ _ _; rfl
      | cons c l ih =>
        intro l' r hh hl
        simp only [reifyCs] at hh
        cases hh
        simp only [liveCs, Bool.and_eq_true] at hl ⊢
        refine ⟨?_, ih _ _ rfl hl.2⟩
        have h1 := hl.1
        cases c <;> first | rfl | (cases h1)
    exact this _ _ _ hr hlive
  obtain ⟨k1, k2⟩ := RV1.cells hx hlv
  have n1 := reifyCs_names hr hlive
  obtain ⟨f1, f2⟩ := frz_ok h.objs rs n1
  have k3 := reifyCs_spec h.objs k1 hr hlive _ f1 f2
  have hk1 := reify_frz h.objs h.frame rs n1
  rw [putO_frz'] at hk1
  have ha := val_RAV h T 0 ad
  rw [had] at ha
  obtain ⟨_, y', g1, _, g2⟩ := ha
  have e1 : y' = y := by have hh : σ.objs o' = some y' := g1; rw [hy] at hh; cases hh; rfl
  subst e1
  obtain ⟨b, p, xs', q1, q2, q3, q4⟩ := g2 hver hwv
  rw [hb] at q3
  cases q3
  have hyf : frzL σ.objs rs o' = some y' := by simp [frzL, hno, hy]
  have hobj := hk1.objs.ok o' y' hyf
  unfold ObjOK at hobj
  rw [hb] at hobj
  have q1' : φ o' = some (b, p) := q1
  rcases hobj with ⟨m1, rfl⟩ | ⟨b', p', cur, el, m1, m2, m3, m4⟩
  · simp at q4
  have m1' : φ o' = some (b', p') := m1
  rw [q1'] at m1'
  cases m1'
  have m2' : w.heap[b]? = some (.cells cur el (0, 0)) := m2
  have hil : i < xs.length := (List.getElem?_eq_some_iff.1 q4).1
  have hcl : cs'.length = ti.size := by rw [reifyCs_len hr]; exact hlen
  have hl2 : (a.eval x).cells.toList.length = ti.size := by rw [k3.1]; exact hcl
  have hmul : i * et.size + et.size ≤ xs.length * et.size := by
    have : (i + 1) * et.size ≤ xs.length * et.size := Nat.mul_le_mul_right _ hil
    rw [Nat.add_mul, Nat.one_mul] at this
    exact this
  have hfit : p + i * et.size + off + ti.size ≤ cur.size := by omega
  have hfit' : p + i * et.size + off + (a.eval x).cells.toList.length ≤ cur.toList.length := by rw [hl2]; simpa using hfit
  have run := run_storeAt (hT t ti hti) w (b := b) (q := p + i * et.size + off) m2' (by simpa using hl2) hfit k2
  -- the new element
  obtain ⟨vs, l1, c1, c2, c3, c4⟩ := (m4 i x0 q4).cells (E := envOf S φ (frzL σ.objs rs) w)
  have c2p := plain_RPs (cellsOf_plain et x0) c2
  have hnew := unmkAll_spec (t := et) (x := x1) (cs := M.splice (cellsOf et x0) off cs') hset (c2p.splice k3 (by rw [hcl, c3]; exact hoff))
  have hstep := OStep.write hk1.objs (o := o') (y := y') (y' := { y' with wv := y'.wv + 1, body := .arr et (xs.set i x1) }) (cur' := (M.splice cur.toList (p + i * et.size + off) (a.eval x).cells.toList).toArray) hyf hfrz q1' m2'
    (by simp only [List.size_toArray]; rw [splice_length hfit']; simp) hfrz rfl rfl (Nat.le_succ _) (by rw [hb]; exact ⟨rfl, by simp⟩) (fun hc => absurd hc (by simp)) (fun cs0 hc0 => by rw [hb] at hc0; cases hc0)
    (fun cs0 hc0 => by rw [hb] at hc0; cases hc0)
    (fun henv hw => by
      refine .inr ⟨b, p, _, el, q1', hw, ?_, fun i' z hz => ?_⟩
      · simp only [List.size_toArray, List.length_set]
        rw [splice_length hfit']
        simpa using m3
      · have hget : ∀ k, (M.splice cur.toList (p + i * et.size + off) (a.eval x).cells.toList).toArray[k]? = (M.splice cur.toList (p + i * et.size + off) (a.eval x).cells.toList)[k]? := fun k => List.getElem?_toArray ..
        by_cases hii : i' = i
        · subst hii
          have : z = x1 := by rw [List.getElem?_set_self hil] at hz; exact (Option.some.inj hz).symm
          subst this
          refine Rd.step henv.ok hnew.1 fun j u hj hu => ?_
          rw [hget, splice_get hfit', hl2]
          rw [splice_get (by rw [hl2, l1]; exact hoff), hl2] at hu
          have hvs : ∀ u, vs[j]? = some u → cur.toList[p + i' * et.size + j]? = some u := fun u hu => by simpa using c1 j u hu
          by_cases d1 : j < off
          · rw [if_pos d1] at hu
            rw [if_pos (by omega)]
            exact hvs u hu
          · rw [if_neg d1] at hu
            by_cases d2 : j < off + ti.size
            · rw [if_pos d2] at hu
              rw [if_neg (by omega), if_pos (by omega), show p + i' * et.size + j - (p + i' * et.size + off) = j - off by omega]
              exact hu
            · rw [if_neg d2] at hu
              rw [if_neg (by omega), if_neg (by omega)]
              exact hvs u hu
        · rw [List.getElem?_set_ne (Ne.symm hii)] at hz
          refine Rd.step henv.ok (m4 i' z hz) fun j u hj hu => ?_
          rw [hget, splice_out hfit' ?_]
          · simpa using hu
          · rw [hl2]
            rcases Nat.lt_or_gt_of_ne hii with hlt | hgt
            · left
              have : (i' + 1) * et.size ≤ i * et.size := Nat.mul_le_mul_right _ hlt
              rw [Nat.add_mul, Nat.one_mul] at this
              omega
            · right
              have : (i + 1) * et.size ≤ i' * et.size := Nat.mul_le_mul_right _ hgt
              rw [Nat.add_mul, Nat.one_mul] at this
              omega)
  refine OpOK.of_skip (φ' := φ) (w' := w.setRow b (M.splice cur.toList (p + i * et.size + off) (a.eval x).cells.toList).toArray) ?_ ?_ rfl
  · simp [Go.execOp, ho, q2, run]
  · rw [putO_append, putO_frz']
    exact hk1.trans (hstep.keep hk1.objs hk1.frame)

theorem o_store (hT : TOK S.P T) (h : Rel S φ σ a w) {t : TypeId} {x ad : Operand} (ho : o.op = .store t ad x) (he : (storeStep T σ.objs t (val T σ.slots 0 ad) (val T σ.slots t x)).yields e) : OpOK S φ σ a w o e := by
  unfold storeStep at he
  split at he
  · rename_i ti hti
    split at he
    · rename_i v hv
      cases hlen : Nat.beq (cellsV v).length ti.size with
      | false => rw [hlen] at he; cases he
      | true =>
        rw [hlen] at he
        simp only [cond_true] at he
        have hlen := Nat.eq_of_beq_eq_true hlen
        split at he
        · rename_i o' off had
          split at he
          · rename_i y hy
            split at he
            · rename_i cs hb
              cases hc : (decide (off + ti.size ≤ cs.length) && liveCs (cellsV v) && !y.frz) with
              | false => rw [hc] at he; cases he
              | true =>
                rw [hc] at he
                simp only [Bool.and_eq_true, decide_eq_true_eq, Bool.not_eq_true'] at hc
                cases he
                exact o_storeBox hT h ho hti hv hlen had hy hb hc.1.1 hc.1.2 hc.2
            · cases he
          · cases he
        · rename_i o' ver wv i off et x0 had
          split at he
          · rename_i y hy
            split at he
            · rename_i t' xs hb
              rcases hr : reifyCs σ.objs (cellsV v) with ⟨cs', rs⟩
              rw [hr] at he
              simp only at he
              cases hc : (Nat.beq y.wv wv && decide (off + ti.size ≤ et.size) && liveCs cs' && !y.frz && !rs.contains o') with
              | false => rw [hc] at he; cases he
              | true =>
                rw [hc] at he
                simp only [cond_true] at he
                simp only [Bool.and_eq_true, decide_eq_true_eq, Bool.not_eq_true'] at hc
                split at he
                · rename_i x1 hx1
                  split at he
                  · rename_i ht
                    subst ht
                    cases he
                    exact o_storeElem hT h ho hti hv hlen had hy hb hr (Nat.eq_of_beq_eq_true hc.1.1.1.1) hc.1.1.1.2 hc.1.1.2 hc.1.2 (by have := hc.2; simpa using this) hx1
                  · cases he
                · cases he
            · cases he
          · cases he
        · cases he
    · cases he
  · cases he
end
end Go.M
namespace Go.M
open Go

/-- A slice whose elements may be read. -/
def Src (w : World) (ok : Nat → Prop) (t : Ty) (xs : List t.den) (v : Value) : Prop :=
  ∃ a cap, v = .slice a xs.length cap ∧ xs.length ≤ cap ∧ cap ≤ maxLen ∧
    (xs = [] ∨ ∃ b p, a = some ⟨b, p, none⟩ ∧ ∀ i x, xs[i]? = some x → Rd w ok t x (fun j => w.cell? ⟨b, p + i * t.size + j, none⟩))
theorem RdS.src {w : World} {ok : Nat → Prop} {t : Ty} {xs : List t.den} {v : Value} (h : RdS w ok t xs v) : Src w ok t xs v := by
  obtain ⟨a, cap, hv, h1, h2, h3⟩ := RdS.eq h
  exact ⟨a, cap, hv, h1, h2, h3.imp id fun ⟨b, p, g1, _, g3⟩ => ⟨b, p, g1, g3⟩⟩

theorem sl_src {S : Start} {φ : Nat → Pl} {L : Look} {w : World} {o off : Nat} {len : Option Nat} {y : Obj} {t : Ty} {xs : List t.den} {v : Value}
    (hobj : ObjOK (envOf S φ L w) o y) (hb : y.body = .arr t xs) (hs : SlOK w (φ o) y.body off len v) : Src w (envOf S φ L w).Ok t (win off len xs) v := by
  unfold ObjOK at hobj
  rw [hb] at hobj hs
  simp only [SlOK] at hs
  rcases hobj with ⟨g1, rfl⟩ | ⟨b, p, cur, e, g1, g2, g3, g4⟩
  · have g1' : φ o = none := g1
    rw [g1'] at hs
    obtain ⟨_, ad, rfl⟩ := hs
    have hw : win off len ([] : List t.den) = [] := by cases len <;> cases off <;> simp [win, drop']
    rw [hw]
    exact ⟨ad, 0, rfl, Nat.le_refl _, Nat.zero_le _, .inl rfl⟩
  · have g1' : φ o = some (b, p) := g1
    rw [g1'] at hs
    obtain ⟨q, cap, rfl, k1, k2, k3, k4⟩ := hs
    refine ⟨_, cap, rfl, k1, k2, ?_⟩
    by_cases hne : win off len xs = []
    · exact .inl hne
    · refine .inr ⟨b, q, rfl, fun i x hx => ?_⟩
      have hpos : 0 < (win off len xs).length := List.length_pos_iff.2 hne
      have hq : q = p + off * t.size := by
        rcases k3 with k3 | k3
        · omega
        · exact k3
      refine (g4 (off + i) x (win_get hx)).congr fun j v _ hv => ?_
      have g2' : w.heap[b]? = some (.cells cur e (0, 0)) := g2
      rw [cell_of_row w b _ cur e (0, 0) g2', hq]
      rw [show p + off * t.size + i * t.size + j = p + (off + i) * t.size + j by rw [Nat.add_mul]; omega]
      exact hv

theorem div_lt_len {n size j : Nat} (h : j < n * size) : j / size < n := by
  rw [Nat.mul_comm] at h
  exact Nat.div_lt_of_lt_mul h

/-- The cells that a slice's elements lie in. -/
theorem Src.news {P : Program} {w : World} {ok : Nat → Prop} {t : Ty} {xs : List t.den} {v : Value} (h : Src w ok t xs v) : ∃ news : List Value, news.length = xs.length * t.size ∧ (∀ u ∈ news, u.oneCell' = true) ∧
    (∀ i x, xs[i]? = some x → Rd w ok t x (fun j => news[i * t.size + j]?)) ∧
    ∀ w1 : World, w1.heap = w.heap → (Builtin.firstCells t.size xs.length v).run P w1 = .ok news.toArray w1 := by
  obtain ⟨a, cap, rfl, h1, h2, h3⟩ := h
  have hpos := Ty.size_pos t
  by_cases hne : xs = []
  · subst hne
    refine ⟨[], by simp, by simp, by simp, fun w1 _ => ?_⟩
    cases a with
    | none => exact run_firstCells_none w1 _ _ _ _
    | some ad => exact run_firstCells_some w1 _ _ ad _ _ [] (by simp) (by simp)
  · rcases h3 with h3 | ⟨b, p, rfl, h3⟩
    · exact absurd h3 hne
    · have cell : ∀ j, j < xs.length * t.size → ∃ u, w.cell? ⟨b, p + j, none⟩ = some u ∧ u.oneCell' = true := fun j hj => by
        have hd := div_lt_len hj
        have hx : xs[j / t.size]? = some (xs[j / t.size]'hd) := by simp
        obtain ⟨u, g1, g2⟩ := (h3 _ _ hx).someCell (j % t.size) (Nat.mod_lt _ hpos)
        have e1 : p + j / t.size * t.size + j % t.size = p + j := by
          have := Nat.div_add_mod j t.size
          rw [Nat.mul_comm] at this
          omega
        rw [e1] at g1
        exact ⟨u, g1, g2⟩
      have hget : ∀ j u, ((List.range (xs.length * t.size)).map fun j => (w.cell? ⟨b, p + j, none⟩).getD undef)[j]? = some u → w.cell? ⟨b, p + j, none⟩ = some u ∧ u.oneCell' = true := fun j u hu => by
        rw [List.getElem?_map, Option.map_eq_some_iff] at hu
        obtain ⟨k, hk, rfl⟩ := hu
        have hlt : j < xs.length * t.size := by have := (List.getElem?_eq_some_iff.1 hk).1; simpa using this
        rw [List.getElem?_range hlt] at hk
        cases hk
        obtain ⟨u, g1, g2⟩ := cell j hlt
        rw [g1]
        exact ⟨rfl, g2⟩
      refine ⟨(List.range (xs.length * t.size)).map fun j => (w.cell? ⟨b, p + j, none⟩).getD undef, by simp, fun u hu => ?_, fun i x hx => ?_, fun w1 hw1 => ?_⟩
      · obtain ⟨j, hj⟩ := List.getElem?_of_mem hu
        exact (hget j u hj).2
      · refine (h3 i x hx).congr fun j u hj hu => ?_
        have hi := (List.getElem?_eq_some_iff.1 hx).1
        have hlt : i * t.size + j < xs.length * t.size := by
          have : (i + 1) * t.size ≤ xs.length * t.size := Nat.mul_le_mul_right _ hi
          rw [Nat.add_mul] at this
          omega
        rw [List.getElem?_map, List.getElem?_range hlt]
        simp only [Option.map_some]
        rw [← Nat.add_assoc, hu]
        rfl
      · refine run_firstCells_some w1 _ _ ⟨b, p, none⟩ _ _ _ (by simp) fun j u hu => ?_
        rw [Addr.add_lit]
        have := (hget j u hu).1
        simpa [World.cell?, hw1] using this

section
variable {P : Program} (w : World)
theorem run_append_room' (t ty e : TypeId) (i : TypeInfo) (ht : P.underlying t = some (.slice e)) (hi : P.info? e = some i) (base : Option Addr) (sLen sCap : Nat) (xa : Option Addr) (m c : Nat) (news : List Value)
    (hf : (Builtin.firstCells i.size m (.slice xa m c)).run P w = .ok news.toArray w) (hroom : sLen + m ≤ sCap) (w' : World)
    (hst : match base with | some a => (storeCells (a.add (sLen * i.size)) news).run P w = .ok () w' | none => w' = w) :
    (Builtin.append_ #[t, t] ty #[.slice base sLen sCap, .slice xa m c]).run P w = .ok (.slice base (sLen + m) sCap) w' := by
  cases base with
  | none => subst hst; simp [Builtin.append_, run_underlying ht, sizeOf, typeInfo, hi, Builtin.lenOf, hroom, hf]
  | some ad => simp only at hst; simp [Builtin.append_, run_underlying ht, sizeOf, typeInfo, hi, Builtin.lenOf, hroom, hf, hst]
theorem run_append_grow' (t ty e : TypeId) (i : TypeInfo) (z : Value) (ht : P.underlying t = some (.slice e)) (hi : P.info? e = some i) (hz : i.zero = some z)
    (base : Option Addr) (sLen sCap : Nat) (olds : List Value) (hfo : (Builtin.firstCells i.size sLen (.slice base sLen sCap)).run P w.drew = .ok olds.toArray w.drew)
    (xa : Option Addr) (n c : Nat) (news : List Value) (hf : (Builtin.firstCells i.size n (.slice xa n c)).run P w.drew = .ok news.toArray w.drew)
    (hg : sCap < sLen + n) (h63 : ((sLen + n : Nat) : Int) ≤ 9223372036854775807) (hfit : Builtin.nextslicecap (sLen + n) sCap * i.bytes ≤ 281474976710656) :
    (Builtin.append_ #[t, t] ty #[.slice base sLen sCap, .slice xa n c]).run P w =
      .ok (.slice (some ⟨w.heap.size, 0, none⟩) (sLen + n) (grownCap w (sLen + n) sCap e))
        (w.drew.alloc (.cells (olds.toArray ++ news.toArray ++ Builtin.zeroCells z.cells (grownCap w (sLen + n) sCap e - (sLen + n))) e)) := by
  have hn : ¬ (sLen + n ≤ sCap) := by omega
  have h63' : ¬ (9223372036854775807 < ((sLen : Int) + (n : Int))) := by omega
  have h48' : ¬ (281474976710656 < Builtin.nextslicecap (sLen + n) sCap * i.bytes) := by omega
  simp [Builtin.append_, run_underlying ht, sizeOf, typeInfo, zeroValue, hi, hz, Builtin.lenOf, hn, h63', h48', Question.forced, hf, hfo, newRow, grownCap]
  congr 2
  apply Array.ext'
  simp [List.append_assoc]
end

section
variable {S : Start} {φ : Nat → Pl} {σ : St} {a : Act} {w : World} {o : Oper} {e : Eff} {T : TypeId → Option TI}

/-- An array that turns into another one: its version goes up. -/
theorem OStep.turn {L : Look} {w' : World} (hO : Objs S φ L w) {o : Nat} {y y' : Obj} {t : Ty} {xs : List t.den} {pl : Pl} {Sx : Nat → Prop} (hy : L o = some y) (hf : y.frz = false) (hb : y.body = .arr t xs)
    (ws : WStep w w' Sx) (hS : ∀ b, Sx b → ∃ p, φ o = some (b, p)) (hpl : ∀ b p, pl = some (b, p) → b < w'.heap.size ∧ (b < w.heap.size → ∃ p0, φ o = some (b, p0)))
    (hver : y.ver < y'.ver) (happ : y'.app = true)
    (hok : EnvStep (envOf S φ L w) (envOf S (setP φ o pl) (putO L [(o, y')]) w') → ObjOK (envOf S (setP φ o pl) (putO L [(o, y')]) w') o y') :
    OStep S φ (setP φ o pl) L (putO L [(o, y')]) w w' Sx (fun x => x = o) where
  ws := ws
  owned := fun b hb' _ => by obtain ⟨p, hp⟩ := hS b hb'; exact ⟨o, y, p, hy, hf, hp, rfl⟩
  stay := fun o' ho' => ⟨by rw [putO_one]; simp [ho'], by simp [setP, ho']⟩
  old := fun o' y0 hy0 ho' => by
    subst ho'
    rw [hy] at hy0
    cases hy0
    exact ⟨y', by rw [putO_one]; simp, ⟨by omega, fun h => by omega, fun h => by omega, fun h => by omega, fun cs hc => by rw [hb] at hc; cases hc⟩⟩
  unfrz := fun o' y0 b' p' _ ho' _ hp' hlt => by
    subst ho'
    obtain ⟨p0, hp0⟩ := (hpl b' p' (by simpa [setP] using hp')).2 hlt
    exact ⟨_, y, p0, hy, hf, hp0, rfl⟩
  ok := fun o' y0 hy0 ho' henv => by
    subst ho'
    have : y0 = y' := by rw [putO_one] at hy0; simpa using hy0.symm
    subst this
    exact hok henv
  blk := fun o' y0 b' p' hy0 ho' hp' => by
    subst ho'
    obtain ⟨g1, g2⟩ := hpl b' p' (by simpa [setP] using hp')
    exact ⟨g1, fun hlt => by obtain ⟨p0, hp0⟩ := g2 hlt; exact ⟨_, y, p0, hy, hp0, fun _ => hf⟩⟩
  inj := fun _ _ _ _ _ _ _ _ _ h h' _ _ _ _ => h.trans h'.symm
  injOld := fun o' y0 b' p' hy0 ho' hg hp' hlt => by
    subst ho'
    obtain ⟨p0, hp0⟩ := (hpl b' p' (by simpa [setP] using hp')).2 hlt
    exact ⟨_, y, p0, rfl, hy, by rw [hb]; simp, hp0⟩
  box := fun o' b' p' n hm ho' => by
    subst ho'
    obtain ⟨_, y1, cs1, k2, _, k4, _⟩ := hO.box _ b' p' n hm
    rw [hy] at k2
    cases k2
    rw [hb] at k4
    cases k4
  boxW := fun o1 b1 p1 n1 hm cur1 e1 _ hb1 => by
    obtain ⟨p, hp⟩ := hS b1 hb1
    obtain ⟨k1, y1, cs1, k2, k3, k4, k5⟩ := hO.box o1 b1 p1 n1 hm
    have := hO.inj o o1 y y1 b1 p p1 hy k2 hf (by rw [k4]; simp) hp k1
    subst this
    rw [hy] at k2
    cases k2
    rw [hb] at k4
    cases k4
  arr := fun o' pl' n hm ho' y0 hy0 => by
    subst ho'
    exact ⟨y', by rw [putO_one]; simp, fun h => by rw [happ] at h; cases h⟩

theorem src_spec (h : Rel S φ σ a w) {t : Ty} {ys : List t.den} {xc xc' : C} {v : Value} {rs : List Nat} (hv : RC (envOf S φ σ.objs w) xc v) (hr : reifyC σ.objs xc = (xc', rs)) (hx : xc' = .tr t ys ∨ (xc' = .nils t ∧ ys = [])) :
    Src w (envOf S φ σ.objs w).Ok t ys v := by
  have nil : v = .slice none 0 0 → ys = [] → Src w (envOf S φ σ.objs w).Ok t ys v := fun h1 h2 => by subst h1 h2; exact ⟨none, 0, rfl, Nat.le_refl _, Nat.zero_le _, .inl rfl⟩
  cases xc with
  | sl o' ver off len =>
    simp only [reifyC] at hr
    split at hr
    · rename_i y hy
      obtain ⟨hy0, hver⟩ := cur?_some hy
      split at hr
      · rename_i t' xs hb
        cases hr
        rcases hx with hx | ⟨hx, _⟩
        · cases hx
          obtain ⟨_, y', g1, _, g2⟩ := hv
          have : y' = y := by have hh : σ.objs o' = some y' := g1; rw [hy0] at hh; cases hh; rfl
          subst this
          exact sl_src (h.objs.ok o' y' hy0) hb (g2 hver)
        · cases hx
      · cases hr; rcases hx with hx | ⟨hx, _⟩ <;> cases hx
    · cases hr; rcases hx with hx | ⟨hx, _⟩ <;> cases hx
  | tr t' xs =>
    cases hr
    rcases hx with hx | ⟨hx, _⟩
    · cases hx; exact RdS.src hv
    · cases hx
  | nils t' =>
    cases hr
    rcases hx with hx | ⟨hx, h2⟩
    · cases hx; exact nil hv rfl
    · cases hx
  | _ => cases hr <;> rcases hx with hx | ⟨hx, _⟩ <;> cases hx

/-- What append comes to when a new block is laid. -/
theorem append_grow {P : Program} {w : World} {t ty el : TypeId} {inf : TypeInfo} {z : Value} {et : Ty} {ok : Nat → Prop} (ht : P.underlying t = some (.slice el)) (hi : P.info? el = some inf) (hz : inf.zero = some z) (hsz : inf.size = et.size) (hzs : z.cells.size = et.size)
    {xs ys : List et.den} {sa xa : Option Addr} {sCap xCap : Nat} (hs : Src w ok et xs (.slice sa xs.length sCap)) (hx : Src w ok et ys (.slice xa ys.length xCap)) (hg : sCap < xs.length + ys.length) (hb : 0 < inf.bytes) (hbytes : (xs.length + ys.length) * inf.bytes ≤ 140737488355328) :
    ∃ cap cur, (Builtin.append_ #[t, t] ty #[.slice sa xs.length sCap, .slice xa ys.length xCap]).run P w = .ok (.slice (some ⟨w.heap.size, 0, none⟩) (xs ++ ys).length cap) ((w.drewN 1).alloc (.cells cur el)) ∧
      (xs ++ ys).length ≤ cap ∧ cap ≤ maxLen ∧ cur.size = cap * et.size ∧ ∀ i x, (xs ++ ys)[i]? = some x → Rd w ok et x (fun j => cur[i * et.size + j]?) := by
  obtain ⟨olds, o1, o2, o3, o4⟩ := hs.news (P := P)
  obtain ⟨news, n1, n2, n3, n4⟩ := hx.news (P := P)
  have hn63 : xs.length + ys.length ≤ 140737488355328 := by
    have : (xs.length + ys.length) * 1 ≤ (xs.length + ys.length) * inf.bytes := Nat.mul_le_mul_left _ hb
    omega
  have hr := run_append_grow' (P := P) w t ty el inf z ht hi hz sa xs.length sCap olds (by rw [hsz]; exact o4 w.drew rfl) xa ys.length xCap news (by rw [hsz]; exact n4 w.drew rfl) hg (by omega)
    (growslice_fits hg hbytes)
  have hge := grownCap_ge w (xs.length + ys.length) sCap el
  have hle := grownCap_le_maxLen w (xs.length + ys.length) sCap el (by simp only [maxLen]; omega)
  refine ⟨_, _, by rw [hr]; simp only [List.length_append]; rfl, by simpa using hge, hle, ?_, fun i x hx => ?_⟩
  · simp only [Array.size_append, List.size_toArray, size_zeroCells, hzs, o1, n1, ← Nat.add_mul]
    congr 1
    omega
  · have hget : ∀ k u, (olds ++ news)[k]? = some u → (olds.toArray ++ news.toArray ++ Builtin.zeroCells z.cells (grownCap w (xs.length + ys.length) sCap el - (xs.length + ys.length)))[k]? = some u := fun k u hk => by
      have hlt := (List.getElem?_eq_some_iff.1 hk).1
      rw [Array.getElem?_append_left (by simpa using hlt)]
      simpa using hk
    rw [List.getElem?_append] at hx
    split at hx
    · rename_i hlt
      refine (o3 i x hx).congr fun j u hj hu => hget _ _ ?_
      rw [List.getElem?_append_left (by
        rw [o1]
        have : (i + 1) * et.size ≤ xs.length * et.size := Nat.mul_le_mul_right _ hlt
        rw [Nat.add_mul] at this
        omega)]
      exact hu
    · rename_i hge'
      refine (n3 _ x hx).congr fun j u hj hu => hget _ _ ?_
      have hmul : xs.length * et.size + (i - xs.length) * et.size = i * et.size := by rw [← Nat.add_mul, Nat.add_sub_cancel' (by omega)]
      rw [List.getElem?_append_right (by rw [o1]; omega), o1, show i * et.size + j - xs.length * et.size = (i - xs.length) * et.size + j by omega]
      exact hu

theorem WStep.alloc' (w : World) (n : Nat) (ob : Go.Obj) (Sx : Nat → Prop) : WStep w ((w.drewN n).alloc ob) Sx := by
  have := WStep.alloc (w.drewN n) ob Sx
  exact ⟨this.os, this.tape, this.output, this.size, this.keep, this.bsz⟩

theorem o_appendSl (hT : TOK S.P T) (h : Rel S φ σ a w) {s x : Operand} {t : TypeId} {args : Array Operand} {ats : Array TypeId} (hargs : args.toList = [s, x]) (hats : ats.toList = [t, t])
    (ho : o.op = .call { callee := .builtin .append, args := args, argTypes := ats }) {ei : TI} {et et' : Ty} (hel : elemTy T t = some (ei, et')) {o' ver off : Nat} {len : Option Nat} {y : Obj} {xs ys : List et.den} {rs : List Nat} {xc xc' : C}
    (hsz : et.size = ei.size) (hby : 0 < ei.bytes) (hs : val T σ.slots t s = .v (.one (.sl o' ver off len))) (hx : val T σ.slots t x = .v (.one xc)) (hr : reifyC σ.objs xc = (xc', rs)) (hxc : xc' = .tr et ys ∨ (xc' = .nils et ∧ ys = []))
    (hcur : cur? σ.objs o' ver = some y) (hb : y.body = .arr et xs) (hfrz : y.frz = false) (hbytes : ((win off len xs).length + ys.length) * ei.bytes ≤ maxBytes) :
    OpOK S φ σ a w o ⟨one (.sl o' (ver + 1) 0 none), [(o', ⟨ver + 1, 0, false, true, .arr et (win off len xs ++ ys)⟩)], o' :: rs⟩ := by
  have ea : args = #[s, x] := by apply Array.toList_inj.1; simpa using hargs
  have eb : ats = #[t, t] := by apply Array.toList_inj.1; simpa using hats
  subst ea eb
  obtain ⟨el, ti, t1, t2, t3, t4, t5⟩ := elemTy_spec hel
  obtain ⟨inf, z, m1, m2, m3, m4, m5⟩ := (hT el ei t3).info
  have hut := (hT t ti t1).kind
  rw [t2] at hut
  have hut : S.P.underlying t = some (.slice el) := hut
  have hzs : z.cells.size = et.size := by
    have := (zerosOk_spec m5).1
    rw [(hT el ei t3).zlen] at this
    simp at this
    omega
  have hst : inf.size = et.size := by omega
  have hxv := val_RAV h T t x
  rw [hx] at hxv
  have hsrc := src_spec h hxv hr hxc
  obtain ⟨xa, xcap, xv, x1, x2, x3⟩ := hsrc
  have hsv := val_RAV h T t s
  rw [hs] at hsv
  obtain ⟨_, y', g1, _, g2⟩ := hsv
  obtain ⟨hy, hver⟩ := cur?_some hcur
  have e1 : y' = y := by have hh : σ.objs o' = some y' := g1; rw [hy] at hh; cases hh; rfl
  subst e1
  have hsl : SlOK w (φ o') y'.body off len (a.eval s) := g2 hver
  have hssrc := sl_src (h.objs.ok o' y' hy) hb hsl
  have hobj := h.objs.ok o' y' hy
  unfold ObjOK at hobj
  rw [hb] at hobj hsl
  have fin : ∀ {v : Value} {w' : World}, (Builtin.append_ #[t, t] o.type #[a.eval s, a.eval x]).run S.P w = .ok v w' → (Go.execOp a.eval o).run S.P w = .ok (.value v) w' := fun hh => by
    simp [Go.execOp, ho, resolve, invoke, builtin, hh]
  have hxs : Src w (envOf S φ σ.objs w).Ok et ys (.slice xa ys.length xcap) := ⟨xa, xcap, rfl, x1, x2, x3⟩
  rw [xv] at fin
  -- the version after it, by its block
  have done : ∀ {w' : World} {Sx : Nat → Prop} {pl : Pl} {v : Value}, (Go.execOp a.eval o).run S.P w = .ok (.value v) w' → WStep w w' Sx → (∀ b, Sx b → ∃ p, φ o' = some (b, p)) →
      (∀ b p, pl = some (b, p) → b < w'.heap.size ∧ (b < w.heap.size → ∃ p0, φ o' = some (b, p0))) →
      (EnvStep (envOf S φ σ.objs w) (envOf S (setP φ o' pl) (putO σ.objs [(o', ⟨ver + 1, 0, false, true, .arr et (win off len xs ++ ys)⟩)]) w') → ObjOK (envOf S (setP φ o' pl) (putO σ.objs [(o', ⟨ver + 1, 0, false, true, .arr et (win off len xs ++ ys)⟩)]) w') o' ⟨ver + 1, 0, false, true, .arr et (win off len xs ++ ys)⟩) →
      (∃ a n c, v = .slice a n c) → SlOK w' pl (.arr et (win off len xs ++ ys)) 0 none v → OpOK S φ σ a w o ⟨one (.sl o' (ver + 1) 0 none), [(o', ⟨ver + 1, 0, false, true, .arr et (win off len xs ++ ys)⟩)], o' :: rs⟩ := by
    intro w' Sx pl v hrun ws hS hpl hok hvs hslok
    have hstep := OStep.turn h.objs (y' := ⟨ver + 1, 0, false, true, .arr et (win off len xs ++ ys)⟩) hy hfrz hb ws hS hpl (by show y'.ver < ver + 1; omega) rfl hok
    refine OpOK.of_value hrun (hstep.keep h.objs h.frame) ⟨hvs, ⟨ver + 1, 0, false, true, .arr et (win off len xs ++ ys)⟩, by show putO σ.objs _ o' = _; rw [putO_one]; simp, Nat.le_refl _, fun _ => ?_⟩
    show SlOK w' (setP φ o' pl o') _ 0 none v
    rw [setP_self]
    exact hslok
  have grow : ∀ {sa : Option Addr} {sCap : Nat}, a.eval s = .slice sa (win off len xs).length sCap → sCap < (win off len xs).length + ys.length → OpOK S φ σ a w o ⟨one (.sl o' (ver + 1) 0 none), [(o', ⟨ver + 1, 0, false, true, .arr et (win off len xs ++ ys)⟩)], o' :: rs⟩ := by
    intro sa sCap hse hlt
    rw [hse] at hssrc fin
    obtain ⟨cap, cur, r1, r2, r3, r4, r5⟩ := append_grow (ty := o.type) hut m1 m4 hst hzs hssrc hxs hlt (by omega) (by rw [m3]; exact hbytes)
    have hw : ((w.drewN 1).alloc (.cells cur el)).heap[w.heap.size]? = some (.cells cur el (0, 0)) := heap_alloc_new (w.drewN 1) _
    refine done (Sx := fun _ => False) (pl := some (w.heap.size, 0)) (fin r1) (WStep.alloc' w 1 _ _) (fun _ hh => hh.elim) (fun b p hp => by cases hp; exact ⟨by simp, fun hh => absurd hh (Nat.lt_irrefl _)⟩) (fun henv => ?_) ⟨_, _, _, rfl⟩ ?_
    · refine .inr ⟨w.heap.size, 0, cur, el, setP_self o' _, hw, ?_, fun i x hi => Rd.step henv.ok (r5 i x hi) fun j v _ hv => by rw [Nat.zero_add]; exact hv⟩
      rw [Nat.zero_add, r4]
      exact Nat.mul_le_mul_right _ r2
    · refine ⟨0, cap, rfl, r2, r3, .inr (by simp), ?_⟩
      rw [bsz_at hw, r4]
      omega
  rcases hobj with ⟨k1, rfl⟩ | ⟨b, p, cur, el', k1, k2, k3, k4⟩
  · have k1' : φ o' = none := k1
    rw [k1'] at hsl
    obtain ⟨_, sad, hse⟩ := hsl
    have hwin : win off len ([] : List et.den) = [] := by cases len <;> cases off <;> simp [win, drop']
    by_cases hy0 : ys = []
    · subst hy0
      rw [hse] at fin
      have hroom := run_append_room' (P := S.P) w t o.type el inf hut m1 sad 0 0 xa 0 xcap [] (by
        obtain ⟨news, n1, n2, n3, n4⟩ := hxs.news (P := S.P)
        have hn0 : news = [] := List.eq_nil_of_length_eq_zero (by simpa using n1)
        subst hn0
        rw [hst]
        exact n4 w rfl) (by omega) w (by cases sad <;> simp [storeCells])
      refine done (Sx := fun _ => False) (pl := none) (fin hroom) (WStep.refl w _) (fun _ hh => hh.elim) (fun _ _ hp => by cases hp) (fun _ => .inl ⟨setP_self o' _, by rw [hwin]; rfl⟩) ⟨_, _, _, rfl⟩ ⟨by rw [hwin]; rfl, sad, rfl⟩
    · refine grow (by rw [hse, hwin]; rfl) ?_
      rw [hwin]
      have := List.length_pos_iff.2 hy0
      simpa using this
  · have k1' : φ o' = some (b, p) := k1
    have k2' : w.heap[b]? = some (.cells cur el' (0, 0)) := k2
    rw [k1'] at hsl
    obtain ⟨q, sCap, hse, l1, l2, l3, l4⟩ := hsl
    by_cases hroom : (win off len xs).length + ys.length ≤ sCap
    · obtain ⟨news, n1, n2, n3, n4⟩ := hxs.news (P := S.P)
      rw [bsz_at k2'] at l4
      have hmul : ((win off len xs).length + ys.length) * et.size ≤ sCap * et.size := Nat.mul_le_mul_right _ hroom
      rw [Nat.add_mul] at hmul
      have hfit : q + (win off len xs).length * et.size + news.length ≤ cur.toList.length := by rw [n1]; simp; omega
      have hsc := run_storeCells_at S.P b (q + (win off len xs).length * et.size) el' news 0 cur w k2' (by rw [Nat.add_zero]; simpa using hfit) n2
      simp only [Nat.add_zero] at hsc
      rw [hse] at fin
      have hrr := run_append_room' (P := S.P) w t o.type el inf hut m1 (some ⟨b, q, none⟩) (win off len xs).length sCap xa ys.length xcap news (by rw [hst]; exact n4 w rfl) hroom
        (w.setRow b (splice cur.toList (q + (win off len xs).length * et.size) news).toArray) (by simp only; rw [hst, Addr.add_lit]; exact hsc)
      have hw := setRow_heap w b cur (splice cur.toList (q + (win off len xs).length * et.size) news).toArray el' (0, 0) k2'
      have hcs : (splice cur.toList (q + (win off len xs).length * et.size) news).toArray.size = cur.size := by simp only [List.size_toArray]; rw [splice_length hfit]; simp
      have hblt : b < w.heap.size := (Array.getElem?_eq_some_iff.1 k2').1
      refine done (Sx := fun x => x = b) (pl := some (b, q)) (fin hrr) ⟨rfl, rfl, rfl, by simp, fun b' _ hb' => setRow_other w b b' _ hb', fun b' _ => ?_⟩ (fun b' hb' => ⟨p, by rw [hb']; exact k1'⟩)
        (fun b' p' hp => by cases hp; exact ⟨by simpa using hblt, fun _ => ⟨p, k1'⟩⟩) (fun henv => ?_) ⟨_, _, _, rfl⟩ ?_
      · by_cases hbb : b' = b
        · subst hbb; rw [bsz_at k2', bsz_at hw, hcs]; exact Nat.le_refl _
        · exact Nat.le_of_eq (bsz_of_heap (setRow_other w b b' _ hbb)).symm
      · refine .inr ⟨b, q, _, el', setP_self o' _, hw, ?_, fun i x hi => ?_⟩
        · rw [hcs, List.length_append, Nat.add_mul]
          omega
        · have hget : ∀ k, (splice cur.toList (q + (win off len xs).length * et.size) news).toArray[k]? = (splice cur.toList (q + (win off len xs).length * et.size) news)[k]? := fun k => List.getElem?_toArray ..
          rw [List.getElem?_append] at hi
          split at hi
          · rename_i hlt
            have hq : q = p + off * et.size := by
              rcases l3 with l3 | l3
              · omega
              · exact l3
            refine Rd.step henv.ok (k4 (off + i) x (win_get hi)) fun j u hj hu => ?_
            have hm2 : (i + 1) * et.size ≤ (win off len xs).length * et.size := Nat.mul_le_mul_right _ hlt
            rw [Nat.add_mul] at hm2
            rw [hget, splice_get hfit, if_pos (by omega)]
            rw [show p + (off + i) * et.size + j = q + i * et.size + j by rw [hq, Nat.add_mul]; omega] at hu
            simpa using hu
          · rename_i hge
            refine Rd.step henv.ok (n3 _ x hi) fun j u hj hu => ?_
            have hm2 : (win off len xs).length * et.size + (i - (win off len xs).length) * et.size = i * et.size := by rw [← Nat.add_mul, Nat.add_sub_cancel' (by omega)]
            have hlt2 := (List.getElem?_eq_some_iff.1 hu).1
            rw [hget, splice_get hfit, if_neg (by omega), if_pos (by omega), show q + i * et.size + j - (q + (win off len xs).length * et.size) = (i - (win off len xs).length) * et.size + j by omega]
            exact hu
      · refine ⟨q, sCap, by rw [win_all, List.length_append], by rw [win_all, List.length_append]; exact hroom, l2, .inr (by simp), ?_⟩
        rw [bsz_at hw, hcs]
        exact l4
    · exact grow hse (by omega)

theorem o_appendNil (hT : TOK S.P T) (h : Rel S φ σ a w) {s x : Operand} {t : TypeId} {args : Array Operand} {ats : Array TypeId} (hargs : args.toList = [s, x]) (hats : ats.toList = [t, t])
    (ho : o.op = .call { callee := .builtin .append, args := args, argTypes := ats }) {ei : TI} {et et' : Ty} (hel : elemTy T t = some (ei, et')) {nm : Nat} {ys : List et.den} {rs : List Nat} {xc xc' : C}
    (hsz : et.size = ei.size) (hby : 0 < ei.bytes) (hs : val T σ.slots t s = .v (.one (.nils et))) (hx : val T σ.slots t x = .v (.one xc)) (hr : reifyC σ.objs xc = (xc', rs)) (hxc : xc' = .tr et ys ∨ (xc' = .nils et ∧ ys = []))
    (hn : σ.objs nm = none) (hbytes : ys.length * ei.bytes ≤ maxBytes) :
    OpOK S φ σ a w o ⟨one (.sl nm 0 0 none), [(nm, mkObj (.arr et ys))], rs⟩ := by
  have ea : args = #[s, x] := by apply Array.toList_inj.1; simpa using hargs
  have eb : ats = #[t, t] := by apply Array.toList_inj.1; simpa using hats
  subst ea eb
  obtain ⟨el, ti, t1, t2, t3, t4, t5⟩ := elemTy_spec hel
  obtain ⟨inf, z, m1, m2, m3, m4, m5⟩ := (hT el ei t3).info
  have hut := (hT t ti t1).kind
  rw [t2] at hut
  have hut : S.P.underlying t = some (.slice el) := hut
  have hzs : z.cells.size = et.size := by
    have := (zerosOk_spec m5).1
    rw [(hT el ei t3).zlen] at this
    simp at this
    omega
  have hst : inf.size = et.size := by omega
  have hxv := val_RAV h T t x
  rw [hx] at hxv
  obtain ⟨xa, xcap, xv, x1, x2, x3⟩ := src_spec h hxv hr hxc
  have hxs : Src w (envOf S φ σ.objs w).Ok et ys (.slice xa ys.length xcap) := ⟨xa, xcap, rfl, x1, x2, x3⟩
  have hsv := val_RAV h T t s
  rw [hs] at hsv
  have hsv : a.eval s = .slice none 0 0 := hsv
  have fin : ∀ {v : Value} {w' : World}, (Builtin.append_ #[t, t] o.type #[a.eval s, a.eval x]).run S.P w = .ok v w' → (Go.execOp a.eval o).run S.P w = .ok (.value v) w' := fun hh => by
    simp [Go.execOp, ho, resolve, invoke, builtin, hh]
  rw [xv, hsv] at fin
  by_cases hy0 : ys = []
  · subst hy0
    have hroom := run_append_room' (P := S.P) w t o.type el inf hut m1 none 0 0 xa 0 xcap [] (by
      obtain ⟨news, n1, n2, n3, n4⟩ := hxs.news (P := S.P)
      have hn0 : news = [] := List.eq_nil_of_length_eq_zero (by simpa using n1)
      subst hn0
      rw [hst]
      exact n4 w rfl) (by omega) w rfl
    have hstep := OStep.fresh h.objs hn (WStep.refl w _) (mkObj (.arr et [])) none (fun _ _ hp => by cases hp) fun _ => .inl ⟨setP_self nm _, rfl⟩
    refine OpOK.of_value (fin hroom) (hstep.keep h.objs h.frame) ⟨⟨_, _, _, rfl⟩, mkObj (.arr et []), by show putO σ.objs _ nm = _; rw [putO_one]; simp, Nat.le_refl _, fun _ => ?_⟩
    show SlOK w (setP φ nm none nm) _ 0 none _
    rw [setP_self]
    exact ⟨rfl, none, rfl⟩
  · have hss : Src w (envOf S φ σ.objs w).Ok et [] (.slice none ([] : List et.den).length 0) := ⟨none, 0, rfl, Nat.le_refl _, Nat.zero_le _, .inl rfl⟩
    have hpos := List.length_pos_iff.2 hy0
    obtain ⟨cap, cur, r1, r2, r3, r4, r5⟩ := append_grow (ty := o.type) hut m1 m4 hst hzs hss hxs (by simpa using hpos) (by omega) (by rw [m3]; simpa [maxBytes] using hbytes)
    obtain ⟨k1, k2⟩ := arr_fresh (xs := ys) (cur := cur) (n := ys.length) (cap := cap) h.objs h.frame hn 1 el (by rw [r4]; exact Nat.mul_le_mul_right _ (by simpa using r2)) (fun i x hi => r5 i x (by simpa using hi)) rfl (by simpa using r2) r3 (by rw [r4]; exact Nat.le_refl _)
    exact OpOK.of_value (fin r1) k1 (by simpa using k2)

theorem o_append (hT : TOK S.P T) (h : Rel S φ σ a w) {s x : Operand} {t : TypeId} {args : Array Operand} {ats : Array TypeId} (hargs : args.toList = [s, x]) (hats : ats.toList = [t, t])
    (ho : o.op = .call { callee := .builtin .append, args := args, argTypes := ats }) {ei : TI} {et' : Ty} (hel : elemTy T t = some (ei, et')) {nm : Nat}
    (he : (appendStep σ.objs ei.size ei.bytes nm (val T σ.slots t s) (val T σ.slots t x)).yields e) (hok : effOk σ.objs e = true) : OpOK S φ σ a w o e := by
  unfold appendStep at he
  split at he
  · rename_i xc hx
    rcases hr : reifyC σ.objs xc with ⟨xc', rs⟩
    rw [hr] at he
    simp only at he
    have main : ∀ (et : Ty) (ys : List et.den), (xc' = .tr et ys ∨ (xc' = .nils et ∧ ys = [])) → (bif Nat.beq et.size ei.size && Nat.blt 0 ei.bytes then match val T σ.slots t s with
        | .v (.one (.sl o ver off len)) => match cur? σ.objs o ver with
          | some y => match y.body with
            | .arr t xs => if h : et = t then
                bif !y.frz && !rs.contains o then
                  Step.chk (decide (((win off len xs).length + ys.length) * ei.bytes ≤ maxBytes)) ⟨one (.sl o (ver + 1) 0 none), [(o, ⟨ver + 1, 0, false, true, .arr t (win off len xs ++ (h ▸ ys))⟩)], o :: rs⟩
                else .fail
              else .fail
            | _ => .fail
          | none => .fail
        | .v (.one (.nils t)) => if h : et = t then
            bif rs.contains nm then .fail else .chk (decide (ys.length * ei.bytes ≤ maxBytes)) ⟨one (.sl nm 0 0 none), [(nm, mkObj (.arr t (h ▸ ys)))], rs⟩
          else .fail
        | _ => .fail
        else .fail).yields e → OpOK S φ σ a w o e := by
      intro et ys hxc he
      cases hc : (Nat.beq et.size ei.size && Nat.blt 0 ei.bytes) with
      | false => rw [hc] at he; cases he
      | true =>
        rw [hc] at he
        simp only [cond_true] at he
        simp only [Bool.and_eq_true] at hc
        have hsz := Nat.eq_of_beq_eq_true hc.1
        have hby : 0 < ei.bytes := Nat.le_of_ble_eq_true hc.2
        split at he
        · rename_i o' ver off len hs
          split at he
          · rename_i y hcur
            split at he
            · rename_i t' xs hb
              split at he
              · rename_i ht
                subst ht
                cases hf : (!y.frz && !rs.contains o') with
                | false => rw [hf] at he; cases he
                | true =>
                  rw [hf] at he
                  simp only [cond_true] at he
                  simp only [Bool.and_eq_true, Bool.not_eq_true'] at hf
                  obtain ⟨hd, rfl⟩ := he
                  exact o_appendSl hT h hargs hats ho hel hsz hby hs hx hr hxc hcur hb hf.1 (by simpa using hd)
              · cases he
            · cases he
          · cases he
        · rename_i t' hs
          split at he
          · rename_i ht
            subst ht
            cases hf : rs.contains nm with
            | true => rw [hf] at he; cases he
            | false =>
              rw [hf] at he
              simp only [cond_false] at he
              obtain ⟨hd, rfl⟩ := he
              have hn : σ.objs nm = none := by
                rcases (effOk_spec hok).2 (nm, mkObj (.arr et ys)) (by simp) with g | g
                · have : nm ∈ rs := g
                  simp at hf
                  exact absurd this hf
                · exact g
              exact o_appendNil hT h hargs hats ho hel hsz hby hs hx hr hxc hn (by simpa using hd)
          · cases he
        · cases he
    cases xc' with
    | tr et ys => exact main et ys (.inl rfl) he
    | nils et => exact main et [] (.inr ⟨rfl, rfl⟩) he
    | _ => cases he
  · cases he
end
end Go.M
namespace Go.M
open Go

section
variable {S : Start} {φ : Nat → Pl} {σ : St} {a : Act} {w : World} {o : Oper} {e : Eff} {T : TypeId → Option TI}

/-- A store that turns nothing. -/
theorem OStep.touch {L : Look} (hO : Objs S φ L w) {o : Nat} {y y' : Obj} (hy : L o = some y) (hb : y'.body = y.body) (hf : y'.frz = y.frz) (ha : y'.app = y.app) (hver : y'.ver = y.ver) (hwv : y.wv < y'.wv) :
    OStep S φ φ L (putO L [(o, y')]) w w (fun _ => False) (fun x => x = o) where
  ws := WStep.refl w _
  owned := fun _ h => h.elim
  stay := fun o' ho' => ⟨by rw [putO_one]; simp [ho'], rfl⟩
  old := fun o' y0 hy0 ho' => by
    subst ho'
    rw [hy] at hy0
    cases hy0
    exact ⟨y', by rw [putO_one]; simp, ⟨Nat.le_of_eq hver.symm, fun _ => Nat.le_of_lt hwv, fun _ => ⟨rfl, by rw [hb]; exact Body.sim_refl _⟩, fun _ h => absurd h (by omega), fun cs hc => ⟨rfl, cs, by rw [hb]; exact hc⟩⟩⟩
  unfrz := fun o' y0 b p hy0 ho' hf0 hp _ => by
    subst ho'
    have : y0 = y' := by rw [putO_one] at hy0; simpa using hy0.symm
    subst this
    exact ⟨o', y, p, hy, by rw [← hf]; exact hf0, hp, rfl⟩
  ok := fun o' y0 hy0 ho' henv => by
    subst ho'
    have : y0 = y' := by rw [putO_one] at hy0; simpa using hy0.symm
    subst this
    exact (hO.ok _ y hy).step henv hb (fun h => by rw [hf]; exact h) rfl fun _ _ _ => rfl
  blk := fun o' y0 b p hy0 ho' hp => by
    subst ho'
    have : y0 = y' := by rw [putO_one] at hy0; simpa using hy0.symm
    subst this
    exact ⟨(hO.blk _ y b p hy hp).1, fun _ => ⟨_, y, p, hy, hp, fun h => by rw [← hf]; exact h⟩⟩
  inj := fun _ _ _ _ _ _ _ _ _ h h' _ _ _ _ => h.trans h'.symm
  injOld := fun o' y0 b p hy0 ho' hg hp _ => by
    subst ho'
    have : y0 = y' := by rw [putO_one] at hy0; simpa using hy0.symm
    subst this
    exact ⟨_, y, p, rfl, hy, fun h => hg (by rw [hb]; exact h), hp⟩
  box := fun o' b p n hm ho' hp y0 cs hy0 hf0 hb0 => by
    subst ho'
    rw [hy] at hy0
    cases hy0
    exact ⟨hp, y', cs, by rw [putO_one]; simp, by rw [hf]; exact hf0, by rw [hb]; exact hb0, rfl⟩
  boxW := fun _ _ _ _ _ _ _ _ h => h.elim
  arr := fun o' pl n hm ho' y0 hy0 => by
    subst ho'
    rw [hy] at hy0
    cases hy0
    exact ⟨y', by rw [putO_one]; simp, fun h1 h2 => ⟨by rw [← ha]; exact h1, by rw [← hf]; exact h2, rfl, by rw [hb]; exact Body.sim_refl _⟩⟩

theorem win_le {α : Type} (off : Nat) (len : Option Nat) (xs : List α) : (win off len xs).length ≤ xs.length - off := by
  have hd : (drop' off xs).length = xs.length - off := by cases off <;> simp [drop']
  cases len with
  | none => simp [win, hd]
  | some n => simp [win, hd]; omega

theorem range_keep (h : Rel S φ σ a w) {o' ver off : Nat} {len : Option Nat} {y : Obj} {t : Ty} {xs zs : List t.den} {v : Value} (hcur : cur? σ.objs o' ver = some y) (hb : y.body = .arr t xs) (hfrz : y.frz = false)
    (hv : RC (envOf S φ σ.objs w) (.sl o' ver off len) v) (hz : zs.length ≤ (win off len xs).length) :
    (∃ ad cap, v = .slice ad (win off len xs).length cap) ∧
    (zs = [] → Keep S φ φ σ.objs (putO σ.objs [(o', { y with wv := y.wv + 1, body := .arr t (xs.take off ++ zs ++ xs.drop (off + zs.length)) })]) w w) ∧
    (zs ≠ [] → ∃ b q cap cur el, v = .slice (some ⟨b, q, none⟩) (win off len xs).length cap ∧ w.heap[b]? = some (.cells cur el (0, 0)) ∧ q + zs.length * t.size ≤ cur.size ∧
      ∀ news : List Value, news.length = zs.length * t.size → (∀ i z, zs[i]? = some z → Rd w (envOf S φ σ.objs w).Ok t z (fun j => news[i * t.size + j]?)) →
        Keep S φ φ σ.objs (putO σ.objs [(o', { y with wv := y.wv + 1, body := .arr t (xs.take off ++ zs ++ xs.drop (off + zs.length)) })]) w (w.setRow b (splice cur.toList q news).toArray)) := by
  obtain ⟨hy, hver⟩ := cur?_some hcur
  obtain ⟨hslv, y', g1, _, g2⟩ := hv
  have e1 : y' = y := by have hh : σ.objs o' = some y' := g1; rw [hy] at hh; cases hh; rfl
  subst e1
  have hsl : SlOK w (φ o') y'.body off len v := g2 hver
  have hobj := h.objs.ok o' y' hy
  unfold ObjOK at hobj
  rw [hb] at hobj hsl
  have hw := win_le off len xs
  refine ⟨?_, fun h0 => ?_, fun hne => ?_⟩
  · simp only [SlOK] at hsl
    split at hsl
    · obtain ⟨h1, h2⟩ := hsl
      subst h1
      have : win off len ([] : List t.den) = [] := by cases len <;> cases off <;> simp [win, drop']
      obtain ⟨ad, h2⟩ := h2
      exact ⟨ad, 0, by rw [this]; exact h2⟩
    · obtain ⟨q, cap, h1, _⟩ := hsl; exact ⟨_, cap, h1⟩
  · subst h0
    have hbody : (.arr t (xs.take off ++ [] ++ xs.drop (off + ([] : List t.den).length)) : Body) = y'.body := by rw [hb]; simp
    exact (OStep.touch h.objs (y' := { y' with wv := y'.wv + 1, body := .arr t (xs.take off ++ [] ++ xs.drop (off + ([] : List t.den).length)) }) hy hbody rfl rfl rfl (Nat.lt_succ_self _)).keep h.objs h.frame
  · have hpos : 0 < zs.length := List.length_pos_iff.2 hne
    rcases hobj with ⟨k1, rfl⟩ | ⟨b, p, cur, el, k1, k2, k3, k4⟩
    · simp only [List.length_nil, Nat.zero_sub] at hw; omega
    · have k1' : φ o' = some (b, p) := k1
      have k2' : w.heap[b]? = some (.cells cur el (0, 0)) := k2
      rw [k1'] at hsl
      obtain ⟨q, cap, hse, l1, l2, l3, l4⟩ := hsl
      have hq : q = p + off * t.size := by
        rcases l3 with l3 | l3
        · omega
        · exact l3
      have hfit : off + zs.length ≤ xs.length := by omega
      have hm1 : (off + zs.length) * t.size ≤ xs.length * t.size := Nat.mul_le_mul_right _ hfit
      rw [Nat.add_mul] at hm1
      refine ⟨b, q, cap, cur, el, hse, k2', by omega, fun news n1 n2 => ?_⟩
      have hfit' : q + news.length ≤ cur.toList.length := by rw [n1]; simp; omega
      have hlen : (xs.take off ++ zs ++ xs.drop (off + zs.length)).length = xs.length := by simp; omega
      refine (OStep.write h.objs (o := o') (y := y') (y' := { y' with wv := y'.wv + 1, body := .arr t (xs.take off ++ zs ++ xs.drop (off + zs.length)) }) (cur' := (splice cur.toList q news).toArray) hy hfrz k1' k2'
        (by simp only [List.size_toArray]; rw [splice_length hfit']; simp) hfrz rfl rfl (Nat.le_succ _) (by rw [hb]; exact ⟨rfl, hlen.symm⟩) (fun hc => absurd hc (by simp)) (fun cs0 hc0 => by rw [hb] at hc0; cases hc0)
        (fun cs0 hc0 => by rw [hb] at hc0; cases hc0) (fun henv hwh => ?_)).keep h.objs h.frame
      refine .inr ⟨b, p, _, el, k1', hwh, ?_, fun i z hi => ?_⟩
      · simp only [List.size_toArray]
        rw [hlen, splice_length hfit']
        simpa using k3
      · have hget : ∀ k, (splice cur.toList q news).toArray[k]? = (splice cur.toList q news)[k]? := fun k => List.getElem?_toArray ..
        have hin : ∀ (i : Nat) (z : t.den), xs[i]? = some z → (i < off ∨ off + zs.length ≤ i) → Rd (w.setRow b (splice cur.toList q news).toArray) (envOf S φ (putO σ.objs [(o', { y' with wv := y'.wv + 1, body := .arr t (xs.take off ++ zs ++ xs.drop (off + zs.length)) })]) (w.setRow b (splice cur.toList q news).toArray)).Ok t z (fun j => (splice cur.toList q news).toArray[p + i * t.size + j]?) := fun i z hi hio => by
          refine Rd.step henv.ok (k4 i z hi) fun j u hj hu => ?_
          rw [hget, splice_out hfit' ?_]
          · simpa using hu
          · rw [n1]
            rcases hio with hlt | hge
            · left
              have : (i + 1) * t.size ≤ off * t.size := Nat.mul_le_mul_right _ hlt
              rw [Nat.add_mul, Nat.one_mul] at this
              omega
            · right
              have : (off + zs.length) * t.size ≤ i * t.size := Nat.mul_le_mul_right _ hge
              rw [Nat.add_mul] at this
              omega
        have hi' : (if i < off then xs[i]? else if i < off + zs.length then zs[i - off]? else xs[i]?) = some z := by
          rw [← splice_get hfit i]; exact hi
        by_cases d1 : i < off
        · rw [if_pos d1] at hi'; exact hin i z hi' (.inl d1)
        · rw [if_neg d1] at hi'
          by_cases d2 : i < off + zs.length
          · rw [if_pos d2] at hi'
            refine Rd.step henv.ok (n2 (i - off) z hi') fun j u hj hu => ?_
            have hm : (i - off + 1) * t.size ≤ zs.length * t.size := Nat.mul_le_mul_right _ (by omega)
            rw [Nat.add_mul, Nat.one_mul] at hm
            have hadd : i * t.size = off * t.size + (i - off) * t.size := by rw [← Nat.add_mul]; congr 1; omega
            rw [hget, splice_get hfit', if_neg (by omega), if_pos (by omega), show p + i * t.size + j - q = (i - off) * t.size + j by omega]
            exact hu
          · rw [if_neg d2] at hi'; exact hin i z hi' (.inr (by omega))

theorem o_clear (hT : TOK S.P T) (h : Rel S φ σ a w) {x : Operand} {t : TypeId} {args : Array Operand} {ats : Array TypeId} (hargs : args.toList = [x]) (hats : ats.toList = [t])
    (ho : o.op = .call { callee := .builtin .clear, args := args, argTypes := ats }) (he : (clearStep T σ.objs t (val T σ.slots t x)).yields e) : OpOK S φ σ a w o e := by
  have ea : args = #[x] := by apply Array.toList_inj.1; simpa using hargs
  have eb : ats = #[t] := by apply Array.toList_inj.1; simpa using hats
  subst ea eb
  have hx := val_RAV h T t x
  have fin : ∀ {w' : World}, (Builtin.clear_ #[t] o.type #[a.eval x]).run S.P w = .ok (.tuple #[]) w' → (Go.execOp a.eval o).run S.P w = .ok (.value (.tuple #[])) w' := fun hh => by
    simp [Go.execOp, ho, resolve, invoke, builtin, hh]
  unfold clearStep at he
  split at he
  · rename_i ei et hel
    obtain ⟨el, ti, t1, t2, t3, t4, t5⟩ := elemTy_spec hel
    have hut := (hT t ti t1).kind
    rw [t2] at hut
    have hut : S.P.underlying t = some (.slice el) := hut
    split at he
    · rename_i o' ver off len hxv
      rw [hxv] at hx
      split at he
      · rename_i y hcur
        split at he
        · rename_i t' xs hb
          split at he
          · rename_i ht
            subst ht
            split at he
            · rename_i z hz
              split at he
              · exact he.elim
              · rename_i hfrz
                have hl : (List.replicate (win off len xs).length z).length = (win off len xs).length := by simp
                obtain ⟨⟨ad, cap, hv⟩, k1, k2⟩ := range_keep (zs := List.replicate (win off len xs).length z) h hcur hb hfrz hx (Nat.le_of_eq hl)
                cases he
                by_cases h0 : (win off len xs).length = 0
                · refine OpOK.of_value (φ' := φ) (fin ?_) (k1 (by rw [h0]; rfl)) trivial
                  rw [hv, h0]
                  cases ad <;> simp [Builtin.clear_, run_underlying hut]
                · obtain ⟨b, q, cap', cur, el', g1, g2, g3, g4⟩ := k2 (fun hh => h0 (by have := congrArg List.length hh; simpa using this))
                  obtain ⟨zv, z1, z2⟩ := (hT el ei t3).zeroValue
                  -- the zero's cells
                  have hzl := zerosOk_spec z1
                  have hzs : zv.cells.size = et.size := by
                    have h5 := (hT el ei t3).elt et t4
                    have h6 := (hT el ei t3).zlen
                    have h7 := hzl.1
                    simp at h7
                    omega
                  have hpos := Ty.size_pos et
                  have hRP : RPs w (envOf S φ σ.objs w).Ok ei.zero zv.cells.toList := ⟨hzl.1, fun j c v hc hv => by
                    obtain ⟨u, u1, u2⟩ := hzl.2 j c hc
                    rw [hv] at u1
                    cases u1
                    exact zeroVal_RP u2⟩
                  have hone : ∀ u ∈ zv.cells.toList, u.oneCell' = true := fun u hu => by
                    obtain ⟨j, hj⟩ := List.getElem?_of_mem hu
                    have hlt : j < ei.zero.length := by rw [← hzl.1]; exact (List.getElem?_eq_some_iff.1 hj).1
                    obtain ⟨u', u1, u2⟩ := hzl.2 j _ (List.getElem?_eq_getElem hlt)
                    rw [hj] at u1
                    cases u1
                    exact (zeroVal_RC (E := envOf S φ σ.objs w) u2).2
                  have hzr := (unmkAll_spec hz hRP).1
                  let news : List Value := (Builtin.zeroCells zv.cells (win off len xs).length).toList
                  have hcell : ∀ k, k < (win off len xs).length * et.size → news[k]? = zv.cells.toList[k % et.size]? := fun k hk => by
                    have hm : k % et.size < zv.cells.size := by rw [hzs]; exact Nat.mod_lt _ hpos
                    simp only [news, Builtin.zeroCells, hzs]
                    simp [hk, hm]
                  have n1 : news.length = (List.replicate (win off len xs).length z).length * et.size := by simp [news, Builtin.zeroCells, hzs]
                  have n1' : news.length = (win off len xs).length * et.size := by rw [n1, hl]
                  have n2 : ∀ i z', (List.replicate (win off len xs).length z)[i]? = some z' → Rd w (envOf S φ σ.objs w).Ok et z' (fun j => news[i * et.size + j]?) := fun i z' hi => by
                    rw [List.getElem?_replicate] at hi
                    split at hi
                    · rename_i hlt
                      cases hi
                      refine hzr.congr fun j u hj hu => ?_
                      have hm : (i + 1) * et.size ≤ (win off len xs).length * et.size := Nat.mul_le_mul_right _ hlt
                      rw [Nat.add_mul, Nat.one_mul] at hm
                      rw [hcell _ (by omega), show (i * et.size + j) % et.size = j by rw [Nat.mul_comm, Nat.mul_add_mod]; exact Nat.mod_eq_of_lt hj]
                      exact hu
                    · cases hi
                  have n3 : ∀ u ∈ news, u.oneCell' = true := fun u hu => by
                    obtain ⟨k, hk⟩ := List.getElem?_of_mem hu
                    have hlt : k < news.length := (List.getElem?_eq_some_iff.1 hk).1
                    rw [hcell k (by rw [← n1']; exact hlt)] at hk
                    exact hone u (List.mem_of_getElem? hk)
                  have key := g4 news n1 n2
                  refine OpOK.of_value (φ' := φ) (fin ?_) key trivial
                  have hst := run_storeCells_at S.P b q el' news 0 cur w g2 (by rw [Nat.add_zero, n1]; exact g3) n3
                  simp only [Nat.add_zero] at hst
                  obtain ⟨m, hm⟩ : ∃ m, (win off len xs).length = m + 1 := ⟨(win off len xs).length - 1, by omega⟩
                  have hnews : (Builtin.zeroCells zv.cells (m + 1)).toList = news := by rw [← hm]
                  rw [g1, hm]
                  simp [Builtin.clear_, run_underlying hut, z2, hnews, hst, splice]
            · exact he.elim
          · exact he.elim
        · exact he.elim
      · exact he.elim
    · rename_i t' hxv
      rw [hxv] at hx
      cases he
      refine OpOK.of_value (φ' := φ) (fin ?_) ((OStep.quiet S φ σ.objs w 0).keep h.objs h.frame) trivial
      have hv : a.eval x = .slice none 0 0 := hx
      rw [hv]
      simp [Builtin.clear_, run_underlying hut, World.drewN]
    · exact he.elim
  · exact he.elim

theorem firstCells_len {P : Program} {w : World} {size n : Nat} {ad : Option Addr} {m m' cap cap' : Nat} : (Builtin.firstCells size n (.slice ad m cap)).run P w = (Builtin.firstCells size n (.slice ad m' cap')).run P w := by
  cases ad <;> rfl

theorem o_copy (hT : TOK S.P T) (h : Rel S φ σ a w) {x s : Operand} {t : TypeId} {args : Array Operand} {ats : Array TypeId} (hargs : args.toList = [x, s]) (hats : ats.toList = [t, t])
    (ho : o.op = .call { callee := .builtin .copy, args := args, argTypes := ats }) (he : (copyStep T σ.objs t (val T σ.slots t x) (val T σ.slots t s)).yields e) : OpOK S φ σ a w o e := by
  have ea : args = #[x, s] := by apply Array.toList_inj.1; simpa using hargs
  have eb : ats = #[t, t] := by apply Array.toList_inj.1; simpa using hats
  subst ea eb
  have hx := val_RAV h T t x
  have hs := val_RAV h T t s
  have fin : ∀ {v : Value} {w' : World}, (Builtin.copy_ #[t, t] o.type #[a.eval x, a.eval s]).run S.P w = .ok v w' → (Go.execOp a.eval o).run S.P w = .ok (.value v) w' := fun hh => by
    simp [Go.execOp, ho, resolve, invoke, builtin, hh]
  unfold copyStep at he
  split at he
  · rename_i ei et hel
    obtain ⟨el, ti, t1, t2, t3, t4, t5⟩ := elemTy_spec hel
    have hut := (hT t ti t1).kind
    rw [t2] at hut
    have hut : S.P.underlying t = some (.slice el) := hut
    split at he
    · rename_i sc hsv
      rw [hsv] at hs
      split at he
      · rename_i t2' ys rs hr
        split at he
        · rename_i o' ver off len hxv
          rw [hxv] at hx
          split at he
          · rename_i y hcur
            split at he
            · rename_i t' xs hb
              split at he
              · rename_i ht
                subst ht
                split at he
                · rename_i hc
                  simp only [Bool.and_eq_true, Bool.not_eq_true', decide_eq_true_eq] at hc
                  obtain ⟨⟨hfrz, _⟩, het⟩ := hc
                  subst het
                  cases he
                  have hszt : (Go.sizeOf el).run S.P w = .ok et.size w := by
                    have h1 := (hT el ei t3).sizeOf w
                    have h5 := (hT el ei t3).elt et t4
                    rw [h5]; exact h1
                  have hlen : (ys.take (win off len xs).length).length = Nat.min ys.length (win off len xs).length := by simp [Nat.min_comm]
                  obtain ⟨⟨ad, cap, hv⟩, k1, k2⟩ := range_keep (zs := ys.take (win off len xs).length) h hcur hb hfrz hx (by rw [hlen]; exact Nat.min_le_right _ _)
                  -- the source
                  have hsrc := src_spec h hs hr (.inl rfl)
                  obtain ⟨sa, scap, sv, s1, s2, s3⟩ := hsrc
                  have hsrc2 : Src w (envOf S φ σ.objs w).Ok et (ys.take (win off len xs).length) (.slice sa (ys.take (win off len xs).length).length scap) := ⟨sa, scap, rfl, by rw [hlen]; exact Nat.le_trans (Nat.min_le_left _ _) s1, s2, by
                    rcases s3 with rfl | ⟨b, p, e1, e2⟩
                    · exact .inl (by simp)
                    · refine .inr ⟨b, p, e1, fun i z hi => e2 i z ?_⟩
                      rw [List.getElem?_take] at hi
                      split at hi
                      · exact hi
                      · cases hi⟩
                  obtain ⟨news, n1, n2, n3, n4⟩ := hsrc2.news (P := S.P)
                  have hfc : (Builtin.firstCells et.size (Nat.min ys.length (win off len xs).length) (a.eval s)).run S.P w = .ok news.toArray w := by
                    rw [← hlen, sv, firstCells_len (m' := (ys.take (win off len xs).length).length) (cap' := scap)]
                    exact n4 w rfl
                  have hlo : (Builtin.lenOf (a.eval s)).run S.P w = .ok ys.length w := by rw [sv]; rfl
                  by_cases h0 : ys.take (win off len xs).length = []
                  · have hm0 : Nat.min ys.length (win off len xs).length = 0 := by rw [← hlen, h0]; rfl
                    refine OpOK.of_value (φ' := φ) (fin (v := goInt (Nat.min ys.length (win off len xs).length)) ?_) (k1 h0) rfl
                    have hn : news = [] := List.eq_nil_of_length_eq_zero (by rw [n1, h0]; simp)
                    subst hn
                    rw [hv]
                    rw [hm0] at hfc ⊢
                    cases ad with
                    | none => simp [Builtin.copy_, run_underlying hut, hlo, hszt, hfc, hm0]
                    | some ad =>
                      simp [Builtin.copy_, run_underlying hut, hlo, hszt, hfc, hm0, storeCells]
                  · obtain ⟨b, q, cap', cur, el', g1, g2, g3, g4⟩ := k2 h0
                    have key := g4 news n1 n3
                    refine OpOK.of_value (φ' := φ) (fin (v := goInt (Nat.min ys.length (win off len xs).length)) ?_) key rfl
                    have hst := run_storeCells_at S.P b q el' news 0 cur w g2 (by rw [Nat.add_zero, n1]; exact g3) n2
                    simp only [Nat.add_zero] at hst
                    rw [g1]
                    simp [Builtin.copy_, run_underlying hut, hlo, hszt, hfc, hst, splice]
                · exact he.elim
              · exact he.elim
            · exact he.elim
          · exact he.elim
        · exact he.elim
      · exact he.elim
    · exact he.elim
  · exact he.elim
end
end Go.M
namespace Go.M
open Go

section
variable {S : Start} {φ : Nat → Pl} {σ : St} {a : Act} {w : World} {o : Oper} {e : Eff} {T : TypeId → Option TI}

theorem optInt_zero (hr : Rel S φ σ a w) {x : Operand} (h : optInt T σ.slots (some x) = some (some 0)) : ∃ k, a.eval x = .int k 0 := by
  simp only [optInt] at h
  split at h
  · rename_i k n hx
    cases h
    have := val_RAV hr T 3 x
    rw [hx] at this
    exact ⟨k, this⟩
  · cases h

theorem o_slice3 (hT : TOK S.P T) (h : Rel S φ σ a w) {xt : TypeId} {x m : Operand} {lo hi : Option Operand} {nm : Nat} (ho : o.op = .slice xt x lo hi (some m))
    (he : (slice3Step T σ.slots σ.objs nm xt (val T σ.slots xt x) lo hi (some m)).yields e) (hok : effOk σ.objs e = true) : OpOK S φ σ a w o e := by
  have hx := val_RAV h T xt x
  unfold slice3Step at he
  split at he
  · split at he
    · rename_i hhi
      split at he
      · rename_i hmx
        cases hi with
        | none => simp [optInt] at hhi
        | some hi =>
          obtain ⟨k1, e1⟩ := optInt_zero h hhi
          obtain ⟨k2, e2⟩ := optInt_zero h hmx
          have main : ∀ {t : Ty} {ad : Option Addr} {n cap : Nat} {rs : List Nat}, elemSize T xt t.size = true → a.eval x = .slice ad n cap → effOk σ.objs ⟨one (.sl nm 0 0 none), [(nm, mkObj (.arr t []))], rs⟩ = true → nm ∉ rs →
              OpOK S φ σ a w o ⟨one (.sl nm 0 0 none), [(nm, mkObj (.arr t []))], rs⟩ := by
            intro t ad n cap rs hs hv hok hnr
            obtain ⟨el, inf, hu, hinf, hsz⟩ := kind_slice hT hs
            have hn : σ.objs nm = none := by
              rcases (effOk_spec hok).2 (nm, mkObj (.arr t [])) (by simp) with g | g
              · exact absurd g hnr
              · exact g
            have hrun : (Go.execOp a.eval o).run S.P w = .ok (.value (.slice ad 0 0)) w := by
              simp [Go.execOp, ho, hv, e1, e2, Instr.sliceAt, Instr.slice, run_underlying hu, Instr.sliceBounds, Instr.sliceBound, asIntOf, sizeOf, typeInfo, hinf]
            have hstep := OStep.fresh h.objs hn (WStep.refl w _) (mkObj (.arr t [])) none (fun _ _ hp => by cases hp) fun _ => .inl ⟨setP_self nm _, rfl⟩
            refine OpOK.of_value hrun (hstep.keep h.objs h.frame) ⟨⟨_, _, _, rfl⟩, mkObj (.arr t []), by show putO σ.objs _ nm = _; rw [putO_one]; simp, Nat.le_refl _, fun _ => ?_⟩
            show SlOK w (setP φ nm none nm) _ 0 none _
            rw [setP_self]
            exact ⟨rfl, ad, rfl⟩
          split at he
          · rename_i t xs hxv
            rw [hxv] at hx
            cases hs : elemSize T xt t.size with
            | false => rw [hs] at he; exact he.elim
            | true =>
              rw [hs] at he
              cases he
              obtain ⟨ad, cap, hv, _⟩ := RdS.eq (show RdS w _ t xs (a.eval x) from hx)
              exact main hs hv hok (by simp)
          · rename_i t hxv
            rw [hxv] at hx
            cases hs : elemSize T xt t.size with
            | false => rw [hs] at he; exact he.elim
            | true =>
              rw [hs] at he
              cases he
              exact main hs (show a.eval x = .slice none 0 0 from hx) hok (by simp)
          · rename_i o' ver off len hxv
            rw [hxv] at hx
            split at he
            · rename_i y hcur
              split at he
              · rename_i t xs hb
                cases hs : (elemSize T xt t.size && !Nat.beq nm o') with
                | false => rw [hs] at he; exact he.elim
                | true =>
                  rw [hs] at he
                  cases he
                  simp only [Bool.and_eq_true, Bool.not_eq_true'] at hs
                  obtain ⟨⟨ad, n, cap, hv⟩, y', g1, _⟩ := hx
                  exact main hs.1 hv hok (by have := hs.2; intro hm; simp at hm; subst hm; simp at this)
              · exact he.elim
            · exact he.elim
          · exact he.elim
      · exact he.elim
    · exact he.elim
  · exact he.elim
end
end Go.M
