/-
  Calls: what is handed over, what is handed back.
-/
import Derived.Test.YtiphonlbkhfhcaaDoorMB
set_option linter.unusedVariables false
namespace Go.M
open Go

/-- A slice that is handed over, with its place. -/
def OwnV (w : World) (ok : Nat → Prop) (pl : Pl) (t : Ty) (xs : List t.den) (v : Value) : Prop :=
  match pl with
  | none => xs = [] ∧ ∃ ad, v = .slice ad 0 0
  | some (b, p) => ∃ cap cur el, v = .slice (some ⟨b, p, none⟩) xs.length cap ∧ xs.length ≤ cap ∧ cap ≤ maxLen ∧ w.heap[b]? = some (.cells cur el (0, 0)) ∧ p + cap * t.size ≤ cur.size ∧
      ∀ i x, xs[i]? = some x → Rd w ok t x (fun j => cur[p + i * t.size + j]?)
def GCell (w : World) (ok : Nat → Prop) (c : C) (v : Value) (pls : List Pl) : Prop :=
  match c with
  | .own t xs => ∃ pl, pls = [pl] ∧ OwnV w ok pl t xs v
  | .dead => pls = [] ∧ v.oneCell' = true
  | c => pls = [] ∧ RP w ok c v
inductive GCells (w : World) (ok : Nat → Prop) : List C → List Value → List Pl → Prop
  | nil : GCells w ok [] [] []
  | cons {c : C} {v : Value} {pl : List Pl} {cs : List C} {vs : List Value} {pls : List Pl} : GCell w ok c v pl → GCells w ok cs vs pls → GCells w ok (c :: cs) (v :: vs) (pl ++ pls)
def BoxAt (w : World) (ok : Nat → Prop) (b p : Nat) (cs : List C) (pls : List Pl) : Prop :=
  ∃ cur el vs, w.heap[b]? = some (.cells cur el (0, 0)) ∧ p + cs.length ≤ cur.size ∧ (∀ (j : Nat) (v : Value), vs[j]? = some v → cur[p + j]? = some v) ∧ GCells w ok cs vs pls
inductive CapsAt (w : World) (ok : Nat → Prop) : List (List C) → List Value → List Pl → Prop
  | nil : CapsAt w ok [] [] []
  | cons {cs : List C} {b p : Nat} {css : List (List C)} {vs : List Value} {pls : List Pl} : BoxAt w ok b p cs [] → CapsAt w ok css vs pls → CapsAt w ok (cs :: css) (.pointer (some ⟨b, p, none⟩) :: vs) (some (b, p) :: pls)
/-- An argument as it lies in memory; the places of the objects that it brings. -/
def ArgOK (w : World) (ok : Nat → Prop) (a : Arg) (v : Value) (pls : List Pl) : Prop :=
  match a with
  | .one c => pls = [] ∧ RP w ok c v
  | .agg cs => pls = [] ∧ ∃ vs : Array Value, v = .agg vs ∧ RPs w ok cs vs.toList
  | .io cs => ∃ b p r, pls = some (b, p) :: r ∧ v = .pointer (some ⟨b, p, none⟩) ∧ BoxAt w ok b p cs r
  | .rio cs => ∃ b p, pls = [some (b, p)] ∧ v = .pointer (some ⟨b, p, none⟩) ∧ BoxAt w ok b p cs []
  | .own _ t xs => ∃ pl, pls = [pl] ∧ OwnV w ok pl t xs v
  | .fn g caps => ∃ vs, v = .func (.func g) #[] vs.toArray ∧ CapsAt w ok caps vs pls
def Arg.frz (a : Arg) : Bool := match a with | .rio _ => true | .fn _ _ => true | _ => false
inductive ArgsOK (w : World) (ok : Nat → Prop) : List Arg → List Value → List (Bool × Pl) → Prop
  | nil : ArgsOK w ok [] [] []
  | cons {a : Arg} {v : Value} {pls : List Pl} {as : List Arg} {vs : List Value} {l : List (Bool × Pl)} : ArgOK w ok a v pls → ArgsOK w ok as vs l → ArgsOK w ok (a :: as) (v :: vs) (pls.map (fun p => (a.frz, p)) ++ l)
/-- No block of what may be written is met twice. -/
def Sep (l : List (Bool × Pl)) : Prop := ∀ (i j : Nat) (f : Bool) (b p p' : Nat), l[i]? = some (false, some (b, p)) → l[j]? = some (f, some (b, p')) → i = j
def ownB (l : List (Bool × Pl)) (b : Nat) : Prop := ∃ p, (false, some (b, p)) ∈ l
def anyB (l : List (Bool × Pl)) (b : Nat) : Prop := ∃ f p, (f, some (b, p)) ∈ l

/-- What lies in the callee's first state, object by object. -/
def Lies (E : Env) (ps : List (Nat × Obj)) (l : List (Bool × Pl)) : Prop :=
  ps.length = l.length ∧ ∀ (k : Nat) (o : Nat) (y : Obj) (f : Bool) (pl : Pl), ps[k]? = some (o, y) → l[k]? = some (f, pl) → E.L o = some y ∧ E.φ o = pl
theorem Lies.left {E : Env} {ps qs : List (Nat × Obj)} {l m : List (Bool × Pl)} (h : Lies E (ps ++ qs) (l ++ m)) (hl : ps.length = l.length) : Lies E ps l :=
  ⟨hl, fun k o y f pl h1 h2 => h.2 k o y f pl (by rw [List.getElem?_append_left (List.getElem?_eq_some_iff.1 h1).1]; exact h1) (by rw [List.getElem?_append_left (List.getElem?_eq_some_iff.1 h2).1]; exact h2)⟩
theorem Lies.right {E : Env} {ps qs : List (Nat × Obj)} {l m : List (Bool × Pl)} (h : Lies E (ps ++ qs) (l ++ m)) (hl : ps.length = l.length) : Lies E qs m :=
  ⟨by have := h.1; simp only [List.length_append] at this; omega, fun k o y f pl h1 h2 => h.2 (ps.length + k) o y f pl (by rw [List.getElem?_append_right (by omega), Nat.add_sub_cancel_left]; exact h1)
    (by rw [List.getElem?_append_right (by omega), hl, Nat.add_sub_cancel_left]; exact h2)⟩
theorem Lies.head {E : Env} {o : Nat} {y : Obj} {ps : List (Nat × Obj)} {f : Bool} {pl : Pl} {l : List (Bool × Pl)} (h : Lies E ((o, y) :: ps) ((f, pl) :: l)) : E.L o = some y ∧ E.φ o = pl := h.2 0 o y f pl rfl rfl
theorem Lies.tail {E : Env} {o : Nat} {y : Obj} {ps : List (Nat × Obj)} {f : Bool} {pl : Pl} {l : List (Bool × Pl)} (h : Lies E ((o, y) :: ps) ((f, pl) :: l)) : Lies E ps l :=
  ⟨by have := h.1; simpa using this, fun k o' y' f' pl' h1 h2 => h.2 (k + 1) o' y' f' pl' (by simpa using h1) (by simpa using h2)⟩

theorem Rd.okMono {w : World} {ok ok' : Nat → Prop} {t : Ty} {x : t.den} {f : Nat → Option Value} (h : Rd w ok t x f) (hk : ∀ b, ok b → ok' b) : Rd w ok' t x f :=
  Rd.step (w := w) (w' := w) (fun b hb _ => ⟨hk b hb, rfl⟩) h fun _ _ _ h => h

/-- An array that is handed over, as an object. -/
theorem OwnV.obj {E : Env} {ok : Nat → Prop} (hk : ∀ b, ok b → E.Ok b) {pl : Pl} {t : Ty} {xs : List t.den} {v : Value} (h : OwnV E.w ok pl t xs v) {o : Nat} (hL : E.L o = some (mkObj (.arr t xs))) (hp : E.φ o = pl) :
    ObjOK E o (mkObj (.arr t xs)) ∧ RC E (.sl o 0 0 none) v := by
  cases pl with
  | none =>
    obtain ⟨rfl, ad, rfl⟩ := h
    refine ⟨.inl ⟨hp, rfl⟩, ⟨_, _, _, rfl⟩, _, hL, Nat.le_refl _, fun _ => ?_⟩
    show SlOK E.w (E.φ o) (.arr t []) 0 none _
    rw [hp]
    exact ⟨rfl, ad, rfl⟩
  | some bp =>
    obtain ⟨b, p⟩ := bp
    obtain ⟨cap, cur, el, rfl, h1, h2, h3, h4, h5⟩ := h
    refine ⟨.inr ⟨b, p, cur, el, hp, h3, ?_, fun i x hi => (h5 i x hi).okMono hk⟩, ⟨_, _, _, rfl⟩, _, hL, Nat.le_refl _, fun _ => ?_⟩
    · have : xs.length * t.size ≤ cap * t.size := Nat.mul_le_mul_right _ h1
      omega
    · show SlOK E.w (E.φ o) (.arr t xs) 0 none _
      rw [hp]
      exact ⟨p, cap, rfl, h1, h2, .inr (by simp), by rw [bsz_at h3]; exact h4⟩

theorem GCells.len {w : World} {ok : Nat → Prop} {cs : List C} {vs : List Value} {pls : List Pl} (h : GCells w ok cs vs pls) : vs.length = cs.length := by
  induction h with
  | nil => rfl
  | cons _ _ ih => simp [ih]

/-- The cells of a box that is handed over: its slices become objects. -/
theorem freshC_spec {E : Env} {ok : Nat → Prop} (hk : ∀ b, ok b → E.Ok b) : ∀ {cs : List C} {vs : List Value} {pls : List Pl} {q : Nat} {cs' : List C} {ps : List (Nat × Obj)}, GCells E.w ok cs vs pls → freshC q cs = (cs', ps) →
    Lies E ps (pls.map (fun p => (false, p))) → RCs E cs' vs ∧ (∀ v ∈ vs, v.oneCell' = true) ∧ cs'.length = cs.length ∧ ∀ o y, (o, y) ∈ ps → ObjOK E o y := by
  intro cs
  induction cs with
  | nil => intro vs pls q cs' ps h hf _; cases h; cases hf; exact ⟨⟨rfl, fun j c v hc => by simp at hc⟩, by simp, rfl, by simp⟩
  | cons c r ih =>
    intro vs pls q cs' ps h hf hl
    cases h with
    | @cons _ v pl _ vs' pls' h1 h2 =>
    have plain : ∀ {d : C} {cs2 : List C}, (pl = [] ∧ (RP E.w ok d v ∨ (d = .dead ∧ v.oneCell' = true))) → (freshC q r = (cs2, ps)) → cs' = d :: cs2 → RCs E cs' (v :: vs') ∧ (∀ u ∈ v :: vs', u.oneCell' = true) ∧ cs'.length = (c :: r).length ∧ ∀ o y, (o, y) ∈ ps → ObjOK E o y := by
      intro d cs2 hd hf2 hcs
      obtain ⟨rfl, hd⟩ := hd
      subst hcs
      obtain ⟨g1, g2, g3, g4⟩ := ih h2 hf2 (by simpa using hl)
      refine ⟨⟨by simp [g1.1], fun j c' u hc hu => ?_⟩, fun u hu => ?_, by simp [g3], g4⟩
      · cases j with
        | zero =>
          simp at hc hu
          subst hc hu
          rcases hd with hd | ⟨rfl, _⟩
          · exact (hd.mono hk).toRC
          · trivial
        | succ j => exact g1.2 j c' u (by simpa using hc) (by simpa using hu)
      · rcases List.mem_cons.1 hu with rfl | hu
        · rcases hd with hd | ⟨_, hd⟩
          · exact hd.one'
          · exact hd
        · exact g2 u hu
    cases c with
    | own t xs =>
      obtain ⟨p1, rfl, ho⟩ := h1
      simp only [freshC] at hf
      cases hf
      simp only [List.singleton_append, List.map_cons] at hl
      obtain ⟨hL, hp⟩ := hl.head
      obtain ⟨k1, k2⟩ := OwnV.obj hk ho hL hp
      obtain ⟨g1, g2, g3, g4⟩ := ih h2 (q := q + 1) rfl hl.tail
      refine ⟨⟨by simp [g1.1], fun j c' u hc hu => ?_⟩, fun u hu => ?_, by simp [g3], fun o y hoy => ?_⟩
      · cases j with
        | zero => simp at hc hu; subst hc hu; exact k2
        | succ j => exact g1.2 j c' u (by simpa using hc) (by simpa using hu)
      · rcases List.mem_cons.1 hu with rfl | hu
        · exact RC.one' k2 rfl
        · exact g2 u hu
      · rcases List.mem_cons.1 hoy with hoy | hoy
        · cases hoy; exact k1
        · exact g4 o y hoy
    | dead => cases hf; exact plain ⟨h1.1, .inr ⟨rfl, h1.2⟩⟩ rfl rfl
    | _ => cases hf; exact plain ⟨h1.1, .inl h1.2⟩ rfl rfl

/-- A box in memory, as an object. -/
theorem BoxAt.obj {E : Env} {b p : Nat} {cs' : List C} {vs : List Value} {cur : Array Value} {el : TypeId} {o : Nat} {y : Obj} (hy : y.body = .box cs') (hp : E.φ o = some (b, p)) (hw : E.w.heap[b]? = some (.cells cur el (0, 0)))
    (hsz : p + cs'.length ≤ cur.size) (hv : ∀ (j : Nat) (v : Value), vs[j]? = some v → cur[p + j]? = some v) (hr : RCs E cs' vs) (h1 : ∀ v ∈ vs, v.oneCell' = true) : ObjOK E o y := by
  unfold ObjOK
  rw [hy]
  refine ⟨b, p, cur, el, hp, hw, hsz, fun j c hc => ?_⟩
  have hj : j < vs.length := by rw [hr.1]; exact (List.getElem?_eq_some_iff.1 hc).1
  have hvj : vs[j]? = some vs[j] := by simp
  exact ⟨vs[j], hv j _ hvj, hr.2 j c _ hc hvj, h1 _ (List.mem_of_getElem? hvj)⟩

theorem GCells.plain {E : Env} {ok : Nat → Prop} (hk : ∀ b, ok b → E.Ok b) {cs : List C} {vs : List Value} {pls : List Pl} (h : GCells E.w ok cs vs pls) : pls = [] → RCs E cs vs ∧ ∀ v ∈ vs, v.oneCell' = true := by
  induction h with
  | nil => intro _; exact ⟨⟨rfl, fun j c v hc => by simp at hc⟩, by simp⟩
  | @cons c v pl cs vs pls h1 h2 ih =>
    intro hnil
    obtain ⟨rfl, rfl⟩ := List.append_eq_nil_iff.1 hnil
    obtain ⟨g1, g2⟩ := ih rfl
    have hc : RC E c v ∧ v.oneCell' = true := by
      cases c with
      | own t xs => obtain ⟨p1, hp, _⟩ := h1; cases hp
      | dead => exact ⟨trivial, h1.2⟩
      | _ => exact ⟨(h1.2.mono hk).toRC, h1.2.one'⟩
    refine ⟨⟨by simp [g1.1], fun j c' u hc' hu => ?_⟩, fun u hu => ?_⟩
    · cases j with
      | zero => simp at hc' hu; subst hc' hu; exact hc.1
      | succ j => exact g1.2 j c' u (by simpa using hc') (by simpa using hu)
    · rcases List.mem_cons.1 hu with rfl | hu
      · exact hc.2
      · exact g2 u hu

theorem capObjs_spec {E : Env} {ok : Nat → Prop} (hk : ∀ b, ok b → E.Ok b) {css : List (List C)} {vs : List Value} {pls : List Pl} (h : CapsAt E.w ok css vs pls) : ∀ {q : Nat} {cl : List (Nat × Nat)} {ps : List (Nat × Obj)}, capObjs q css = (cl, ps) →
    Lies E ps (pls.map (fun p => (true, p))) → CapsOK E cl vs ∧ ∀ o y, (o, y) ∈ ps → ObjOK E o y := by
  induction h with
  | nil => intro q cl ps hc _; cases hc; exact ⟨rfl, by simp⟩
  | @cons cs b p css vs pls h1 h2 ih =>
    intro q cl ps hc hl
    simp only [capObjs] at hc
    cases hc
    simp only [List.map_cons] at hl
    obtain ⟨hL, hp⟩ := hl.head
    obtain ⟨g1, g2⟩ := ih rfl hl.tail
    obtain ⟨cur, el, us, k1, k2, k3, k4⟩ := h1
    obtain ⟨m1, m2⟩ := k4.plain hk rfl
    refine ⟨⟨b, p, _, cs, vs, hp, hL, rfl, by simp, g1⟩, fun o y hoy => ?_⟩
    rcases List.mem_cons.1 hoy with hoy | hoy
    · cases hoy; exact BoxAt.obj rfl hp k1 k2 k3 m1 m2
    · exact g2 o y hoy

/-- **The callee's first state fits what it is handed.** -/
theorem initL_spec {E : Env} {ok : Nat → Prop} (hk : ∀ b, ok b → E.Ok b) {args : List Arg} {vs : List Value} {l : List (Bool × Pl)} (h : ArgsOK E.w ok args vs l) : ∀ {p q i : Nat} {sl : List (Nat × AV)} {ps : List (Nat × Obj)}, initL args p q i = (sl, ps) →
    Lies E ps l → (∀ d av, (d, av) ∈ sl → i ≤ d ∧ ∃ v, vs[d - i]? = some v ∧ RAV E av v) ∧ ∀ o y, (o, y) ∈ ps → ObjOK E o y := by
  induction h with
  | nil => intro p q i sl ps hi _; cases hi; exact ⟨by simp, by simp⟩
  | @cons a v pls as vs l h1 h2 ih =>
    intro p q i sl ps hi hl
    have next : ∀ {av : AV} {p' q' : Nat} {ps1 : List (Nat × Obj)}, sl = (i, av) :: (initL as p' q' (i + 1)).1 → ps = ps1 ++ (initL as p' q' (i + 1)).2 → ps1.length = pls.length →
        (Lies E ps1 (pls.map fun p => (a.frz, p)) → RAV E av v ∧ ∀ o y, (o, y) ∈ ps1 → ObjOK E o y) → (∀ d av, (d, av) ∈ sl → i ≤ d ∧ ∃ u, (v :: vs)[d - i]? = some u ∧ RAV E av u) ∧ ∀ o y, (o, y) ∈ ps → ObjOK E o y := by
      intro av p' q' ps1 hsl hps hlen hok
      subst hsl hps
      obtain ⟨g1, g2⟩ := ih (p := p') (q := q') (i := i + 1) rfl (hl.right (by simpa using hlen))
      obtain ⟨k1, k2⟩ := hok (hl.left (by simpa using hlen))
      refine ⟨fun d av' hd => ?_, fun o y hoy => ?_⟩
      · rcases List.mem_cons.1 hd with hd | hd
        · cases hd; exact ⟨Nat.le_refl _, v, by simp, k1⟩
        · obtain ⟨m1, u, m2, m3⟩ := g1 d av' hd
          refine ⟨by omega, u, ?_, m3⟩
          rw [show d - i = d - (i + 1) + 1 by omega]
          simpa using m2
      · rcases List.mem_append.1 hoy with hoy | hoy
        · exact k2 o y hoy
        · exact g2 o y hoy
    cases a with
    | one c =>
      simp only [initL] at hi
      obtain ⟨rfl, hr⟩ := h1
      cases hi
      exact next (ps1 := []) rfl rfl rfl fun _ => ⟨(hr.mono hk).toRC, by simp⟩
    | agg cs =>
      simp only [initL] at hi
      obtain ⟨rfl, us, rfl, hr⟩ := h1
      cases hi
      refine next (ps1 := []) rfl rfl rfl fun _ => ⟨⟨us, rfl, hr.1, fun j c u hc hu => ((hr.2 j c u hc hu).mono hk).toRC⟩, by simp⟩
    | io cs =>
      simp only [initL] at hi
      obtain ⟨b, p0, r, rfl, rfl, cur, el, us, k1, k2, k3, k4⟩ := h1
      cases hi
      have hlen : ∀ {cs : List C} {us : List Value} {r : List Pl} (q : Nat), GCells E.w ok cs us r → (freshC q cs).2.length = r.length := by
        intro cs us r q hg
        induction hg generalizing q with
        | nil => rfl
        | @cons c v pl cs vs pls h1 h2 ih =>
          cases c with
          | own t xs => obtain ⟨p1, rfl, _⟩ := h1; simp [freshC, ih]
          | dead => obtain ⟨rfl, _⟩ := h1; simp [freshC, ih]
          | _ => obtain ⟨rfl, _⟩ := h1; simp [freshC, ih]
      refine next (ps1 := (p, mkObj (.box (freshC q cs).1)) :: (freshC q cs).2) rfl rfl (by simp [hlen q k4]) fun hlies => ?_
      simp only [List.map_cons] at hlies
      obtain ⟨hL, hp⟩ := hlies.head
      obtain ⟨g1, g2, g3, g4⟩ := freshC_spec hk k4 rfl hlies.tail
      refine ⟨⟨b, p0, _, _, hp, hL, rfl, by simp⟩, fun o y hoy => ?_⟩
      rcases List.mem_cons.1 hoy with hoy | hoy
      · cases hoy; exact BoxAt.obj rfl hp k1 (by rw [g3]; exact k2) k3 g1 g2
      · exact g4 o y hoy
    | rio cs =>
      simp only [initL] at hi
      obtain ⟨b, p0, rfl, rfl, cur, el, us, k1, k2, k3, k4⟩ := h1
      cases hi
      refine next (ps1 := [(q, ⟨0, 0, true, false, .box cs⟩)]) rfl rfl rfl fun hlies => ?_
      obtain ⟨hL, hp⟩ := hlies.head
      obtain ⟨m1, m2⟩ := k4.plain hk rfl
      refine ⟨⟨b, p0, _, _, hp, hL, rfl, by simp⟩, fun o y hoy => ?_⟩
      simp at hoy
      obtain ⟨rfl, rfl⟩ := hoy
      exact BoxAt.obj rfl hp k1 k2 k3 m1 m2
    | own io t xs =>
      obtain ⟨pl, rfl, ho⟩ := h1
      cases io with
      | true =>
        simp only [initL] at hi
        cases hi
        refine next (ps1 := [(p, mkObj (.arr t xs))]) rfl rfl rfl fun hlies => ?_
        obtain ⟨hL, hp⟩ := hlies.head
        obtain ⟨k1, k2⟩ := OwnV.obj hk ho hL hp
        refine ⟨k2, fun o y hoy => ?_⟩
        simp at hoy
        obtain ⟨rfl, rfl⟩ := hoy
        exact k1
      | false =>
        simp only [initL] at hi
        cases hi
        refine next (ps1 := [(q, mkObj (.arr t xs))]) rfl rfl rfl fun hlies => ?_
        obtain ⟨hL, hp⟩ := hlies.head
        obtain ⟨k1, k2⟩ := OwnV.obj hk ho hL hp
        refine ⟨k2, fun o y hoy => ?_⟩
        simp at hoy
        obtain ⟨rfl, rfl⟩ := hoy
        exact k1
    | fn g caps =>
      simp only [initL] at hi
      obtain ⟨us, rfl, hc⟩ := h1
      cases hi
      have hlen : ∀ {css : List (List C)} {us : List Value} {r : List Pl} (q : Nat), CapsAt E.w ok css us r → (capObjs q css).2.length = r.length := by
        intro css us r q hg
        induction hg generalizing q with
        | nil => rfl
        | cons _ _ ih => simp [capObjs, ih]
      refine next (ps1 := (capObjs q caps).2) rfl rfl (hlen q hc) fun hlies => ?_
      obtain ⟨g1, g2⟩ := capObjs_spec hk hc rfl hlies
      exact ⟨⟨us, g1, rfl⟩, g2⟩
end Go.M
namespace Go.M
open Go

theorem putO_notin {L : Look} : ∀ {ps : List (Nat × Obj)} {o : Nat}, o ∉ ps.map (·.1) → putO L ps o = L o
  | [], _, _ => rfl
  | (o', y) :: r, o, h => by
    simp only [List.map_cons, List.mem_cons, not_or] at h
    simp only [putO]
    rw [putO_notin h.2, nat_beq_false h.1]
    rfl
theorem putO_mem {L : Look} : ∀ {ps : List (Nat × Obj)} {o : Nat} {y : Obj}, (ps.map (·.1)).Nodup → (o, y) ∈ ps → putO L ps o = some y
  | (o', y') :: r, o, y, hn, h => by
    simp only [List.map_cons, List.nodup_cons] at hn
    simp only [putO]
    rcases List.mem_cons.1 h with h | h
    · cases h
      rw [putO_notin hn.1]
      simp
    · exact putO_mem hn.2 h
theorem putO_some {L : Look} {ps : List (Nat × Obj)} {o : Nat} {y : Obj} (hn : (ps.map (·.1)).Nodup) (h : putO L ps o = some y) : (o, y) ∈ ps ∨ (o ∉ ps.map (·.1) ∧ L o = some y) := by
  by_cases hm : o ∈ ps.map (·.1)
  · obtain ⟨⟨o', y'⟩, h1, rfl⟩ := List.mem_map.1 hm
    have := putO_mem (L := L) hn h1
    rw [h] at this
    cases this
    exact .inl h1
  · rw [putO_notin hm] at h
    exact .inr ⟨hm, h⟩

def plOf : List (Nat × Obj) → List (Bool × Pl) → Nat → Pl
  | (o', _) :: ps, (_, pl) :: l, o => if o = o' then pl else plOf ps l o
  | _, _, _ => none
theorem plOf_get : ∀ {ps : List (Nat × Obj)} {l : List (Bool × Pl)}, (ps.map (·.1)).Nodup → ∀ (k o : Nat) (y : Obj) (f : Bool) (pl : Pl), ps[k]? = some (o, y) → l[k]? = some (f, pl) → plOf ps l o = pl
  | [], _, _, k, o, y, f, pl, h, _ => by simp at h
  | _ :: _, [], _, k, o, y, f, pl, _, h => by simp at h
  | (o', y') :: ps, (f', pl') :: l, hn, k, o, y, f, pl, h1, h2 => by
    simp only [List.map_cons, List.nodup_cons] at hn
    cases k with
    | zero => simp at h1 h2; obtain ⟨rfl, rfl⟩ := h1; obtain ⟨rfl, rfl⟩ := h2; simp [plOf]
    | succ k =>
      have h1 : ps[k]? = some (o, y) := by simpa using h1
      have h2 : l[k]? = some (f, pl) := by simpa using h2
      have hne : o ≠ o' := fun he => hn.1 (by subst he; exact List.mem_map.2 ⟨(o, y), List.mem_of_getElem? h1, rfl⟩)
      simp only [plOf, if_neg hne]
      exact plOf_get hn.2 k o y f pl h1 h2

theorem freshC_names : ∀ {cs : List C} {q : Nat}, (freshC q cs).2.map (·.1) = (List.range' q (freshC q cs).2.length)
  | [], q => by simp [freshC]
  | c :: r, q => by
    cases c with
    | own t xs => simp [freshC, freshC_names (cs := r) (q := q + 1), List.range'_succ]
    | _ => simp [freshC, freshC_names (cs := r) (q := q)]
theorem capObjs_names : ∀ {css : List (List C)} {q : Nat}, (capObjs q css).2.map (·.1) = (List.range' q css.length)
  | [], q => by simp [capObjs]
  | c :: r, q => by simp [capObjs, capObjs_names (css := r) (q := q + 1), List.range'_succ]

/-- The names in the first state: the pinned ones from p on, the others from q on; each once. -/
theorem initL_names : ∀ {args : List Arg} {p q i : Nat}, p + pinned args ≤ q → ((initL args p q i).2.map (·.1)).Nodup ∧ (∀ o ∈ (initL args p q i).2.map (·.1), (p ≤ o ∧ o < p + pinned args) ∨ q ≤ o)
  | [], p, q, i, _ => by simp [initL]
  | a :: r, p, q, i, h => by
    have plain : ∀ {ps : List (Nat × Obj)}, pinned (a :: r) = pinned r → ps = (initL r p q (i + 1)).2 → (ps.map (·.1)).Nodup ∧ (∀ o ∈ ps.map (·.1), (p ≤ o ∧ o < p + pinned (a :: r)) ∨ q ≤ o) := by
      intro ps hp hps
      subst hps
      rw [hp] at h ⊢
      exact initL_names h
    have unpin : ∀ {ps ps1 : List (Nat × Obj)} {n : Nat}, pinned (a :: r) = pinned r → ps1.map (·.1) = List.range' q n → ps = ps1 ++ (initL r p (q + n) (i + 1)).2 → (ps.map (·.1)).Nodup ∧ (∀ o ∈ ps.map (·.1), (p ≤ o ∧ o < p + pinned (a :: r)) ∨ q ≤ o) := by
      intro ps ps1 n hp h1 hps
      subst hps
      rw [hp] at h ⊢
      obtain ⟨g1, g2⟩ := initL_names (args := r) (p := p) (q := q + n) (i := i + 1) (by omega)
      rw [List.map_append, h1]
      refine ⟨List.nodup_append.2 ⟨List.nodup_range' .., g1, fun x hx y hy he => ?_⟩, fun o ho => ?_⟩
      · subst he
        have := List.mem_range'_1.1 hx
        have := g2 x hy
        omega
      · rcases List.mem_append.1 ho with ho | ho
        · have := List.mem_range'_1.1 ho; omega
        · have := g2 o ho; omega
    have pin : ∀ {ps ps1 : List (Nat × Obj)} {y : Obj} {n : Nat}, pinned (a :: r) = pinned r + 1 → ps1.map (·.1) = List.range' q n → ps = (p, y) :: ps1 ++ (initL r (p + 1) (q + n) (i + 1)).2 → (ps.map (·.1)).Nodup ∧ (∀ o ∈ ps.map (·.1), (p ≤ o ∧ o < p + pinned (a :: r)) ∨ q ≤ o) := by
      intro ps ps1 y n hp h1 hps
      subst hps
      rw [hp] at h ⊢
      obtain ⟨g1, g2⟩ := initL_names (args := r) (p := p + 1) (q := q + n) (i := i + 1) (by omega)
      simp only [List.cons_append, List.map_cons, List.map_append, h1]
      refine ⟨List.nodup_cons.2 ⟨fun hm => ?_, List.nodup_append.2 ⟨List.nodup_range' .., g1, fun x hx y hy he => ?_⟩⟩, fun o ho => ?_⟩
      · rcases List.mem_append.1 hm with hm | hm
        · have := List.mem_range'_1.1 hm; omega
        · have := g2 p hm; omega
      · subst he
        have := List.mem_range'_1.1 hx
        have := g2 x hy
        omega
      · rcases List.mem_cons.1 ho with rfl | ho
        · omega
        · rcases List.mem_append.1 ho with ho | ho
          · have := List.mem_range'_1.1 ho; omega
          · have := g2 o ho; omega
    cases a with
    | one c => exact plain rfl rfl
    | agg cs => exact plain rfl rfl
    | io cs => exact pin (ps1 := (freshC q cs).2) rfl freshC_names rfl
    | rio cs => exact unpin (ps1 := [(q, ⟨0, 0, true, false, .box cs⟩)]) (n := 1) rfl rfl rfl
    | own io t xs =>
      cases io with
      | true => exact pin (ps1 := []) (n := 0) rfl rfl rfl
      | false => exact unpin (ps1 := [(q, mkObj (.arr t xs))]) (n := 1) rfl rfl rfl
    | fn g caps => exact unpin (ps1 := (capObjs q caps).2) (n := caps.length) rfl capObjs_names rfl

theorem ArgsOK.pls {w : World} {ok : Nat → Prop} {args : List Arg} {vs : List Value} {l : List (Bool × Pl)} (h : ArgsOK w ok args vs l) : ∀ f b p, (f, some (b, p)) ∈ l → ∃ cur el, w.heap[b]? = some (.cells cur el (0, 0)) := by
  have own : ∀ {t : Ty} {xs : List t.den} {v : Value} {b p : Nat}, OwnV w ok (some (b, p)) t xs v → ∃ cur el, w.heap[b]? = some (.cells cur el (0, 0)) := fun ho => by
    obtain ⟨cap, cur, el, _, _, _, h4, _⟩ := ho; exact ⟨cur, el, h4⟩
  have cells : ∀ {cs : List C} {vs : List Value} {pls : List Pl}, GCells w ok cs vs pls → ∀ b p, some (b, p) ∈ pls → ∃ cur el, w.heap[b]? = some (.cells cur el (0, 0)) := by
    intro cs vs pls hg
    induction hg with
    | nil => intro b p hm; simp at hm
    | @cons c v pl cs vs pls h1 _ ih =>
      intro b p hm
      rcases List.mem_append.1 hm with hm | hm
      · cases c with
        | own t xs =>
          obtain ⟨p1, rfl, ho⟩ := h1
          simp at hm
          subst hm
          exact own ho
        | dead => rw [h1.1] at hm; simp at hm
        | _ => rw [h1.1] at hm; simp at hm
      · exact ih b p hm
  have hcaps : ∀ {css : List (List C)} {vs : List Value} {pls : List Pl}, CapsAt w ok css vs pls → ∀ b p, some (b, p) ∈ pls → ∃ cur el, w.heap[b]? = some (.cells cur el (0, 0)) := by
    intro css vs pls hc
    induction hc with
    | nil => intro b p hm; simp at hm
    | cons k1 _ ih =>
      intro b p hm
      rcases List.mem_cons.1 hm with hm | hm
      · cases hm
        obtain ⟨cur, el, us, k1, _⟩ := k1
        exact ⟨cur, el, k1⟩
      · exact ih b p hm
  induction h with
  | nil => intro f b p hm; simp at hm
  | @cons a v pls as vs l h1 _ ih =>
    intro f b p hm
    rcases List.mem_append.1 hm with hm | hm
    · obtain ⟨pl, hpl, he⟩ := List.mem_map.1 hm
      cases he
      cases a with
      | one c => obtain ⟨rfl, _⟩ := h1; simp at hpl
      | agg cs => obtain ⟨rfl, _⟩ := h1; simp at hpl
      | io cs =>
        obtain ⟨b0, p0, r, rfl, _, cur, el, us, k1, _, _, k4⟩ := h1
        rcases List.mem_cons.1 hpl with hpl | hpl
        · cases hpl; exact ⟨cur, el, k1⟩
        · exact cells k4 b p hpl
      | rio cs =>
        obtain ⟨b0, p0, rfl, _, cur, el, us, k1, _⟩ := h1
        simp at hpl
        obtain ⟨rfl, rfl⟩ := hpl
        exact ⟨cur, el, k1⟩
      | own io t xs =>
        obtain ⟨p1, rfl, ho⟩ := h1
        simp at hpl
        subst hpl
        exact own ho
      | fn g caps =>
        obtain ⟨us, _, hc⟩ := h1
        exact hcaps hc b p hpl
    · exact ih f b p hm

theorem initL_len {w : World} {ok : Nat → Prop} {args : List Arg} {vs : List Value} {l : List (Bool × Pl)} (h : ArgsOK w ok args vs l) : ∀ {p q i : Nat}, (initL args p q i).2.length = l.length ∧
    ∀ (k o : Nat) (y : Obj) (f : Bool) (pl : Pl), (initL args p q i).2[k]? = some (o, y) → l[k]? = some (f, pl) → y.frz = f := by
  have cat : ∀ {ps ps2 : List (Nat × Obj)} {m l : List (Bool × Pl)}, ps.length = m.length → (∀ (k o : Nat) (y : Obj) (f : Bool) (pl : Pl), ps[k]? = some (o, y) → m[k]? = some (f, pl) → y.frz = f) → ps2.length = l.length → (∀ (k o : Nat) (y : Obj) (f : Bool) (pl : Pl), ps2[k]? = some (o, y) → l[k]? = some (f, pl) → y.frz = f) →
      (ps ++ ps2).length = (m ++ l).length ∧ ∀ (k o : Nat) (y : Obj) (f : Bool) (pl : Pl), (ps ++ ps2)[k]? = some (o, y) → (m ++ l)[k]? = some (f, pl) → y.frz = f := by
    intro ps ps2 m l h1 h2 h3 h4
    refine ⟨by simp [h1, h3], fun k o y f pl g1 g2 => ?_⟩
    rw [List.getElem?_append] at g1 g2
    rw [h1] at g1
    split at g1
    · rename_i hlt; rw [if_pos hlt] at g2; exact h2 k o y f pl g1 g2
    · rename_i hlt; rw [if_neg hlt] at g2; exact h4 _ o y f pl g1 g2
  have all : ∀ {ps : List (Nat × Obj)} {pls : List Pl} {b : Bool}, (∀ (o : Nat) (y : Obj), (o, y) ∈ ps → y.frz = b) → ∀ (k o : Nat) (y : Obj) (f : Bool) (pl : Pl), ps[k]? = some (o, y) → (pls.map fun p => (b, p))[k]? = some (f, pl) → y.frz = f := by
    intro ps pls b hb k o y f pl g1 g2
    rw [List.getElem?_map, Option.map_eq_some_iff] at g2
    obtain ⟨p, _, he⟩ := g2
    cases he
    exact hb o y (List.mem_of_getElem? g1)
  have cells : ∀ {cs : List C} {us : List Value} {r : List Pl} (q : Nat), GCells w ok cs us r → (freshC q cs).2.length = r.length ∧ ∀ (o : Nat) (y : Obj), (o, y) ∈ (freshC q cs).2 → y.frz = false := by
    intro cs us r q hg
    induction hg generalizing q with
    | nil => exact ⟨rfl, by simp [freshC]⟩
    | @cons c v pl cs vs pls h1 h2 ih =>
      cases c with
      | own t xs =>
        obtain ⟨p1, rfl, _⟩ := h1
        refine ⟨by simp [freshC, (ih (q + 1)).1], fun o y hoy => ?_⟩
        simp only [freshC, List.mem_cons] at hoy
        rcases hoy with hoy | hoy
        · cases hoy; rfl
        · exact (ih (q + 1)).2 o y hoy
      | dead => obtain ⟨rfl, _⟩ := h1; simpa [freshC] using ih q
      | _ => obtain ⟨rfl, _⟩ := h1; simpa [freshC] using ih q
  induction h with
  | nil => intro p q i; exact ⟨rfl, by simp [initL]⟩
  | @cons a v pls as vs l h1 _ ih =>
    intro p q i
    cases a with
    | one c => obtain ⟨rfl, _⟩ := h1; exact ih (p := p) (q := q) (i := i + 1)
    | agg cs => obtain ⟨rfl, _⟩ := h1; exact ih (p := p) (q := q) (i := i + 1)
    | io cs =>
      obtain ⟨b0, p0, r, rfl, _, cur, el, us, k1, _, _, k4⟩ := h1
      obtain ⟨c1, c2⟩ := cells q k4
      obtain ⟨i1, i2⟩ := ih (p := p + 1) (q := q + (freshC q cs).2.length) (i := i + 1)
      refine cat (ps := (p, mkObj (.box (freshC q cs).1)) :: (freshC q cs).2) (by simp [c1]) (all fun o y hoy => ?_) i1 i2
      rcases List.mem_cons.1 hoy with hoy | hoy
      · cases hoy; rfl
      · exact c2 o y hoy
    | rio cs =>
      obtain ⟨b0, p0, rfl, _⟩ := h1
      obtain ⟨i1, i2⟩ := ih (p := p) (q := q + 1) (i := i + 1)
      exact cat (ps := [(q, ⟨0, 0, true, false, .box cs⟩)]) rfl (all fun o y hoy => by simp at hoy; rw [hoy.2]; rfl) i1 i2
    | own io t xs =>
      obtain ⟨p1, rfl, ho⟩ := h1
      cases io with
      | true =>
        obtain ⟨i1, i2⟩ := ih (p := p + 1) (q := q) (i := i + 1)
        exact cat (ps := [(p, mkObj (.arr t xs))]) rfl (all fun o y hoy => by simp at hoy; rw [hoy.2]; rfl) i1 i2
      | false =>
        obtain ⟨i1, i2⟩ := ih (p := p) (q := q + 1) (i := i + 1)
        exact cat (ps := [(q, mkObj (.arr t xs))]) rfl (all fun o y hoy => by simp at hoy; rw [hoy.2]; rfl) i1 i2
    | fn g caps =>
      obtain ⟨us, _, hc⟩ := h1
      obtain ⟨i1, i2⟩ := ih (p := p) (q := q + caps.length) (i := i + 1)
      have hcap : ∀ {css : List (List C)} {us : List Value} {r : List Pl} (q : Nat), CapsAt w ok css us r → (capObjs q css).2.length = r.length ∧ ∀ (o : Nat) (y : Obj), (o, y) ∈ (capObjs q css).2 → y.frz = true := by
        intro css us r q hg
        induction hg generalizing q with
        | nil => exact ⟨rfl, by simp [capObjs]⟩
        | cons _ _ ih =>
          refine ⟨by simp [capObjs, (ih (q + 1)).1], fun o y hoy => ?_⟩
          simp only [capObjs, List.mem_cons] at hoy
          rcases hoy with hoy | hoy
          · cases hoy; rfl
          · exact (ih (q + 1)).2 o y hoy
      obtain ⟨c1, c2⟩ := hcap q hc
      exact cat (by simp [c1]) (all c2) i1 i2

/-- Where a callee begins. -/
def boxOf (x : (Nat × Obj) × (Bool × Pl)) : Option (Nat × Nat × Nat × Nat) := match x with
  | ((o, y), (_, some (b, p))) => match y.body with
    | .box cs => if y.frz = false then some (o, b, p, cs.length) else none
    | _ => none
  | _ => none
def arrOf (x : (Nat × Obj) × (Bool × Pl)) : Option (Nat × Pl × Nat) := match x with
  | ((o, y), (_, pl)) => match y.body with
    | .arr t xs => some (o, pl, xs.length)
    | _ => none
def startOf (P : Program) (w : World) (okp : Nat → Prop) (args : List Arg) (l : List (Bool × Pl)) (nt : Nat) : Start where
  P := P
  nt := nt
  w0 := w
  ok0 := fun b => okp b ∨ anyB l b
  own0 := ownB l
  boxes := (((initL args 0 (pinned args) 0).2.zip l).filter fun x => decide (x.1.1 < pinned args)).filterMap boxOf
  arrs := (((initL args 0 (pinned args) 0).2.zip l).filter fun x => decide (x.1.1 < pinned args)).filterMap arrOf
  own_ok := fun b ⟨p, h⟩ => .inr ⟨false, p, h⟩

theorem ofKept_mem : ∀ (l : List (Nat × AV)) (i : Nat), ofKept l i = .dead ∨ (i, ofKept l i) ∈ l
  | [], i => .inl rfl
  | (d, v) :: r, i => by
    by_cases h : i = d
    · subst h
      right
      simp [ofKept, put]
    · have : ofKept ((d, v) :: r) i = ofKept r i := by simp [ofKept, put, nat_beq_false h]
      rw [this]
      rcases ofKept_mem r i with h1 | h1
      · exact .inl h1
      · exact .inr (List.mem_cons_of_mem _ h1)

theorem startOf_boxes {P : Program} {w : World} {okp : Nat → Prop} {args : List Arg} {l : List (Bool × Pl)} {nt : Nat} : ∀ o b p n, (o, b, p, n) ∈ (startOf P w okp args l nt).boxes → o < pinned args := by
  intro o b p n hm
  obtain ⟨⟨⟨o', y⟩, ⟨f, pl⟩⟩, hz, he⟩ := List.mem_filterMap.1 hm
  have := (List.mem_filter.1 hz).2
  cases pl with
  | none => simp [boxOf] at he
  | some bp =>
    simp only [boxOf] at he
    split at he
    · split at he
      · cases he; simpa using this
      · cases he
    · cases he
theorem startOf_arrs {P : Program} {w : World} {okp : Nat → Prop} {args : List Arg} {l : List (Bool × Pl)} {nt : Nat} : ∀ o pl n, (o, pl, n) ∈ (startOf P w okp args l nt).arrs → o < pinned args := by
  intro o pl n hm
  obtain ⟨⟨⟨o', y⟩, ⟨f, pl⟩⟩, hz, he⟩ := List.mem_filterMap.1 hm
  have := (List.mem_filter.1 hz).2
  simp only [arrOf] at he
  split at he
  · cases he; simpa using this
  · cases he

/-- **The relation at the entry.** -/
theorem entry_rel {P : Program} {w : World} {okp : Nat → Prop} {args : List Arg} {vs : List Value} {l : List (Bool × Pl)} (h : ArgsOK w okp args vs l) (hs : Sep l) (ho : ∀ b, okp b → ¬ ownB l b) (nt : Nat) :
    Rel (startOf P w okp args l (vs.length + (nt - vs.length))) (plOf (initL args 0 (pinned args) 0).2 l) (initSt args) { tmps := vs.toArray ++ Array.replicate (nt - vs.length) undef, defers := [] } w := by
  obtain ⟨hnd, hnames⟩ := initL_names (args := args) (p := 0) (q := pinned args) (i := 0) (by omega)
  obtain ⟨hlen, hfrz⟩ := initL_len h (p := 0) (q := pinned args) (i := 0)
  generalize hS : startOf P w okp args l (vs.length + (nt - vs.length)) = S
  generalize hφ : plOf (initL args 0 (pinned args) 0).2 l = φ
  have hL : (initSt args).objs = putO (fun _ => none) (initL args 0 (pinned args) 0).2 := rfl
  have hsl : (initSt args).slots = ofKept (initL args 0 (pinned args) 0).1 := rfl
  rw [← Prod.eta (initL args 0 (pinned args) 0)] at *
  generalize hps : (initL args 0 (pinned args) 0).2 = ps at *
  have hat : ∀ (o : Nat) (y : Obj), putO (fun _ => none) ps o = some y → ∃ (k : Nat) (f : Bool) (pl : Pl), ps[k]? = some (o, y) ∧ l[k]? = some (f, pl) ∧ φ o = pl ∧ y.frz = f := by
    intro o y hy
    rcases putO_some hnd hy with hm | ⟨_, hc⟩
    · obtain ⟨k, hk⟩ := List.getElem?_of_mem hm
      have hlt : k < l.length := by rw [← hlen]; exact (List.getElem?_eq_some_iff.1 hk).1
      have hlk : l[k]? = some (l[k].1, l[k].2) := List.getElem?_eq_getElem hlt
      exact ⟨k, l[k].1, l[k].2, hk, hlk, by rw [← hφ]; exact plOf_get hnd k o y _ _ hk hlk, hfrz k o y _ _ hk hlk⟩
    · cases hc
  have hSw : S.w0 = w := by rw [← hS]; rfl
  have hSok : S.ok0 = fun b => okp b ∨ anyB l b := by rw [← hS]; rfl
  have hSown : S.own0 = ownB l := by rw [← hS]; rfl
  have hown : ∀ b, (envOf S φ (putO (fun _ => none) ps) w).owned b → ownB l b := by
    intro b ⟨o, y, p, h1, h2, h3⟩
    obtain ⟨k, f, pl, g1, g2, g3, g4⟩ := hat o y h1
    have h3' : φ o = some (b, p) := h3
    rw [h3'] at g3
    subst g3
    rw [h2] at g4
    subst g4
    exact ⟨p, List.mem_of_getElem? g2⟩
  have hk : ∀ b, okp b → (envOf S φ (putO (fun _ => none) ps) w).Ok b := fun b hb => ⟨fun _ => by show S.ok0 b; rw [hSok]; exact .inl hb, fun hc => ho b hb (hown b hc)⟩
  have hlies : Lies (envOf S φ (putO (fun _ => none) ps) w) ps l := ⟨hlen, fun k o y f pl h1 h2 => ⟨putO_mem hnd (List.mem_of_getElem? h1), by
    show φ o = pl
    rw [← hφ]
    exact plOf_get hnd k o y f pl h1 h2⟩⟩
  obtain ⟨i1, i2⟩ := initL_spec (E := envOf S φ (putO (fun _ => none) ps) w) hk h (p := 0) (q := pinned args) (i := 0) (sl := (initL args 0 (pinned args) 0).1) (ps := ps) (by rw [← hps]) hlies
  have hboxes : ∀ o b p n, (o, b, p, n) ∈ S.boxes → φ o = some (b, p) ∧ ∃ y cs, putO (fun _ => none) ps o = some y ∧ y.frz = false ∧ y.body = .box cs ∧ cs.length = n := by
    intro o b p n hm
    have hb : S.boxes = ((ps.zip l).filter fun x => decide (x.1.1 < pinned args)).filterMap boxOf := by rw [← hS]; show (((initL args 0 (pinned args) 0).2.zip l).filter fun x => decide (x.1.1 < pinned args)).filterMap boxOf = _; rw [hps]
    rw [hb, List.mem_filterMap] at hm
    obtain ⟨⟨⟨o', y⟩, ⟨f, pl⟩⟩, hz, he⟩ := hm
    obtain ⟨k, hk⟩ := List.getElem?_of_mem (List.mem_filter.1 hz).1
    rw [List.getElem?_zip_eq_some] at hk
    cases pl with
    | none => simp [boxOf] at he
    | some bp =>
      obtain ⟨b', p'⟩ := bp
      simp only [boxOf] at he
      split at he
      · rename_i cs hcs
        split at he
        · rename_i hf
          cases he
          exact ⟨by rw [← hφ]; exact plOf_get hnd k _ y f _ hk.1 hk.2, y, cs, putO_mem hnd (List.mem_of_getElem? hk.1), hf, hcs, rfl⟩
        · cases he
      · cases he
  have hobjs : Objs S φ (putO (fun _ => none) ps) w := by
    refine ⟨fun o y hy => ?_, fun o y b p hy hp => ?_, fun o o' y y' b p p' hy hy' hf hg hp hp' => ?_, hboxes, fun o pl n hm => ?_⟩
    · obtain ⟨k, f, pl, g1, g2, g3, g4⟩ := hat o y hy
      exact i2 o y (List.mem_of_getElem? g1)
    · obtain ⟨k, f, pl, g1, g2, g3, g4⟩ := hat o y hy
      rw [hp] at g3
      subst g3
      have hm := List.mem_of_getElem? g2
      obtain ⟨cur, el, hw⟩ := h.pls f b p hm
      refine ⟨(Array.getElem?_eq_some_iff.1 hw).1, fun _ => by rw [hSok]; exact .inr ⟨f, p, hm⟩, fun hfr _ => by rw [hSown]; rw [hfr] at g4; subst g4; exact ⟨p, hm⟩⟩
    · obtain ⟨k, f, pl, g1, g2, g3, g4⟩ := hat o y hy
      obtain ⟨k', f', pl', m1, m2, m3, m4⟩ := hat o' y' hy'
      rw [hp] at g3
      rw [hp'] at m3
      subst g3 m3
      rw [hf] at g4
      subst g4
      have := hs k k' f' b p p' g2 m2
      subst this
      rw [g1] at m1
      cases m1
      rfl
    · have hb : S.arrs = ((ps.zip l).filter fun x => decide (x.1.1 < pinned args)).filterMap arrOf := by rw [← hS]; show (((initL args 0 (pinned args) 0).2.zip l).filter fun x => decide (x.1.1 < pinned args)).filterMap arrOf = _; rw [hps]
      rw [hb, List.mem_filterMap] at hm
      obtain ⟨⟨⟨o', y⟩, ⟨f, pl'⟩⟩, hz, he⟩ := hm
      obtain ⟨k, hk⟩ := List.getElem?_of_mem (List.mem_filter.1 hz).1
      rw [List.getElem?_zip_eq_some] at hk
      simp only [arrOf] at he
      split at he
      · rename_i t xs hxs
        cases he
        exact ⟨y, putO_mem hnd (List.mem_of_getElem? hk.1), fun _ _ => ⟨by rw [← hφ]; exact plOf_get hnd k _ y f _ hk.1 hk.2, t, xs, hxs, rfl⟩⟩
      · cases he
  refine ⟨?_, rfl, fun i => ?_, by rw [hL]; exact hobjs, ?_⟩
  · rw [← hS]; simp [startOf]
  · rw [hL, hsl]
    rcases ofKept_mem (initL args 0 (pinned args) 0).1 i with hd | hm
    · rw [hd]; trivial
    · obtain ⟨_, v, hv, hr⟩ := i1 i _ hm
      have : (vs.toArray ++ Array.replicate (nt - vs.length) undef).getD i undef = v := by
        have hv : vs[i]? = some v := by simpa using hv
        have hlt := (List.getElem?_eq_some_iff.1 hv).1
        rw [Array.getD_eq_getD_getElem?, Array.getElem?_append_left (by simpa using hlt)]
        simp [hv]
      rw [this]
      exact hr
  · refine ⟨by rw [hSw], by rw [hSw], by rw [hSw], by rw [hSw]; exact Nat.le_refl _, fun _ => by rw [hSw]; exact Nat.le_refl _, fun _ _ _ => by rw [hSw], fun o b p n hm => ?_⟩
    obtain ⟨g1, y, cs, g2, g3, g4, g5⟩ := hboxes o b p n hm
    have hobj := hobjs.ok o y g2
    unfold ObjOK at hobj
    rw [g4] at hobj
    obtain ⟨b', p', cur, el, k1, k2, _⟩ := hobj
    have k1' : φ o = some (b', p') := k1
    rw [g1] at k1'
    cases k1'
    exact ⟨cur, cur, el, by rw [hSw]; exact k2, k2, rfl, fun _ _ => rfl⟩
end Go.M
namespace Go.M
open Go

def blks (l : List Pl) : List Nat := l.filterMap (fun pl => pl.map (·.1))
def ownsIn : List C → Nat
  | [] => 0
  | .own _ _ :: r => ownsIn r + 1
  | _ :: r => ownsIn r
def Arg.npl : Arg → Nat
  | .io cs => ownsIn cs + 1
  | .rio _ => 1
  | .own _ _ _ => 1
  | .fn _ caps => caps.length
  | _ => 0
inductive Pin where
  | box (b p n : Nat)
  | arr (pl : Pl) (n : Nat)
def pinsOf : List Arg → List (Bool × Pl) → List Pin
  | [], _ => []
  | .io cs :: r, l => (match l with
    | (_, some (b, p)) :: _ => [Pin.box b p cs.length]
    | _ => []) ++ pinsOf r (l.drop (ownsIn cs + 1))
  | .own true t xs :: r, l => (match l with
    | (_, pl) :: _ => [Pin.arr pl xs.length]
    | _ => []) ++ pinsOf r (l.drop 1)
  | a :: r, l => pinsOf r (l.drop a.npl)

def ArrAt (w : World) (ok : Nat → Prop) (pl : Pl) (t : Ty) (xs : List t.den) : Prop :=
  match pl with
  | none => xs = []
  | some (b, p) => ∃ cur el, w.heap[b]? = some (.cells cur el (0, 0)) ∧ p + xs.length * t.size ≤ cur.size ∧ ∀ i x, xs[i]? = some x → Rd w ok t x (fun j => cur[p + i * t.size + j]?)
inductive OutsOK (w : World) (ok : Nat → Prop) : List Pin → List (List C) → List Pl → Prop
  | nil : OutsOK w ok [] [] []
  | box {b p n : Nat} {cs : List C} {pls : List Pl} {pins : List Pin} {outs : List (List C)} {l : List Pl} : BoxAt w ok b p cs pls → cs.length = n → OutsOK w ok pins outs l → OutsOK w ok (.box b p n :: pins) (cs :: outs) ((some (b, p) :: pls) ++ l)
  | arr {pl : Pl} {n : Nat} {t : Ty} {xs : List t.den} {pins : List Pin} {outs : List (List C)} {l : List Pl} : ArrAt w ok pl t xs → xs.length = n → OutsOK w ok pins outs l → OutsOK w ok (.arr pl n :: pins) ([.own t xs] :: outs) (pl :: l)
def ValOK (w : World) (ok : Nat → Prop) (x : RV) (v : Value) (pls : List Pl) : Prop :=
  match x with
  | .one c => GCell w ok c v pls
  | .agg cs => ∃ vs : Array Value, v = .agg vs ∧ GCells w ok cs vs.toList pls
  | .box cs => ∃ b p r, pls = some (b, p) :: r ∧ v = .pointer (some ⟨b, p, none⟩) ∧ BoxAt w ok b p cs r
inductive ValsOK (w : World) (ok : Nat → Prop) : List RV → List Value → List Pl → Prop
  | nil : ValsOK w ok [] [] []
  | cons {x : RV} {v : Value} {pl : List Pl} {xs : List RV} {vs : List Value} {pls : List Pl} : ValOK w ok x v pl → ValsOK w ok xs vs pls → ValsOK w ok (x :: xs) (v :: vs) (pl ++ pls)
def packV (vs : List Value) : Value := match vs with | [v] => v | vs => .tuple vs.toArray

/-- **What a call hands back.** -/
structure ExitOK (w w' : World) (okp : Nat → Prop) (l : List (Bool × Pl)) (pins : List Pin) (r : Ret) (v : Value) : Prop where
  os : w'.os = w.os
  tape : w'.tape = w.tape
  output : w'.output = w.output
  size : w.heap.size ≤ w'.heap.size
  bsz : ∀ b, M.bsz w b ≤ M.bsz w' b
  keep : ∀ b, b < w.heap.size → ¬ ownB l b → w'.heap[b]? = w.heap[b]?
  box : ∀ b p n, Pin.box b p n ∈ pins → ∃ cur0 cur e, w.heap[b]? = some (.cells cur0 e (0, 0)) ∧ w'.heap[b]? = some (.cells cur e (0, 0)) ∧ cur.size = cur0.size ∧ ∀ j, (j < p ∨ p + n ≤ j) → cur[j]? = cur0[j]?
  out : ∃ (okr : Nat → Prop) (vs : List Value) (rl ol : List Pl), v = packV vs ∧ ValsOK w' okr r.vals vs rl ∧ OutsOK w' okr pins r.outs ol ∧ (blks (rl ++ ol)).Nodup ∧ (∀ b ∈ blks (rl ++ ol), b < w.heap.size → ownB l b) ∧
    ∀ b, okr b → (b < w.heap.size → okp b ∨ anyB l b) ∧ b ∉ blks (rl ++ ol)
/-- What holds of the world throughout: facts on some blocks that nobody writes. -/
structure GInv where
  G : List Nat
  I : World → Prop
  keep : ∀ w w', I w → (∀ b ∈ G, w'.heap[b]? = w.heap[b]?) → I w'
structure GOK (J : GInv) (S : Start) : Prop where
  inv : J.I S.w0
  blk : ∀ b ∈ J.G, b < S.w0.heap.size ∧ S.ok0 b ∧ ¬ S.own0 b
theorem GOK.now {J : GInv} {S : Start} (h : GOK J S) {φ : Nat → Pl} {L : Look} {w : World} (hO : Objs S φ L w) (hF : Frame1 S w) : J.I w ∧ ∀ b ∈ J.G, b < w.heap.size ∧ (envOf S φ L w).Ok b :=
  ⟨J.keep _ _ h.inv fun b hb => hF.keep b (h.blk b hb).1 (h.blk b hb).2.2, fun b hb => ⟨Nat.lt_of_lt_of_le (h.blk b hb).1 hF.size, fun _ => (h.blk b hb).2.1, fun ⟨o, y, p, h1, h2, h3⟩ => (h.blk b hb).2.2 ((hO.blk o y b p h1 h3).2.2 h2 (h.blk b hb).1)⟩⟩
def Sound (P : Program) (J : GInv) (g : FuncId) (ce : Callee1) : Prop :=
  (∃ fn, P.funcs[g]? = some fn ∧ fn.body.isSome = true ∧ fn.name ≠ "runtime.NumGoroutine") ∧
  ∀ (args : List Arg) (vs : List Value) (l : List (Bool × Pl)) (w : World) (okp : Nat → Prop) (r : (ce.den args).α), ArgsOK w okp args vs l → Sep l → (∀ b, okp b → ¬ ownB l b) → J.I w → (∀ b ∈ J.G, b < w.heap.size ∧ okp b) → (ce.den args).run = some r →
    Calls P g vs.toArray w fun e w' => ∃ v, e = .returned v ∧ ExitOK w w' okp l (pinsOf args l) ((ce.den args).enc r) v

/-! ### What is handed back is taken from the objects, each once. -/
def Took (E : Env) (used used' : List Nat) (pls : List Pl) : Prop :=
  ∃ os : List Nat, used' = os ++ used ∧ (∀ o ∈ os, o ∉ used ∧ ∃ y, E.L o = some y ∧ y.frz = false ∧ y.body ≠ .gone) ∧ (∀ b ∈ blks pls, ∃ o ∈ os, ∃ p, E.φ o = some (b, p)) ∧ (blks pls).Nodup
theorem blks_append (a b : List Pl) : blks (a ++ b) = blks a ++ blks b := by simp [blks]
theorem Took.nil (E : Env) (used : List Nat) : Took E used used [] := ⟨[], rfl, by simp, by simp [blks], by simp [blks]⟩
theorem Took.trans {S : Start} {φ : Nat → Pl} {L : Look} {w : World} (hO : Objs S φ L w) {u u1 u2 : List Nat} {p1 p2 : List Pl} (h1 : Took (envOf S φ L w) u u1 p1) (h2 : Took (envOf S φ L w) u1 u2 p2) : Took (envOf S φ L w) u u2 (p1 ++ p2) := by
  obtain ⟨o1, rfl, a1, b1, c1⟩ := h1
  obtain ⟨o2, rfl, a2, b2, c2⟩ := h2
  refine ⟨o2 ++ o1, by simp, fun o ho => ?_, fun b hb => ?_, ?_⟩
  · rcases List.mem_append.1 ho with ho | ho
    · exact ⟨fun hu => (a2 o ho).1 (by simp [hu]), (a2 o ho).2⟩
    · exact a1 o ho
  · rw [blks_append] at hb
    rcases List.mem_append.1 hb with hb | hb
    · obtain ⟨o, g1, g2⟩ := b1 b hb; exact ⟨o, by simp [g1], g2⟩
    · obtain ⟨o, g1, g2⟩ := b2 b hb; exact ⟨o, by simp [g1], g2⟩
  · rw [blks_append]
    refine List.nodup_append.2 ⟨c1, c2, fun b hb b' hb' he => ?_⟩
    subst he
    obtain ⟨x, g1, p, g2⟩ := b1 b hb
    obtain ⟨x', k1, p', k2⟩ := b2 b hb'
    obtain ⟨_, y, m1, m2, m3⟩ := a1 x g1
    obtain ⟨hno, y', n1, n2, n3⟩ := a2 x' k1
    have := hO.inj x x' y y' b p p' m1 n1 m2 n3 g2 k2
    subst this
    exact hno (by simp [g1])

section
variable {S : Start} {φ : Nat → Pl} {L : Look} {w : World}

/-- The block of something frozen may be read. -/
theorem frozen_ok (hO : Objs S φ L w) {o : Nat} {y : Obj} {b p : Nat} (hy : L o = some y) (hf : y.frz = true) (hg : y.body ≠ .gone) (hp : φ o = some (b, p)) : (envOf S φ L w).Ok b :=
  ⟨(hO.blk o y b p hy hp).2.1, fun ⟨o', y', p', k1, k2, k3⟩ => by
    have := hO.inj o' o y' y b p' p k1 hy k2 hg k3 hp
    subst this
    have k1' : L o' = some y' := k1
    rw [hy] at k1'
    cases k1'
    rw [hf] at k2
    cases k2⟩

theorem outC_spec (hO : Objs S φ L w) {c c' : C} {v : Value} {used used' : List Nat} (hc : RC (envOf S φ L w) c v) (h : outC L used c = some (c', used')) :
    ∃ pls, GCell w (envOf S φ L w).Ok c' v pls ∧ Took (envOf S φ L w) used used' pls := by
  cases c with
  | sl o ver off len =>
    simp only [outC] at h
    split at h
    · rename_i y hy
      obtain ⟨hy0, hver⟩ := cur?_some hy
      split at h
      · rename_i t xs hb
        obtain ⟨_, y', g1, _, g2⟩ := hc
        have : y' = y := by have hh : L o = some y' := g1; rw [hy0] at hh; cases hh; rfl
        subst this
        have hsl : SlOK w (φ o) y'.body off len v := g2 hver
        cases hf : y'.frz with
        | true =>
          rw [hf] at h
          cases h
          refine ⟨[], ⟨rfl, ?_⟩, Took.nil _ _⟩
          exact sl_read (hO.ok o y' hy0) hb (g2 hver) _ (fun _ h => h) fun b p hp => frozen_ok hO hy0 hf (by rw [hb]; simp) hp
        | false =>
          rw [hf] at h
          simp only [cond_false] at h
          cases hu : used.contains o with
          | true => rw [hu] at h; cases h
          | false =>
            rw [hu] at h
            cases h
            have hobj := hO.ok o y' hy0
            unfold ObjOK at hobj
            rw [hb] at hobj hsl
            have hu' : o ∉ used := by simpa using hu
            have tk : ∀ (pl : Pl), (∀ b q, pl = some (b, q) → ∃ p, φ o = some (b, p)) → Took (envOf S φ L w) used (o :: used) [pl] := fun pl hpl => by
              refine ⟨[o], rfl, fun x hx => ?_, fun b hb' => ?_, ?_⟩
              · simp at hx; subst hx; exact ⟨hu', y', hy0, hf, by rw [hb]; simp⟩
              · cases pl with
                | none => simp [blks] at hb'
                | some bq => simp [blks] at hb'; subst hb'; obtain ⟨p, hp⟩ := hpl bq.1 bq.2 rfl; exact ⟨o, by simp, p, hp⟩
              · cases pl <;> simp [blks]
            rcases hobj with ⟨k1, rfl⟩ | ⟨b, p, cur, el, k1, k2, k3, k4⟩
            · have k1' : φ o = none := k1
              rw [k1'] at hsl
              obtain ⟨_, hv⟩ := hsl
              refine ⟨[none], ⟨none, rfl, ?_, hv⟩, tk none (fun _ _ h => by cases h)⟩
              cases len <;> cases off <;> simp [win, drop']
            · have k1' : φ o = some (b, p) := k1
              rw [k1'] at hsl
              obtain ⟨q, cap, hv, l1, l2, l3, l4⟩ := hsl
              have k2' : w.heap[b]? = some (.cells cur el (0, 0)) := k2
              rw [bsz_at k2'] at l4
              refine ⟨[some (b, q)], ⟨some (b, q), rfl, cap, cur, el, hv, l1, l2, k2', l4, fun i x hi => ?_⟩, tk (some (b, q)) fun b' q' h => by cases h; exact ⟨p, k1'⟩⟩
              have hpos : 0 < (win off len xs).length := Nat.lt_of_le_of_lt (Nat.zero_le _) (List.getElem?_eq_some_iff.1 hi).1
              have hq : q = p + off * t.size := by
                rcases l3 with l3 | l3
                · omega
                · exact l3
              refine (k4 (off + i) x (win_get hi)).congr fun j u _ hu2 => ?_
              rw [hq, show p + off * t.size + i * t.size + j = p + (off + i) * t.size + j by rw [Nat.add_mul]; omega]
              exact hu2
      · cases h
    · cases h
  | nils t => cases h; exact ⟨[none], ⟨none, rfl, rfl, none, hc⟩, ⟨[], rfl, by simp, by simp [blks], by simp [blks]⟩⟩
  | int k n => cases h; exact ⟨[], ⟨rfl, hc⟩, Took.nil _ _⟩
  | bool b => cases h; exact ⟨[], ⟨rfl, hc⟩, Took.nil _ _⟩
  | str s => cases h; exact ⟨[], ⟨rfl, hc⟩, Took.nil _ _⟩
  | err b => cases h; exact ⟨[], ⟨rfl, hc⟩, Took.nil _ _⟩
  | nilP => cases h; exact ⟨[], ⟨rfl, hc⟩, Took.nil _ _⟩
  | tr t xs => cases h; exact ⟨[], ⟨rfl, hc⟩, Took.nil _ _⟩
  | _ => cases h

theorem outCs_spec (hO : Objs S φ L w) : ∀ {cs cs' : List C} {vs : List Value} {used used' : List Nat}, RCs (envOf S φ L w) cs vs → outCs L used cs = some (cs', used') →
    cs'.length = cs.length ∧ ∃ pls, GCells w (envOf S φ L w).Ok cs' vs pls ∧ Took (envOf S φ L w) used used' pls
  | [], cs', vs, used, used', hr, h => by
    cases h
    have : vs = [] := List.eq_nil_of_length_eq_zero hr.1
    subst this
    exact ⟨rfl, [], .nil, Took.nil _ _⟩
  | c :: r, cs', vs, used, used', hr, h => by
    simp only [outCs] at h
    split at h
    · rename_i c1 u1 h1
      split at h
      · rename_i cs2 u2 h2
        cases h
        match vs, hr with
        | [], hr => exact absurd hr.1 (by simp)
        | v :: vs, hr =>
          obtain ⟨p1, g1, g2⟩ := outC_spec hO (hr.2 0 c v rfl rfl) h1
          obtain ⟨k0, p2, k1, k2⟩ := outCs_spec hO (cs := r) (vs := vs) ⟨by have := hr.1; simpa using this, fun j d u hd hu => hr.2 (j + 1) d u (by simpa using hd) (by simpa using hu)⟩ h2
          exact ⟨by simp [k0], p1 ++ p2, .cons g1 k1, g2.trans hO k2⟩
      · cases h
    · cases h

/-- A box at the end, taken. -/
theorem box_took (hO : Objs S φ L w) {o : Nat} {y : Obj} {cs cs' : List C} {used used' : List Nat} (hy : L o = some y) (hf : y.frz = false) (hb : y.body = .box cs) (hu : o ∉ used) (h : outCs L (o :: used) cs = some (cs', used')) :
    ∃ b p r, φ o = some (b, p) ∧ BoxAt w (envOf S φ L w).Ok b p cs' r ∧ cs'.length = cs.length ∧ Took (envOf S φ L w) used used' (some (b, p) :: r) := by
  have hobj := hO.ok o y hy
  obtain ⟨b, p, vs, g1, g2, g3, g4, g5⟩ := box_cells hobj hb
  obtain ⟨k0, r, k1, k2⟩ := outCs_spec hO g3 h
  unfold ObjOK at hobj
  rw [hb] at hobj
  obtain ⟨b', p', cur, el, m1, m2, m3, m4⟩ := hobj
  have g1' : φ o = some (b, p) := g1
  have m1' : φ o = some (b', p') := m1
  rw [g1'] at m1'
  cases m1'
  have m2' : w.heap[b]? = some (.cells cur el (0, 0)) := m2
  refine ⟨b, p, r, g1', ⟨cur, el, vs, m2', by rw [k0]; exact m3, fun j v hv => ?_, k1⟩, k0, ?_⟩
  · have := g4 j v hv
    have h2 : w.cell? ⟨b, p + j, none⟩ = some v := this
    rw [cell_of_row w b _ cur el (0, 0) m2'] at h2
    exact h2
  · have t1 : Took (envOf S φ L w) used (o :: used) [some (b, p)] := ⟨[o], rfl, fun x hx => by simp at hx; subst hx; exact ⟨hu, y, hy, hf, by rw [hb]; simp⟩, fun b' hb' => by simp [blks] at hb'; subst hb'; exact ⟨o, by simp, p, g1'⟩, by simp [blks]⟩
    exact t1.trans hO k2

theorem outV_spec (hO : Objs S φ L w) {pin : Nat} {x : V1} {x' : RV} {v : Value} {used used' : List Nat} (hx : RV1 (envOf S φ L w) x v) (h : outV L pin used x = some (x', used')) :
    ∃ pls, ValOK w (envOf S φ L w).Ok x' v pls ∧ Took (envOf S φ L w) used used' pls := by
  cases x with
  | agg cs =>
    simp only [outV] at h
    split at h
    · rename_i cs' u h1
      cases h
      obtain ⟨vs, rfl, hr⟩ := hx
      obtain ⟨_, pls, g1, g2⟩ := outCs_spec hO hr h1
      exact ⟨pls, ⟨vs, rfl, g1⟩, g2⟩
    · cases h
  | one c =>
    have plain : (match outC L used c with | some (c', u) => some (RV.one c', u) | none => none) = some (x', used') → ∃ pls, ValOK w (envOf S φ L w).Ok x' v pls ∧ Took (envOf S φ L w) used used' pls := by
      intro h
      split at h
      · rename_i c' u h1
        cases h
        exact outC_spec hO hx h1
      · cases h
    cases c with
    | ptr o off =>
      simp only [outV] at h
      split at h
      · rename_i y hy
        split at h
        · rename_i cs hb
          cases hc : (Nat.beq off 0 && !y.frz && !used.contains o && !Nat.blt o pin) with
          | false => rw [hc] at h; cases h
          | true =>
            rw [hc] at h
            simp only [cond_true] at h
            simp only [Bool.and_eq_true, Bool.not_eq_true'] at hc
            obtain ⟨⟨⟨h1, h2⟩, h3⟩, h4⟩ := hc
            have h1 := Nat.eq_of_beq_eq_true h1
            subst h1
            split at h
            · rename_i cs' u hcs
              cases h
              obtain ⟨b, p, r, g1, g2, _, g3⟩ := box_took hO hy h2 hb (by simpa using h3) hcs
              obtain ⟨b', p', y', cs0, k1, _, _, k4⟩ := hx
              have k1' : φ o = some (b', p') := k1
              rw [g1] at k1'
              cases k1'
              exact ⟨some (b, p) :: r, ⟨b, p, r, rfl, k4, g2⟩, g3⟩
            · cases h
        · cases h
      · cases h
    | _ => exact plain h
end
end Go.M
namespace Go.M
open Go

theorem drop_seg {α : Type} (a b : List α) {n : Nat} (h : a.length = n) : (a ++ b).drop n = b := by subst h; simp
/-- A pinned object in the first state. -/
def PinAt (ps : List (Nat × Obj)) (l : List (Bool × Pl)) (o : Nat) (pin : Pin) : Prop := match pin with
  | .box b p' n => ∃ (x : Nat) (cs : List C), ps[x]? = some (o, mkObj (.box cs)) ∧ cs.length = n ∧ l[x]? = some (false, some (b, p'))
  | .arr pl n => ∃ (x : Nat) (t : Ty) (xs : List t.den), ps[x]? = some (o, mkObj (.arr t xs)) ∧ xs.length = n ∧ l[x]? = some (false, pl)
/-- Which objects are pinned, and where they lie. -/
theorem pins_spec {w : World} {ok : Nat → Prop} {args : List Arg} {vs : List Value} {l : List (Bool × Pl)} (h : ArgsOK w ok args vs l) : ∀ {p q i : Nat}, (pinsOf args l).length = pinned args ∧
    ∀ (k : Nat) (pin : Pin), (pinsOf args l)[k]? = some pin → PinAt (initL args p q i).2 l (p + k) pin := by
  have ow : ∀ {cs : List C} {us : List Value} {r : List Pl} (q : Nat), GCells w ok cs us r → r.length = ownsIn cs ∧ (freshC q cs).2.length = r.length ∧ (freshC q cs).1.length = cs.length := by
    intro cs us r q hg
    induction hg generalizing q with
    | nil => exact ⟨rfl, rfl, rfl⟩
    | @cons c v pl cs vs pls h1 h2 ih =>
      cases c with
      | own t xs => obtain ⟨p1, rfl, _⟩ := h1; simp [freshC, ownsIn, ih (q + 1)]
      | dead => obtain ⟨rfl, _⟩ := h1; simpa [freshC, ownsIn] using ih q
      | _ => obtain ⟨rfl, _⟩ := h1; simpa [freshC, ownsIn] using ih q
  have cp : ∀ {css : List (List C)} {us : List Value} {r : List Pl} (q : Nat), CapsAt w ok css us r → r.length = css.length ∧ (capObjs q css).2.length = r.length := by
    intro css us r q hg
    induction hg generalizing q with
    | nil => exact ⟨rfl, rfl⟩
    | cons _ _ ih => simp [capObjs, ih (q + 1)]
  induction h with
  | nil => intro p q i; exact ⟨rfl, fun k pin hk => by simp [pinsOf] at hk⟩
  | @cons a v pls as vs l h1 _ ih =>
    intro p q i
    have shift : ∀ {ps1 : List (Nat × Obj)} {p' q' i' : Nat} {m : Nat} {k : Nat} {pin : Pin}, ps1.length = pls.length → p' + k = p + m → PinAt (initL as p' q' i').2 l (p' + k) pin → PinAt (ps1 ++ (initL as p' q' i').2) (pls.map (fun y => (a.frz, y)) ++ l) (p + m) pin := by
      intro ps1 p' q' i' m k pin hlen hpk hh
      cases pin with
      | box b p0 n =>
        obtain ⟨x, cs, g1, g2, g3⟩ := hh
        exact ⟨ps1.length + x, cs, by rw [List.getElem?_append_right (by omega), Nat.add_sub_cancel_left, g1, hpk], g2, by rw [List.getElem?_append_right (by simp; omega)]; simpa [hlen] using g3⟩
      | arr pl n =>
        obtain ⟨x, t, xs, g1, g2, g3⟩ := hh
        exact ⟨ps1.length + x, t, xs, by rw [List.getElem?_append_right (by omega), Nat.add_sub_cancel_left, g1, hpk], g2, by rw [List.getElem?_append_right (by simp; omega)]; simpa [hlen] using g3⟩
    have plain : ∀ {ps1 : List (Nat × Obj)} {q' : Nat}, pinsOf (a :: as) (pls.map (fun y => (a.frz, y)) ++ l) = pinsOf as l → pinned (a :: as) = pinned as → (initL (a :: as) p q i).2 = ps1 ++ (initL as p q' (i + 1)).2 → ps1.length = pls.length → (pinsOf (a :: as) (pls.map (fun y => (a.frz, y)) ++ l)).length = pinned (a :: as) ∧ ∀ (k : Nat) (pin : Pin), (pinsOf (a :: as) (pls.map (fun y => (a.frz, y)) ++ l))[k]? = some pin → PinAt (initL (a :: as) p q i).2 (pls.map (fun y => (a.frz, y)) ++ l) (p + k) pin := by
      intro ps1 q' e1 e2 e3 e4
      obtain ⟨i1, i2⟩ := ih (p := p) (q := q') (i := i + 1)
      rw [e1, e2, e3]
      exact ⟨i1, fun k pin hk => shift e4 rfl (i2 k pin hk)⟩
    cases a with
    | one c => obtain ⟨rfl, _⟩ := h1; exact plain (ps1 := []) (by simp [pinsOf, Arg.npl]) rfl rfl rfl
    | agg cs => obtain ⟨rfl, _⟩ := h1; exact plain (ps1 := []) (by simp [pinsOf, Arg.npl]) rfl rfl rfl
    | rio cs => obtain ⟨b, p0, rfl, _⟩ := h1; exact plain (ps1 := [(q, ⟨0, 0, true, false, .box cs⟩)]) (by simp [pinsOf, Arg.npl]) rfl rfl rfl
    | fn g caps =>
      obtain ⟨us, _, hc⟩ := h1
      obtain ⟨c1, c2⟩ := cp q hc
      exact plain (ps1 := (capObjs q caps).2) (by simp only [pinsOf, Arg.npl]; rw [drop_seg _ _ (by simp [c1])]) rfl rfl c2
    | io cs =>
      obtain ⟨b, p0, r, rfl, _, cur, el, us, k1, k2, k3, k4⟩ := h1
      obtain ⟨c1, c2, c3⟩ := ow q k4
      obtain ⟨i1, i2⟩ := ih (p := p + 1) (q := q + (freshC q cs).2.length) (i := i + 1)
      have hp : pinsOf (.io cs :: as) ((some (b, p0) :: r).map (fun y => ((Arg.io cs).frz, y)) ++ l) = Pin.box b p0 cs.length :: pinsOf as l := by
        simp only [pinsOf, List.map_cons, List.cons_append, List.drop_succ_cons]
        rw [drop_seg _ _ (by simp [c1])]
        rfl
      have hps : (initL (.io cs :: as) p q i).2 = ((p, mkObj (.box (freshC q cs).1)) :: (freshC q cs).2) ++ (initL as (p + 1) (q + (freshC q cs).2.length) (i + 1)).2 := rfl
      rw [hp, hps]
      refine ⟨by simp [i1, pinned], fun k pin hk => ?_⟩
      cases k with
      | zero =>
        simp at hk
        subst hk
        exact ⟨0, (freshC q cs).1, rfl, c3, rfl⟩
      | succ k => exact shift (by simp [c2]) (by omega) (i2 k pin (by simpa using hk))
    | own io t xs =>
      obtain ⟨p1, rfl, ho⟩ := h1
      cases io with
      | true =>
        obtain ⟨i1, i2⟩ := ih (p := p + 1) (q := q) (i := i + 1)
        have hp : pinsOf (.own true t xs :: as) ([p1].map (fun y => ((Arg.own true t xs).frz, y)) ++ l) = Pin.arr p1 xs.length :: pinsOf as l := by simp [pinsOf]
        have hps : (initL (.own true t xs :: as) p q i).2 = [(p, mkObj (.arr t xs))] ++ (initL as (p + 1) q (i + 1)).2 := rfl
        rw [hp, hps]
        refine ⟨by simp [i1, pinned], fun k pin hk => ?_⟩
        cases k with
        | zero =>
          simp at hk
          subst hk
          exact ⟨0, t, xs, rfl, rfl, rfl⟩
        | succ k => exact shift rfl (by omega) (i2 k pin (by simpa using hk))
      | false => exact plain (ps1 := [(q, mkObj (.arr t xs))]) (by simp [pinsOf, Arg.npl]) rfl rfl rfl

section
variable {S : Start} {φ : Nat → Pl} {σ : St} {a : Act} {w : World} {T : TypeId → Option TI}

theorem load_box (hT : TOK S.P T) (h : Rel S φ σ a w) {t : TypeId} {o off : Nat} {e : Eff} {v : Value} (hv : RC (envOf S φ σ.objs w) (.ptr o off) v) (he : loadStep T σ.objs t (one (.ptr o off)) = .done e) :
    ∃ ad u, v = .pointer (some ad) ∧ (loadVar t ad).run S.P w = .ok u w ∧ RAV (envOf S φ σ.objs w) e.val u := by
  unfold loadStep at he
  simp only [one] at he
  split at he
  · rename_i ti hti
    split at he
    · rename_i y hy
      split at he
      · rename_i cs hb
        cases hd : decide (off + ti.size ≤ cs.length) with
        | false => rw [hd] at he; cases he
        | true =>
          rw [hd] at he
          simp only [cond_true] at he
          have hle : off + ti.size ≤ cs.length := by simpa using hd
          split at he
          · rename_i av hav
            cases he
            obtain ⟨b, p, y', cs', g1, g2, g3, g4⟩ := hv
            obtain ⟨b', p', vs, k1, k2, k3, k4, _⟩ := box_cells (h.objs.ok o y hy) hb
            rw [g1] at k1
            cases k1
            have hl : ((vs.drop off).take ti.size).length = ti.size := by simp; omega
            obtain ⟨u, m1, m2⟩ := run_loadAt (hT t ti hti) (b := b) (q := p + off) w hl (fun j u hj => by
              rw [List.getElem?_take] at hj
              split at hj
              · rw [List.getElem?_drop] at hj
                have := k4 _ u hj
                rw [Nat.add_assoc]; exact this
              · cases hj)
            refine ⟨_, u, g4, ?_, ofCells_RAV hav (k3.seg off ti.size) m2⟩
            simpa [Instr.loadAt, Instr.sureAddr] using m1
          · cases he
      · cases he
    · cases he
  · cases he

def resRun (tmps : Array Value) : ResultVar → Sem Value
  | .tmp t => pure (tmps.getD t undef)
  | .cell a t => do loadVar t (← asAddr (tmps.getD a undef))
theorem resV_spec (hT : TOK S.P T) (h : Rel S φ σ a w) {rv : ResultVar} {x : V1} (he : resV T σ rv = some x) : ∃ v, RV1 (envOf S φ σ.objs w) x v ∧ (resRun a.tmps rv).run S.P w = .ok v w := by
  cases rv with
  | tmp t =>
    simp only [resV] at he
    split at he
    · rename_i y hy
      cases he
      have := h.slots t
      rw [hy] at this
      exact ⟨_, this, by simp [resRun]⟩
    · cases he
  | cell ad ty =>
    simp only [resV] at he
    split at he
    · rename_i o off hs
      split at he
      · rename_i e hl
        split at he
        · rename_i y hy
          cases he
          have hslot := h.slots ad
          rw [hs] at hslot
          obtain ⟨ad', u, g1, g2, g3⟩ := load_box hT h hslot hl
          rw [hy] at g3
          exact ⟨u, g3, by simp [resRun, g1, asAddr, g2]⟩
        · cases he
      · cases he
    · cases he

theorem resXs_spec (hT : TOK S.P T) (h : Rel S φ σ a w) : ∀ {rs : List ResultVar} {xs : List V1}, resXs T σ rs = some xs →
    ∃ vs, RVs (envOf S φ σ.objs w) xs vs ∧ (rs.mapM (resRun a.tmps)).run S.P w = .ok vs w
  | [], xs, he => by cases he; exact ⟨[], rfl, by simp⟩
  | r :: rs, xs, he => by
    simp only [resXs] at he
    split at he
    · rename_i x hx
      split at he
      · rename_i xs' hr
        cases he
        obtain ⟨v, g1, g2⟩ := resV_spec hT h hx
        obtain ⟨vs, m1, m2⟩ := resXs_spec hT h hr
        exact ⟨v :: vs, ⟨v, vs, rfl, g1, m1⟩, by simp [List.mapM_cons, g2, m2]⟩
      · cases he
    · cases he
theorem fzC_spec {E : Env} {fz : List Nat} : ∀ {i : Nat} {cs cs' : List C} {os : List Nat} {vs : List Value}, RCs E cs vs → fzC fz i cs = (cs', os) → RCs E cs' vs
  | i, [], cs', os, vs, h, he => by cases he; exact h
  | i, c :: r, cs', os, vs, h, he => by
    match vs, h with
    | [], h => exact absurd h.1 (by simp)
    | v :: vs, h =>
      have hr : RCs E (fzC fz (i + 1) r).1 vs := fzC_spec ⟨by have := h.1; simpa using this, fun j d u hd hu => h.2 (j + 1) d u (by simpa using hd) (by simpa using hu)⟩ (os := (fzC fz (i + 1) r).2) rfl
      have cons : ∀ {c' : C}, RC E c' v → RCs E (c' :: (fzC fz (i + 1) r).1) (v :: vs) := fun hc => ⟨by simp [hr.1], fun j d u hd hu => by
        cases j with
        | zero => simp at hd hu; subst hd; subst hu; exact hc
        | succ j => exact hr.2 j d u (by simpa using hd) (by simpa using hu)⟩
      have h0 := h.2 0 c v rfl rfl
      simp only [fzC] at he
      split at he
      · split at he
        · cases he; exact cons h0
        · cases he
          exact cons (c' := .tr _ []) ⟨none, 0, by rw [show v = .slice none 0 0 from h0]; rfl, Nat.le_refl _, by unfold maxLen; omega, .inl rfl⟩
        · cases he; exact cons h0
      · cases he; exact cons h0
theorem fzV_spec {E : Env} {fz : List Nat} : ∀ {i : Nat} {xs xs' : List V1} {os : List Nat} {vs : List Value}, RVs E xs vs → fzV fz i xs = (xs', os) → (∃ o, os = o) → xs'.length = xs.length → RVs E xs' vs
  | i, [], xs', os, vs, h, he, _, _ => by cases he; exact h
  | i, .one c :: r, xs', os, vs, ⟨v, vs', h1, h2, h3⟩, he, _, hl => by
    simp only [fzV] at he
    split at he
    · rename_i c' os' hc
      cases he
      have := fzC_spec (E := E) (vs := [v]) ⟨rfl, fun j d u hd hu => by
        cases j with
        | zero => simp at hd hu; subst hd; subst hu; exact h2
        | succ j => simp at hd⟩ hc
      exact ⟨v, vs', h1, this.2 0 c' v rfl rfl, fzV_spec h3 (os := (fzV fz (i + 1) r).2) rfl ⟨_, rfl⟩ (by simpa using hl)⟩
    · cases he; simp at hl
  | i, .agg cs :: r, xs', os, vs, ⟨v, vs', h1, h2, h3⟩, he, _, hl => by
    simp only [fzV] at he
    cases he
    obtain ⟨us, rfl, hr⟩ := h2
    exact ⟨_, vs', h1, ⟨us, rfl, fzC_spec hr (os := (fzC fz i cs).2) rfl⟩, fzV_spec h3 (os := (fzV fz (i + cs.length) r).2) rfl ⟨_, rfl⟩ (by simpa using hl)⟩
theorem fzC_len {fz : List Nat} : ∀ {i : Nat} {cs : List C}, (fzC fz i cs).1.length = cs.length
  | i, [] => rfl
  | i, c :: r => by
    have := fzC_len (fz := fz) (i := i + 1) (cs := r)
    simp only [fzC]
    split
    · split <;> simp [this]
    · simp [this]
theorem fzV_len {fz : List Nat} : ∀ {i : Nat} {xs : List V1}, (fzV fz i xs).1.length = xs.length
  | i, [] => rfl
  | i, .one c :: r => by
    have h1 := fzC_len (fz := fz) (i := i) (cs := [c])
    simp only [fzV]
    split
    · simp [fzV_len (fz := fz) (i := i + 1) (xs := r)]
    · rename_i hc
      rcases hf : fzC fz i [c] with ⟨cs, os⟩
      rw [hf] at h1
      match cs, h1 with
      | [d], _ => exact absurd hf (hc d os)
  | i, .agg cs :: r => by simp [fzV, fzV_len (fz := fz) (i := i + cs.length) (xs := r)]
theorem arrsB_spec {L : Look} {os : List Nat} (h : arrsB L os = true) : ∀ o ∈ os, ∃ y t xs, L o = some y ∧ y.body = .arr t xs := by
  intro o ho
  have := List.all_eq_true.1 h o ho
  split at this
  · rename_i y hy
    split at this
    · rename_i t xs hb; exact ⟨y, t, xs, hy, hb⟩
    · cases this
  · cases this
theorem outVs_spec {L : Look} (hO : Objs S φ L w) {pin : Nat} : ∀ {xs : List V1} {vs : List Value} {used used' : List Nat} {vals : List RV}, RVs (envOf S φ L w) xs vs → outVs L pin used xs = some (vals, used') →
    ∃ pls, ValsOK w (envOf S φ L w).Ok vals vs pls ∧ Took (envOf S φ L w) used used' pls
  | [], vs, used, used', vals, h, he => by
    obtain rfl : vs = [] := h
    cases he
    exact ⟨[], .nil, Took.nil _ _⟩
  | x :: xs, vs, used, used', vals, ⟨v, vs', h1, h2, h3⟩, he => by
    subst h1
    simp only [outVs] at he
    split at he
    · rename_i x' u hx'
      split at he
      · rename_i rs' u' hr
        cases he
        obtain ⟨p1, k1, k2⟩ := outV_spec hO h2 hx'
        obtain ⟨pls, m1, m2⟩ := outVs_spec hO h3 hr
        exact ⟨p1 ++ pls, .cons k1 m1, k2.trans hO m2⟩
      · cases he
    · cases he

theorem outPins_spec {L : Look} (hO : Objs S φ L w) : ∀ {pins : List Pin} {k n : Nat} {used : List Nat} {outs : List (List C)}, outPins L n used (List.range' k pins.length) = some outs → pins.length ≤ n →
    (∀ (j : Nat) (pin : Pin), pins[j]? = some pin → match pin with
      | .box b p m => (k + j, b, p, m) ∈ S.boxes
      | .arr pl m => (k + j, pl, m) ∈ S.arrs) →
    ∃ used' pls, OutsOK w (envOf S φ L w).Ok pins outs pls ∧ Took (envOf S φ L w) used used' pls
  | [], k, n, used, outs, he, hn, hp => by
    have : outs = [] := by
      cases n with
      | zero => cases he; rfl
      | succ n => simp [outPins] at he; exact he
    subst this
    exact ⟨used, [], .nil, Took.nil _ _⟩
  | pin :: pins, k, n, used, outs, he, hn, hp => by
    cases n with
    | zero => simp at hn
    | succ n =>
      simp only [List.length_cons, List.range'_succ, outPins] at he
      have hp' : ∀ (j : Nat) (pin : Pin), pins[j]? = some pin → match pin with
          | .box b p m => (k + 1 + j, b, p, m) ∈ S.boxes
          | .arr pl m => (k + 1 + j, pl, m) ∈ S.arrs := fun j q hj => by
        have := hp (j + 1) q (by simpa using hj)
        rw [show k + (j + 1) = k + 1 + j by omega] at this
        exact this
      have hn' : pins.length ≤ n := by simpa using hn
      have h0 := hp 0 pin rfl
      split at he
      · rename_i y hy
        split at he
        · rename_i cs hb
          cases hc : (!y.app && !y.frz && !used.contains k) with
          | false => rw [hc] at he; cases he
          | true =>
            rw [hc] at he
            simp only [cond_true] at he
            simp only [Bool.and_eq_true, Bool.not_eq_true'] at hc
            split at he
            · rename_i cs' u hcs
              split at he
              · rename_i l hl
                cases he
                obtain ⟨u', pls, g1, g2⟩ := outPins_spec hO hl hn' hp'
                cases pin with
                | box b p m =>
                  obtain ⟨k1, y', cs0, k2, k3, k4, k5⟩ := hO.box _ b p m h0
                  simp only [Nat.add_zero] at k1 k2
                  rw [hy] at k2
                  cases k2
                  rw [hb] at k4
                  cases k4
                  obtain ⟨b', p', r, m1, m2, m3, m4⟩ := box_took hO hy k3 hb (by simpa using hc.2) hcs
                  rw [k1] at m1
                  cases m1
                  exact ⟨u', _, .box m2 (by rw [m3]; exact k5) g1, m4.trans hO g2⟩
                | arr pl m =>
                  exfalso
                  obtain ⟨y', k1, k2⟩ := hO.arr _ pl m h0
                  simp only [Nat.add_zero] at k1
                  rw [hy] at k1
                  cases k1
                  obtain ⟨_, t', xs', m2, _⟩ := k2 hc.1.1 hc.1.2
                  rw [hb] at m2
                  cases m2
              · cases he
            · cases he
        · rename_i t xs hb
          cases hc : (!y.app && !y.frz && !used.contains k) with
          | false => rw [hc] at he; cases he
          | true =>
            rw [hc] at he
            simp only [cond_true] at he
            simp only [Bool.and_eq_true, Bool.not_eq_true'] at hc
            split at he
            · rename_i l hl
              cases he
              obtain ⟨u', pls, g1, g2⟩ := outPins_spec hO hl hn' hp'
              cases pin with
              | box b p m =>
                obtain ⟨k1, y', cs0, k2, k3, k4, k5⟩ := hO.box _ b p m h0
                simp only [Nat.add_zero] at k2
                rw [hy] at k2
                cases k2
                rw [hb] at k4
                cases k4
              | arr pl m =>
                obtain ⟨y', k1, k2⟩ := hO.arr _ pl m h0
                simp only [Nat.add_zero] at k1 k2
                rw [hy] at k1
                cases k1
                obtain ⟨m1, t', xs', m2, m3⟩ := k2 hc.1.1 hc.1.2
                rw [hb] at m2
                cases m2
                have hobj := hO.ok k y hy
                unfold ObjOK at hobj
                rw [hb] at hobj
                have tk : Took (envOf S φ L w) used (k :: used) [pl] := by
                  refine ⟨[k], rfl, fun x hx => ?_, fun b hb' => ?_, ?_⟩
                  · simp at hx; subst hx; exact ⟨by simpa using hc.2, y, hy, hc.1.2, by rw [hb]; simp⟩
                  · cases pl with
                    | none => simp [blks] at hb'
                    | some bq => simp [blks] at hb'; subst hb'; exact ⟨k, by simp, bq.2, m1⟩
                  · cases pl <;> simp [blks]
                refine ⟨u', pl :: pls, .arr ?_ m3 g1, tk.trans hO g2⟩
                rcases hobj with ⟨q1, q2⟩ | ⟨b, p, cur, el, q1, q2, q3, q4⟩
                · have q1' : φ k = none := q1
                  rw [m1] at q1'
                  subst q1'
                  exact q2
                · have q1' : φ k = some (b, p) := q1
                  rw [m1] at q1'
                  subst q1'
                  exact ⟨cur, el, q2, q3, q4⟩
            · cases he
        · cases he
      · cases he
end
end Go.M
namespace Go.M
open Go

theorem pins_boxes {P : Program} {w : World} {okp : Nat → Prop} {args : List Arg} {vs : List Value} {l : List (Bool × Pl)} (hA : ArgsOK w okp args vs l) (nt : Nat) :
    ∀ (j : Nat) (pin : Pin), (pinsOf args l)[j]? = some pin → match pin with
      | .box b p m => (0 + j, b, p, m) ∈ (startOf P w okp args l nt).boxes
      | .arr pl m => (0 + j, pl, m) ∈ (startOf P w okp args l nt).arrs := by
  intro j pin hj
  have hp := (pins_spec hA (p := 0) (q := pinned args) (i := 0)).2 j pin hj
  have hlt : 0 + j < pinned args := by
    rw [← (pins_spec hA (p := 0) (q := pinned args) (i := 0)).1]
    have := (List.getElem?_eq_some_iff.1 hj).1
    omega
  cases pin with
  | box b p m =>
    obtain ⟨x, cs, g1, g2, g3⟩ := hp
    refine List.mem_filterMap.2 ⟨((0 + j, mkObj (.box cs)), (false, some (b, p))), List.mem_filter.2 ⟨List.mem_of_getElem? (i := x) (List.getElem?_zip_eq_some.2 ⟨g1, g3⟩), by simpa using hlt⟩, ?_⟩
    simp [boxOf, mkObj, g2]
  | arr pl m =>
    obtain ⟨x, t, xs, g1, g2, g3⟩ := hp
    refine List.mem_filterMap.2 ⟨((0 + j, mkObj (.arr t xs)), (false, pl)), List.mem_filter.2 ⟨List.mem_of_getElem? (i := x) (List.getElem?_zip_eq_some.2 ⟨g1, g3⟩), by simpa using hlt⟩, ?_⟩
    simp [arrOf, mkObj, g2]

theorem run_results {P : Program} {f : Func} {tmps : Array Value} {vs : List Value} {w : World} (h : (f.results.toList.mapM (resRun tmps)).run P w = .ok vs w) : (results f tmps).run P w = .ok (packV vs) w := by
  have e : (fun x => match x with
      | ResultVar.tmp t => (pure (tmps.getD t undef) : Sem Value)
      | ResultVar.cell a t => do loadVar t (← asAddr (tmps.getD a undef))) = resRun tmps := by
    funext x; cases x <;> rfl
  have h1 : (f.results.mapM (resRun tmps)).run P w = .ok vs.toArray w := by
    rw [Array.mapM_eq_mapM_toList]
    simp [h]
  have hr : results f tmps = (do
      let vs ← f.results.mapM (resRun tmps)
      pure (if h : vs.size = 1 then vs[0] else .tuple vs)) := by
    unfold results
    rw [← e]
    rfl
  rw [hr]
  simp only [Sem.run_bind, h1, Result.andThen_ok, Sem.run_pure]
  congr 1
  match vs with
  | [] => simp [packV]
  | [v] => simp [packV]
  | v :: u :: r => simp [packV]

theorem exit_ok {P : Program} {T : TypeId → Option TI} (hT : TOK P T) {w w' : World} {okp : Nat → Prop} {args : List Arg} {vs : List Value} {l : List (Bool × Pl)} (hA : ArgsOK w okp args vs l) {nt : Nat} {φ : Nat → Pl} {σ : St} {a : Act}
    (h0 : Rel (startOf P w okp args l nt) φ σ a w') {f : Func} {xs xs' : List V1} {fz os : List Nat} {rvs : List RV} {u : List Nat} {outs : List (List C)} (hres : resXs T σ f.results.toList = some xs) (hfz : fzV fz 0 xs = (xs', os)) (harr : arrsB σ.objs os = true)
    (hval : outVs (putO σ.objs (frzPuts σ.objs os)) (pinned args) [] xs' = some (rvs, u))
    (hout : outPins (putO σ.objs (frzPuts σ.objs os)) (pinned args) u (List.range (pinned args)) = some outs) : ∃ v, (results f a.tmps).run P w' = .ok v w' ∧ ExitOK w w' okp l (pinsOf args l) ⟨rvs, outs⟩ v := by
  obtain ⟨us, f1, g3⟩ := resXs_spec (S := startOf P w okp args l nt) hT h0 hres
  have hk := reify_frz h0.objs h0.frame os (arrsB_spec harr)
  have h : Rel (startOf P w okp args l nt) φ { σ with objs := putO σ.objs (frzPuts σ.objs os) } a w' := ⟨h0.nt, h0.defers, fun i => (h0.slots i).step hk.env, hk.objs, hk.frame⟩
  have f2 := fzV_spec (f1.step hk.env) hfz ⟨_, rfl⟩ (by have := fzV_len (fz := fz) (i := 0) (xs := xs); rw [hfz] at this; exact this)
  obtain ⟨rl, g1, g2⟩ := outVs_spec h.objs f2 hval
  have hlen := (pins_spec hA (p := 0) (q := pinned args) (i := 0)).1
  obtain ⟨u', ol, k1, k2⟩ := outPins_spec h.objs (pins := pinsOf args l) (k := 0) (n := pinned args) (by rw [hlen, ← List.range_eq_range']; exact hout) (Nat.le_of_eq hlen) (pins_boxes hA nt)
  have tk := g2.trans h.objs k2
  refine ⟨packV us, run_results g3, h.frame.os, h.frame.tape, h.frame.output, h.frame.size, h.frame.bsz, h.frame.keep, fun b p n hm => ?_, (envOf (startOf P w okp args l nt) φ (putO σ.objs (frzPuts σ.objs os)) w').Ok, us, rl, ol, rfl, g1, k1, ?_, ?_, ?_⟩
  · obtain ⟨j, hj⟩ := List.getElem?_of_mem hm
    exact h.frame.box _ b p n (pins_boxes (P := P) hA nt j _ hj)
  · obtain ⟨os, _, _, _, hnd⟩ := tk
    exact hnd
  · obtain ⟨os, _, a1, a2, _⟩ := tk
    intro b hb hlt
    obtain ⟨o, ho, p, hp⟩ := a2 b hb
    obtain ⟨_, y, hy, hf, _⟩ := a1 o ho
    exact (h.objs.blk o y b p hy hp).2.2 hf hlt
  · obtain ⟨os, _, a1, a2, _⟩ := tk
    intro b hb
    refine ⟨hb.1, fun hm => hb.2 ?_⟩
    obtain ⟨o, ho, p, hp⟩ := a2 b hm
    obtain ⟨_, y, hy, hf, _⟩ := a1 o ho
    exact ⟨o, y, p, hy, hf, hp⟩
end Go.M
namespace Go.M
open Go

/-- What the callee may read: what anybody may, and what the caller hands over to be read. -/
def okR (E : Env) (reads : List Nat) (b : Nat) : Prop := E.Ok b ∨ ∃ o ∈ reads, ∃ y p, E.L o = some y ∧ y.body ≠ .gone ∧ E.φ o = some (b, p)
/-- The caller's objects behind the places that are handed over. -/
inductive Froms (E : Env) (reads : List Nat) : List (Bool × Pl) → List Nat → Prop
  | nil : Froms E reads [] []
  | skip {f : Bool} {l : List (Bool × Pl)} {G : List Nat} : Froms E reads l G → Froms E reads ((f, none) :: l) G
  | give {o : Nat} {y : Obj} {pl : Pl} {l : List (Bool × Pl)} {G : List Nat} : E.L o = some y → y.frz = false → y.body ≠ .gone → (∀ b q, pl = some (b, q) → ∃ p, E.φ o = some (b, p)) → Froms E reads l G → Froms E reads ((false, pl) :: l) (o :: G)
  | show {o : Nat} {y : Obj} {b q p : Nat} {l : List (Bool × Pl)} {G : List Nat} : o ∈ reads → E.L o = some y → y.body ≠ .gone → E.φ o = some (b, p) → Froms E reads l G → Froms E reads ((true, some (b, q)) :: l) G
theorem Froms.append {E : Env} {reads : List Nat} {l l' : List (Bool × Pl)} {G G' : List Nat} (h : Froms E reads l G) (h' : Froms E reads l' G') : Froms E reads (l ++ l') (G ++ G') := by
  induction h with
  | nil => exact h'
  | skip _ ih => exact .skip ih
  | give h1 h2 h3 h4 _ ih => exact .give h1 h2 h3 h4 ih
  | «show» h1 h2 h3 h4 _ ih => exact .show h1 h2 h3 h4 ih
/-- The pinned objects of the callee and the caller's. -/
inductive PinsOK (E : Env) : List IO1 → List Pin → Prop
  | nil : PinsOK E [] []
  | box {o off n b p : Nat} {y : Obj} {cs0 : List C} {ios : List IO1} {pins : List Pin} : E.φ o = some (b, p) → E.L o = some y → y.body = .box cs0 → y.frz = false → off + n ≤ cs0.length → PinsOK E ios pins → PinsOK E (.box o off n :: ios) (.box b (p + off) n :: pins)
  | arr {o n : Nat} {pl : Pl} {y : Obj} {t : Ty} {xs : List t.den} {ios : List IO1} {pins : List Pin} : E.L o = some y → y.body = .arr t xs → y.frz = false → xs.length = n →
      ((pl = none ∧ E.φ o = none) ∨ ∃ b p q, E.φ o = some (b, p) ∧ pl = some (b, q) ∧ (n = 0 ∨ p = q)) → PinsOK E ios pins → PinsOK E (.arr o :: ios) (.arr pl n :: pins)
theorem PinsOK.append {E : Env} {ios ios' : List IO1} {pins pins' : List Pin} (h : PinsOK E ios pins) (h' : PinsOK E ios' pins') : PinsOK E (ios ++ ios') (pins ++ pins') := by
  induction h with
  | nil => exact h'
  | box h1 h2 h3 h4 h5 _ ih => exact .box h1 h2 h3 h4 h5 ih
  | arr h1 h2 h3 h4 h5 _ ih => exact .arr h1 h2 h3 h4 h5 ih
theorem ioNames_append (a b : List IO1) : ioNames (a ++ b) = ioNames a ++ ioNames b := by
  induction a with
  | nil => rfl
  | cons x r ih => cases x <;> simp [ioNames, ih]

/-- One argument, handed over. -/
def PassOK (E : Env) (reads : List Nat) (a : Passed) (v : Value) : Prop :=
  ∃ pls G pins, ArgOK E.w (okR E reads) a.arg v pls ∧ Froms E reads (pls.map fun p => (a.arg.frz, p)) G ∧ G.Perm (a.gone ++ ioNames a.ios) ∧ PinsOK E a.ios pins ∧
    ∀ as l, pinsOf (a.arg :: as) ((pls.map fun p => (a.arg.frz, p)) ++ l) = pins ++ pinsOf as l

section
variable {S : Start} {φ : Nat → Pl} {L : Look} {w : World}

theorem reify_okR (hO : Objs S φ L w) {reads : List Nat} {c c' : C} {rs : List Nat} {v : Value} (hc : RC (envOf S φ L w) c v) (hr : reifyC L c = (c', rs)) (hl : liveC c' = true) (hs : ∀ o ∈ rs, o ∈ reads) :
    RP w (okR (envOf S φ L w) reads) c' v :=
  reifyC_spec hO hc hr hl _ (fun b hb => .inl hb) fun b ⟨o, ho, p, hp⟩ => by
    obtain ⟨y, t, xs, h1, h2⟩ := reifyC_names hr hl o ho
    exact .inr ⟨o, hs o ho, y, p, h1, by rw [h2]; simp, hp⟩

theorem reifyC_live {L : Look} {c c' : C} {rs : List Nat} (hr : reifyC L c = (c', rs)) : liveC c' = true ∨ c' = .dead := by
  cases c with
  | sl o ver off len =>
    simp only [reifyC] at hr
    split at hr
    · split at hr
      · cases hr; exact .inl rfl
      · cases hr; exact .inr rfl
    · cases hr; exact .inr rfl
  | _ => cases hr <;> first | exact .inl rfl | exact .inr rfl

theorem GCell.of_RP {ok : Nat → Prop} {c : C} {v : Value} (h : RP w ok c v) : GCell w ok c v [] := by cases c <;> first | exact ⟨rfl, h⟩ | exact h.elim
theorem reifyC_G (hO : Objs S φ L w) {reads : List Nat} {c c' : C} {rs : List Nat} {v : Value} (hc : RC (envOf S φ L w) c v) (h1 : v.oneCell' = true) (hr : reifyC L c = (c', rs)) (hs : ∀ o ∈ rs, o ∈ reads) :
    GCell w (okR (envOf S φ L w) reads) c' v [] := by
  rcases reifyC_live hr with hl | hd
  · exact GCell.of_RP (reify_okR hO hc hr hl hs)
  · subst hd; exact ⟨rfl, h1⟩

theorem reifyCs_G (hO : Objs S φ L w) {reads : List Nat} : ∀ {cs cs' : List C} {rs : List Nat} {vs : List Value}, RCs (envOf S φ L w) cs vs → (∀ v ∈ vs, v.oneCell' = true) → reifyCs L cs = (cs', rs) → (∀ o ∈ rs, o ∈ reads) →
    GCells w (okR (envOf S φ L w) reads) cs' vs []
  | [], cs', rs, vs, hc, _, hr, _ => by
    cases hr
    have : vs = [] := List.eq_nil_of_length_eq_zero hc.1
    subst this
    exact .nil
  | c :: r, cs', rs, vs, hc, h1, hr, hs => by
    simp only [reifyCs] at hr
    cases hr
    match vs, hc with
    | [], hc => exact absurd hc.1 (by simp)
    | v :: vs, hc =>
      have ih := reifyCs_G hO (cs := r) (vs := vs) ⟨by have := hc.1; simpa using this, fun j d u hd hu => hc.2 (j + 1) d u (by simpa using hd) (by simpa using hu)⟩ (fun u hu => h1 u (by simp [hu])) rfl (fun o ho => hs o (by simp [ho]))
      exact .cons (reifyC_G hO (hc.2 0 c v rfl rfl) (h1 v (by simp)) (c' := (reifyC L c).1) (rs := (reifyC L c).2) rfl (fun o ho => hs o (by simp [ho]))) ih

theorem giveC_spec (hO : Objs S φ L w) {reads : List Nat} {c c' : C} {rs gn : List Nat} {v : Value} (hc : RC (envOf S φ L w) c v) (h1 : v.oneCell' = true) (hg : giveC L c = (c', rs, gn)) (hs : ∀ o ∈ rs, o ∈ reads) :
    ∃ pls, GCell w (okR (envOf S φ L w) reads) c' v pls ∧ Froms (envOf S φ L w) reads (pls.map fun p => (false, p)) gn := by
  have plain : ∀ {d : C} {rs' : List Nat}, reifyC L c = (d, rs') → liveC d = true → (∀ o ∈ rs', o ∈ reads) → c' = d → gn = [] → ∃ pls, GCell w (okR (envOf S φ L w) reads) c' v pls ∧ Froms (envOf S φ L w) reads (pls.map fun p => (false, p)) gn := by
    intro d rs' hr hl hs' hd hgn
    subst hd hgn
    have hrp := reify_okR hO hc hr hl hs'
    exact ⟨[], GCell.of_RP hrp, .nil⟩
  have dead : c' = .dead → gn = [] → ∃ pls, GCell w (okR (envOf S φ L w) reads) c' v pls ∧ Froms (envOf S φ L w) reads (pls.map fun p => (false, p)) gn := by
    intro hd hgn
    subst hd hgn
    exact ⟨[], ⟨rfl, h1⟩, .nil⟩
  cases c with
  | sl o ver off len =>
    simp only [giveC] at hg
    split at hg
    · rename_i y hy
      obtain ⟨hy0, hver⟩ := cur?_some hy
      split at hg
      · rename_i t xs hb
        cases hf : y.frz with
        | true =>
          rw [hf] at hg
          cases hg
          exact plain (d := .tr t (win off len xs)) (rs' := [o]) (by simp [reifyC, hy, hb]) rfl hs rfl rfl
        | false =>
          rw [hf] at hg
          cases hg
          obtain ⟨_, y', g1, _, g2⟩ := hc
          have : y' = y := by have hh : L o = some y' := g1; rw [hy0] at hh; cases hh; rfl
          subst this
          have hsl : SlOK w (φ o) y'.body off len v := g2 hver
          have hobj := hO.ok o y' hy0
          unfold ObjOK at hobj
          rw [hb] at hobj hsl
          have hng : y'.body ≠ .gone := by rw [hb]; simp
          rcases hobj with ⟨k1, rfl⟩ | ⟨b, p, cur, el, k1, k2, k3, k4⟩
          · have k1' : φ o = none := k1
            rw [k1'] at hsl
            obtain ⟨_, hv⟩ := hsl
            refine ⟨[none], ⟨none, rfl, ?_, hv⟩, .give hy0 hf hng (fun _ _ h => by cases h) .nil⟩
            cases len <;> cases off <;> simp [win, drop']
          · have k1' : φ o = some (b, p) := k1
            rw [k1'] at hsl
            obtain ⟨q, cap, hv, l1, l2, l3, l4⟩ := hsl
            have k2' : w.heap[b]? = some (.cells cur el (0, 0)) := k2
            rw [bsz_at k2'] at l4
            refine ⟨[some (b, q)], ⟨some (b, q), rfl, cap, cur, el, hv, l1, l2, k2', l4, fun i x hi => ?_⟩, .give hy0 hf hng (fun b' q' h => by cases h; exact ⟨p, k1'⟩) .nil⟩
            have hpos : 0 < (win off len xs).length := Nat.lt_of_le_of_lt (Nat.zero_le _) (List.getElem?_eq_some_iff.1 hi).1
            have hq : q = p + off * t.size := by
              rcases l3 with l3 | l3
              · omega
              · exact l3
            refine ((k4 (off + i) x (win_get hi)).okMono fun b hb => .inl hb).congr fun j u _ hu2 => ?_
            rw [hq, show p + off * t.size + i * t.size + j = p + (off + i) * t.size + j by rw [Nat.add_mul]; omega]
            exact hu2
      · cases hg; exact dead rfl rfl
    · cases hg; exact dead rfl rfl
  | nils t => cases hg; exact ⟨[none], ⟨none, rfl, rfl, none, hc⟩, .skip .nil⟩
  | int k n => cases hg; exact plain rfl rfl (by simp) rfl rfl
  | bool b => cases hg; exact plain rfl rfl (by simp) rfl rfl
  | str s => cases hg; exact plain rfl rfl (by simp) rfl rfl
  | err b => cases hg; exact plain rfl rfl (by simp) rfl rfl
  | nilP => cases hg; exact plain rfl rfl (by simp) rfl rfl
  | tr t xs => cases hg; exact plain rfl rfl (by simp) rfl rfl
  | _ => cases hg; exact dead rfl rfl

theorem giveCs_spec (hO : Objs S φ L w) {reads : List Nat} : ∀ {cs cs' : List C} {rs gn : List Nat} {vs : List Value}, RCs (envOf S φ L w) cs vs → (∀ v ∈ vs, v.oneCell' = true) → giveCs L cs = (cs', rs, gn) → (∀ o ∈ rs, o ∈ reads) →
    cs'.length = cs.length ∧ ∃ pls, GCells w (okR (envOf S φ L w) reads) cs' vs pls ∧ Froms (envOf S φ L w) reads (pls.map fun p => (false, p)) gn
  | [], cs', rs, gn, vs, hc, _, hr, _ => by
    cases hr
    have : vs = [] := List.eq_nil_of_length_eq_zero hc.1
    subst this
    exact ⟨rfl, [], .nil, .nil⟩
  | c :: r, cs', rs, gn, vs, hc, h1, hr, hs => by
    simp only [giveCs] at hr
    cases hr
    match vs, hc with
    | [], hc => exact absurd hc.1 (by simp)
    | v :: vs, hc =>
      obtain ⟨k0, p2, k1, k2⟩ := giveCs_spec hO (cs := r) (vs := vs) ⟨by have := hc.1; simpa using this, fun j d u hd hu => hc.2 (j + 1) d u (by simpa using hd) (by simpa using hu)⟩ (fun u hu => h1 u (by simp [hu])) rfl (fun o ho => hs o (by simp [ho]))
      obtain ⟨p1, g1, g2⟩ := giveC_spec hO (hc.2 0 c v rfl rfl) (h1 v (by simp)) (c' := (giveC L c).1) (rs := (giveC L c).2.1) (gn := (giveC L c).2.2) rfl (fun o ho => hs o (by simp [ho]))
      exact ⟨by simp [k0], p1 ++ p2, .cons g1 k1, by rw [List.map_append]; exact g2.append k2⟩

theorem GCells.owns {ok : Nat → Prop} {cs : List C} {us : List Value} {r : List Pl} (hg : GCells w ok cs us r) : r.length = ownsIn cs := by
  induction hg with
  | nil => rfl
  | @cons c v pl cs vs pls h1 h2 ih =>
    cases c with
    | own t xs => obtain ⟨p1, rfl, _⟩ := h1; simp [ownsIn, ih]
    | dead => obtain ⟨rfl, _⟩ := h1; simpa [ownsIn] using ih
    | _ => obtain ⟨rfl, _⟩ := h1; simpa [ownsIn] using ih

/-- The cells of a box from some place on. -/
theorem box_seg (hO : Objs S φ L w) {o off : Nat} {y : Obj} {cs0 cs : List C} {k : Option Nat} (hy : L o = some y) (hb : y.body = .box cs0) (hoff : off ≤ cs0.length) (hcs : cs = segOf cs0 off k) :
    ∃ b p cur el vs, φ o = some (b, p) ∧ w.heap[b]? = some (.cells cur el (0, 0)) ∧ off + cs.length ≤ cs0.length ∧ p + off + cs.length ≤ cur.size ∧ RCs (envOf S φ L w) cs vs ∧ (∀ v ∈ vs, v.oneCell' = true) ∧ ∀ (j : Nat) (v : Value), vs[j]? = some v → cur[p + off + j]? = some v := by
  have hobj := hO.ok o y hy
  unfold ObjOK at hobj
  rw [hb] at hobj
  obtain ⟨b, p, cur, el, m1, m2, m3, m4⟩ := hobj
  have hlen : off + cs.length ≤ cs0.length := by
    subst hcs
    cases k <;> simp [segOf] <;> omega
  have hget : ∀ j c, cs[j]? = some c → cs0[off + j]? = some c := by
    intro j c hj
    subst hcs
    cases k with
    | none => simpa [segOf, List.getElem?_drop] using hj
    | some n =>
      simp only [segOf, List.getElem?_take] at hj
      split at hj
      · simpa [List.getElem?_drop] using hj
      · cases hj
  refine ⟨b, p, cur, el, (cur.toList.drop (p + off)).take cs.length, m1, m2, hlen, by omega, ⟨by simp; omega, fun j c v hc hv => ?_⟩, fun v hv => ?_, fun j v hv => ?_⟩
  · obtain ⟨u, g1, g2, _⟩ := m4 (off + j) c (hget j c hc)
    rw [List.getElem?_take] at hv
    split at hv
    · rw [List.getElem?_drop] at hv
      have hv : cur[p + off + j]? = some v := by simpa using hv
      rw [← Nat.add_assoc, hv] at g1
      cases g1
      exact g2
    · cases hv
  · obtain ⟨j, hj⟩ := List.getElem?_of_mem hv
    rw [List.getElem?_take] at hj
    split at hj
    · rename_i hlt
      obtain ⟨u, g1, _, g3⟩ := m4 (off + j) (cs[j]) (hget j _ (by simp))
      rw [List.getElem?_drop] at hj
      have hj : cur[p + off + j]? = some v := by simpa using hj
      rw [← Nat.add_assoc, hj] at g1
      cases g1
      exact g3
    · cases hj
  · rw [List.getElem?_take] at hv
    split at hv
    · rw [List.getElem?_drop] at hv
      simpa using hv
    · cases hv

theorem passPtr_spec (hO : Objs S φ L w) {reads : List Nat} {o off : Nat} {k : Option Nat} {a : Passed} {v : Value} (hc : RC (envOf S φ L w) (.ptr o off) v) (h : passPtr L o off k = some a) (hs : ∀ x ∈ a.reads, x ∈ reads) :
    PassOK (envOf S φ L w) reads a v := by
  unfold passPtr at h
  split at h
  · rename_i y hy
    split at h
    · rename_i cs0 hb
      cases hoff : Nat.ble off cs0.length with
      | false => simp [hoff] at h
      | true =>
        have hoff' := Nat.le_of_ble_eq_true hoff
        simp only [hoff, cond_true] at h
        generalize hcs : segOf cs0 off k = cs at h
        obtain ⟨b, p, cur, el, vs, g1, g2, g3, g4, g5, g6, g7⟩ := box_seg hO hy hb hoff' hcs.symm
        obtain ⟨b', p', y', cs1, c1, _, _, c4⟩ := hc
        have c1' : φ o = some (b', p') := c1
        rw [g1] at c1'
        cases c1'
        have hng : y.body ≠ .gone := by rw [hb]; simp
        cases hf : y.frz with
        | true =>
          rw [hf] at h
          simp only [cond_true] at h
          rcases hr : reifyCs L cs with ⟨cs', rs⟩
          rw [hr] at h
          cases h
          refine ⟨[some (b, p + off)], [], [], ⟨b, p + off, rfl, c4, cur, el, vs, g2, by rw [reifyCs_len hr]; exact g4, g7, reifyCs_G hO g5 g6 hr fun x hx => hs x (by simp [hx])⟩, .show (hs o (by simp)) hy hng g1 .nil, by simp [ioNames], .nil, fun as l => by simp [pinsOf, Arg.npl]⟩
        | false =>
          rw [hf] at h
          simp only [cond_false] at h
          rcases hr : giveCs L cs with ⟨cs', rs, gn⟩
          rw [hr] at h
          cases h
          obtain ⟨k0, pls, k1, k2⟩ := giveCs_spec hO (reads := reads) g5 g6 hr hs
          refine ⟨some (b, p + off) :: pls, o :: gn, [.box b (p + off) cs.length], ⟨b, p + off, pls, rfl, c4, cur, el, vs, g2, by rw [k0]; exact g4, g7, k1⟩, .give hy hf hng (fun b' q h => by cases h; exact ⟨p, g1⟩) k2, ?_, .box g1 hy hb hf g3 .nil, fun as l => ?_⟩
          · exact (List.perm_append_comm (l₁ := [o]) (l₂ := gn))
          · simp only [pinsOf, List.map_cons, List.cons_append, List.drop_succ_cons]
            rw [drop_seg _ _ (by simp [k1.owns]), k0]
    · cases h
  · cases h
end
end Go.M
namespace Go.M
open Go

section
variable {S : Start} {φ : Nat → Pl} {L : Look} {w : World} {T : TypeId → Option TI}

theorem PassOK.plain {E : Env} {reads : List Nat} {arg : Arg} {rs : List Nat} {v : Value} (h : ArgOK E.w (okR E reads) arg v []) (hp : ∀ as l, pinsOf (arg :: as) l = pinsOf as l) : PassOK E reads ⟨arg, rs, [], []⟩ v :=
  ⟨[], [], [], h, .nil, by simp [ioNames], .nil, fun as l => by simpa using hp as l⟩

theorem passCaps_spec (hO : Objs S φ L w) {reads : List Nat} : ∀ {caps : List (Nat × Nat)} {vs : List Value} {css : List (List C)} {rs : List Nat}, CapsOK (envOf S φ L w) caps vs → passCaps L caps = some (css, rs) → (∀ o ∈ rs, o ∈ reads) →
    ∃ pls, CapsAt w (okR (envOf S φ L w) reads) css vs pls ∧ Froms (envOf S φ L w) reads (pls.map fun p => (true, p)) [] ∧ pls.length = css.length
  | [], vs, css, rs, hc, h, _ => by cases h; cases hc; exact ⟨[], .nil, .nil, rfl⟩
  | c :: r, vs, css, rs, hc, h, hs => by
    obtain ⟨b, p, y, cs, vs', h1, h2, h3, h4, h5⟩ := hc
    simp only [passCaps] at h
    split at h
    · rename_i cs1 rs1 hcap
      split at h
      · rename_i css2 rs2 hr
        cases h
        obtain ⟨pls, g1, g2, g3⟩ := passCaps_spec hO h5 hr fun o ho => hs o (by simp [ho])
        unfold passCap at hcap
        have h2' : L c.1 = some y := h2
        rw [h2'] at hcap
        simp only [h3] at hcap
        cases hoff : Nat.ble c.2 cs.length with
        | false => rw [hoff] at hcap; cases hcap
        | true =>
          rw [hoff] at hcap
          simp only [cond_true] at hcap
          have hoff' := Nat.le_of_ble_eq_true hoff
          rcases hre : reifyCs L (cs.drop c.2) with ⟨cs2, rs3⟩
          rw [hre] at hcap
          cases hcap
          obtain ⟨b', p', cur, el, us, k1, k2, k3, k4, k5, k6, k7⟩ := box_seg (cs := cs.drop c.2) (k := none) hO h2' h3 hoff' rfl
          have h1' : φ c.1 = some (b, p) := h1
          rw [h1'] at k1
          cases k1
          subst h4
          have hbox : BoxAt w (okR (envOf S φ L w) reads) b (p + c.2) cs2 [] := ⟨cur, el, us, k2, by rw [reifyCs_len hre]; exact k4, k7, reifyCs_G hO k5 k6 hre fun o ho => hs o (by simp [ho])⟩
          exact ⟨some (b, p + c.2) :: pls, .cons hbox g1, .show (o := c.1) (hs _ (by simp)) h2' (by rw [h3]; simp) h1' g2, by simp [g3]⟩
      · cases h
    · cases h

theorem pass_spec (hO : Objs S φ L w) {reads : List Nat} {mode : Nat} {ty : TypeId} {x : AV} {a : Passed} {v : Value} (hx : RAV (envOf S φ L w) x v) (h : pass T L mode ty x = some a) (hs : ∀ o ∈ a.reads, o ∈ reads) : PassOK (envOf S φ L w) reads a v := by
  cases x with
  | dead => cases h
  | undef => cases h
  | tup xs => cases h
  | v x =>
    cases x with
    | agg cs =>
      simp only [pass] at h
      rcases hr : reifyCs L cs with ⟨cs', rs⟩
      rw [hr] at h
      simp only at h
      cases hl : liveCs cs' with
      | false => rw [hl] at h; cases h
      | true =>
        rw [hl] at h
        cases h
        obtain ⟨vs, rfl, hrc⟩ := hx
        refine PassOK.plain ⟨rfl, vs, rfl, ?_⟩ (fun as l => by simp [pinsOf, Arg.npl])
        refine reifyCs_spec hO hrc hr hl _ (fun b hb => .inl hb) fun b ⟨o, ho, p, hp⟩ => ?_
        obtain ⟨y, t, xs, h1, h2⟩ := reifyCs_names hr hl o ho
        exact .inr ⟨o, hs o ho, y, p, h1, by rw [h2]; simp, hp⟩
    | one c =>
      have rest : passPlain L mode c = some a → PassOK (envOf S φ L w) reads a v := by
        intro hp
        clear h
        have h := hp
        clear hp
        unfold passPlain at h
        cases mode with
        | zero =>
          simp only at h
          rcases hr : reifyC L c with ⟨c', rs⟩
          rw [hr] at h
          have hlive : liveC c' = true ∧ a = ⟨.one c', rs, [], []⟩ := by
            rcases reifyC_live hr with hl | hd
            · refine ⟨hl, ?_⟩
              cases c' <;> first | (cases hl; done) | (cases h; rfl)
            · subst hd; cases h
          obtain ⟨hl, rfl⟩ := hlive
          exact PassOK.plain ⟨rfl, reify_okR hO hx hr hl hs⟩ (fun as l => by simp [pinsOf, Arg.npl])
        | succ m =>
          simp only at h
          split at h
          · rename_i o ver off len
            split at h
            · rename_i y hy
              obtain ⟨hy0, hver⟩ := cur?_some hy
              split at h
              · rename_i t xs hb
                cases hf : y.frz with
                | true => rw [hf] at h; cases h
                | false =>
                  rw [hf] at h
                  simp only [cond_false] at h
                  have hng : y.body ≠ .gone := by rw [hb]; simp
                  have own : ∃ pl, OwnV w (okR (envOf S φ L w) reads) pl t (win off len xs) v ∧ ((pl = none ∧ φ o = none) ∨ ∃ b p q, φ o = some (b, p) ∧ pl = some (b, q) ∧ (win off len xs = [] ∨ q = p + off * t.size)) := by
                    obtain ⟨_, y', g1, _, g2⟩ := hx
                    have : y' = y := by have hh : L o = some y' := g1; rw [hy0] at hh; cases hh; rfl
                    subst this
                    have hsl : SlOK w (φ o) y'.body off len v := g2 hver
                    have hobj := hO.ok o y' hy0
                    unfold ObjOK at hobj
                    rw [hb] at hobj hsl
                    rcases hobj with ⟨k1, rfl⟩ | ⟨b, p, cur, el, k1, k2, k3, k4⟩
                    · have k1' : φ o = none := k1
                      rw [k1'] at hsl
                      obtain ⟨_, hv⟩ := hsl
                      refine ⟨none, ⟨?_, hv⟩, .inl ⟨rfl, k1'⟩⟩
                      cases len <;> cases off <;> simp [win, drop']
                    · have k1' : φ o = some (b, p) := k1
                      rw [k1'] at hsl
                      obtain ⟨q, cap, hv, l1, l2, l3, l4⟩ := hsl
                      have k2' : w.heap[b]? = some (.cells cur el (0, 0)) := k2
                      rw [bsz_at k2'] at l4
                      have hqq : win off len xs = [] ∨ q = p + off * t.size := by
                        rcases l3 with l3 | l3
                        · left; exact List.eq_nil_of_length_eq_zero (by omega)
                        · exact .inr l3
                      refine ⟨some (b, q), ⟨cap, cur, el, hv, l1, l2, k2', l4, fun i x hi => ?_⟩, .inr ⟨b, p, q, k1', rfl, hqq⟩⟩
                      have hq : q = p + off * t.size := by
                        rcases hqq with hqq | hqq
                        · rw [hqq] at hi; simp at hi
                        · exact hqq
                      refine ((k4 (off + i) x (win_get hi)).okMono fun b hb => .inl hb).congr fun j u _ hu2 => ?_
                      rw [hq, show p + off * t.size + i * t.size + j = p + (off + i) * t.size + j by rw [Nat.add_mul]; omega]
                      exact hu2
                  obtain ⟨pl, ho, hpl⟩ := own
                  have hblk : ∀ b q, pl = some (b, q) → ∃ p, φ o = some (b, p) := by
                    intro b q hq
                    rcases hpl with ⟨h1, _⟩ | ⟨b', p, q', h1, h2, _⟩
                    · rw [h1] at hq; cases hq
                    · rw [h2] at hq; cases hq; exact ⟨p, h1⟩
                  cases m with
                  | zero =>
                    cases h
                    exact ⟨[pl], [o], [], ⟨pl, rfl, ho⟩, .give hy0 hf hng hblk .nil, by simp [ioNames], .nil, fun as l => by simp [pinsOf, Arg.npl]⟩
                  | succ m =>
                    simp only at h
                    cases len with
                    | some n => simp at h
                    | none =>
                      cases hcond : Nat.beq off 0 with
                      | false => simp [hcond] at h
                      | true =>
                        simp [hcond] at h
                        subst h
                        have hoff := Nat.eq_of_beq_eq_true hcond
                        subst hoff
                        refine ⟨[pl], [o], [.arr pl xs.length], ⟨pl, rfl, ho⟩, .give hy0 hf hng hblk .nil, by simp [ioNames], .arr hy0 hb hf rfl ?_ .nil, fun as l => by simp [pinsOf]⟩
                        rcases hpl with ⟨h1, h2⟩ | ⟨b, p, q, h1, h2, h3⟩
                        · exact .inl ⟨h1, h2⟩
                        · refine .inr ⟨b, p, q, h1, h2, ?_⟩
                          rcases h3 with h3 | h3
                          · left
                            have : xs = [] := h3
                            rw [this]; rfl
                          · right; omega
              · cases h
            · cases h
          · rename_i t
            cases m with
            | zero =>
              cases h
              exact ⟨[none], [], [], ⟨none, rfl, rfl, none, hx⟩, .skip .nil, by simp [ioNames], .nil, fun as l => by simp [pinsOf, Arg.npl]⟩
            | succ m => cases h
          · cases h
      cases c with
      | ptr o off =>
        simp only [pass] at h
        split at h
        · rename_i n hn
          exact passPtr_spec hO hx h hs
        · cases h
      | fn g caps =>
        simp only [pass] at h
        split at h
        · rename_i css rs hcaps
          cases h
          obtain ⟨vs, g1, g2⟩ := hx
          obtain ⟨pls, k1, k2, k3⟩ := passCaps_spec (reads := reads) hO g1 hcaps hs
          exact ⟨pls, [], [], ⟨vs, g2, k1⟩, k2, by simp [ioNames], .nil, fun as l => by simp only [pinsOf, Arg.npl, List.nil_append]; rw [drop_seg _ _ (by simp [k3])]⟩
        · cases h
      | _ => exact rest h

/-- All arguments. -/
def PassesOK (E : Env) (reads : List Nat) (p : PassedL) (vs : List Value) : Prop :=
  ∃ l G pins, ArgsOK E.w (okR E reads) p.args vs l ∧ Froms E reads l G ∧ G.Perm (p.gone ++ ioNames p.ios) ∧ PinsOK E p.ios pins ∧ ∀ as m, pinsOf (p.args ++ as) (l ++ m) = pins ++ pinsOf as m

theorem PassesOK.cons {E : Env} {reads : List Nat} {a : Passed} {p : PassedL} {v : Value} {vs : List Value} (h1 : PassOK E reads a v) (h2 : PassesOK E reads p vs) :
    PassesOK E reads ⟨a.arg :: p.args, a.reads ++ p.reads, a.ios ++ p.ios, a.gone ++ p.gone⟩ (v :: vs) := by
  obtain ⟨pls, G, pins, a1, a2, a3, a4, a5⟩ := h1
  obtain ⟨l, G', pins', b1, b2, b3, b4, b5⟩ := h2
  refine ⟨_, _, _, .cons a1 b1, a2.append b2, ?_, a4.append b4, fun as m => ?_⟩
  · rw [ioNames_append]
    refine (a3.append b3).trans ?_
    simp only [List.append_assoc]
    exact List.Perm.append_left _ (by rw [← List.append_assoc, ← List.append_assoc]; exact List.Perm.append_right _ List.perm_append_comm)
  · simp only [List.cons_append, List.append_assoc]
    rw [a5, b5]
theorem PassesOK.append {E : Env} {reads : List Nat} {p q : PassedL} {vs us : List Value} (h1 : PassesOK E reads p vs) (h2 : PassesOK E reads q us) :
    PassesOK E reads ⟨p.args ++ q.args, p.reads ++ q.reads, p.ios ++ q.ios, p.gone ++ q.gone⟩ (vs ++ us) := by
  obtain ⟨l, G, pins, a1, a2, a3, a4, a5⟩ := h1
  obtain ⟨l', G', pins', b1, b2, b3, b4, b5⟩ := h2
  have app : ∀ {as : List Arg} {vs : List Value} {l : List (Bool × Pl)}, ArgsOK E.w (okR E reads) as vs l → ArgsOK E.w (okR E reads) (as ++ q.args) (vs ++ us) (l ++ l') := by
    intro as vs l h
    induction h with
    | nil => exact b1
    | cons k1 _ ih => simp only [List.cons_append, List.append_assoc]; exact .cons k1 ih
  refine ⟨_, _, _, app a1, a2.append b2, ?_, a4.append b4, fun as m => ?_⟩
  · rw [ioNames_append]
    refine (a3.append b3).trans ?_
    simp only [List.append_assoc]
    exact List.Perm.append_left _ (by rw [← List.append_assoc, ← List.append_assoc]; exact List.Perm.append_right _ List.perm_append_comm)
  · simp only [List.append_assoc]
    rw [a5, b5]

theorem passAll_spec {σ : St} {a : Act} (h : Rel S φ σ a w) {reads : List Nat} : ∀ {ms : List Nat} {xs : List Operand} {ts : List TypeId} {p : PassedL}, passAll T σ.objs σ.slots ms xs ts = some p → (∀ o ∈ p.reads, o ∈ reads) →
    PassesOK (envOf S φ σ.objs w) reads p (xs.map a.eval)
  | ms, [], ts, p, hp, _ => by cases hp; exact ⟨[], [], [], .nil, .nil, by simp [ioNames], .nil, fun as m => rfl⟩
  | ms, x :: r, ts, p, hp, hs => by
    simp only [passAll] at hp
    split at hp
    · rename_i pa hpa
      split at hp
      · rename_i pr hpr
        cases hp
        exact PassesOK.cons (pass_spec h.objs (val_RAV h T _ x) hpa fun o ho => hs o (by simp [ho])) (passAll_spec h hpr fun o ho => hs o (by simp [ho]))
      · cases hp
    · cases hp

theorem passCapsIo_spec (hO : Objs S φ L w) {reads : List Nat} : ∀ {caps : List (Nat × Nat)} {vs : List Value} {p : PassedL}, CapsOK (envOf S φ L w) caps vs → passCapsIo L caps = some p → (∀ o ∈ p.reads, o ∈ reads) → PassesOK (envOf S φ L w) reads p vs
  | [], vs, p, hc, hp, _ => by cases hp; cases hc; exact ⟨[], [], [], .nil, .nil, by simp [ioNames], .nil, fun as m => rfl⟩
  | c :: r, vs, p, hc, hp, hs => by
    obtain ⟨b, q, y, cs, vs', h1, h2, h3, h4, h5⟩ := hc
    simp only [passCapsIo] at hp
    split at hp
    · rename_i pa hpa
      split at hp
      · rename_i pr hpr
        cases hp
        subst h4
        exact PassesOK.cons (passPtr_spec hO ⟨b, q, y, cs, h1, h2, h3, rfl⟩ hpa fun o ho => hs o (by simp [ho])) (passCapsIo_spec hO h5 hpr fun o ho => hs o (by simp [ho]))
      · cases hp
    · cases hp

/-- No block twice. -/
theorem froms_sep (hO : Objs S φ L w) {reads : List Nat} {l : List (Bool × Pl)} {G : List Nat} (h : Froms (envOf S φ L w) reads l G) : G.Nodup → (∀ o ∈ G, o ∉ reads) → Sep l ∧
    (∀ b, ownB l b → ∃ o ∈ G, ∃ y p, L o = some y ∧ y.frz = false ∧ y.body ≠ .gone ∧ φ o = some (b, p)) ∧
    (∀ b p, (true, some (b, p)) ∈ l → ∃ o ∈ reads, ∃ y p, L o = some y ∧ y.body ≠ .gone ∧ φ o = some (b, p)) := by
  induction h with
  | nil => intro _ _; exact ⟨fun i j f b p p' h => by simp at h, fun b ⟨p, h⟩ => by simp at h, fun b p h => by simp at h⟩
  | @skip f l G h ih =>
    intro hn hd
    obtain ⟨i1, i2, i3⟩ := ih hn hd
    refine ⟨fun i j f' b p p' h1 h2 => ?_, fun b ⟨p, hm⟩ => i2 b ⟨p, by simpa using hm⟩, fun b p hm => i3 b p (by simpa using hm)⟩
    cases i with
    | zero => simp at h1
    | succ i =>
      cases j with
      | zero => simp at h2
      | succ j => rw [i1 i j f' b p p' (by simpa using h1) (by simpa using h2)]
  | @give o y pl l G h1 h2 h3 h4 h ih =>
    intro hn hd
    obtain ⟨hno, hn'⟩ := List.nodup_cons.1 hn
    obtain ⟨i1, i2, i3⟩ := ih hn' fun x hx => hd x (by simp [hx])
    have other : ∀ {j : Nat} {f : Bool} {b p' : Nat}, l[j]? = some (f, some (b, p')) → (∃ q, pl = some (b, q)) → False := by
      intro j f b p' hj ⟨q, hq⟩
      obtain ⟨p0, hp0⟩ := h4 b q hq
      have hm := List.mem_of_getElem? hj
      cases f with
      | false =>
        obtain ⟨o', ho', y', p2, k1, k2, k3, k4⟩ := i2 b ⟨p', hm⟩
        have := hO.inj o o' y y' b p0 p2 h1 k1 h2 k3 hp0 k4
        subst this
        exact hno ho'
      | true =>
        obtain ⟨o', ho', y', p2, k1, k2, k3⟩ := i3 b p' hm
        have := hO.inj o o' y y' b p0 p2 h1 k1 h2 k2 hp0 k3
        subst this
        exact hd o (by simp) ho'
    refine ⟨fun i j f b p p' g1 g2 => ?_, fun b ⟨p, hm⟩ => ?_, fun b p hm => i3 b p (by simpa using hm)⟩
    · cases i with
      | zero =>
        simp at g1
        cases j with
        | zero => rfl
        | succ j => exact (other (by simpa using g2) ⟨p, g1⟩).elim
      | succ i =>
        cases j with
        | zero =>
          simp at g2
          exact (other (by simpa using g1) ⟨p', g2.2⟩).elim
        | succ j => rw [i1 i j f b p p' (by simpa using g1) (by simpa using g2)]
    · rcases List.mem_cons.1 hm with hm | hm
      · cases hm
        obtain ⟨p0, hp0⟩ := h4 b p rfl
        exact ⟨o, by simp, y, p0, h1, h2, h3, hp0⟩
      · obtain ⟨o', ho', r⟩ := i2 b ⟨p, hm⟩
        exact ⟨o', by simp [ho'], r⟩
  | @«show» o y b0 q0 p0 l G h1 h2 h3 h4 h ih =>
    intro hn hd
    obtain ⟨i1, i2, i3⟩ := ih hn hd
    refine ⟨fun i j f b p p' g1 g2 => ?_, fun b ⟨p, hm⟩ => i2 b ⟨p, by simpa using hm⟩, fun b p hm => ?_⟩
    · cases i with
      | zero => simp at g1
      | succ i =>
        cases j with
        | zero =>
          simp at g2
          obtain ⟨_, rfl, rfl⟩ := g2
          obtain ⟨o', ho', y', p2, k1, k2, k3, k4⟩ := i2 b0 ⟨p, List.mem_of_getElem? (by simpa using g1)⟩
          have := hO.inj o' o y' y b0 p2 p0 k1 h2 k2 h3 k4 h4
          subst this
          exact absurd h1 (hd o' ho')
        | succ j => rw [i1 i j f b p p' (by simpa using g1) (by simpa using g2)]
    · rcases List.mem_cons.1 hm with hm | hm
      · cases hm; exact ⟨o, h1, y, p0, h2, h3, h4⟩
      · exact i3 b p hm

theorem okR_own (hO : Objs S φ L w) {reads : List Nat} {l : List (Bool × Pl)} {G : List Nat} (h : Froms (envOf S φ L w) reads l G) (hn : G.Nodup) (hd : ∀ o ∈ G, o ∉ reads) : ∀ b, okR (envOf S φ L w) reads b → ¬ ownB l b := by
  intro b hb ho
  obtain ⟨o, hoG, y, p, h1, h2, h3, h4⟩ := (froms_sep hO h hn hd).2.1 b ho
  rcases hb with hb | ⟨o', ho', y', p', k1, k2, k3⟩
  · exact hb.2 ⟨o, y, p, h1, h2, h4⟩
  · have := hO.inj o o' y y' b p p' h1 k1 h2 k2 h4 k3
    subst this
    exact hd o hoG ho'
end
end Go.M
namespace Go.M
open Go

/-! ### Data without lists within read alike under any view -/
theorem Rd.flat {w : World} {ok ok' : Nat → Prop} : ∀ {t : Ty} {x : t.den} {f : Nat → Option Value}, t.flat = true → Rd w ok t x f → Rd w ok' t x f := by
  intro t
  induction t with
  | int k => intro x f _ h; exact h
  | bool => intro x f _ h; exact h
  | str => intro x f _ h; exact h
  | pair a b iha ihb => intro x f hf h; simp only [Ty.flat, Bool.and_eq_true] at hf; exact ⟨iha hf.1 h.1, ihb hf.2 h.2⟩
  | list t _ => intro x f hf h; cases hf
theorem OwnV.flat {w : World} {ok ok' : Nat → Prop} {pl : Pl} {t : Ty} {xs : List t.den} {v : Value} (hf : t.flat = true) (h : OwnV w ok pl t xs v) : OwnV w ok' pl t xs v := by
  cases pl with
  | none => exact h
  | some bp => obtain ⟨cap, cur, el, h1, h2, h3, h4, h5, h6⟩ := h; exact ⟨cap, cur, el, h1, h2, h3, h4, h5, fun i x hi => (h6 i x hi).flat hf⟩
theorem hasTr_cons {c : C} {r : List C} (h : hasTr (c :: r) = false) : hasTr [c] = false ∧ hasTr r = false := by
  cases c with
  | tr t xs => cases h
  | own t xs =>
    simp only [hasTr] at h ⊢
    cases hf : t.flat with
    | false => rw [hf] at h; cases h
    | true => rw [hf] at h; exact ⟨rfl, h⟩
  | _ => exact ⟨rfl, h⟩
theorem GCell.flat {w : World} {ok ok' : Nat → Prop} {c : C} {v : Value} {pls : List Pl} (hf : hasTr [c] = false) (h : GCell w ok c v pls) : GCell w ok' c v pls := by
  cases c with
  | own t xs =>
    simp only [hasTr] at hf
    cases ht : t.flat with
    | false => rw [ht] at hf; cases hf
    | true => obtain ⟨pl, h1, h2⟩ := h; exact ⟨pl, h1, h2.flat ht⟩
  | tr t xs => cases hf
  | dead => exact h
  | _ => exact ⟨h.1, by first | exact h.2 | exact h.2.elim⟩
theorem GCells.flat {w : World} {ok ok' : Nat → Prop} {cs : List C} {vs : List Value} {pls : List Pl} (h : GCells w ok cs vs pls) : hasTr cs = false → GCells w ok' cs vs pls := by
  induction h with
  | nil => intro _; exact .nil
  | cons h1 _ ih => intro hf; obtain ⟨a, b⟩ := hasTr_cons hf; exact .cons (h1.flat a) (ih b)
theorem BoxAt.flat {w : World} {ok ok' : Nat → Prop} {b p : Nat} {cs : List C} {pls : List Pl} (hf : hasTr cs = false) (h : BoxAt w ok b p cs pls) : BoxAt w ok' b p cs pls := by
  obtain ⟨cur, el, vs, h1, h2, h3, h4⟩ := h; exact ⟨cur, el, vs, h1, h2, h3, h4.flat hf⟩
theorem ValOK.flat {w : World} {ok ok' : Nat → Prop} {x : RV} {v : Value} {pls : List Pl} (hf : x.hasTr = false) (h : ValOK w ok x v pls) : ValOK w ok' x v pls := by
  cases x with
  | one c => exact GCell.flat hf h
  | agg cs => obtain ⟨vs, h1, h2⟩ := h; exact ⟨vs, h1, h2.flat hf⟩
  | box cs => obtain ⟨b, p, r, h1, h2, h3⟩ := h; exact ⟨b, p, r, h1, h2, h3.flat hf⟩
theorem ValsOK.flat {w : World} {ok ok' : Nat → Prop} {xs : List RV} {vs : List Value} {pls : List Pl} (h : ValsOK w ok xs vs pls) : xs.any RV.hasTr = false → ValsOK w ok' xs vs pls := by
  induction h with
  | nil => intro _; exact .nil
  | cons h1 _ ih => intro hf; simp only [List.any_cons, Bool.or_eq_false_iff] at hf; exact .cons (h1.flat hf.1) (ih hf.2)
theorem OutsOK.flat {w : World} {ok ok' : Nat → Prop} {pins : List Pin} {outs : List (List C)} {pls : List Pl} (h : OutsOK w ok pins outs pls) : outs.any M.hasTr = false → OutsOK w ok' pins outs pls := by
  induction h with
  | nil => intro _; exact .nil
  | box h1 h2 _ ih => intro hf; simp only [List.any_cons, Bool.or_eq_false_iff] at hf; exact .box (h1.flat hf.1) h2 (ih hf.2)
  | @arr pl n t xs pins outs l h1 h2 _ ih =>
    intro hf
    simp only [List.any_cons, Bool.or_eq_false_iff] at hf
    refine .arr ?_ h2 (ih hf.2)
    have ht : t.flat = true := by
      have := hf.1
      simp only [hasTr] at this
      cases ht : t.flat with
      | false => rw [ht] at this; cases this
      | true => rfl
    cases pl with
    | none => exact h1
    | some bp => obtain ⟨cur, el, k1, k2, k3⟩ := h1; exact ⟨cur, el, k1, k2, fun i x hi => (k3 i x hi).flat ht⟩

/-! ### Places of what comes back -/
def HasAll (w : World) (l : List Pl) : Prop := ∀ b ∈ blks l, b < w.heap.size
theorem HasAll.append {w : World} {a b : List Pl} (h1 : HasAll w a) (h2 : HasAll w b) : HasAll w (a ++ b) := by
  intro x hx
  rw [blks_append] at hx
  rcases List.mem_append.1 hx with hx | hx
  · exact h1 x hx
  · exact h2 x hx
theorem lt_of_heap {w : World} {b : Nat} {ob : Go.Obj} (h : w.heap[b]? = some ob) : b < w.heap.size := (Array.getElem?_eq_some_iff.1 h).1
theorem GCells.has {w : World} {ok : Nat → Prop} {cs : List C} {vs : List Value} {pls : List Pl} (h : GCells w ok cs vs pls) : HasAll w pls := by
  induction h with
  | nil => intro b hb; simp [blks] at hb
  | @cons c v pl cs vs pls h1 _ ih =>
    refine HasAll.append ?_ ih
    cases c with
    | own t xs =>
      obtain ⟨p1, rfl, ho⟩ := h1
      intro b hb
      cases p1 with
      | none => simp [blks] at hb
      | some bq =>
        simp [blks] at hb
        subst hb
        obtain ⟨cap, cur, el, _, _, _, h4, _⟩ := ho
        exact lt_of_heap h4
    | dead => rw [h1.1]; intro b hb; simp [blks] at hb
    | _ => rw [h1.1]; intro b hb; simp [blks] at hb
theorem HasAll.cons {w : World} {b p : Nat} {l : List Pl} (h : b < w.heap.size) (hl : HasAll w l) : HasAll w (some (b, p) :: l) := by
  intro x hx
  simp only [blks, List.filterMap_cons, Option.map_some, List.mem_cons] at hx
  rcases hx with rfl | hx
  · exact h
  · exact hl x hx
theorem ValsOK.has {w : World} {ok : Nat → Prop} {xs : List RV} {vs : List Value} {pls : List Pl} (h : ValsOK w ok xs vs pls) : HasAll w pls := by
  induction h with
  | nil => intro b hb; simp [blks] at hb
  | @cons x v pl xs vs pls h1 _ ih =>
    refine HasAll.append ?_ ih
    cases x with
    | one c => have := (GCells.cons (w := w) (ok := ok) (cs := []) (vs := []) (pls := []) h1 .nil).has; simpa using this
    | agg cs => obtain ⟨vs, _, h2⟩ := h1; exact h2.has
    | box cs => obtain ⟨b, p, r, rfl, _, cur, el, us, k1, _, _, k4⟩ := h1; exact HasAll.cons (lt_of_heap k1) k4.has
theorem OutsOK.has {w : World} {ok : Nat → Prop} {pins : List Pin} {outs : List (List C)} {pls : List Pl} (h : OutsOK w ok pins outs pls) : HasAll w pls := by
  induction h with
  | nil => intro b hb; simp [blks] at hb
  | @box b p n cs pls pins outs l h1 _ _ ih =>
    obtain ⟨cur, el, us, k1, _, _, k4⟩ := h1
    exact HasAll.append (HasAll.cons (lt_of_heap k1) k4.has) ih
  | @arr pl n t xs pins outs l h1 _ _ ih =>
    cases pl with
    | none => intro b hb; exact ih b (by simpa [blks] using hb)
    | some bp => obtain ⟨cur, el, k1, _⟩ := h1; exact HasAll.cons (lt_of_heap k1) ih

/-! ### Results -/
theorem freshC_len {w : World} {ok : Nat → Prop} {cs : List C} {us : List Value} {r : List Pl} (q : Nat) (hg : GCells w ok cs us r) : (freshC q cs).2.length = r.length := by
  induction hg generalizing q with
  | nil => rfl
  | @cons c v pl cs vs pls h1 h2 ih =>
    cases c with
    | own t xs => obtain ⟨p1, rfl, _⟩ := h1; simp [freshC, ih]
    | dead => obtain ⟨rfl, _⟩ := h1; simp [freshC, ih]
    | _ => obtain ⟨rfl, _⟩ := h1; simp [freshC, ih]
/-- An object that is new: unfrozen, an array or a box. -/
def isNew (y : Obj) : Prop := y.frz = false ∧ y.body ≠ .gone
theorem freshC_new {cs : List C} : ∀ {q : Nat}, ∀ x ∈ (freshC q cs).2, isNew x.2 := by
  induction cs with
  | nil => intro q x hx; simp [freshC] at hx
  | cons c r ih =>
    intro q x hx
    cases c with
    | own t xs =>
      simp only [freshC, List.mem_cons] at hx
      rcases hx with rfl | hx
      · exact ⟨rfl, by simp [mkObj]⟩
      · exact ih x hx
    | _ => exact ih x hx

theorem freshV_spec {E : Env} {ok : Nat → Prop} (hk : ∀ b, ok b → E.Ok b) {x : RV} {v : Value} {pls : List Pl} {q : Nat} {x' : V1} {ps : List (Nat × Obj)} (h : ValOK E.w ok x v pls) (hf : freshV q x = (x', ps)) :
    ps.length = pls.length ∧ (∀ z ∈ ps, isNew z.2) ∧ (Lies E ps (pls.map (fun p => (false, p))) → RV1 E x' v ∧ ∀ o y, (o, y) ∈ ps → ObjOK E o y) := by
  cases x with
  | one c =>
    have hg : GCells E.w ok [c] [v] pls := by simpa using GCells.cons (w := E.w) (ok := ok) (cs := []) (vs := []) (pls := []) h .nil
    simp only [freshV] at hf
    have hlen := freshC_len q hg
    have hnew : ∀ z ∈ (freshC q [c]).2, isNew z.2 := freshC_new
    have hsp := fun (hl : Lies E (freshC q [c]).2 (pls.map (fun p => (false, p)))) => freshC_spec hk hg (q := q) (cs' := (freshC q [c]).1) (ps := (freshC q [c]).2) rfl hl
    have hone : ∃ c', (freshC q [c]).1 = [c'] := by cases c <;> exact ⟨_, rfl⟩
    rcases hfc : freshC q [c] with ⟨cs', ps'⟩
    rw [hfc] at hf hlen hnew hsp hone
    obtain ⟨c', hc'⟩ := hone
    simp only at hc'
    subst hc'
    cases hf
    refine ⟨hlen, hnew, fun hl => ?_⟩
    obtain ⟨g1, g2, g3, g4⟩ := hsp hl
    exact ⟨g1.2 0 c' v rfl rfl, g4⟩
  | agg cs =>
    obtain ⟨vs, rfl, hg⟩ := h
    simp only [freshV] at hf
    cases hf
    refine ⟨freshC_len q hg, freshC_new, fun hl => ?_⟩
    obtain ⟨g1, g2, g3, g4⟩ := freshC_spec hk hg (q := q) rfl hl
    exact ⟨⟨vs, rfl, g1⟩, g4⟩
  | box cs =>
    obtain ⟨b, p, r, rfl, rfl, cur, el, us, k1, k2, k3, k4⟩ := h
    simp only [freshV] at hf
    cases hf
    refine ⟨by simp [freshC_len (q + 1) k4], fun z hz => ?_, fun hl => ?_⟩
    · rcases List.mem_cons.1 hz with rfl | hz
      · exact ⟨rfl, by simp [mkObj]⟩
      · exact freshC_new z hz
    · simp only [List.map_cons] at hl
      obtain ⟨hL, hp⟩ := hl.head
      obtain ⟨g1, g2, g3, g4⟩ := freshC_spec hk k4 (q := q + 1) rfl hl.tail
      refine ⟨⟨b, p, _, _, hp, hL, rfl, by simp⟩, fun o y hoy => ?_⟩
      rcases List.mem_cons.1 hoy with hoy | hoy
      · cases hoy; exact BoxAt.obj rfl hp k1 (by rw [g3]; exact k2) k3 g1 g2
      · exact g4 o y hoy

theorem freshL_spec {E : Env} {ok : Nat → Prop} (hk : ∀ b, ok b → E.Ok b) {xs : List RV} {vs : List Value} {pls : List Pl} (h : ValsOK E.w ok xs vs pls) : ∀ {q : Nat} {xs' : List V1} {ps : List (Nat × Obj)}, freshL q xs = (xs', ps) →
    ps.length = pls.length ∧ (∀ z ∈ ps, isNew z.2) ∧ (Lies E ps (pls.map (fun p => (false, p))) → RVs E xs' vs ∧ (∀ o y, (o, y) ∈ ps → ObjOK E o y)) := by
  induction h with
  | nil => intro q xs' ps hf; cases hf; exact ⟨rfl, by simp, fun _ => ⟨rfl, by simp⟩⟩
  | @cons x v pl xs vs pls h1 h2 ih =>
    intro q xs' ps hf
    simp only [freshL] at hf
    cases hf
    obtain ⟨a1, a2, a3⟩ := freshV_spec hk h1 (q := q) (x' := (freshV q x).1) (ps := (freshV q x).2) rfl
    obtain ⟨b1, b2, b3⟩ := ih (q := q + (freshV q x).2.length) (xs' := (freshL (q + (freshV q x).2.length) xs).1) (ps := (freshL (q + (freshV q x).2.length) xs).2) rfl
    refine ⟨by rw [List.length_append, List.length_append, b1, a1], fun z hz => ?_, fun hl => ?_⟩
    · rcases List.mem_append.1 hz with hz | hz
      · exact a2 z hz
      · exact b2 z hz
    · rw [List.map_append] at hl
      obtain ⟨c1, c2⟩ := a3 (hl.left (by simpa using a1))
      obtain ⟨d1, d2⟩ := b3 (hl.right (by simpa using a1))
      refine ⟨⟨v, vs, rfl, c1, d1⟩, fun o y hoy => ?_⟩
      rcases List.mem_append.1 hoy with hoy | hoy
      · exact c2 o y hoy
      · exact d2 o y hoy

theorem retVal_RAV {E : Env} {xs : List V1} {vs : List Value} (h : RVs E xs vs) : RAV E (retVal xs) (packV vs) := by
  match xs, vs, h with
  | [], vs, h => cases h; exact ⟨#[], rfl, rfl⟩
  | [x], vs, h =>
    obtain ⟨v, vs', rfl, h1, h2⟩ := h
    cases h2
    exact h1
  | x :: x2 :: r, vs, h =>
    obtain ⟨v, vs', rfl, h1, v2, vs2, rfl, h2, h3⟩ := h
    exact ⟨_, rfl, v, _, rfl, h1, v2, vs2, rfl, h2, h3⟩
end Go.M
namespace Go.M
open Go

theorem newOk_spec {L : Look} {ps : List (Nat × Obj)} (h : newOk L ps = true) : ∀ x ∈ ps, L x.1 = none := by
  intro x hx
  have := List.all_eq_true.1 h x hx
  cases hL : L x.1 with
  | none => rfl
  | some y => rw [hL] at this; cases this

/-- An object that is put after a call, and its place. -/
def ZOK (L : Look) (φ : Nat → Pl) (ioN : List Nat) (o : Nat) (y' : Obj) (pl : Pl) : Prop :=
  isNew y' ∧ (L o = none ∨
    (o ∈ ioN ∧ ∃ y cs cs' b p q, L o = some y ∧ y.frz = false ∧ y.body = .box cs ∧ y' = { y with body := .box cs' } ∧ cs'.length = cs.length ∧ φ o = some (b, p) ∧ pl = some (b, q)) ∨
    (o ∈ ioN ∧ ∃ y t xs ys, L o = some y ∧ y.frz = false ∧ y.body = .arr t xs ∧ y' = { y with wv := y.wv + 1, body := .arr t ys } ∧ ys.length = xs.length ∧ ((φ o = none ∧ pl = none) ∨ ∃ b p q, φ o = some (b, p) ∧ pl = some (b, q))))
def LiesQ (L : Look) (φ : Nat → Pl) (E' : Env) (qs : List (Nat × Obj)) (ol : List Pl) : Prop :=
  ∀ (k o : Nat) (y' : Obj) (pl : Pl), qs[k]? = some (o, y') → ol[k]? = some pl → E'.L o = some y' ∧ (L o = none → E'.φ o = pl) ∧ (L o ≠ none → E'.φ o = φ o)
theorem LiesQ.left {L : Look} {φ : Nat → Pl} {E' : Env} {qs qs' : List (Nat × Obj)} {ol ol' : List Pl} (h : LiesQ L φ E' (qs ++ qs') (ol ++ ol')) (hl : qs.length = ol.length) : LiesQ L φ E' qs ol :=
  fun k o y pl h1 h2 => h k o y pl (by rw [List.getElem?_append_left (List.getElem?_eq_some_iff.1 h1).1]; exact h1) (by rw [List.getElem?_append_left (List.getElem?_eq_some_iff.1 h2).1]; exact h2)
theorem LiesQ.right {L : Look} {φ : Nat → Pl} {E' : Env} {qs qs' : List (Nat × Obj)} {ol ol' : List Pl} (h : LiesQ L φ E' (qs ++ qs') (ol ++ ol')) (hl : qs.length = ol.length) : LiesQ L φ E' qs' ol' :=
  fun k o y pl h1 h2 => h (qs.length + k) o y pl (by rw [List.getElem?_append_right (by omega), Nat.add_sub_cancel_left]; exact h1) (by rw [List.getElem?_append_right (by omega), hl, Nat.add_sub_cancel_left]; exact h2)
theorem LiesQ.lies {L : Look} {φ : Nat → Pl} {E' : Env} {qs : List (Nat × Obj)} {ol : List Pl} (h : LiesQ L φ E' qs ol) (hl : qs.length = ol.length) (hn : ∀ x ∈ qs, L x.1 = none) : Lies E' qs (ol.map fun p => (false, p)) :=
  ⟨by simpa using hl, fun k o y f pl h1 h2 => by
    rw [List.getElem?_map, Option.map_eq_some_iff] at h2
    obtain ⟨p', hp, he⟩ := h2
    cases he
    obtain ⟨g1, g2, _⟩ := h k o y _ h1 hp
    exact ⟨g1, g2 (hn _ (List.mem_of_getElem? h1))⟩⟩

theorem zip_cat {P : Nat × Obj → Pl → Prop} {a a' : List (Nat × Obj)} {b b' : List Pl} (hl : a.length = b.length) (h1 : ∀ (k : Nat) x, a[k]? = some x → ∃ pl, b[k]? = some pl ∧ P x pl) (h2 : ∀ (k : Nat) x, a'[k]? = some x → ∃ pl, b'[k]? = some pl ∧ P x pl) :
    ∀ (k : Nat) x, (a ++ a')[k]? = some x → ∃ pl, (b ++ b')[k]? = some pl ∧ P x pl := by
  intro k x hx
  rw [List.getElem?_append] at hx
  split at hx
  · rename_i hlt
    obtain ⟨pl, g1, g2⟩ := h1 k x hx
    exact ⟨pl, by rw [List.getElem?_append_left (by omega)]; exact g1, g2⟩
  · rename_i hge
    obtain ⟨pl, g1, g2⟩ := h2 _ x hx
    exact ⟨pl, by rw [List.getElem?_append_right (by omega), ← hl]; exact g1, g2⟩
theorem zip_all {P : Nat × Obj → Pl → Prop} {a : List (Nat × Obj)} {b : List Pl} (hl : a.length = b.length) (h : ∀ x ∈ a, ∀ pl, P x pl) : ∀ (k : Nat) x, a[k]? = some x → ∃ pl, b[k]? = some pl ∧ P x pl := by
  intro k x hx
  have hlt := (List.getElem?_eq_some_iff.1 hx).1
  exact ⟨b[k]'(by omega), List.getElem?_eq_getElem (by omega), h x (List.mem_of_getElem? hx) _⟩

theorem backIo_spec {S : Start} {φ : Nat → Pl} {L : Look} {w w' : World} (hO : Objs S φ L w) {okr : Nat → Prop} {pins : List Pin} {outs : List (List C)} {ol : List Pl} (h : OutsOK w' okr pins outs ol) :
    ∀ {ios : List IO1} {nm : Nat} {qs : List (Nat × Obj)} {ioN : List Nat}, PinsOK (envOf S φ L w) ios pins → backIo L nm ios outs = some qs → (∀ o ∈ ioNames ios, o ∈ ioN) →
    qs.length = ol.length ∧ (∀ (k : Nat) x, qs[k]? = some x → ∃ pl, ol[k]? = some pl ∧ ZOK L φ ioN x.1 x.2 pl) ∧ (∀ o ∈ ioNames ios, o ∈ qs.map (·.1)) ∧
    ∀ E' : Env, E'.w = w' → (∀ b, okr b → E'.Ok b) → EnvStep (envOf S φ L w) E' → LiesQ L φ E' qs ol →
      (∀ b p n, Pin.box b p n ∈ pins → ∃ cur0 cur e, w.heap[b]? = some (.cells cur0 e (0, 0)) ∧ w'.heap[b]? = some (.cells cur e (0, 0)) ∧ cur.size = cur0.size ∧ ∀ j, (j < p ∨ p + n ≤ j) → cur[j]? = cur0[j]?) →
      ∀ o y, (o, y) ∈ qs → ObjOK E' o y := by
  induction h with
  | nil =>
    intro ios nm qs ioN hp hb hio
    cases hp
    cases hb
    exact ⟨rfl, fun k x hx => by simp at hx, fun o ho => by simp [ioNames] at ho, fun E' _ _ _ _ _ o y hoy => by simp at hoy⟩
  | @box b p n cs pls pins outs l h1 h2 _ ih =>
    intro ios nm qs ioN hp hb hio
    cases hp with
    | @box o off _ _ p0 y cs0 ios _ g1 g2 g3 g4 g5 g6 =>
    have g1' : φ o = some (b, p0) := g1
    have g2' : L o = some y := g2
    simp only [backIo, g2', g3] at hb
    rcases hf : freshC nm cs with ⟨cs', ps⟩
    rw [hf] at hb
    simp only at hb
    cases hc : (Nat.beq cs'.length n && newOk L ps) with
    | false => rw [hc] at hb; cases hb
    | true =>
      rw [hc] at hb
      simp only [cond_true] at hb
      simp only [Bool.and_eq_true] at hc
      have hn := Nat.eq_of_beq_eq_true hc.1
      have hnew := newOk_spec hc.2
      split at hb
      · rename_i qs' hqs
        cases hb
        obtain ⟨cur, el, vs, b1, b2, b3, b4⟩ := h1
        have hlp : ps.length = pls.length := by have := freshC_len nm b4; rw [hf] at this; exact this
        obtain ⟨i1, i2, i3, i4⟩ := ih (ioN := ioN) g6 hqs fun x hx => hio x (by simp [ioNames, hx])
        have hspl : cs0.take off ++ cs' ++ cs0.drop (off + n) = splice cs0 off cs' := by simp [splice, hn]
        have hfitc : off + cs'.length ≤ cs0.length := by rw [hn]; exact g5
        refine ⟨by simp [hlp, i1], ?_, fun x hx => ?_, fun E' hw hk henv hl hfr => ?_⟩
        · have hz : ∀ (k : Nat) x, ((o, ({ y with body := .box (cs0.take off ++ cs' ++ cs0.drop (off + n)) } : Obj)) :: ps)[k]? = some x → ∃ pl, (some (b, p0 + off) :: pls)[k]? = some pl ∧ ZOK L φ ioN x.1 x.2 pl := by
            intro k x hx
            cases k with
            | zero =>
              simp only [List.getElem?_cons_zero, Option.some.injEq] at hx
              subst hx
              refine ⟨_, rfl, ⟨g4, by simp⟩, .inr (.inl ⟨hio o (by simp [ioNames]), y, cs0, _, b, p0, p0 + off, g2', g4, g3, rfl, ?_, g1', rfl⟩)⟩
              rw [hspl, splice_length hfitc]
            | succ k =>
              have hx : ps[k]? = some x := by simpa using hx
              obtain ⟨pl, k1, k2⟩ := zip_all (P := fun x pl => ZOK L φ ioN x.1 x.2 pl) hlp (fun x hx pl => ⟨by have := freshC_new (cs := cs) (q := nm) x; rw [hf] at this; exact this hx, .inl (hnew x hx)⟩) k x hx
              exact ⟨pl, by simpa using k1, k2⟩
          exact zip_cat (by simp [hlp]) hz i2
        · simp only [ioNames, List.mem_cons] at hx
          rcases hx with rfl | hx
          · simp
          · simp [List.mem_append]
            have := i3 x hx
            simp at this
            exact .inr (.inr this)
        · have hl1 := hl.left (by simp [hlp])
          have hl2 := hl.right (by simp [hlp])
          have e0 := hl1 0 o _ (some (b, p0 + off)) rfl rfl
          have hφ : E'.φ o = some (b, p0) := by rw [e0.2.2 (by rw [g2']; simp)]; exact g1'
          have hlps : LiesQ L φ E' ps pls := fun k o' y' pl k1 k2 => hl1 (k + 1) o' y' pl (by simpa using k1) (by simpa using k2)
          subst hw
          obtain ⟨f1, f2, f3, f4⟩ := freshC_spec hk b4 hf (hlps.lies hlp hnew)
          intro o' y' hoy
          simp only [List.cons_append, List.mem_cons, List.mem_append] at hoy
          rcases hoy with hoy | hoy | hoy
          · cases hoy
            have hobj := hO.ok o y g2'
            unfold ObjOK at hobj
            rw [g3] at hobj
            obtain ⟨b', p', cur1, el1, m1, m2, m3, m4⟩ := hobj
            have m1' : φ o = some (b', p') := m1
            rw [g1'] at m1'
            cases m1'
            obtain ⟨cur0, cur2, e2, q1, q2, q3, q4⟩ := hfr b (p0 + off) n (by simp)
            rw [b1] at q2
            cases q2
            have m2' : w.heap[b]? = some (.cells cur1 el1 (0, 0)) := m2
            rw [m2'] at q1
            cases q1
            rw [hspl]
            refine ⟨b, p0, cur, el, hφ, b1, by rw [splice_length hfitc]; omega, fun j c hcj => ?_⟩
            rw [splice_get hfitc] at hcj
            by_cases c1 : j < off
            · rw [if_pos c1] at hcj
              obtain ⟨u, d1, d2, d3⟩ := m4 j c hcj
              exact ⟨u, by rw [q4 (p0 + j) (by omega)]; exact d1, RC.step henv d2, d3⟩
            · rw [if_neg c1] at hcj
              by_cases c2 : j < off + cs'.length
              · rw [if_pos c2] at hcj
                have hlt : j - off < vs.length := by rw [f1.1]; omega
                have hu : vs[j - off]? = some (vs[j - off]'hlt) := by simp
                refine ⟨_, ?_, f1.2 _ c _ hcj hu, f2 _ (List.mem_of_getElem? hu)⟩
                have := b3 _ _ hu
                rw [show p0 + j = p0 + off + (j - off) by omega]
                exact this
              · rw [if_neg c2] at hcj
                obtain ⟨u, d1, d2, d3⟩ := m4 j c hcj
                exact ⟨u, by rw [q4 (p0 + j) (by omega)]; exact d1, RC.step henv d2, d3⟩
          · exact f4 o' y' hoy
          · exact i4 E' rfl hk henv hl2 (fun b p n hm => hfr b p n (by simp [hm])) o' y' hoy
      · cases hb
  | @arr pl n t xs pins outs l h1 h2 _ ih =>
    intro ios nm qs ioN hp hb hio
    cases hp with
    | @arr o _ _ y t0 xs0 ios _ g2 g3 g4 g5 g6 g7 =>
    have g2' : L o = some y := g2
    simp only [backIo, g2', g3] at hb
    cases hc : (decide (t = t0) && decide (xs.length = xs0.length)) with
    | false => rw [hc] at hb; cases hb
    | true =>
      rw [hc] at hb
      simp only [cond_true] at hb
      simp only [Bool.and_eq_true, decide_eq_true_eq] at hc
      obtain ⟨rfl, hlen⟩ := hc
      split at hb
      · rename_i qs' hqs
        cases hb
        obtain ⟨i1, i2, i3, i4⟩ := ih (ioN := ioN) g7 hqs fun x hx => hio x (by simp [ioNames, hx])
        refine ⟨by simp [i1], ?_, fun x hx => ?_, fun E' hw hk henv hl hfr => ?_⟩
        · intro k x hx
          cases k with
          | zero =>
            simp only [List.getElem?_cons_zero, Option.some.injEq] at hx
            subst hx
            refine ⟨pl, rfl, ⟨g4, by simp⟩, .inr (.inr ⟨hio o (by simp [ioNames]), y, t, xs0, xs, g2', g4, g3, rfl, hlen, ?_⟩)⟩
            rcases g6 with ⟨a1, a2⟩ | ⟨b, p, q, a1, a2, _⟩
            · exact .inl ⟨a2, a1⟩
            · exact .inr ⟨b, p, q, a1, a2⟩
          | succ k => simpa using i2 k x (by simpa using hx)
        · simp only [ioNames, List.mem_cons] at hx
          rcases hx with rfl | hx
          · simp
          · have := i3 x hx
            simp at this ⊢
            exact .inr this
        · have e0 := hl 0 o _ pl rfl rfl
          have hφ : E'.φ o = φ o := e0.2.2 (by rw [g2']; simp)
          subst hw
          intro o' y' hoy
          rcases List.mem_cons.1 hoy with hoy | hoy
          · cases hoy
            show ObjOK E' o _
            unfold ObjOK
            simp only
            rcases g6 with ⟨a1, a2⟩ | ⟨b, p, q, a1, a2, a3⟩
            · subst a1
              exact .inl ⟨hφ.trans a2, h1⟩
            · subst a2
              obtain ⟨cur, el, k1, k2, k3⟩ := h1
              rcases a3 with a3 | rfl
              · have hx0 : xs = [] := List.eq_nil_of_length_eq_zero (by omega)
                subst hx0
                refine .inr ⟨b, p, cur, el, hφ.trans a1, k1, ?_, fun i x hi => by simp at hi⟩
                have hobj := hO.ok o y g2'
                unfold ObjOK at hobj
                rw [g3] at hobj
                rcases hobj with ⟨m1, _⟩ | ⟨b', p', cur1, el1, m1, m2, m3, m4⟩
                · have a1' : φ o = some (b, p) := a1
                  have m1' : φ o = none := m1
                  rw [a1'] at m1'
                  cases m1'
                · have a1' : φ o = some (b, p) := a1
                  have m1' : φ o = some (b', p') := m1
                  rw [a1'] at m1'
                  cases m1'
                  have hb2 := henv.bsz b
                  have m2' : w.heap[b]? = some (.cells cur1 el1 (0, 0)) := m2
                  have e1 : bsz (envOf S φ L w).w b = cur1.size := bsz_at m2'
                  rw [e1, bsz_at k1] at hb2
                  simp
                  omega
              · exact .inr ⟨b, p, cur, el, hφ.trans a1, k1, k2, fun i x hi => (k3 i x hi).okMono hk⟩
          · exact i4 E' rfl hk henv (fun k o2 y2 pl2 h1 h2 => hl (k + 1) o2 y2 pl2 (by simpa using h1) (by simpa using h2)) (fun b p n hm => hfr b p n (by simp [hm])) o' y' hoy
      · cases hb
end Go.M
