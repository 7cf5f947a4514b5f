/-
  Regions and whole functions: the evaluator's answer is the function's contract.
-/
import Derived.Test.YtiphonlbkhfhcaaDoorMC
import Derived.LoopN
import Derived.Orders
set_option linter.unusedVariables false
namespace Go.M
open Go

theorem gonePuts_mem {L : Look} : ∀ {rs : List Nat} {o : Nat} {y' : Obj}, (o, y') ∈ gonePuts L rs → o ∈ rs ∧ ∃ y, L o = some y ∧ y' = ⟨y.ver + 1, 0, true, true, .gone⟩
  | r :: rs, o, y', h => by
    simp only [gonePuts] at h
    cases hr : L r with
    | none => rw [hr] at h; obtain ⟨h1, h2⟩ := gonePuts_mem h; exact ⟨by simp [h1], h2⟩
    | some y =>
      rw [hr] at h
      rcases List.mem_cons.1 h with h | h
      · cases h; exact ⟨by simp, y, hr, rfl⟩
      · obtain ⟨h1, h2⟩ := gonePuts_mem h; exact ⟨by simp [h1], h2⟩
theorem mem_gonePuts {L : Look} {o : Nat} {y : Obj} (hy : L o = some y) : ∀ {rs : List Nat}, o ∈ rs → (o, ⟨y.ver + 1, 0, true, true, .gone⟩) ∈ gonePuts L rs
  | r :: rs, h => by
    simp only [gonePuts]
    rcases List.mem_cons.1 h with rfl | h
    · rw [hy]; simp
    · cases L r with
      | none => exact mem_gonePuts hy h
      | some z => exact List.mem_cons_of_mem _ (mem_gonePuts hy h)
theorem blks_mem {R : List Pl} {k b q : Nat} (h : R[k]? = some (some (b, q))) : b ∈ blks R := List.mem_filterMap.2 ⟨_, List.mem_of_getElem? h, rfl⟩
theorem blks_inj : ∀ {R : List Pl} {k k' b q q' : Nat}, (blks R).Nodup → R[k]? = some (some (b, q)) → R[k']? = some (some (b, q')) → k = k'
  | [], k, k', b, q, q', _, h, _ => by simp at h
  | x :: R, k, k', b, q, q', hn, h, h' => by
    have hn' : (blks R).Nodup := by
      cases x with
      | none => simpa [blks] using hn
      | some y => simp only [blks, List.filterMap_cons, Option.map_some, List.nodup_cons] at hn; exact hn.2
    cases k with
    | zero =>
      cases k' with
      | zero => rfl
      | succ k' =>
        simp at h
        subst h
        simp only [blks, List.filterMap_cons, Option.map_some, List.nodup_cons] at hn
        exact absurd (blks_mem (by simpa using h')) hn.1
    | succ k =>
      cases k' with
      | zero =>
        simp at h'
        subst h'
        simp only [blks, List.filterMap_cons, Option.map_some, List.nodup_cons] at hn
        exact absurd (blks_mem (by simpa using h)) hn.1
      | succ k' =>
        have h1 : R[k]? = some (some (b, q)) := by simpa using h
        have h2 : R[k']? = some (some (b, q')) := by simpa using h'
        rw [blks_inj hn' h1 h2]

theorem goneOk_spec {L : Look} {rs : List Nat} (h : goneOk L rs = true) : ∀ o ∈ rs, ∃ y t xs, L o = some y ∧ y.body = .arr t xs := by
  intro o ho
  have := List.all_eq_true.1 h o ho
  cases hL : L o with
  | none => rw [hL] at this; cases this
  | some y =>
    rw [hL] at this
    cases hb : y.body with
    | arr t xs => exact ⟨y, t, xs, rfl, hb⟩
    | box cs => simp only [hb] at this; cases this
    | gone => simp only [hb] at this; cases this
theorem pins_io {E : Env} {ios : List IO1} {pins : List Pin} (h : PinsOK E ios pins) : ∀ o ∈ ioNames ios, (∃ off n b p y cs0, E.φ o = some (b, p) ∧ E.L o = some y ∧ y.body = .box cs0 ∧ off + n ≤ cs0.length ∧ Pin.box b (p + off) n ∈ pins) ∨ ∃ y t xs, E.L o = some y ∧ y.body = .arr t xs := by
  induction h with
  | nil => intro o ho; simp [ioNames] at ho
  | box h1 h2 h3 h4 h5 _ ih =>
    intro o ho
    simp only [ioNames, List.mem_cons] at ho
    rcases ho with rfl | ho
    · exact .inl ⟨_, _, _, _, _, _, h1, h2, h3, h5, by simp⟩
    · rcases ih o ho with ⟨off, n, b, p, y, cs0, k1, k2, k3, k4, k5⟩ | k
      · exact .inl ⟨off, n, b, p, y, cs0, k1, k2, k3, k4, by simp [k5]⟩
      · exact .inr k
  | arr h1 h2 h3 h4 h5 _ ih =>
    intro o ho
    simp only [ioNames, List.mem_cons] at ho
    rcases ho with rfl | ho
    · exact .inr ⟨_, _, _, h1, h2⟩
    · rcases ih o ho with ⟨off, n, b, p, y, cs0, k1, k2, k3, k4, k5⟩ | k
      · exact .inl ⟨off, n, b, p, y, cs0, k1, k2, k3, k4, by simp [k5]⟩
      · exact .inr k

theorem call_keep {S : Start} {φ : Nat → Pl} {L : Look} {w w' : World} (hO : Objs S φ L w) (hF : Frame1 S w) {p : PassedL} {l : List (Bool × Pl)} {G : List Nat} {pins : List Pin} {r : Ret} {v : Value} {nm : Nat} {e : Eff}
    (hFr : Froms (envOf S φ L w) p.reads l G) (hGn : G.Nodup) (hGd : ∀ o ∈ G, o ∉ p.reads) (hGp : G.Perm (p.gone ++ ioNames p.ios)) (hpins : PinsOK (envOf S φ L w) p.ios pins)
    (hx : ExitOK w w' (okR (envOf S φ L w) p.reads) l pins r v) (he : callEff L nm p r = some e) (hok : effOk L e = true) :
    ∃ φ', Keep S φ φ' L (putO L e.puts) w w' ∧ RAV (envOf S φ' (putO L e.puts) w') e.val v := by
  obtain ⟨hsep, hown, hshow⟩ := froms_sep hO hFr hGn hGd
  unfold callEff at he
  rcases hfl : freshL nm r.vals with ⟨vs', ps⟩
  rw [hfl] at he
  simp only at he
  split at he
  rotate_left
  · cases he
  rename_i qs hqs
  cases hc : ((!r.hasTr || frzOk L p.reads) && newOk L ps && goneOk L p.gone) with
  | false => rw [hc] at he; cases he
  | true =>
  rw [hc] at he
  cases he
  simp only [Bool.and_eq_true, Bool.or_eq_true, Bool.not_eq_true'] at hc
  obtain ⟨⟨hfz, hnw⟩, hgo⟩ := hc
  have hnew := newOk_spec hnw
  have hgone := goneOk_spec hgo
  obtain ⟨okr, vs, rl, ol, hv, hvals, houts, hnd, hold, hokr⟩ := hx.out
  -- the data are read by 'okq'
  obtain ⟨okq, hq1, hq2, hq3⟩ : ∃ okq : Nat → Prop, ValsOK w' okq r.vals vs rl ∧ OutsOK w' okq pins r.outs ol ∧ ∀ b, okq b → okr b ∧ r.hasTr = true := by
    cases ht : r.hasTr with
    | true => exact ⟨okr, hvals, houts, fun b hb => ⟨hb, rfl⟩⟩
    | false =>
      simp only [Ret.hasTr, Bool.or_eq_false_iff] at ht
      exact ⟨fun _ => False, hvals.flat ht.1, houts.flat ht.2, fun b hb => hb.elim⟩
  -- frozen
  obtain ⟨L1, hL1, hK1, hL1o, hL1n, hL1f⟩ : ∃ L1 : Look, putO L (bif r.hasTr then frzPuts L p.reads else []) = L1 ∧ Keep S φ φ L L1 w w ∧ (∀ o, o ∉ p.reads → L1 o = L o) ∧
      (∀ o y, L1 o = some y → ∃ y0, L o = some y0 ∧ y.body = y0.body ∧ (y.frz = false → y = y0) ∧ (r.hasTr = true → o ∈ p.reads → y.frz = true)) ∧ ∀ o, L o = none → L1 o = none := by
    cases ht : r.hasTr with
    | false =>
      refine ⟨L, rfl, ?_, fun _ _ => rfl, fun o y hy => ⟨y, hy, rfl, fun _ => rfl, fun h => by cases h⟩, fun _ h => h⟩
      have := (OStep.quiet S φ L w 0).keep hO hF
      exact this
    | true =>
      refine ⟨frzL L p.reads, putO_frz' L p.reads, ?_, fun o ho => by simp [frzL, ho], fun o y hy => ?_, fun o h => by simp [frzL, h]⟩
      · refine (OStep.freeze p.reads hO fun o b q n hm ho => ?_).keep hO hF
        obtain ⟨_, y, cs, h1, h2, h3, _⟩ := hO.box o b q n hm
        rcases hfz with hfz | hfz
        · rw [ht] at hfz; cases hfz
        · have := List.all_eq_true.1 hfz o ho
          rw [h1] at this
          simp only [h3, h2] at this
          cases this
      · obtain ⟨y0, g1, ⟨g2, rfl⟩ | ⟨g2, rfl⟩⟩ := frzL_some hy
        · refine ⟨y0, g1, rfl, fun h => ?_, fun _ _ => rfl⟩; cases h
        · exact ⟨y, g1, rfl, fun _ => rfl, fun _ h => absurd h g2⟩
  -- what is put
  have hdum : ∀ b, okq b → (⟨w', fun _ => none, fun _ => none, 0, fun _ => True⟩ : Env).Ok b := fun b _ => ⟨fun h => absurd h (Nat.not_lt_zero b), fun ⟨_, _, _, h, _⟩ => by cases h⟩
  obtain ⟨a1, a2, _⟩ := freshL_spec (E := ⟨w', fun _ => none, fun _ => none, 0, fun _ => True⟩) hdum hq1 hfl
  obtain ⟨b1, b2, b3, b4⟩ := backIo_spec (ioN := ioNames p.ios) hO hq2 hpins hqs fun _ h => h
  obtain ⟨hnames, _⟩ := effOk_spec hok
  have hN : ((gonePuts L p.gone ++ (ps ++ qs)).map (·.1)).Nodup := by
    simp only [names1, List.map_append] at hnames ⊢
    exact (List.nodup_append.1 hnames).2.1
  have hputs : putO L ((bif r.hasTr then frzPuts L p.reads else []) ++ (gonePuts L p.gone ++ (ps ++ qs))) = putO L1 (gonePuts L p.gone ++ (ps ++ qs)) := by rw [putO_append, hL1]
  simp only [hputs]
  generalize hZ : ps ++ qs = Z at *
  generalize hR : rl ++ ol = R at *
  have hZl : Z.length = R.length := by rw [← hZ, ← hR]; simp [a1, b1]
  have hcl : ∀ (k : Nat) x, Z[k]? = some x → ∃ pl, R[k]? = some pl ∧ ZOK L φ (ioNames p.ios) x.1 x.2 pl := by
    rw [← hZ, ← hR]
    exact zip_cat a1 (zip_all (P := fun x pl => ZOK L φ (ioNames p.ios) x.1 x.2 pl) a1 fun x hx pl => ⟨a2 x hx, .inl (hnew x hx)⟩) b2
  have hZn : (Z.map (·.1)).Nodup := by rw [List.map_append] at hN; exact (List.nodup_append.1 hN).2.1
  generalize hφ' : (fun o : Nat => match L o with | some _ => φ o | none => bif (Z.map fun x : Nat × Obj => x.1).contains o then plOf Z (R.map fun p => (false, p)) o else φ o) = φ'
  generalize hL' : putO L1 (gonePuts L p.gone ++ Z) = L'
  have hφZ : ∀ (k o : Nat) (y' : Obj) (pl : Pl), Z[k]? = some (o, y') → R[k]? = some pl → L' o = some y' ∧ (L o = none → φ' o = pl) ∧ (L o ≠ none → φ' o = φ o) := by
    intro k o y' pl h1 h2
    refine ⟨?_, fun hn => ?_, fun hn => ?_⟩
    · rw [← hL']; exact putO_mem hN (List.mem_append.2 (.inr (List.mem_of_getElem? h1)))
    · have hc : (Z.map (·.1)).contains o = true := by rw [List.contains_iff_mem]; exact List.mem_map.2 ⟨_, List.mem_of_getElem? h1, rfl⟩
      rw [← hφ']
      simp only [hn]
      rw [hc]
      simp only [cond_true]
      exact plOf_get hZn k o y' false pl h1 (by simp [h2])
    · rw [← hφ']
      cases hLo : L o with
      | none => exact absurd hLo hn
      | some y => simp only [hLo]
  have hsome : ∀ o y, L o = some y → φ' o = φ o := fun o y hy => by rw [← hφ']; simp only [hy]
  have hfind : ∀ o y', L' o = some y' → (o ∈ p.gone ∨ o ∈ Z.map (·.1)) → (o ∈ p.gone ∧ ∃ y, L o = some y ∧ y' = ⟨y.ver + 1, 0, true, true, .gone⟩) ∨ ∃ k : Nat, Z[k]? = some (o, y') := by
    intro o y' h hch
    rw [← hL'] at h
    rcases putO_some hN h with hm | ⟨hn, _⟩
    · rcases List.mem_append.1 hm with hm | hm
      · exact .inl (gonePuts_mem hm)
      · obtain ⟨k, hk⟩ := List.getElem?_of_mem hm; exact .inr ⟨k, hk⟩
    · exfalso
      apply hn
      rw [List.map_append, List.mem_append]
      rcases hch with hch | hch
      · obtain ⟨y, t, xs, h1, _⟩ := hgone o hch
        exact .inl (List.mem_map.2 ⟨_, mem_gonePuts h1 hch, rfl⟩)
      · exact .inr hch
  have hZb : ∀ (k o : Nat) (y' : Obj) (b q : Nat), Z[k]? = some (o, y') → φ' o = some (b, q) → ∃ q', R[k]? = some (some (b, q')) := by
    intro k o y' b q h1 h2
    obtain ⟨pl, g1, _, g2⟩ := hcl k _ h1
    obtain ⟨_, c1, c2⟩ := hφZ k o y' pl h1 g1
    rcases g2 with g2 | ⟨_, y, cs, cs', b', p', q', k1, _, _, _, _, k2, k3⟩ | ⟨_, y, t, xs, ys, k1, _, _, _, _, k2⟩
    · rw [c1 g2] at h2; exact ⟨q, by rw [g1, h2]⟩
    · rw [c2 (by rw [k1]; simp), k2] at h2
      cases h2
      exact ⟨q', by rw [g1, k3]⟩
    · rw [c2 (by rw [k1]; simp)] at h2
      rcases k2 with ⟨k2, _⟩ | ⟨b', p', q', k2, k3⟩
      · rw [k2] at h2; cases h2
      · rw [k2] at h2; cases h2; exact ⟨q', by rw [g1, k3]⟩
  have hGch : ∀ o ∈ G, (o ∈ p.gone ∨ o ∈ Z.map (·.1)) := by
    intro o ho
    rcases List.mem_append.1 (hGp.mem_iff.1 ho) with h | h
    · exact .inl h
    · right; rw [← hZ, List.map_append]; exact List.mem_append.2 (.inr (b3 o h))
  have hGL1 : ∀ b, ownB l b → ∃ o1 y1 p1, L1 o1 = some y1 ∧ y1.frz = false ∧ y1.body ≠ .gone ∧ φ o1 = some (b, p1) ∧ (o1 ∈ p.gone ∨ o1 ∈ Z.map (·.1)) := by
    intro b hb
    obtain ⟨o1, g1, y1, p1, g2, g3, g4, g5⟩ := hown b hb
    exact ⟨o1, y1, p1, by rw [hL1o o1 (hGd o1 g1)]; exact g2, g3, g4, g5, hGch o1 g1⟩
  have hgd : ∀ o ∈ p.gone, o ∉ p.reads := fun o ho => hGd o (hGp.mem_iff.2 (List.mem_append.2 (.inl ho)))
  have hid : ∀ o ∈ ioNames p.ios, o ∉ p.reads := fun o ho => hGd o (hGp.mem_iff.2 (List.mem_append.2 (.inr ho)))
  have hZblk : ∀ (k o : Nat) (y' : Obj) (b q : Nat), Z[k]? = some (o, y') → φ' o = some (b, q) → b < w.heap.size → ownB l b := fun k o y' b q h1 h2 h3 => by
    obtain ⟨q', hq'⟩ := hZb k o y' b q h1 h2
    exact hold b (blks_mem hq') h3
  have hok' : ∀ b, okq b → (envOf S φ' L' w').Ok b := by
    intro b hb
    obtain ⟨hbr, htr⟩ := hq3 b hb
    obtain ⟨hb1, hb2⟩ := hokr b hbr
    refine ⟨fun hlt => ?_, fun ⟨o, y, q, h1, h2, h3⟩ => ?_⟩
    · have hlt' : b < w.heap.size := Nat.lt_of_lt_of_le hlt hF.size
      rcases hb1 hlt' with hb1 | ⟨f, q, hm⟩
      · rcases hb1 with hb1 | ⟨o, _, y, q, g1, _, g3⟩
        · exact hb1.1 hlt
        · exact (hO.blk o y b q g1 g3).2.1 hlt
      · cases f with
        | false => obtain ⟨o, _, y, q', g1, _, _, g4⟩ := hown b ⟨q, hm⟩; exact (hO.blk o y b q' g1 g4).2.1 hlt
        | true => obtain ⟨o, _, y, q', g1, _, g4⟩ := hshow b q hm; exact (hO.blk o y b q' g1 g4).2.1 hlt
    · have h1 : L' o = some y := h1
      have h3 : φ' o = some (b, q) := h3
      by_cases hch : o ∈ p.gone ∨ o ∈ Z.map (·.1)
      · rcases hfind o y h1 hch with ⟨_, y0, _, rfl⟩ | ⟨k, hk⟩
        · cases h2
        · obtain ⟨q', hq'⟩ := hZb k o y b q hk h3
          exact hb2 (blks_mem hq')
      · have hno : o ∉ (gonePuts L p.gone ++ Z).map (·.1) := by
          rw [List.map_append, List.mem_append]
          rintro (hm | hm)
          · obtain ⟨⟨o', y'⟩, hm2, rfl⟩ := List.mem_map.1 hm
            exact hch (.inl (gonePuts_mem hm2).1)
          · exact hch (.inr hm)
        rw [← hL', putO_notin hno] at h1
        obtain ⟨y0, g1, g2, g3, g4⟩ := hL1n o y h1
        have := g3 h2
        subst this
        rw [hsome o y g1] at h3
        have hlt' := (hO.blk o y b q g1 h3).1
        have same : ∀ o' y' q', L o' = some y' → y'.body ≠ .gone → φ o' = some (b, q') → o = o' := fun o' y' q' k1 k2 k3 => hO.inj o o' y y' b q q' g1 k1 h2 k2 h3 k3
        have rd : ∀ o', o' ∈ p.reads → o = o' → False := fun o' k1 k2 => by subst k2; have := g4 htr k1; rw [h2] at this; cases this
        rcases hb1 hlt' with hb1 | ⟨f, q', hm⟩
        · rcases hb1 with hb1 | ⟨o', k0, y', q', k1, k2, k3⟩
          · exact hb1.2 ⟨o, y, q, g1, h2, h3⟩
          · exact rd o' k0 (same o' y' q' k1 k2 k3)
        · cases f with
          | false =>
            obtain ⟨o', k0, y', q2, k1, _, k2, k3⟩ := hown b ⟨q', hm⟩
            have := same o' y' q2 k1 k2 k3
            subst this
            exact hch (hGch o k0)
          | true =>
            obtain ⟨o', k0, y', q2, k1, k2, k3⟩ := hshow b q' hm
            exact rd o' k0 (same o' y' q2 k1 k2 k3)
  have htomb : ∀ o, o ∈ p.gone → ∃ y t xs, L1 o = some y ∧ L o = some y ∧ y.body = .arr t xs ∧ L' o = some ⟨y.ver + 1, 0, true, true, .gone⟩ := fun o ho => by
    obtain ⟨y, t, xs, h1, h2⟩ := hgone o ho
    exact ⟨y, t, xs, by rw [hL1o o (hgd o ho)]; exact h1, h1, h2, by rw [← hL']; exact putO_mem hN (List.mem_append.2 (.inl (mem_gonePuts h1 ho)))⟩
  have hat : ∀ o, o ∈ Z.map (·.1) → ∃ (k : Nat) (y' : Obj) (pl : Pl), Z[k]? = some (o, y') ∧ R[k]? = some pl ∧ ZOK L φ (ioNames p.ios) o y' pl ∧ L' o = some y' := fun o ho => by
    obtain ⟨⟨o', y'⟩, hm, rfl⟩ := List.mem_map.1 ho
    obtain ⟨k, hk⟩ := List.getElem?_of_mem hm
    obtain ⟨pl, g1, g2⟩ := hcl k _ hk
    exact ⟨k, y', pl, hk, g1, g2, (hφZ k _ y' pl hk g1).1⟩
  have hnone : ∀ o, L o = none → L1 o = none := fun o h => by
    cases h1 : L1 o with
    | none => rfl
    | some y => obtain ⟨y0, h2, _⟩ := hL1n o y h1; rw [h] at h2; cases h2
  have hst : OStep S φ φ' L1 L' w w' (ownB l) (fun o => o ∈ p.gone ∨ o ∈ Z.map (·.1)) := by
    refine ⟨⟨hx.os, hx.tape, hx.output, hx.size, fun b hb hn => hx.keep b hb hn, fun b _ => hx.bsz b⟩, fun b hb _ => ?_, fun o hch => ⟨?_, ?_⟩, fun o y hy hch => ?_, fun o y' b q hy' hch hf hp hlt => ?_,
      fun o y' hy' hch henv => ?_, fun o y' b q hy' hch hp => ?_, fun o o' y y' b q q' hy hy' hch hch' hf hg hp hp' => ?_, fun o y' b q hy' hch hg hp hlt => ?_, fun o b q n hm hch hp y cs hy hf hb => ?_, fun o b q n hm cur el hw hS => ?_, fun o pl n hm hch y hy => ?_⟩
    · obtain ⟨o1, y1, p1, g1, g2, _, g4, g5⟩ := hGL1 b hb
      exact ⟨o1, y1, p1, g1, g2, g4, g5⟩
    · rw [← hL']
      refine putO_notin fun hm => hch ?_
      rw [List.map_append, List.mem_append] at hm
      rcases hm with hm | hm
      · obtain ⟨⟨o', y'⟩, hm2, rfl⟩ := List.mem_map.1 hm
        exact .inl (gonePuts_mem hm2).1
      · exact .inr hm
    · rw [← hφ']
      cases hLo : L o with
      | some y => simp only [hLo]
      | none =>
        have hc : (Z.map (·.1)).contains o = false := by
          cases hcc : (Z.map (·.1)).contains o with
          | false => rfl
          | true => exact absurd (.inr (List.contains_iff_mem.1 hcc)) hch
        simp only [hLo]
        rw [hc]
        simp only [cond_false]
    · rcases hch with hch | hch
      · obtain ⟨y0, t, xs, h1, h2, h3, h4⟩ := htomb o hch
        rw [hy] at h1
        cases h1
        exact ⟨_, h4, ⟨Nat.le_succ _, fun h => absurd h (Nat.succ_ne_self _), fun h => absurd h (Nat.succ_ne_self _), fun h => absurd h (Nat.succ_ne_self _), fun cs hc => by rw [h3] at hc; cases hc⟩⟩
      · obtain ⟨k, y', pl, g1, g2, g3, g4⟩ := hat o hch
        refine ⟨y', g4, ?_⟩
        rcases g3.2 with hz | ⟨hio, y0, cs, cs', b', p', q', k1, k2, k3, rfl, k4, k5, k6⟩ | ⟨hio, y0, t, xs, ys, k1, k2, k3, rfl, k4, k5⟩
        · rw [hnone o hz] at hy; cases hy
        · rw [hL1o o (hid o hio), k1] at hy
          cases hy
          have hp := hsome o y k1
          exact ⟨Nat.le_refl _, fun _ => Nat.le_refl _, fun _ => ⟨hp, by rw [k3]; trivial⟩, fun _ _ => .inr ⟨cs, k3⟩, fun cs2 hc => ⟨hp, cs', rfl⟩⟩
        · rw [hL1o o (hid o hio), k1] at hy
          cases hy
          have hp := hsome o y k1
          exact ⟨Nat.le_refl _, fun _ => Nat.le_succ _, fun _ => ⟨hp, by rw [k3]; exact ⟨rfl, k4.symm⟩⟩, fun _ h => absurd h (Nat.succ_ne_self _), fun cs2 hc => by rw [k3] at hc; cases hc⟩
    · rcases hfind o y' hy' hch with ⟨_, y0, _, rfl⟩ | ⟨k, hk⟩
      · cases hf
      · obtain ⟨o1, y1, p1, g1, g2, _, g4, g5⟩ := hGL1 b (hZblk k o y' b q hk hp hlt)
        exact ⟨o1, y1, p1, g1, g2, g4, g5⟩
    · rcases hfind o y' hy' hch with ⟨_, y0, _, rfl⟩ | ⟨k, hk⟩
      · exact rfl
      · have hm := List.mem_of_getElem? hk
        rw [← hZ] at hm
        rcases List.mem_append.1 hm with hm | hm
        · obtain ⟨_, _, a3⟩ := freshL_spec (E := envOf S φ' L' w') hok' hq1 hfl
          refine (a3 ⟨by simp [a1], fun k o y f pl h1 h2 => ?_⟩).2 o y' hm
          rw [List.getElem?_map, Option.map_eq_some_iff] at h2
          obtain ⟨pl', h2, he⟩ := h2
          cases he
          have hk1 : Z[k]? = some (o, y) := by rw [← hZ, List.getElem?_append_left (List.getElem?_eq_some_iff.1 h1).1]; exact h1
          have hk2 : R[k]? = some pl := by rw [← hR, List.getElem?_append_left (List.getElem?_eq_some_iff.1 h2).1]; exact h2
          obtain ⟨d1, d2, _⟩ := hφZ k o y pl hk1 hk2
          exact ⟨d1, d2 (hnew _ (List.mem_of_getElem? h1))⟩
        · refine b4 (envOf S φ' L' w') rfl hok' (hK1.env.trans henv) (fun k o y pl h1 h2 => ?_) hx.box o y' hm
          refine hφZ (ps.length + k) o y pl ?_ ?_
          · rw [← hZ, List.getElem?_append_right (by omega), Nat.add_sub_cancel_left]; exact h1
          · rw [← hR, List.getElem?_append_right (by omega), a1, Nat.add_sub_cancel_left]; exact h2
    · rcases hfind o y' hy' hch with ⟨hg, y0, k1, rfl⟩ | ⟨k, hk⟩
      · rw [hsome o y0 k1] at hp
        have hblk := hO.blk o y0 b q k1 hp
        exact ⟨Nat.lt_of_lt_of_le hblk.1 hx.size, fun _ => ⟨o, y0, q, by rw [hL1o o (hgd o hg)]; exact k1, hp, fun h => by cases h⟩⟩
      · refine ⟨?_, fun hlt => ?_⟩
        · obtain ⟨q', hq'⟩ := hZb k o y' b q hk hp
          have := hq1.has.append hq2.has
          rw [hR] at this
          exact this b (blks_mem hq')
        · obtain ⟨o1, y1, p1, g1, g2, _, g4, g5⟩ := hGL1 b (hZblk k o y' b q hk hp hlt)
          exact ⟨o1, y1, p1, g1, g4, fun _ => g2⟩
    · rcases hfind o y hy hch with ⟨_, y0, _, rfl⟩ | ⟨k, hk⟩
      · cases hf
      · rcases hfind o' y' hy' hch' with ⟨_, y0, _, rfl⟩ | ⟨k', hk'⟩
        · exact absurd rfl hg
        · obtain ⟨q1, h1⟩ := hZb k o y b q hk hp
          obtain ⟨q2, h2⟩ := hZb k' o' y' b q' hk' hp'
          have := blks_inj hnd h1 h2
          subst this
          rw [hk] at hk'
          cases hk'
          rfl
    · rcases hfind o y' hy' hch with ⟨_, y0, _, rfl⟩ | ⟨k, hk⟩
      · exact absurd rfl hg
      · obtain ⟨o1, y1, p1, g1, g2, g3, g4, g5⟩ := hGL1 b (hZblk k o y' b q hk hp hlt)
        exact ⟨o1, y1, p1, g5, g1, g3, g4⟩
    · rcases hch with hch | hch
      · obtain ⟨y0, t, xs, h1, h2, h3, h4⟩ := htomb o hch
        rw [hy] at h1
        cases h1
        rw [hb] at h3
        cases h3
      · obtain ⟨k, y', pl, g1, g2, g3, g4⟩ := hat o hch
        rcases g3.2 with hz | ⟨hio, y0, cs1, cs', b', p', q', k1, k2, k3, rfl, k4, k5, k6⟩ | ⟨hio, y0, t, xs, ys, k1, k2, k3, rfl, k4, k5⟩
        · rw [hnone o hz] at hy; cases hy
        · rw [hL1o o (hid o hio), k1] at hy
          cases hy
          rw [hb] at k3
          cases k3
          exact ⟨by rw [hsome o y k1]; exact hp, _, cs', g4, k2, rfl, k4⟩
        · rw [hL1o o (hid o hio), k1] at hy
          cases hy
          rw [hb] at k3
          cases k3
    · obtain ⟨o1, g1, y1, p1, g2, g3, g4, g5⟩ := hown b hS
      obtain ⟨m1, y2, cs, m2, m3, m4, m5⟩ := hO.box o b q n hm
      have := hO.inj o1 o y1 y2 b p1 q g2 m2 g3 (by rw [m4]; simp) g5 m1
      subst this
      rcases List.mem_append.1 (hGp.mem_iff.1 g1) with hg | hg
      · obtain ⟨y0, t, xs, h1, h2⟩ := hgone o1 hg
        rw [m2] at h1
        cases h1
        rw [m4] at h2
        cases h2
      · rcases pins_io hpins o1 hg with ⟨off, n', b', p', y0, cs0, h1, h2, h3, h4, h5⟩ | ⟨y0, t, xs, h1, h2⟩
        · have h1' : φ o1 = some (b', p') := h1
          rw [m1] at h1'
          cases h1'
          have h2' : L o1 = some y0 := h2
          rw [m2] at h2'
          cases h2'
          rw [m4] at h3
          cases h3
          obtain ⟨cur0, cur', e', c1, c2, c3, c4⟩ := hx.box b (q + off) n' h5
          rw [hw] at c1
          cases c1
          exact ⟨cur', c2, c3, fun j hj => c4 j (by omega)⟩
        · have h1' : L o1 = some y0 := h1
          rw [m2] at h1'
          cases h1'
          rw [m4] at h2
          cases h2
    · rcases hch with hch | hch
      · obtain ⟨y0, t, xs, h1, h2, h3, h4⟩ := htomb o hch
        exact ⟨_, h4, fun h => by cases h⟩
      · obtain ⟨k, y', pl', g1, g2, g3, g4⟩ := hat o hch
        refine ⟨y', g4, ?_⟩
        rcases g3.2 with hz | ⟨hio, y0, cs1, cs', b', p', q', k1, k2, k3, rfl, k4, k5, k6⟩ | ⟨hio, y0, t, xs, ys, k1, k2, k3, rfl, k4, k5⟩
        · rw [hnone o hz] at hy; cases hy
        · rw [hL1o o (hid o hio), k1] at hy
          cases hy
          exact fun ha hf => ⟨ha, hf, hsome o y k1, by rw [k3]; trivial⟩
        · rw [hL1o o (hid o hio), k1] at hy
          cases hy
          exact fun ha hf => ⟨ha, hf, hsome o y k1, by rw [k3]; exact ⟨rfl, k4.symm⟩⟩
  have hk2 := hst.keep hK1.objs hK1.frame
  refine ⟨φ', hK1.trans hk2, ?_⟩
  obtain ⟨_, _, a3⟩ := freshL_spec (E := envOf S φ' L' w') hok' hq1 hfl
  obtain ⟨c1, _⟩ := a3 ⟨by simp [a1], fun k o y f pl h1 h2 => by
    rw [List.getElem?_map, Option.map_eq_some_iff] at h2
    obtain ⟨pl', h2, he⟩ := h2
    cases he
    have hk1 : Z[k]? = some (o, y) := by rw [← hZ, List.getElem?_append_left (List.getElem?_eq_some_iff.1 h1).1]; exact h1
    have hk2 : R[k]? = some pl := by rw [← hR, List.getElem?_append_left (List.getElem?_eq_some_iff.1 h2).1]; exact h2
    obtain ⟨d1, d2, _⟩ := hφZ k o y pl hk1 hk2
    exact ⟨d1, d2 (hnew _ (List.mem_of_getElem? h1))⟩⟩
  rw [hv]
  exact retVal_RAV c1
end Go.M
namespace Go.M
open Go

theorem args_eq {args : Array Operand} {f : Operand → Value} : args.map f = (args.toList.map f).toArray := by
  apply Array.toList_inj.1
  simp

section
variable {S : Start} {φ : Nat → Pl} {σ : St} {a : Act} {w : World} {o : Oper} {e : Eff} {T : TypeId → Option TI} {Γ : Tab} {J : GInv}

theorem o_call (h : Rel S φ σ a w) (hΓ : ∀ g ce, Γ.get g = some ce → Sound S.P J g ce) (hJ : GOK J S) {f : Operand} {args : Array Operand} {ats : Array TypeId} {nm : Nat}
    (ho : o.op = .call { callee := .value f, args := args, argTypes := ats }) (he : (callStep T Γ σ.slots σ.objs nm f args.toList ats.toList).yields e) (hok : effOk σ.objs e = true) : OpOK S φ σ a w o e := by
  unfold callStep at he
  split at he
  · rename_i g caps hf
    split at he
    · rename_i ce hg
      split at he
      · rename_i p hp
        split at he
        · rename_i q hq
          simp only at he
          cases hc : (nodupB ((p.gone ++ q.gone) ++ ioNames (p.ios ++ q.ios)) && disjB (p.reads ++ q.reads) ((p.gone ++ q.gone) ++ ioNames (p.ios ++ q.ios))) with
          | false => rw [hc] at he; cases he
          | true =>
            rw [hc] at he
            obtain ⟨r, hr, hce⟩ := he
            simp only [Bool.and_eq_true] at hc
            have hn := nodupB_iff hc.1
            have hd : ∀ o ∈ p.reads ++ q.reads, o ∉ (p.gone ++ q.gone) ++ ioNames (p.ios ++ q.ios) := fun o ho => by
              have := List.all_eq_true.1 hc.2 o ho
              simpa using this
            have hfv := val_RAV h T 0 f
            rw [hf] at hfv
            obtain ⟨cvs, c1, c2⟩ := hfv
            have hP := (passAll_spec (T := T) (reads := p.reads ++ q.reads) h hp fun o ho => List.mem_append.2 (.inl ho)).append (passCapsIo_spec (reads := p.reads ++ q.reads) h.objs c1 hq fun o ho => List.mem_append.2 (.inr ho))
            obtain ⟨l, G, pins, a1, a2, a3, a4, a5⟩ := hP
            have hGn : G.Nodup := (a3.nodup_iff).2 hn
            have hGd : ∀ o ∈ G, o ∉ p.reads ++ q.reads := fun o ho hr => hd o hr (a3.mem_iff.1 ho)
            obtain ⟨⟨fn, f1, f2, f3⟩, hs⟩ := hΓ g ce hg
            have hpins : pinsOf (p.args ++ q.args) l = pins := by
              have := a5 [] []
              simpa [pinsOf] using this
            obtain ⟨j1, j2⟩ := hJ.now h.objs h.frame
            have hcall := hs _ _ l w _ r a1 (froms_sep h.objs a2 hGn hGd).1 (okR_own h.objs a2 hGn hGd) j1 (fun b hb => ⟨(j2 b hb).1, .inl (j2 b hb).2⟩) hr
            intro K Q hK
            unfold Oper.wp
            have hrun : (Go.execOp a.eval o).run S.P w = .ok (.enter g (args.toList.map a.eval ++ cvs).toArray) w := by
              have hb : ¬ fn.body = none := fun hbody => by rw [hbody] at f2; cases f2
              simp [Go.execOp, ho, resolve, Deferred.ofValue, c2, invoke, callFunc, f1, f3, hb]
            rw [hrun, Oper.upon_enter]
            refine Calls.mono hcall fun ed w' hh => ?_
            obtain ⟨v, rfl, hx⟩ := hh
            rw [hpins] at hx
            obtain ⟨φ', k1, k2⟩ := call_keep h.objs h.frame a2 hGn hGd a3 a4 hx hce hok
            exact hK v w' φ' k1 k2
        · cases he
      · cases he
    · cases he
  · cases he

/-- **Every operation**: what the evaluator says is what Go does. -/
theorem op_sound (hT : TFacts S.P T) (hΓ : ∀ g ce, Γ.get g = some ce → Sound S.P J g ce) (hJ : GOK J S) (h : Rel S φ σ a w) {nm : Nat} (he : (M.execOp T Γ σ.slots σ.objs nm o.type o.op).yields e) (hok : effOk σ.objs e = true) : OpOK S φ σ a w o e := by
  cases hop : o.op with
  | move x => rw [hop] at he; exact (q_move h (.inl hop) he).ok h
  | assign x => rw [hop] at he; exact (q_move h (.inr hop) he).ok h
  | pick c x y => rw [hop] at he; exact (q_pick h hop he).ok h
  | binOp op xt x y yt => rw [hop] at he; exact (q_binOp hT h hop he).ok h
  | unOp op xt x =>
    rw [hop] at he
    cases op with
    | not => exact (q_not h hop he).ok h
    | neg => exact (q_neg h hop he).ok h
    | _ => exact he.elim
  | convert s d x => rw [hop] at he; exact (q_convert hT.tok h hop he).ok h
  | extract x i => rw [hop] at he; exact (q_extract h hop he).ok h
  | buildSlice t n parts => rw [hop] at he; exact o_buildSlice hT.tok h hop he hok
  | makeSlice t l c => rw [hop] at he; exact o_makeSlice hT.tok h hop he hok
  | index xt x i => rw [hop] at he; exact (q_index hT.tok h hop he).ok h
  | slice xt x lo hi mx =>
    rw [hop] at he
    cases mx with
    | none => exact (q_slice hT.tok h hop he).ok h
    | some m => exact o_slice3 hT.tok h hop he hok
  | indexAddr xt x i => rw [hop] at he; exact (q_indexAddr hT.tok h hop he).ok h
  | load t x => rw [hop] at he; exact (q_load hT.tok h hop he).ok h
  | store t x y => rw [hop] at he; exact o_store hT.tok h hop he
  | alloc t => rw [hop] at he; exact o_alloc hT.tok h hop he hok
  | box t x => rw [hop] at he; exact o_box hT.tok h hop he hok
  | build t parts => rw [hop] at he; exact (q_build hT.tok h hop he).ok h
  | fieldAddr s x f => rw [hop] at he; exact (q_fieldAddr hT.tok h hop he).ok h
  | field s x f => rw [hop] at he; exact (q_field hT.tok h hop he).ok h
  | nilCheck x => rw [hop] at he; exact (q_nilCheck h hop he).ok h
  | makeFunc fn first captured => rw [hop] at he; exact (q_makeFunc h hop he).ok h
  | call c =>
    rw [hop] at he
    obtain ⟨callee, args, ats⟩ := c
    cases callee with
    | value f => exact o_call h hΓ hJ hop he hok
    | invoke _ _ => exact he.elim
    | builtin b =>
      simp only [M.execOp] at he
      unfold builtinStep at he
      cases b <;> simp only at he <;> try exact he.elim
      case len =>
        split at he
        · rename_i x hargs
          split at he
          · rename_i t hats
            exact (q_len (ty := 0) hT.tok h hargs hats hop he).ok h
          · exact he.elim
        · exact he.elim
      case append =>
        split at he
        · rename_i s x hargs
          split at he
          · rename_i t t' hats
            cases hb : Nat.beq t t' with
            | false => rw [hb] at he; exact he.elim
            | true =>
              rw [hb] at he
              have := Nat.eq_of_beq_eq_true hb
              subst this
              simp only [cond_true] at he
              split at he
              · rename_i ei et' hel
                exact o_append hT.tok h hargs hats hop hel he hok
              · exact he.elim
          · exact he.elim
        · exact he.elim
      case clear =>
        split at he
        · rename_i x hargs
          split at he
          · rename_i t hats
            exact o_clear hT.tok h hargs hats hop he
          · exact he.elim
        · exact he.elim
      case copy =>
        split at he
        · rename_i x s hargs
          split at he
          · rename_i t t' hats
            cases hb : Nat.beq t t' with
            | false => rw [hb] at he; exact he.elim
            | true =>
              rw [hb] at he
              have := Nat.eq_of_beq_eq_true hb
              subst this
              exact o_copy hT.tok h hargs hats hop he
          · exact he.elim
        · exact he.elim
      case max =>
        split at he
        · rename_i x y hargs
          exact (q_minmax (mx := true) h hargs hop he).ok h
        · exact he.elim
      case min =>
        split at he
        · rename_i x y hargs
          exact (q_minmax (mx := false) h hargs hop he).ok h
        · exact he.elim
  | _ => rw [hop] at he; exact he.elim
theorem equalIn_nilslice {P : Program} {t el : TypeId} (h : P.underlying t = some (.slice el)) (d : Nat) (ad : Option Addr) (n c : Nat) (w : World) : (Op.equalIn (d + 1) t (.slice ad n c) (.slice none 0 0)).run P w = .ok ad.isNone w := by
  cases ad <;> simp [Op.equalIn, run_underlying h]
theorem intBin_noq {op : BinOp} {k : IntKind} {m n : Int} {l : Nat} {f : Bool → Eff} : intBin op k m n ≠ .nilq l f := by
  unfold intBin
  cases op <;> simp [pureE]
theorem strBin_noq {op : BinOp} {s t : ByteArray} {l : Nat} {f : Bool → Eff} : strBin op s t ≠ .nilq l f := by
  unfold strBin
  cases op <;> simp [pureE]
/-- 'x == nil' of a slice that is only read: which of the two it is the memory alone knows. -/
theorem op_nilq (hT : TFacts S.P T) (h : Rel S φ σ a w) {op : BinOp} {xt yt : TypeId} {x y : Operand} (ho : o.op = .binOp op xt x y yt) {n : Nat} {f : Bool → Eff}
    (he : binOp (T xt) op (isNilConst y) (val T σ.slots xt x) (val T σ.slots xt y) = .nilq n f) : ∃ b, (n ≠ 0 → b = false) ∧ OpOK S φ σ a w o (f b) := by
  have hx := val_RAV h T xt x
  have hy := val_RAV h T xt y
  have pure_no : ∀ {v : AV}, pureE v ≠ .nilq n f := fun {v} hh => by cases hh
  unfold binOp at he
  split at he
  · split at he
    · rename_i k' b _
      cases hc : (decide (_ = k') || intOps op) with
      | false => rw [hc] at he; cases he
      | true => rw [hc] at he; exact absurd he intBin_noq
    · cases he
  · split at he
    · exact absurd he strBin_noq
    · cases he
  · split at he
    · split at he
      · split at he
        · split at he <;> cases he
        · cases he
      · cases he
    · cases he
  · split at he
    · split at he
      · split at he
        · cases hn : isNilConst y with
          | false => rw [hn] at he; cases he
          | true => rw [hn] at he; simp only [cond_true] at he; split at he <;> cases he
        · cases he
      · cases he
    · cases he
  · rename_i t xs hxe
    rw [hxe] at hx
    split at he
    · rename_i t' hye
      rw [hye] at hy
      have e2 : a.eval y = .slice none 0 0 := hy
      obtain ⟨ad, cap, e1, _, _, hd⟩ := RdS.eq (show RdS w _ t xs (a.eval x) from hx)
      split at he
      · rename_i i hi
        split at he
        · rename_i el hk
          have hu : S.P.underlying xt = some (.slice el) := by have := (hT.tok xt i hi).kind; rw [hk] at this; exact this
          have hlen : xs.length ≠ 0 → ad.isNone = false := fun hne => by
            rcases hd with rfl | ⟨b, p, rfl, _⟩
            · exact absurd rfl hne
            · rfl
          have heq : (Op.equal xt (a.eval x) (a.eval y)).run S.P w = .ok ad.isNone w := by
            rw [e1, e2]
            exact equalIn_nilslice hu 9999 ad xs.length cap w
          have hg : (eqGuard op xt x y (a.eval x) (a.eval y)).run S.P w = .ok () w := by rw [e1]; exact guard_plain w (by simp) (by simp)
          have key : ∀ {v : Value} {e : Eff}, (Go.binOp op xt (a.eval x) (a.eval y)).run S.P w = .ok v w → e.puts = [] → RAV (envOf S φ σ.objs w) e.val v → OpOK S φ σ a w o e := fun h1 h2 h3 =>
            (Quiet.mk' h2 (by simp [Go.execOp, ho, hg, h1]) h3).ok h
          split at he
          · cases he
            refine ⟨ad.isNone, hlen, key (v := .bool ad.isNone) ?_ rfl rfl⟩
            rw [e1, e2] at heq ⊢
            simp [Go.binOp, heq]
          · cases he
            refine ⟨ad.isNone, hlen, key (v := .bool (!ad.isNone)) ?_ rfl rfl⟩
            rw [e1, e2] at heq ⊢
            simp [Go.binOp, heq]
          · cases he
        · cases he
      · cases he
    · cases he
  · split at he
    · split at he
      · split at he
        · split at he
          · split at he
            · split at he <;> cases he
            · cases he
          · cases he
        · cases he
      · cases he
    · cases he
  · cases he
theorem op_pick {ρ : Type} {k : Eff → Option ρ} {r : ρ} (hT : TFacts S.P T) (hΓ : ∀ g ce, Γ.get g = some ce → Sound S.P J g ce) (hJ : GOK J S) (h : Rel S φ σ a w) {nm : Nat} {d : Bool} (hd : d = false)
    (hh : (match d || !isBin o.op with | true => (M.execOp T Γ σ.slots σ.objs nm o.type o.op).noq | false => M.execOp T Γ σ.slots σ.objs nm o.type o.op).out k = some r) : ∃ e, k e = some r ∧ (effOk σ.objs e = true → OpOK S φ σ a w o e) := by
  subst hd
  split at hh
  · obtain ⟨e, h1, h2⟩ := Step.noq_some hh
    exact ⟨e, h2, fun hok => op_sound hT hΓ hJ h h1 hok⟩
  · rename_i hb
    rcases Step.out_some hh with ⟨e, h1, h2⟩ | ⟨n, f, h1, h2⟩
    · exact ⟨e, h2, fun hok => op_sound hT hΓ hJ h h1 hok⟩
    · cases hop : o.op with
      | binOp op xt x y yt =>
        rw [hop] at h1
        obtain ⟨b, hb, hop⟩ := op_nilq hT h hop h1
        exact ⟨f b, h2 b hb, fun _ => hop⟩
      | _ => rw [hop] at hb; simp [isBin] at hb
end
end Go.M
namespace Go.M
open Go

/-- What the proofs about code ask of a context. -/
structure CxOK (S : Start) (J : GInv) (X : Cx) : Prop where
  tf : TFacts S.P X.T
  Γ : ∀ g ce, X.Γ.get g = some ce → Sound S.P J g ce
  gok : GOK J S

theorem put_self {f : Nat → AV} {g : Nat} {x : AV} (h : f g = x) : put f g x = f := by
  funext i
  by_cases hi : i = g
  · subst hi; simp [put, h]
  · simp [put, nat_beq_false hi]

section
variable {S : Start} {φ : Nat → Pl} {σ : St} {a : Act} {w : World} {X : Cx} {J : GInv}

/-- One operation that is carried out, within its region. -/
theorem step_go (hX : CxOK S J X) (hnt : X.nt = S.nt) (h : Rel S φ σ a w) {o : Oper} {nm : Nat} {e : Eff} (he : (M.execOp X.T X.Γ σ.slots σ.objs nm o.type o.op).yields e) (hd : dstOk X.nt o.dst = true) (hok : effOk σ.objs e = true)
    {K : Act → World → Prop} {Q : Exit → Act → World → Prop} (hK : ∀ φ' a' w', Rel S φ' (σ.apply o.dst e) a' w' → K a' w') : o.wp S.P a w K Q :=
  op_sound hX.tf hX.Γ hX.gok h he hok K Q fun v w' φ' hk hv => hK φ' _ _ (h.keep hk (by rw [← hnt]; exact hd) hv σ.base)
theorem step_skip (hnt : X.nt = S.nt) (h : Rel S φ σ a w) {o : Oper} (hd : dstOk X.nt o.dst = true) : Rel S φ { σ with slots := putD σ.slots o.dst .undef } (a.put o.dst undef) w := by
  have hk := (OStep.quiet S φ σ.objs w 0).keep h.objs h.frame
  exact h.keep (x := .undef) (v := undef) hk (by rw [← hnt]; exact hd) rfl σ.base

theorem slot_bool (h : Rel S φ σ a w) {g : Nat} {b : Bool} (hs : σ.slots g = .v (.one (.bool b))) : a.tmps[g]? = some (.bool b) := by
  have := h.slots g
  rw [hs] at this
  have hv : a.tmps.getD g undef = .bool b := this
  rw [Array.getD_eq_getD_getElem?] at hv
  cases hg : a.tmps[g]? with
  | none => rw [hg] at hv; cases hv
  | some v => rw [hg] at hv; exact congrArg some hv

theorem evalOps_text {ρ : Type} {r : ρ} (hX : CxOK S J X) (hnt : X.nt = S.nt) {ops : Array Oper} {bef : List Nat} {k : St → Option ρ} {Q : Exit → Act → World → Prop} (hk : ∀ φ' σ' a' w', Rel S φ' σ' a' w' → k σ' = some r → Q .normal a' w') :
    ∀ {rest : List Oper} {i nm : Nat} {log : List Done1} {φ : Nat → Pl} {σ : St} {a : Act} {w : World}, rest = ops.toList.drop i → Rel S φ σ a w → evalOps X false bef ops.toList rest i nm log σ k = some r →
    wpOps S.P ops Q (List.range' i rest.length) a w
  | [], i, nm, log, φ, σ, a, w, _, h, he => hk φ σ a w h he
  | o :: rest, i, nm, log, φ, σ, a, w, hr, h, he => by
    have hoi : ops[i]? = some o := by
      have : ops.toList[i]? = some o := by
        have h0 : (ops.toList.drop i)[0]? = some o := by rw [← hr]; rfl
        simpa [List.getElem?_drop] using h0
      simpa using this
    have hrest : rest = ops.toList.drop (i + 1) := by
      have := congrArg List.tail hr
      simpa using this
    simp only [List.length_cons, List.range'_succ, wpOps, hoi]
    have go : ∀ {σ0 : St}, σ0 = σ → ((match false || !isBin o.op with | true => (M.execOp X.T X.Γ σ0.slots σ0.objs nm o.type o.op).noq | false => M.execOp X.T X.Γ σ0.slots σ0.objs nm o.type o.op).out fun e =>
        bif dstOk X.nt o.dst && effOk σ0.objs e && (!false || compatB (bef.getD i 0) e.reads (names1 e) log) then evalOps X false bef ops.toList rest (i + 1) (nm + 64) (⟨i, e.reads, names1 e⟩ :: log) (σ0.apply o.dst e) k else none) = some r →
        o.wp S.P a w (wpOps S.P ops Q (List.range' (i + 1) rest.length)) Q := by
      intro σ0 hσ hh
      subst hσ
      obtain ⟨e, h2, h1⟩ := op_pick hX.tf hX.Γ hX.gok h rfl hh
      cases hc : (dstOk X.nt o.dst && effOk σ0.objs e && (!false || compatB (bef.getD i 0) e.reads (names1 e) log)) with
      | false => rw [hc] at h2; cases h2
      | true =>
        rw [hc] at h2
        simp only [Bool.and_eq_true] at hc
        exact h1 hc.1.2 _ Q fun v w' φ' hkk hv => evalOps_text hX hnt hk hrest (h.keep hkk (by rw [← hnt]; exact hc.1.1) hv σ0.base) h2
    have skip : ∀ {σ0 : St}, σ0 = σ → (bif dstOk X.nt o.dst then evalOps X false bef ops.toList rest (i + 1) (nm + 64) log { σ0 with slots := putD σ0.slots o.dst .undef } k else none) = some r →
        wpOps S.P ops Q (List.range' (i + 1) rest.length) (a.put o.dst undef) w := by
      intro σ0 hσ hh
      subst hσ
      cases hc : dstOk X.nt o.dst with
      | false => rw [hc] at hh; cases hh
      | true => rw [hc] at hh; exact evalOps_text hX hnt hk hrest (step_skip hnt h hc) hh
    simp only [evalOps] at he
    cases hg : o.guard with
    | none =>
      rw [hg] at he
      rw [if_pos (by simp [Region.wanted, hg])]
      exact .inl (go rfl he)
    | some jw =>
      obtain ⟨j, want⟩ := jw
      rw [hg] at he
      simp only at he
      split at he
      · rename_i g hgd
        split at he
        · rename_i b hb
          have hy : yielded ops a.tmps j = some b := by
            have h1 : (ops[j]?).bind (·.dst) = some g := by simpa using hgd
            simp only [yielded, h1, Option.bind_some, slot_bool h hb]
          have hw : Region.wanted o (yielded ops a.tmps) = (some b == some want) := by simp [Region.wanted, hg, hy]
          have hself : ({ σ with slots := put σ.slots g (one (.bool b)) } : St) = σ := by
            rw [put_self (x := one (.bool b)) hb]
          rw [hw]
          cases b <;> cases want <;> simp only at he
          · rw [if_pos (by decide)]; exact .inl (go hself he)
          · rw [if_neg (by decide)]; exact skip hself he
          · rw [if_neg (by decide)]; exact skip hself he
          · rw [if_pos (by decide)]; exact .inl (go hself he)
        · rename_i hb
          have hy : yielded ops a.tmps j ≠ some want := by
            have h1 : (ops[j]?).bind (·.dst) = some g := by simpa using hgd
            simp only [yielded, h1, Option.bind_some]
            cases hg2 : a.tmps[g]? with
            | none => simp
            | some u =>
              have h2 := h.slots g
              rw [hb] at h2
              have h2 : a.tmps.getD g undef = undef := h2
              rw [Array.getD_eq_getD_getElem?, hg2] at h2
              have h2 : u = .tuple #[] := h2
              subst h2
              simp
          have hw : Region.wanted o (yielded ops a.tmps) = false := by
            simp only [Region.wanted, hg]
            exact beq_eq_false_iff_ne.2 hy
          rw [hw]
          exact skip rfl he
        · cases he
      · cases he
end
end Go.M
namespace Go.M
open Go

def toExit : Ex → Exit
  | .normal => .normal
  | .exit id => .exit id
  | .ret => .ret
theorem Rel.base {S : Start} {φ : Nat → Pl} {σ : St} {a : Act} {w : World} (h : Rel S φ σ a w) (n : Nat) : Rel S φ { σ with base := n } a w := ⟨h.nt, h.defers, h.slots, h.objs, h.frame⟩

/-- Keeping some slots alone, and numbering anew, keeps the relation. -/
def NormOK (S : Start) (pin : Nat) : Prop := ∀ keep φ σ a w, Rel S φ σ a w → ∃ φ', Rel S φ' (norm pin keep σ) a w
/-- What the kernel looks at once for each region that draws. -/
def regChk (ops : Array Oper) : Bool :=
  let bef := (Region.before ops).toList
  Nat.blt 0 ops.size && (List.range ops.size).all fun i => match ops[i]? with
    | none => false
    | some o => (o.after.toList.all fun e => !Region.binds .any e || Nat.blt e.on i) && (List.range i).all fun j => match ops[j]? with
      | none => false
      | some p => bif (bef.getD i 0).testBit j then o.after.toList.any fun e => Region.binds .any e && (Nat.beq e.on j || (Nat.blt j e.on && (bef.getD e.on 0).testBit j))
        else o.apart ops p
def codeChk : Code → Bool
  | .region _ ops draw => !draw || regChk ops
  | .seq a b => codeChk a && codeChk b
  | .block _ b => codeChk b
  | .loop b => codeChk b
  | .cond _ a b => codeChk a && codeChk b
  | _ => true

/-- A region whose order is drawn. -/
def DrawOK (S : Start) (X : Cx) (ops : Array Oper) : Prop := ∀ (ρ : Type) (r : ρ) (id : Nat) (k : St → Option ρ) (Q : Exit → Act → World → Prop) φ σ a w, Rel S φ σ a w →
  evalOps X true (Region.before ops).toList ops.toList ops.toList 0 σ.base [] σ k = some r → (∀ φ' σ' a' w', Rel S φ' σ' a' w' → k σ' = some r → Q .normal a' w') → (Code.region id ops true).wp S.P Q a w

theorem ev_sound {ρ : Type} {r : ρ} {S : Start} {X : Cx} {J : GInv} {pin : Nat} (hX : CxOK S J X) (hnt : X.nt = S.nt) (hN : NormOK S pin) (hD : ∀ ops, regChk ops = true → DrawOK S X ops) : ∀ (c : Code) {φ : Nat → Pl} {σ : St} {a : Act} {w : World} {k : Ex → St → Option ρ} {Q : Exit → Act → World → Prop},
    codeChk c = true → Rel S φ σ a w → ev X pin c σ k = some r → (∀ ex φ' σ' a' w', Rel S φ' σ' a' w' → k ex σ' = some r → Q (toExit ex) a' w') → c.wp S.P Q a w := by
  intro c
  induction c with
  | skip => intro φ σ a w k Q hc h he hk; exact wp_skip (hk .normal φ σ a w h he)
  | exit id => intro φ σ a w k Q hc h he hk; exact wp_exit (hk (.exit id) φ σ a w h he)
  | ret => intro φ σ a w k Q hc h he hk; exact wp_ret (hk .ret φ σ a w h he)
  | region id ops draw =>
    intro φ σ a w k Q hc h he hk
    cases draw with
    | false =>
      simp only [ev] at he
      refine wp_region ?_
      have := evalOps_text (Q := Q) hX hnt (fun φ' σ' a' w' h' hh => hk .normal φ' _ a' w' (h'.base (σ.base + 64 * ops.size)) hh) (rest := ops.toList) (i := 0) (by simp) h he
      rw [List.range_eq_range']
      simpa using this
    | true =>
      simp only [ev] at he
      exact hD ops (by simpa [codeChk] using hc) ρ r id _ Q φ σ a w h he fun φ' σ' a' w' h' hh => hk .normal φ' _ a' w' (h'.base (σ.base + 64 * ops.size)) hh
  | seq x y ihx ihy =>
    intro φ σ a w k Q hc h he hk
    simp only [ev] at he
    obtain ⟨hcx, hcy⟩ := (Bool.and_eq_true _ _).mp (by simpa only [codeChk] using hc)
    refine wp_seq (ihx hcx h he fun ex φ' σ' a' w' h' hh => ?_)
    cases ex with
    | normal => exact ihy hcy h' hh hk
    | exit id => exact hk (.exit id) φ' σ' a' w' h' hh
    | ret => exact hk .ret φ' σ' a' w' h' hh
  | cond c x y ihx ihy =>
    intro φ σ a w k Q hc h he hk
    simp only [ev] at he
    obtain ⟨hcx, hcy⟩ := (Bool.and_eq_true _ _).mp (by simpa only [codeChk] using hc)
    split at he
    · rename_i b hb
      have hc := bool_of hb (val_RAV h X.T 4 c)
      cases b with
      | true =>
        have he' : ev X pin x σ k = some r := by
          cases c with
          | tmp i => simp only at he; rw [put_self (x := one (.bool true)) hb] at he; exact he
          | _ => exact he
        exact wp_cond_true hc (ihx hcx h he' hk)
      | false =>
        have he' : ev X pin y σ k = some r := by
          cases c with
          | tmp i => simp only at he; rw [put_self (x := one (.bool false)) hb] at he; exact he
          | _ => exact he
        exact wp_cond_false hc (ihy hcy h he' hk)
    · cases he
  | block id b ih =>
    intro φ σ a w k Q hc h he hk
    simp only [ev] at he
    refine wp_block (ih (by simpa only [codeChk] using hc) h he fun ex φ' σ' a' w' h' hh => ?_)
    cases ex with
    | normal => exact hk .normal φ' σ' a' w' h' hh
    | ret => exact hk .ret φ' σ' a' w' h' hh
    | exit id' =>
      simp only [toExit, Exit.inBlock]
      simp only at hh
      cases hb : Nat.beq id' id with
      | true =>
        rw [hb] at hh
        rw [if_pos (Nat.eq_of_beq_eq_true hb)]
        exact hk .normal φ' σ' a' w' h' hh
      | false =>
        rw [hb] at hh
        rw [if_neg (fun e => by subst e; simp at hb)]
        exact hk (.exit id') φ' σ' a' w' h' hh
  | loop b ih =>
    intro φ σ a w k Q hc h he hk
    simp only [ev] at he
    obtain ⟨φ0, h0⟩ := hN (X.ann (firstRegion b)) φ σ a w h
    have rounds : ∀ n {φ σ a w}, Rel S φ σ a w → loopN pin (X.ann (firstRegion b)) (ev X pin b) n σ k = some r → Code.rounds S.P b Q n a w := by
      intro n
      induction n with
      | zero => intro φ σ a w _ he; cases he
      | succ n ihn =>
        intro φ σ a w h he
        simp only [loopN] at he
        refine ih (by simpa only [codeChk] using hc) h he fun ex φ' σ' a' w' h' hh => ?_
        cases ex with
        | normal =>
          obtain ⟨φ2, h2⟩ := hN (X.ann (firstRegion b)) φ' σ' a' w' h'
          exact ihn h2 hh
        | exit id => exact hk (.exit id) φ' σ' a' w' h' hh
        | ret => exact hk .ret φ' σ' a' w' h' hh
    exact wp_loop_rounds X.N (rounds X.N h0 he)
  | _ => intro φ σ a w k Q hc h he hk; cases he
end Go.M
namespace Go.M
open Go

theorem ArgsOK.len {w : World} {ok : Nat → Prop} {args : List Arg} {vs : List Value} {l : List (Bool × Pl)} (h : ArgsOK w ok args vs l) : vs.length = args.length := by
  induction h with
  | nil => rfl
  | cons _ _ ih => simp [ih]

/-- Arguments that lie in some world. -/
def Fits (args : List Arg) : Prop := ∃ w ok vs l, ArgsOK w ok args vs l
theorem run_sound {P : Program} {g : FuncId} {f : Func} {T : TypeId → Option TI} {Γ : Tab} {ce : Callee1} {J : GInv} (hT : TFacts P T) (hΓ : ∀ g ce, Γ.get g = some ce → Sound P J g ce) (hf : P.funcs[g]? = some f) (hname : f.name ≠ "runtime.NumGoroutine")
    (hN : ∀ S : Start, ∀ pin, (∀ o b p n, (o, b, p, n) ∈ S.boxes → o < pin) → (∀ o pl n, (o, pl, n) ∈ S.arrs → o < pin) → NormOK S pin) (hD : ∀ (S : Start) (X : Cx), S.P = P → S.nt = f.ntmps → CxOK S J { X with nt := f.ntmps } → ∀ ops, regChk ops = true → DrawOK S { X with nt := f.ntmps } ops)
    (hb : f.body.isSome = true) (hchk : (match f.body with | some c => codeChk c | none => false) = true)
    (hrun : ∀ (args : List Arg) (r : (ce.den args).α), Fits args → (ce.den args).run = some r → ∃ (X : Cx) (ρ : Type) (fin : Ret → Option ρ) (x : ρ), X.T = T ∧ X.Γ = Γ ∧ run X f args fin = some x ∧ ∀ ret, fin ret = some x → ret = (ce.den args).enc r) : Sound P J g ce := by
  refine ⟨⟨f, hf, hb, hname⟩, fun args vs l w okp r hA hs ho hJ hG hr => ?_⟩
  obtain ⟨X, ρ, fin, x, rfl, rfl, h1, h2⟩ := hrun args r ⟨w, okp, vs, l, hA⟩ hr
  obtain ⟨c, hc⟩ := Option.isSome_iff_exists.1 hb
  unfold run at h1
  rw [hc] at h1
  simp only at h1
  cases hle : Nat.ble args.length f.ntmps with
  | false => rw [hle] at h1; cases h1
  | true =>
    rw [hle] at h1
    simp only [cond_true] at h1
    have hlen := hA.len
    have hnt : f.ntmps = vs.length + (f.ntmps - vs.length) := by have := Nat.le_of_ble_eq_true hle; omega
    have hrel := entry_rel (P := P) hA hs ho f.ntmps
    refine calls_of_wp hf hc ?_
    have hX' : CxOK (startOf P w okp args l (vs.length + (f.ntmps - vs.length))) J { X with nt := f.ntmps } := ⟨hT, hΓ, hJ, fun b hb => ⟨(hG b hb).1, .inl (hG b hb).2, ho b (hG b hb).2⟩⟩
    have key := ev_sound (S := startOf P w okp args l (vs.length + (f.ntmps - vs.length))) (X := { X with nt := f.ntmps }) (pin := pinned args) (r := x) hX' hnt (hN _ _ startOf_boxes startOf_arrs) (hD _ X rfl hnt.symm hX') c
      (Q := bodyPost P f fun e w' => ∃ v, e = .returned v ∧ ExitOK w w' okp l (pinsOf args l) ((ce.den args).enc r) v) (by rw [hc] at hchk; exact hchk) hrel h1 fun ex φ' σ' a' w' h' hh => ?_
    · have hs : vs.toArray.size = vs.length := by simp
      rw [hs]
      exact key
    · have main : finish { X with nt := f.ntmps } (pinned args) f fin .ret σ' = some x → a'.defers = [] ∧ ∃ v, (results f a'.tmps).run P w' = .ok v w' ∧ ∃ v', Ending.returned v = .returned v' ∧ ExitOK w w' okp l (pinsOf args l) ((ce.den args).enc r) v' := by
        intro hh
        unfold finish at hh
        simp only at hh
        split at hh
        · rename_i xs hres
          rcases hfz : fzV X.fz 0 xs with ⟨xs', os⟩
          rw [hfz] at hh
          simp only at hh
          cases harr : arrsB σ'.objs os with
          | false => rw [harr] at hh; cases hh
          | true =>
            rw [harr] at hh
            simp only [cond_true] at hh
            split at hh
            · rename_i rvs u hval
              split at hh
              · rename_i outs hout
                obtain ⟨v, k1, k2⟩ := exit_ok hT.tok hA h' hres hfz harr hval hout
                rw [h2 _ hh] at k2
                exact ⟨h'.defers, v, k1, v, rfl, k2⟩
              · cases hh
            · cases hh
        · cases hh
      cases ex with
      | normal => exact main hh
      | ret => exact main hh
      | exit id => cases hh
end Go.M
namespace Go.M
open Go

theorem names_prefix (L : Look) : ∀ (n : Nat) (work : List C) (acc : List Nat), acc.Nodup → (names L n work acc).Nodup ∧ ∃ r, names L n work acc = acc ++ r
  | 0, work, acc, h => by cases work <;> exact ⟨h, [], by simp [names]⟩
  | n + 1, [], acc, h => ⟨h, [], by simp [names]⟩
  | n + 1, c :: work, acc, h => by
    have ext : ∀ (o : Nat) (wk : List C), acc.contains o = false → (names L n wk (acc ++ [o])).Nodup ∧ ∃ r, names L n wk (acc ++ [o]) = acc ++ r := by
      intro o wk ho
      have hn : (acc ++ [o]).Nodup := List.nodup_append.2 ⟨h, by simp, fun x hx y hy he => by
        simp at hy
        subst he hy
        simp at ho
        exact ho hx⟩
      obtain ⟨g1, r, g2⟩ := names_prefix L n wk (acc ++ [o]) hn
      exact ⟨g1, o :: r, by rw [g2]; simp⟩
    have same : ∀ wk, (names L n wk acc).Nodup ∧ ∃ r, names L n wk acc = acc ++ r := fun wk => names_prefix L n wk acc h
    cases c with
    | sl o ver off len =>
      simp only [names]
      cases cur? L o ver with
      | none => exact same _
      | some y =>
        simp only
        cases hc : acc.contains o with
        | true => exact same _
        | false => exact ext o _ hc
    | ptr o off =>
      simp only [names]
      cases hc : acc.contains o with
      | true => exact same _
      | false =>
        simp only [cond_false]
        cases L o with
        | none => exact same _
        | some y =>
          simp only
          cases y.body with
          | box cs => exact ext o _ hc
          | arr t xs => exact ext o _ hc
          | gone => exact ext o _ hc
    | fn g caps => exact same _
    | _ => exact same _

theorem idxOf?_get {l : List Nat} {o i : Nat} (h : l.idxOf? o = some i) : l[i]? = some o := by
  induction l generalizing i with
  | nil => simp at h
  | cons x r ih =>
    rw [List.idxOf?_cons] at h
    split at h
    · rename_i hx
      cases h
      have : x = o := by simpa using hx
      simp [this]
    · rw [Option.map_eq_some_iff] at h
      obtain ⟨j, hj, rfl⟩ := h
      simpa using ih hj

section
variable {S : Start} {φ : Nat → Pl} {σ : St} {a : Act} {w : World}

def renN (acc : List Nat) (o : Nat) : Option Nat := acc.idxOf? o
def normObjs (L : Look) (acc : List Nat) (pin : Nat) : Look := ofObjs (acc.map fun o => match L o with
    | some y => some (renO L (renN acc) (Nat.blt o pin) y)
    | none => none)
def normPl (φ : Nat → Pl) (acc : List Nat) : Nat → Pl := fun i => match acc[i]? with | some o => φ o | none => none

theorem normObjs_some {L : Look} {acc : List Nat} {pin i : Nat} {y' : Obj} (h : normObjs L acc pin i = some y') : ∃ o y, acc[i]? = some o ∧ L o = some y ∧ y' = renO L (renN acc) (Nat.blt o pin) y := by
  unfold normObjs ofObjs at h
  rw [List.getElem?_map] at h
  cases ha : acc[i]? with
  | none => rw [ha] at h; cases h
  | some o =>
    rw [ha] at h
    simp only [Option.map_some, Option.getD_some] at h
    cases hL : L o with
    | none => rw [hL] at h; cases h
    | some y => rw [hL] at h; cases h; exact ⟨o, y, rfl, hL, rfl⟩
theorem normObjs_at {L : Look} {acc : List Nat} {pin i o : Nat} {y : Obj} (ha : acc[i]? = some o) (hL : L o = some y) : normObjs L acc pin i = some (renO L (renN acc) (Nat.blt o pin) y) := by
  unfold normObjs ofObjs
  rw [List.getElem?_map, ha]
  simp [hL]

/-- What is readable stays so. -/
theorem norm_Ok {L : Look} {acc : List Nat} {pin b : Nat} (h : (envOf S φ L w).Ok b) : (envOf S (normPl φ acc) (normObjs L acc pin) w).Ok b :=
  ⟨h.1, fun ⟨i, y', p, h1, h2, h3⟩ => by
    obtain ⟨o, y, g1, g2, rfl⟩ := normObjs_some h1
    have h3' : normPl φ acc i = some (b, p) := h3
    simp only [normPl, g1] at h3'
    exact h.2 ⟨o, y, p, g2, h2, h3'⟩⟩

theorem ren_caps {L : Look} {acc : List Nat} {pin : Nat} : ∀ {caps l : List (Nat × Nat)} {vs : List Value}, renCaps (renN acc) caps = some l → CapsOK (envOf S φ L w) caps vs → CapsOK (envOf S (normPl φ acc) (normObjs L acc pin) w) l vs
  | [], l, vs, h, hc => by cases h; exact hc
  | c :: r, l, vs, h, hc => by
    obtain ⟨b, p, y, cs, vs', h1, h2, h3, h4, h5⟩ := hc
    simp only [renCaps] at h
    split at h
    · rename_i o' ho'
      split at h
      · rename_i l' hl'
        cases h
        have ha := idxOf?_get (l := acc) ho'
        have h1' : φ c.1 = some (b, p) := h1
        refine ⟨b, p, _, _, vs', ?_, normObjs_at ha h2, by simp only [renO, h3]; rfl, h4, ren_caps hl' h5⟩
        show normPl φ acc o' = _
        simp only [normPl, ha]
        exact h1'
      · cases h
    · cases h

theorem renC_RC {L : Look} {acc : List Nat} {pin : Nat} {c : C} {v : Value} (h : RC (envOf S φ L w) c v) : RC (envOf S (normPl φ acc) (normObjs L acc pin) w) (renC L (renN acc) c) v := by
  have mono : ∀ {d : C}, RP w (envOf S φ L w).Ok d v → RC (envOf S (normPl φ acc) (normObjs L acc pin) w) d v := fun hd => (hd.mono fun b hb => norm_Ok hb).toRC
  cases c with
  | sl o ver off len =>
    simp only [renC]
    split
    · rename_i y hy
      obtain ⟨hy0, hver⟩ := cur?_some hy
      split
      · rename_i o' ho'
        have ha := idxOf?_get (l := acc) ho'
        obtain ⟨hv, y', g1, _, g2⟩ := h
        have : y' = y := by have hh : L o = some y' := g1; rw [hy0] at hh; cases hh; rfl
        subst this
        refine ⟨hv, _, normObjs_at ha hy0, Nat.zero_le _, fun _ => ?_⟩
        have hsl : SlOK w (φ o) y'.body off len v := g2 hver
        show SlOK w (normPl φ acc o') _ off len v
        simp only [normPl, ha, renO]
        cases hb : y'.body with
        | arr t xs => rw [hb] at hsl; exact hsl
        | box cs => rw [hb] at hsl; cases hsl
        | gone => rw [hb] at hsl; cases hsl
      · trivial
    · trivial
  | ptr o off =>
    simp only [renC]
    split
    · rename_i o' ho'
      have ha := idxOf?_get (l := acc) ho'
      obtain ⟨b, p, y, cs, g1, g2, g3, g4⟩ := h
      have g1' : φ o = some (b, p) := g1
      refine ⟨b, p, _, _, ?_, normObjs_at ha g2, by simp only [renO, g3]; rfl, g4⟩
      show normPl φ acc o' = _
      simp only [normPl, ha]
      exact g1'
    · trivial
  | ep o ver wv i off t x => trivial
  | fn g caps =>
    simp only [renC]
    split
    · rename_i l hl
      obtain ⟨vs, h1, h2⟩ := h
      exact ⟨vs, ren_caps hl h1, h2⟩
    · trivial
  | rp t x off =>
    obtain ⟨b, p, h1, h2, h3⟩ := h
    exact ⟨b, p, h1, norm_Ok h2, h3.okMono fun b hb => norm_Ok hb⟩
  | tr t xs => exact mono (d := .tr t xs) h
  | _ => exact h

theorem norm_ok {pin : Nat} (hb : ∀ o b p n, (o, b, p, n) ∈ S.boxes → o < pin) (hr : ∀ o pl n, (o, pl, n) ∈ S.arrs → o < pin) : NormOK S pin := by
  intro keep φ σ a w h
  obtain ⟨hnd, r, hpre⟩ := names_prefix σ.objs 1000 ((List.range pin).flatMap (boxCells σ.objs) ++ keep.flatMap fun i => (σ.slots i).cells) (List.range pin) List.nodup_range
  generalize hacc : names σ.objs 1000 ((List.range pin).flatMap (boxCells σ.objs) ++ keep.flatMap fun i => (σ.slots i).cells) (List.range pin) = acc at hnd hpre
  have hpin : ∀ o, o < pin → acc[o]? = some o := fun o ho => by
    rw [hpre, List.getElem?_append_left (by simpa using ho), List.getElem?_range ho]
  have hobjs : (norm pin keep σ).objs = normObjs σ.objs acc pin := by rw [← hacc]; rfl
  have hslots : (norm pin keep σ).slots = ofKept (keep.map fun i => (i, renV σ.objs (renN acc) (σ.slots i))) := by rw [← hacc]; rfl
  refine ⟨normPl φ acc, h.nt, h.defers, fun i => ?_, ?_, h.frame⟩
  · rw [hobjs, hslots]
    rcases ofKept_mem (keep.map fun i => (i, renV σ.objs (renN acc) (σ.slots i))) i with hd | hm
    · rw [hd]; trivial
    · obtain ⟨i', _, he⟩ := List.mem_map.1 hm
      simp only [Prod.mk.injEq] at he
      obtain ⟨rfl, he⟩ := he
      rw [← he]
      have hs := h.slots i'
      cases hx : σ.slots i' with
      | dead => trivial
      | undef => trivial
      | tup xs => trivial
      | v x =>
        rw [hx] at hs
        cases x with
        | one c => exact renC_RC hs
        | agg cs =>
          obtain ⟨vs, h1, h2⟩ := hs
          refine ⟨vs, h1, by simp [h2.1], fun j c v hc hv => ?_⟩
          rw [List.getElem?_map, Option.map_eq_some_iff] at hc
          obtain ⟨c0, hc0, rfl⟩ := hc
          exact renC_RC (h2.2 j c0 v hc0 hv)
  · rw [hobjs]
    have hat : ∀ {i y'}, normObjs σ.objs acc pin i = some y' → ∃ o y, acc[i]? = some o ∧ σ.objs o = some y ∧ y' = renO σ.objs (renN acc) (Nat.blt o pin) y ∧ normPl φ acc i = φ o := fun hy => by
      obtain ⟨o, y, g1, g2, g3⟩ := normObjs_some hy
      exact ⟨o, y, g1, g2, g3, by simp only [normPl, g1]⟩
    refine ⟨fun i y' hy => ?_, fun i y' b p hy hp => ?_, fun i i' y y' b p p' hy hy' hf hg hp hp' => ?_, fun o b p n hm => ?_, fun o pl n hm => ?_⟩
    · obtain ⟨o, y, g1, g2, rfl, g4⟩ := hat hy
      have hobj := h.objs.ok o y g2
      unfold ObjOK at hobj ⊢
      simp only [renO]
      cases hbd : y.body with
      | gone => rw [hbd] at hobj; exact hobj
      | box cs =>
        rw [hbd] at hobj
        obtain ⟨b, p, cur, e, k1, k2, k3, k4⟩ := hobj
        refine ⟨b, p, cur, e, g4.trans k1, k2, by simpa using k3, fun j c hc => ?_⟩
        rw [List.getElem?_map, Option.map_eq_some_iff] at hc
        obtain ⟨c0, hc0, rfl⟩ := hc
        obtain ⟨v, m1, m2, m3⟩ := k4 j c0 hc0
        exact ⟨v, m1, renC_RC m2, m3⟩
      | arr t xs =>
        rw [hbd] at hobj
        rcases hobj with ⟨k1, k2⟩ | ⟨b, p, cur, e, k1, k2, k3, k4⟩
        · exact .inl ⟨g4.trans k1, k2⟩
        · exact .inr ⟨b, p, cur, e, g4.trans k1, k2, k3, fun i x hx => (k4 i x hx).okMono fun b hb => norm_Ok hb⟩
    · obtain ⟨o, y, g1, g2, rfl, g4⟩ := hat hy
      rw [g4] at hp
      exact h.objs.blk o y b p g2 hp
    · obtain ⟨o, y0, g1, g2, rfl, g4⟩ := hat hy
      obtain ⟨o', y0', k1, k2, rfl, k4⟩ := hat hy'
      rw [g4] at hp
      rw [k4] at hp'
      have hg' : y0'.body ≠ .gone := fun hgo => hg (by simp only [renO, hgo])
      have := h.objs.inj o o' y0 y0' b p p' g2 k2 hf hg' hp hp'
      subst this
      have hi := (List.getElem?_eq_some_iff.1 g1).1
      have hi' := (List.getElem?_eq_some_iff.1 k1).1
      exact (List.getElem?_inj hi hnd).1 (g1.trans k1.symm)
    · obtain ⟨g1, y, cs, g2, g3, g4, g5⟩ := h.objs.box o b p n hm
      have ha := hpin o (hb o b p n hm)
      exact ⟨by simp only [normPl, ha]; exact g1, _, cs.map (renC σ.objs (renN acc)), normObjs_at ha g2, g3, by simp only [renO, g4], by simpa using g5⟩
    · obtain ⟨y, g1, g2⟩ := h.objs.arr o pl n hm
      have ho := hr o pl n hm
      have ha := hpin o ho
      refine ⟨_, normObjs_at ha g1, fun h1 h2 => ?_⟩
      have hblt : Nat.blt o pin = true := by simp [ho]
      have happ : y.app = false := by
        have h1' : (Nat.blt o pin && y.app) = false := h1
        rw [hblt] at h1'
        simpa using h1'
      obtain ⟨k1, t, xs, k2, k3⟩ := g2 happ h2
      exact ⟨by simp only [normPl, ha]; exact k1, t, xs, by simp only [renO, k2], k3⟩
end
end Go.M
