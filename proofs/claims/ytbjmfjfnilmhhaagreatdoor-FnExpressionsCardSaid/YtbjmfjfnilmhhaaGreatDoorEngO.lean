/- A deterministic reading of Go code over plain data: a region, in the order of its text. No conditions. -/
import Derived.Test.YtbjmfjfnilmhhaaGreatDoorEngN
namespace Go.Proofs.YtbjmfjfnilmhhaaGreatDoor.Eng
open Go Go.RowKit

def siteOf (rid j : Nat) : Nat := rid * 64 + j + 1

section
variable {P : Program} {w : World} {Pf : Pfs} {ι : Plc} {st : St} {done : Nat → Prop} {a : Act}

theorem getD_put_same {ts : Array Value} {d : Nat} (u : Value) (h : d < ts.size) : (ts.setIfInBounds d u).getD d undef = u := by
  simp [Array.getD_eq_getD_getElem?, h]
theorem getD_put_ne {ts : Array Value} {d x : Nat} (u : Value) (h : x ≠ d) : (ts.setIfInBounds d u).getD x undef = ts.getD x undef := by
  simp [Array.getD_eq_getD_getElem?, Ne.symm h]

theorem wantedV_sound (hg : Good w Pf ι st done a) {ops : Array Oper} {o : Oper} {t : Bool} (h : wantedV ops st o = some t) : Region.wanted o (yielded ops a.tmps) = t := by
  unfold wantedV at h
  unfold Region.wanted
  split at h
  · cases h; rename_i hgd; rw [hgd]
  · rename_i j want hgd
    rw [hgd]
    simp only []
    split at h
    · cases h
    rename_i d hd
    have hr := hg.rep d
    split at h
    · rename_i b hb
      cases h
      rw [hb] at hr
      simp only [Rep] at hr
      have hy : yielded ops a.tmps j = some b := by
        unfold yielded
        rw [hd]
        simp only [Option.bind_some]
        rw [Array.getD_eq_getD_getElem?] at hr
        cases hx : a.tmps[d]? with
        | none => rw [hx] at hr; simp [undef] at hr
        | some v => rw [hx] at hr; simp only [Option.getD_some] at hr; rw [hr]
      rw [hy]
      cases b <;> cases want <;> rfl
    · rename_i v hnb hv
      cases h
      rw [hv] at hr
      simp only [Rep] at hr
      have hy : yielded ops a.tmps j = none := by
        unfold yielded
        rw [hd]
        simp only [Option.bind_some]
        rw [Array.getD_eq_getD_getElem?] at hr
        cases hx : a.tmps[d]? with
        | none => rfl
        | some v' =>
          rw [hx] at hr
          simp only [Option.getD_some] at hr
          subst hr
          cases v' <;> first | rfl | exact (hnb _ rfl).elim
      rw [hy]
      rfl
    · cases h

theorem Good.putT (hg : Good w Pf ι st done a) {w' : World} {ι' : Plc} (f : Fwd Pf w w' ι ι') {H' : Hp} {tk : Nat} {done' : Nat → Prop} (D' : Desc w' Pf ι' H' tk done') {dst : Option Nat} (hd : ∀ d, dst = some d → d < a.tmps.size) {x : V} {u : Value} (hr : Rep w' Pf ι' x u) :
    Good w' Pf ι' { ρ := putV st.ρ dst x, H := H', tick := tk } done' (a.put dst u) := by
  refine ⟨fun y => ?_, D', ?_⟩
  · cases dst with
    | none => exact (hg.rep y).fwd hg.desc.sub f
    | some d =>
      show Rep w' Pf ι' (if y = d then x else st.ρ y) ((a.tmps.setIfInBounds d u).getD y undef)
      by_cases e : y = d
      · subst e
        rw [if_pos rfl, getD_put_same u (hd _ rfl)]
        exact hr
      · rw [if_neg e, getD_put_ne u e]
        exact (hg.rep y).fwd hg.desc.sub f
  · cases dst <;> exact hg.defers
theorem Good.put (hg : Good w Pf ι st done a) {w' : World} {ι' : Plc} (f : Fwd Pf w w' ι ι') {H' : Hp} {done' : Nat → Prop} (D' : Desc w' Pf ι' H' st.tick done') {dst : Option Nat} (hd : ∀ d, dst = some d → d < a.tmps.size) {x : V} {u : Value} (hr : Rep w' Pf ι' x u) :
    Good w' Pf ι' { st with ρ := putV st.ρ dst x, H := H' } done' (a.put dst u) := hg.putT f D' hd hr
theorem put_size (a : Act) (dst : Option Nat) (u : Value) : (a.put dst u).tmps.size = a.tmps.size := by
  cases dst <;> simp [Act.put]

theorem Good.more (hg : Good w Pf ι st done a) {done' : Nat → Prop} (h : ∀ s, done s → done' s) : Good w Pf ι st done' a := ⟨hg.rep, hg.desc.more h, hg.defers⟩

/-- Some of what is known of the objects. -/
theorem seen_sub (dr : Dr) (ops : List Oper) (j : Nat) (fr : Nat → Bool) (H : Hp) (b : Bool) : Sub (if b then seen dr ops j fr H else fun _ => none) H := by
  intro id x hx
  split at hx
  · unfold seen at hx
    split at hx
    · split at hx
      · exact hx
      · cases hx
    · exact hx
  · cases hx

/-- One operation of a region. -/
theorem step_sound {C : Cfg} {call : CallF} (hT : TabOk P C.T) (hcall : CallOk P call) (hent : EntOk P C call) {ops : Array Oper} {rid : Nat} {dr : Dr} {j : Nat} {st' : St} {o : Oper} (ho : ops[j]? = some o)
    (hg : Good w Pf ι st done a) (hd : ¬ done (siteOf rid j)) (hN : ∀ d, o.dst = some d → d < a.tmps.size) (h : step C call ops rid dr j st o = some st')
    {K : Act → World → Prop} {Q : Exit → Act → World → Prop} (hK : ∀ w' ι' a', Fwd Pf w w' ι ι' → Good w' Pf ι' st' (fun s => done s ∨ s = siteOf rid j) a' → a'.tmps.size = a.tmps.size → K a' w') : wpOp P ops Q j K a w := by
  unfold step at h
  unfold wpOp
  rw [ho]
  simp only []
  split at h
  · cases h
  · rename_i hw
    cases h
    rw [wantedV_sound hg hw]
    simp only [Bool.false_eq_true, if_false]
    have hg' := hg.put (Fwd.refl Pf w ι) (done' := fun s => done s ∨ s = siteOf rid j) (hg.desc.more fun s h => .inl h) (dst := o.dst) hN (x := .c undef) (u := undef) (by simp only [Rep])
    exact hK w ι _ (Fwd.refl _ _ _) hg' (put_size _ _ _)
  · rename_i hw
    rw [wantedV_sound hg hw]
    simp only [if_true]
    split at h
    · cases h
    rename_i v δ hv
    split at h
    case isFalse => cases h
    cases h
    left
    refine astep_sound hT hcall hent hg (seen_sub _ _ _ _ _ _) hd hv _ Q fun u w' ι' f hr D' => ?_
    exact hK w' ι' _ f (hg.put f D' hN hr) (put_size _ _ _)

theorem Good.tick (hg : Good w Pf ι st done a) : Good w Pf ι { st with tick := st.tick + 1 } (fun _ => False) a :=
  ⟨hg.rep, ⟨hg.desc.own, fun id vr h => hg.desc.fresh id vr (by show st.tick < vr; have : st.tick + 1 < vr := h; omega), fun id _ => hg.desc.fresh id (st.tick + 1) (by omega), hg.desc.inj, hg.desc.lt, hg.desc.sub, hg.desc.glob⟩, hg.defers⟩

/-- .. or a call in place. -/
theorem stepX_sound {C : Cfg} {call : CallF} (hT : TabOk P C.T) (hcall : CallOk P call) (hent : EntOk P C call) {ops : Array Oper} {rid : Nat} {dr : Dr} {j : Nat} {st' : St} {o : Oper} (ho : ops[j]? = some o)
    (hg : Good w Pf ι st done a) (hd : ¬ done (siteOf rid j)) (hN : ∀ d, o.dst = some d → d < a.tmps.size) (h : stepX C call ops rid dr j st o = some st')
    {K : Act → World → Prop} {Q : Exit → Act → World → Prop} (hK : ∀ w' ι' a', Fwd Pf w w' ι ι' → Good w' Pf ι' st' (fun s => done s ∨ s = siteOf rid j) a' → a'.tmps.size = a.tmps.size → K a' w') : wpOp P ops Q j K a w := by
  unfold stepX at h
  split at h
  · exact step_sound hT hcall hent ho hg hd hN h hK
  split at h
  case h_2 => exact step_sound hT hcall hent ho hg hd hN h hK
  rename_i f args hinl
  split at h
  case h_2 => cases h
  rename_i v H' tick' hcl
  cases h
  unfold inlOf at hinl
  split at hinl
  case h_2 => cases hinl
  rename_i c hop
  split at hinl
  case h_2 => cases hinl
  rename_i fo hcal
  split at hinl
  case h_2 => cases hinl
  rename_i f' caps hev
  split at hinl
  case h_2 => cases hinl
  rename_i T e hb
  split at hinl
  case isFalse => cases hinl
  rename_i hgd
  simp only [Option.some.injEq, Prod.mk.injEq] at hinl
  obtain ⟨rfl, rfl⟩ := hinl
  have hgd' : o.guard = none := by simpa using hgd
  have hfo := eval_rep hg fo
  rw [hev] at hfo
  simp only [Rep] at hfo
  obtain ⟨us, hfo, hcaps⟩ := hfo
  have hB := hent.2.1 f' _ hb
  have hvals := (evals_rep hg c.args.toList).append hcaps
  have hD1 : Desc w Pf ι st.H (st.tick + 1) (fun _ => False) := hg.tick.desc
  have hcs := hent.2.2 _ _ _ _ _ _ _ hcl w Pf ι _ hvals hD1
  unfold wpOp
  rw [ho]
  simp only []
  rw [wantedV_sound (t := true) hg (by unfold wantedV; rw [hgd'])]
  simp only [if_true]
  left
  have hrun : (execOp a.eval o).run P w = .ok (.enter f' (c.args.toList.map a.eval ++ us).toArray) w := by
    unfold execOp
    rw [hop]
    simp only [resolve, hcal, hfo, Deferred.ofValue, Sem.run_bind, Sem.run_pure, Result.andThen_ok, invoke]
    rw [hB.1]
    congr 2
    apply Array.ext'
    simp
  unfold Oper.wp
  rw [hrun, Oper.upon_enter]
  refine hcs.mono ?_
  rintro e w' ⟨u, ι', rfl, f1, hr1, D1⟩
  exact hK w' ι' _ f1 (hg.putT f1 (D1.more fun _ h => h.elim) hN hr1) (put_size _ _ _)

/-- The operations from j on, in the order of the text. -/
theorem runOps_sound {C : Cfg} {call : CallF} (hT : TabOk P C.T) (hcall : CallOk P call) (hent : EntOk P C call) {ops : Array Oper} {rid : Nat} {dr : Dr} {N : Nat} (hN : ∀ o ∈ ops, ∀ d, o.dst = some d → d < N) {Q : Exit → Act → World → Prop} :
    ∀ (l : List Oper) (j : Nat) (st st' : St) (w : World) (ι : Plc) (a : Act), ops.toList.drop j = l → N ≤ a.tmps.size → Good w Pf ι st (fun s => ∀ k, j ≤ k → s ≠ siteOf rid k) a → runOps C call ops rid dr j l st = some st' →
      (∀ w' ι' a', Fwd Pf w w' ι ι' → Good w' Pf ι' st' (fun _ => True) a' → a'.tmps.size = a.tmps.size → Q .normal a' w') → wpOps P ops Q (List.range' j l.length) a w
  | [], j, st, st', w, ι, a, hl, hsz, hg, h, hQ => by
    simp only [runOps] at h
    cases h
    exact hQ w ι a (Fwd.refl _ _ _) (hg.more fun _ _ => trivial) rfl
  | o :: l, j, st, st', w, ι, a, hl, hsz, hg, h, hQ => by
    simp only [runOps] at h
    split at h
    · cases h
    rename_i st1 h1
    have hj : ops[j]? = some o := by
      have := congrArg List.head? hl
      rw [List.head?_drop] at this
      simpa using this
    rw [List.length_cons, List.range'_succ, wpOps_cons]
    refine stepX_sound hT hcall hent hj hg (fun hx => hx j (Nat.le_refl _) rfl) (fun d hd => Nat.lt_of_lt_of_le (hN o (Array.mem_of_getElem? hj) d hd) hsz) h1 fun w' ι' a' f hg' hsz' => ?_
    refine runOps_sound hT hcall hent hN l (j + 1) st1 st' w' ι' a' ?_ (by omega) (hg'.more ?_) h fun w2 ι2 a2 f2 hg2 hs2 => hQ w2 ι2 a2 (f.trans f2) hg2 (by omega)
    · have := congrArg List.tail hl
      rw [List.tail_drop] at this
      simpa using this
    · intro s hs k hk
      rcases hs with hs | hs
      · exact hs k (by omega)
      · rw [hs]; unfold siteOf; omega

theorem region_text {C : Cfg} {call : CallF} (hT : TabOk P C.T) (hcall : CallOk P call) (hent : EntOk P C call) {ops : Array Oper} {rid rid' : Nat} {N : Nat} (hN : ∀ o ∈ ops, ∀ d, o.dst = some d → d < N) {Q : Exit → Act → World → Prop}
    {st' : St} (hsz : N ≤ a.tmps.size) (hg : Good w Pf ι st (fun _ => False) a) (h : runOps C call ops rid' none 0 ops.toList st = some st')
    (hQ : ∀ w' ι' a', Fwd Pf w w' ι ι' → Good w' Pf ι' { st' with tick := st'.tick + 1 } (fun _ => False) a' → a'.tmps.size = a.tmps.size → Q .normal a' w') : (Code.region rid ops false).wp P Q a w := by
  refine wp_region ?_
  have := runOps_sound (P := P) (Q := Q) hT hcall hent hN ops.toList 0 st st' w ι a (by simp) hsz (hg.more fun _ h => h.elim) h fun w' ι' a' f hg' hs' => hQ w' ι' a' f hg'.tick hs'
  rw [List.range_eq_range']
  simpa using this
end
end Go.Proofs.YtbjmfjfnilmhhaaGreatDoor.Eng
