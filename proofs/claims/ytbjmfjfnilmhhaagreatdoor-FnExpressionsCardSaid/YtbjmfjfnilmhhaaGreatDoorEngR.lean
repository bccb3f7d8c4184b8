/- A deterministic reading of Go code over plain data: whole functions. No conditions. -/
import Derived.Test.YtbjmfjfnilmhhaaGreatDoorEngQ
namespace Go.Proofs.YtbjmfjfnilmhhaaGreatDoor.Eng
open Go Go.RowKit

def chk (wr : FuncId → Bool) (keep : Nat → List Nat) (N : Nat) : Code → Bool
  | .region id ops draw => (ops.all fun o => match o.dst with | some d => decide (d < N) | none => true) && (!draw || orderOk wr (pairs (keep (1000 + id))) ops)
  | .seq a b => chk wr keep N a && chk wr keep N b
  | .cond _ a b => chk wr keep N a && chk wr keep N b
  | .block _ a => chk wr keep N a
  | .loop a => chk wr keep N a
  | _ => true

def Ex.out : Ex → Exit
  | .nrm => .normal
  | .ex id => .exit id
  | .ret => .ret

section
variable {P : Program} {Pf : Pfs}

def LoopFrom (P : Program) (c : Code) (Q : Exit → Act → World → Prop) (a : Act) (w : World) : Prop :=
  ∀ (b : Frame) (k : List Item) (cs : List Frame), ∃ e a' w', Q e a' w' ∧ Arrives P (lone (b.at a (.code c :: .inLoop c :: k)) cs w) b k cs e a' w'
theorem loop_of {c : Code} {Q : Exit → Act → World → Prop} {a : Act} {w : World} (h : LoopFrom P c Q a w) : (Code.loop c).wp P Q a w := by
  intro b k cs
  obtain ⟨e, a', w', hq, harr⟩ := h b k cs
  exact ⟨e, a', w', hq, .of_steps (.one step_loop) harr⟩
theorem loopFrom_round {c : Code} {Q : Exit → Act → World → Prop} {a : Act} {w : World} (h : c.wp P (Exit.then (LoopFrom P c Q) Q) a w) : LoopFrom P c Q a w := by
  intro b k cs
  obtain ⟨e, a₁, w₁, hq, harr⟩ := h b (.inLoop c :: k) cs
  cases e with
  | normal =>
    obtain ⟨e₂, a₂, w₂, hq₂, harr₂⟩ := hq b k cs
    exact ⟨e₂, a₂, w₂, hq₂, .of_steps (Steps.trans harr (.one step_inLoop)) harr₂⟩
  | exit id => exact ⟨_, a₁, w₁, hq, .pass (x := .inLoop c) rfl (fun _ _ => .inl (by simp)) harr⟩
  | goto l => exact ⟨_, a₁, w₁, hq, .pass (x := .inLoop c) rfl (fun _ _ => .inl (by simp)) harr⟩
  | ret => exact ⟨_, a₁, w₁, hq, .pass (x := .inLoop c) rfl (fun _ _ => .inl (by simp)) harr⟩
  | panic ch => exact ⟨_, a₁, w₁, hq, .pass (x := .inLoop c) rfl (fun _ _ => .inl (by simp)) harr⟩
  | outgrown => exact ⟨_, a₁, w₁, hq, .pass (x := .inLoop c) rfl (fun _ _ => .inl (by simp)) harr⟩

theorem good_gc {w : World} {ι : Plc} {st : St} {done : Nat → Prop} {a : Act} (hg : Good w Pf ι st done a) (l : List Nat) : Good w Pf ι (gc l st) done a := by
  have hsub : ∀ id x, (gc l st).H id = some x → st.H id = some x := by
    intro id x hx
    simp only [Eng.gc] at hx
    split at hx
    · exact hx
    · cases hx
  refine ⟨fun x => ?_, ⟨fun id vr o h => hg.desc.own id vr o (hsub _ _ h), hg.desc.fresh, hg.desc.fresh', fun id vr o id' vr' o' g t t' h1 h2 => hg.desc.inj id vr o id' vr' o' g t t' (hsub _ _ h1) (hsub _ _ h2), hg.desc.lt, hg.desc.sub, hg.desc.glob⟩, hg.defers⟩
  simp only [Eng.gc]
  split
  · exact hg.rep x
  · simp only [Rep]

theorem runCode_sound {C : Cfg} {call : CallF} (hm : P.follows .mixedOrders = true) (hT : TabOk P C.T) (hcall : CallOk P call) (hent : EntOk P C call) {N kk : Nat} {keep : Nat → List Nat} :
    ∀ (code : Code) (_ : chk C.wr keep N code = true) (n : Nat) (st : St) (e : Ex) (st' : St) (_ : runCode C call kk keep code n st = some (e, st')) (w : World) (ι : Plc) (a : Act) (_ : N ≤ a.tmps.size) (_ : Good w Pf ι st (fun _ => False) a) (Q : Exit → Act → World → Prop)
      (_ : ∀ w' ι' a', Fwd Pf w w' ι ι' → Good w' Pf ι' st' (fun _ => False) a' → a'.tmps.size = a.tmps.size → Q e.out a' w'), code.wp P Q a w
  | .skip, _, n, st, e, st', h, w, ι, a, hsz, hg, Q, hQ => by
    simp only [runCode] at h
    cases h
    exact wp_skip (hQ w ι a (Fwd.refl _ _ _) hg rfl)
  | .region id ops draw, hc, n, st, e, st', h, w, ι, a, hsz, hg, Q, hQ => by
    simp only [runCode] at h
    simp only [chk, Bool.and_eq_true, Bool.or_eq_true, Bool.not_eq_true'] at hc
    have hN : ∀ o ∈ ops, ∀ d, o.dst = some d → d < N := by
      intro o ho d hd
      have := Array.all_eq_true_iff_forall_mem.1 hc.1 o ho
      rw [hd] at this
      simpa using this
    split at h
    · cases h
    rename_i st1 h1
    cases h
    cases draw with
    | false =>
      simp only [Bool.false_eq_true, if_false] at h1
      exact region_text hT hcall hent hN hsz hg h1 hQ
    | true =>
      simp only [if_true] at h1
      exact region_open hm hT hcall hent hN (hc.2.resolve_left (by decide)) hsz hg h1 hQ
  | .seq x y, hc, n, st, e, st', h, w, ι, a, hsz, hg, Q, hQ => by
    simp only [runCode] at h
    simp only [chk, Bool.and_eq_true] at hc
    split at h
    · rename_i st1 h1
      refine wp_seq (runCode_sound hm hT hcall hent x hc.1 n st .nrm st1 h1 w ι a hsz hg _ fun w' ι' a' f hg' hs' => ?_)
      exact runCode_sound hm hT hcall hent y hc.2 _ st1 e st' h w' ι' a' (by omega) hg' Q fun w2 ι2 a2 f2 hg2 hs2 => hQ w2 ι2 a2 (f.trans f2) hg2 (by omega)
    · rename_i r hr
      refine wp_seq (runCode_sound hm hT hcall hent x hc.1 n st e st' h w ι a hsz hg _ fun w' ι' a' f hg' hs' => ?_)
      have := hQ w' ι' a' f hg' hs'
      cases e with
      | nrm => exact (hr st' h).elim
      | ex id => exact this
      | ret => exact this
  | .cond c x y, hc, n, st, e, st', h, w, ι, a, hsz, hg, Q, hQ => by
    simp only [runCode] at h
    simp only [chk, Bool.and_eq_true] at hc
    split at h
    · rename_i t ht
      have hr := eval_rep hg c
      rw [ht] at hr
      simp only [Rep] at hr
      refine wp_cond hr ?_
      cases t with
      | true => exact runCode_sound hm hT hcall hent x hc.1 n st e st' h w ι a hsz hg Q hQ
      | false => exact runCode_sound hm hT hcall hent y hc.2 _ st e st' h w ι a hsz hg Q hQ
    · cases h
  | .block id x, hc, n, st, e, st', h, w, ι, a, hsz, hg, Q, hQ => by
    simp only [runCode] at h
    simp only [chk] at hc
    split at h
    · rename_i id' st1 h1
      refine wp_block (runCode_sound hm hT hcall hent x hc n st (.ex id') st1 h1 w ι a hsz hg _ fun w' ι' a' f hg' hs' => ?_)
      show if id' = id then Q .normal a' w' else Q (.exit id') a' w'
      split at h
      · rename_i he
        cases h
        rw [if_pos he]
        exact hQ w' ι' a' f hg' hs'
      · rename_i he
        cases h
        rw [if_neg he]
        exact hQ w' ι' a' f hg' hs'
    · rename_i r hr
      refine wp_block (runCode_sound hm hT hcall hent x hc n st e st' h w ι a hsz hg _ fun w' ι' a' f hg' hs' => ?_)
      have := hQ w' ι' a' f hg' hs'
      cases e with
      | nrm => exact this
      | ex id' => exact (hr id' st' h).elim
      | ret => exact this
  | .loop x, hc, n, st, e, st', h, w, ι, a, hsz, hg, Q, hQ => by
    simp only [runCode] at h
    simp only [chk] at hc
    refine loop_of ?_
    have key : ∀ (k : Nat) (st : St) (w : World) (ι : Plc) (a : Act), N ≤ a.tmps.size → Good w Pf ι st (fun _ => False) a → loopRun (fun st => runCode C call kk keep x (n + 1) st) (keep n) k st = some (e, st') →
        (∀ w' ι' a', Fwd Pf w w' ι ι' → Good w' Pf ι' st' (fun _ => False) a' → a'.tmps.size = a.tmps.size → Q e.out a' w') → LoopFrom P x Q a w := by
      intro k
      induction k with
      | zero => intro st w ι a _ _ h; simp [loopRun] at h
      | succ k ih =>
        intro st w ι a hsz hg h hQ
        simp only [loopRun] at h
        refine loopFrom_round ?_
        split at h
        · rename_i st1 h1
          refine runCode_sound hm hT hcall hent x hc (n + 1) (Eng.gc (keep n) st) .nrm st1 h1 w ι a hsz (good_gc hg _) _ fun w' ι' a' f hg' hs' => ?_
          exact ih st1 w' ι' a' (by omega) hg' h fun w2 ι2 a2 f2 hg2 hs2 => hQ w2 ι2 a2 (f.trans f2) hg2 (by omega)
        · rename_i r hr
          refine runCode_sound hm hT hcall hent x hc (n + 1) (Eng.gc (keep n) st) e st' h w ι a hsz (good_gc hg _) _ fun w' ι' a' f hg' hs' => ?_
          have := hQ w' ι' a' f hg' hs'
          cases e with
          | nrm => exact (hr st' h).elim
          | ex id => exact this
          | ret => exact this
    exact key kk st w ι a hsz hg h hQ
  | .exit id, _, n, st, e, st', h, w, ι, a, hsz, hg, Q, hQ => by
    simp only [runCode] at h
    cases h
    exact wp_exit (hQ w ι a (Fwd.refl _ _ _) hg rfl)
  | .label l, _, n, st, e, st', h, w, ι, a, hsz, hg, Q, hQ => by
    simp only [runCode] at h
    cases h
    exact wp_label (hQ w ι a (Fwd.refl _ _ _) hg rfl)
  | .ret, _, n, st, e, st', h, w, ι, a, hsz, hg, Q, hQ => by
    simp only [runCode] at h
    cases h
    exact wp_ret (hQ w ι a (Fwd.refl _ _ _) hg rfl)
  | .rangeFunc .., _, n, st, e, st', h, _, _, _, _, _, _, _ => by simp [runCode] at h
  | .scope .., _, n, st, e, st', h, _, _, _, _, _, _, _ => by simp [runCode] at h
  | .goto .., _, n, st, e, st', h, _, _, _, _, _, _, _ => by simp [runCode] at h
  | .refuse .., _, n, st, e, st', h, _, _, _, _, _, _, _ => by simp [runCode] at h

/-- What a library function comes to. -/
def ExtOk (P : Program) (f : FuncId) (m : List V → Option (V × List Obj)) : Prop :=
  Enters P f ∧ ∀ args v objs, m args = some (v, objs) → ∀ (w : World) (Pf : Pfs) (ι : Plc) (vals : List Value), Reps w Pf ι args vals → Desc w Pf ι (fun _ => none) 1 (fun _ => False) →
    Calls P f vals.toArray w fun e w' => ∃ u ι' tick done, e = .returned u ∧ Fwd Pf w w' ι ι' ∧ Rep w' Pf ι' v u ∧ Desc w' Pf ι' (hpOf [] objs) tick done

structure CfgOk (P : Program) (C : Cfg) : Prop where
  mixed : P.follows .mixedOrders = true
  tab : TabOk P C.T
  fn : ∀ f fn, C.fn f = some fn → P.funcs[f]? = some fn ∧ Enters P f ∧ ∀ c, fn.body = some c → chk C.wr (C.keep f) fn.ntmps c = true
  ext : ∀ f m, C.ext f = some m → ExtOk P f m
  bld : ∀ f k, C.bld f = some k → BldOk P f k

def resS (tmps : Array Value) : ResultVar → Sem Value
  | .tmp t => pure (tmps.getD t undef)
  | .cell p t => do loadVar t (← asAddr (tmps.getD p undef))
theorem results_eq (fn : Func) (tmps : Array Value) : results fn tmps = (do let vs ← fn.results.mapM (resS tmps); pure (if h : vs.size = 1 then vs[0] else .tuple vs)) := by
  unfold results
  congr 1
theorem enters_mk {P : Program} {f : FuncId} {fn : Func} (h : P.funcs[f]? = some fn) (hb : fn.body.isSome = true) (hn : (fn.name == "runtime.NumGoroutine") = false) : Enters P f := by
  intro args w
  have hb' : fn.body.isNone = false := by cases hx : fn.body with | none => rw [hx] at hb; cases hb | some _ => rfl
  unfold callFunc
  simp only [Sem.run_bind, run_program, Result.andThen_ok, h, hn, hb', Bool.false_eq_true, if_false, Sem.run_pure]
theorem TiOk.of_info {P : Program} {t : TypeId} {z : Value} {size bytes : Nat} {zs : List Value} (h : (P.info? t).map (fun i => (i.zero, i.size, i.bytes)) = some (some z, size, bytes)) (hz : z.cells.toList = zs) :
    ∃ inf z, P.info? t = some inf ∧ inf.size = size ∧ inf.bytes = bytes ∧ inf.zero = some z ∧ z.cells.toList = zs := by
  obtain ⟨inf, h1, h2⟩ := Option.map_eq_some_iff.1 h
  simp only [Prod.mk.injEq] at h2
  exact ⟨inf, z, h1, h2.2.1, h2.2.2, h2.1, hz⟩
theorem TiOk.of_struct {P : Program} {t : TypeId} {fields : Array Field} {fs : List (Nat × Nat × Bool)} (h : P.underlying t = some (.struct fields))
    (hf : fields.toList.map (fun f => (f.offset, (P.info? f.type).map (·.size), (P.underlying f.type).map aggD)) = fs.map (fun q => (q.1, some q.2.1, some q.2.2))) :
    ∃ fields : Array Field, P.underlying t = some (.struct fields) ∧ fields.size = fs.length ∧
        ∀ (j off sz : Nat) (ag : Bool), fs[j]? = some (off, sz, ag) → ∃ f : Field, fields[j]? = some f ∧ f.offset = off ∧ (∃ inf, P.info? f.type = some inf ∧ inf.size = sz) ∧ ∃ d, P.underlying f.type = some d ∧ aggD d = ag := by
  have hl := congrArg List.length hf
  simp only [List.length_map, Array.length_toList] at hl
  refine ⟨fields, h, hl, fun j off sz ag hj => ?_⟩
  have hj' : j < fields.size := by have := (List.getElem?_eq_some_iff.1 hj).1; omega
  have h1 := congrArg (·[j]?) hf
  simp only [List.getElem?_map, hj, Option.map_some] at h1
  have h2 : fields.toList[j]? = some fields[j] := by simp [hj']
  rw [h2] at h1
  simp only [Option.map_some, Option.some.injEq, Prod.mk.injEq] at h1
  obtain ⟨a1, a2, a3⟩ := h1
  obtain ⟨inf, b1, b2⟩ := Option.map_eq_some_iff.1 a2
  obtain ⟨d, c1, c2⟩ := Option.map_eq_some_iff.1 a3
  exact ⟨fields[j], by simp [hj'], a1, ⟨inf, b1, b2⟩, d, c1, c2⟩
theorem resV_sound {T : Tab} (hT : TabOk P T) {w : World} {ι : Plc} {st : St} {done : Nat → Prop} {a : Act} (hg : Good w Pf ι st done a) {r : ResultVar} {x : V} (h : resV T st r = some x) :
    ∃ u, (resS a.tmps r).run P w = .ok u w ∧ Rep w Pf ι x u := by
  cases r with
  | tmp t =>
    simp only [resV] at h
    cases h
    exact ⟨_, rfl, hg.rep t⟩
  | cell p t =>
    simp only [resV] at h
    obtain ⟨r, h1, h2⟩ := loadV_sound (P := P) hT (fun _ _ h => h) hg.desc h (hg.rep p)
    refine ⟨r, ?_, h2⟩
    have hp : ∃ ad, a.tmps.getD p undef = .pointer (some ad) := by
      have hr := hg.rep p
      unfold loadV at h
      split at h
      · cases h
      split at h
      · rename_i hx; rw [hx] at hr; simp only [Rep] at hr; obtain ⟨g, t, _, he⟩ := hr; exact ⟨_, he⟩
      · rename_i hx; rw [hx] at hr; simp only [Rep] at hr; obtain ⟨ad, he, _⟩ := hr; exact ⟨_, he⟩
      · cases h
    obtain ⟨ad, he⟩ := hp
    rw [he] at h1
    simp only [Instr.loadAt, Sem.run_bind, run_sureAddr, Result.andThen_ok] at h1
    simp only [resS, he, asAddr, Sem.run_bind, Sem.run_pure, Result.andThen_ok]
    exact h1
theorem resL_sound {T : Tab} (hT : TabOk P T) {w : World} {ι : Plc} {st : St} {done : Nat → Prop} {a : Act} (hg : Good w Pf ι st done a) : ∀ (rs : List ResultVar) (xs : List V), mapO (resV T st) rs = some xs →
    ∃ us, (rs.mapM (resS a.tmps)).run P w = .ok us w ∧ Reps w Pf ι xs us
  | [], xs, h => by simp only [mapO] at h; cases h; exact ⟨[], by simp, by simp [Reps]⟩
  | r :: rs, xs, h => by
    simp only [mapO] at h
    split at h
    · cases h
    rename_i y hy
    split at h
    · cases h
    rename_i l hl
    cases h
    obtain ⟨u, h1, h2⟩ := resV_sound (P := P) hT hg hy
    obtain ⟨us, h3, h4⟩ := resL_sound hT hg rs l hl
    refine ⟨u :: us, ?_, by simp only [Reps]; exact ⟨u, us, rfl, h2, h4⟩⟩
    rw [List.mapM_cons, Sem.run_bind, h1, Result.andThen_ok, Sem.run_bind, h3, Result.andThen_ok, Sem.run_pure]

theorem results_sound {T : Tab} (hT : TabOk P T) {w : World} {ι : Plc} {st : St} {done : Nat → Prop} {a : Act} (hg : Good w Pf ι st done a) {fn : Func} {x : V} (h : resultsV T st fn.results.toList = some x) :
    ∃ u, (results fn a.tmps).run P w = .ok u w ∧ Rep w Pf ι x u := by
  have key : ∀ us : List Value, (fn.results.toList.mapM (resS a.tmps)).run P w = .ok us w →
      (results fn a.tmps).run P w = .ok (if h : us.toArray.size = 1 then us.toArray[0] else .tuple us.toArray) w := by
    intro us hus
    rw [results_eq, Array.mapM_eq_mapM_toList]
    simp only [Sem.run_bind, Sem.run_map]
    rw [hus]
    simp
  unfold resultsV at h
  split at h
  · rename_i r hr
    obtain ⟨u, h1, h2⟩ := resV_sound (P := P) hT hg h
    refine ⟨u, ?_, h2⟩
    have := key [u] (by rw [hr, List.mapM_cons, Sem.run_bind, h1]; simp)
    simpa using this
  · rename_i hr
    obtain ⟨xs, hxs, rfl⟩ := Option.map_eq_some_iff.1 h
    obtain ⟨us, h1, h2⟩ := resL_sound (P := P) hT hg _ xs hxs
    refine ⟨.tuple us.toArray, ?_, by simp only [Rep]; exact ⟨us, rfl, h2⟩⟩
    rw [key us h1, dif_neg]
    intro hs
    have hl := h2.length
    have hl2 := (mapO_get hxs).1
    simp only [List.size_toArray] at hs
    have : fn.results.toList.length = 1 := by omega
    obtain ⟨r, hr1⟩ := List.length_eq_one_iff.1 this
    exact hr r hr1

theorem hpOf_cases {after : List (Option Obj)} {objs : List Obj} {i vr : Nat} {o : Obj} (h : hpOf after objs i = some (vr, o)) :
    (i < after.length ∧ vr = 0 ∧ after[i]? = some (some o)) ∨ (¬ i < after.length ∧ vr = 2 ∧ objs[i - after.length]? = some o) := by
  unfold hpOf at h
  split at h
  · rename_i hi
    split at h
    · rename_i o' ho
      cases h
      exact .inl ⟨hi, rfl, ho⟩
    · cases h
  · rename_i hi
    obtain ⟨o', h1, h2⟩ := Option.map_eq_some_iff.1 h
    cases h2
    exact .inr ⟨hi, rfl, h1⟩

theorem export_sound {w : World} {ι ι0 : Plc} {H : Hp} {tick : Nat} {done : Nat → Prop} (D : Desc w Pf ι H tick done) (h0 : ∀ id vr x, ι0 id vr = some x → ι id vr = some x) (hf : ∀ id vr, 1 < vr → ι0 id vr = none) {n : Nat} {v v' : V} {Hc : Hp} {u : Value} (hr : Rep w Pf ι v u) (h : exportV n v H = some (v', Hc)) :
    ∃ ι', (∀ id vr x, ι0 id vr = some x → ι' id vr = some x) ∧ Rep w Pf ι' v' u ∧ Desc w Pf ι' Hc 3 (fun _ => False) := by
  unfold exportV at h
  simp only [] at h
  generalize hA : ((List.range n).map fun i => find H i 0) = after at h
  generalize hPl : (refs v ++ refsR after).filter (fun q => !isRoot n q) = pulled at h
  split at h
  case isFalse => cases h
  rename_i hpn
  split at h
  case h_2 => cases h
  rename_i objs v1 after' hobjs hv hafter'
  cases h
  let ι' : Plc := fun id vr => if 3 ≤ vr then none else if vr = 2 then (pulled[id - n]?).bind (fun q => if id < n then none else ι q.1 q.2) else if vr = 0 then ι id 0 else ι0 id vr
  have hι0 : ∀ id vr x, ι0 id vr = some x → ι' id vr = some x := by
    intro id vr x hx
    have hvr : vr ≤ 1 := by
      rcases Nat.lt_or_ge 1 vr with h | h
      · rw [hf id vr h] at hx; cases hx
      · exact h
    show (if 3 ≤ vr then none else if vr = 2 then _ else if vr = 0 then ι id 0 else ι0 id vr) = _
    rw [if_neg (by omega), if_neg (by omega)]
    split
    · rename_i hv0; subst hv0; exact h0 _ _ _ hx
    · exact hx
  have hz : ∀ id, ι' id 0 = ι id 0 := fun id => rfl
  have hnew : ∀ (i : Nat) (q : Nat × Nat), pulled[i]? = some q → ι' (n + i) 2 = ι q.1 q.2 := by
    intro i q hi
    show (if 3 ≤ 2 then none else if 2 = 2 then (pulled[n + i - n]?).bind (fun q => if n + i < n then none else ι q.1 q.2) else _) = _
    rw [if_neg (by omega), if_pos rfl, show n + i - n = i by omega, hi]
    show (if n + i < n then none else ι q.1 q.2) = _
    rw [if_neg (by omega)]
  have hφ : ∀ id vr q, xi n pulled id vr = some q → ι' q.1 q.2 = ι id vr := by
    intro id vr q hq
    unfold xi at hq
    split at hq
    · rename_i hro
      cases hq
      simp only [isRoot, Bool.and_eq_true, decide_eq_true_eq, beq_iff_eq] at hro
      rw [hro.2]
      exact hz id
    · obtain ⟨i, hi, rfl⟩ := Option.map_eq_some_iff.1 hq
      exact hnew i _ (idx_some hi)
  have hal : after'.length = n := by rw [(mapO_get hafter').1, ← hA]; simp
  have hold : ∀ (i : Nat) (o : Obj), after'[i]? = some (some o) → ∃ o1, H i = some (0, o1) ∧ renO (xi n pulled) o1 = some o := by
    intro i o hi
    have hin : i < after.length := by have := (List.getElem?_eq_some_iff.1 hi).1; rw [(mapO_get hafter').1] at this; exact this
    obtain ⟨y, h1, h2⟩ := (mapO_get hafter').2 i _ (List.getElem?_eq_getElem hin)
    rw [hi] at h1; cases h1
    have hx : after[i]? = some after[i] := List.getElem?_eq_getElem hin
    generalize after[i] = x at h2 hx
    subst hA
    rw [List.getElem?_map] at hx
    obtain ⟨k, hk, rfl⟩ := Option.map_eq_some_iff.1 hx
    obtain ⟨hk1, hk2⟩ := List.getElem?_eq_some_iff.1 hk
    simp only [List.getElem_range] at hk2
    subst hk2
    cases hfi : find H i 0 with
    | none => rw [hfi] at h2; simp [renQ] at h2
    | some o1 =>
      rw [hfi] at h2
      simp only [renQ] at h2
      split at h2
      · cases h2
      · rename_i o' ho'
        simp only [Option.some.injEq] at h2
        subst h2
        exact ⟨o1, find_some hfi, ho'⟩
  have hnewo : ∀ (i : Nat) (o : Obj), objs[i]? = some o → ∃ q : Nat × Nat, pulled[i]? = some q ∧ H q.1 = some (q.2, o) ∧ o.fl = true := by
    intro i o hi
    have hin : i < pulled.length := by have := (List.getElem?_eq_some_iff.1 hi).1; rw [(mapO_get hobjs).1] at this; exact this
    obtain ⟨y, h1, h2⟩ := (mapO_get hobjs).2 i _ (List.getElem?_eq_getElem hin)
    rw [hi] at h1; cases h1
    exact ⟨_, List.getElem?_eq_getElem hin, (flatAt_some h2).1, (flatAt_some h2).2⟩
  have src : ∀ (i vr : Nat) (o : Obj) (g t : Nat), hpOf after' objs i = some (vr, o) → ι' i vr = some (g, t) → ∃ (j : Nat) (vj : Nat) (o1 : Obj), H j = some (vj, o1) ∧ ι j vj = some (g, t) ∧ ((i < n ∧ j = i ∧ vj = 0) ∨ (¬ i < n ∧ pulled[i - n]? = some (j, vj))) := by
    intro i vr o g t hi hg
    rcases hpOf_cases hi with ⟨h1, rfl, h2⟩ | ⟨h1, rfl, h2⟩
    · obtain ⟨o1, h3, _⟩ := hold i o h2
      exact ⟨i, 0, o1, h3, hg, .inl ⟨by omega, rfl, rfl⟩⟩
    · obtain ⟨q, h3, h4, _⟩ := hnewo _ o h2
      have hin : i = n + (i - after'.length) := by omega
      rw [hin, hnew _ q h3] at hg
      exact ⟨q.1, q.2, o, h4, hg, .inr ⟨by omega, by rw [hal] at h3; exact h3⟩⟩
  refine ⟨ι', hι0, ren_sound (fun _ _ h => h) hφ v v' u hv hr, ⟨?_, ?_, ?_, ?_, D.lt, D.sub, D.glob⟩⟩
  · intro i vr o hi
    rcases hpOf_cases hi with ⟨h1, rfl, h2⟩ | ⟨h1, rfl, h2⟩
    · obtain ⟨o1, h3, h4⟩ := hold i o h2
      have ow := D.own _ _ _ h3
      exact ow.ren h4 (hz i) (.inr ⟨Pf, fun _ h => h, fun _ _ h => h⟩) hφ (fun g t hg hp => by
        obtain ⟨g', t', cur, xs, k1, ⟨fz, k2, hfz⟩, k3, k4, k5, k6⟩ := ow.ex
        rw [hg] at k1; cases k1
        exact k6 hp)
    · obtain ⟨q, h3, h4, h5⟩ := hnewo _ o h2
      have ow := D.own _ _ _ h4
      have hin : i = n + (i - after'.length) := by omega
      rw [hin]
      exact ow.ren (φ := xi n pulled) (by unfold renO; rw [if_pos h5]) (hnew _ q h3) (.inl h5) hφ (fun g t hg hp => by
        obtain ⟨g', t', cur, xs, k1, ⟨fz, k2, hfz⟩, k3, k4, k5, k6⟩ := ow.ex
        rw [hg] at k1; cases k1
        exact k6 hp)
  · intro id vr hvr
    show (if 3 ≤ vr then none else _) = _
    rw [if_pos (by omega)]
  · intro id _
    show (if 3 ≤ 3 then none else _) = _
    rw [if_pos (by omega)]
  · intro i vr o i' vr' o' g t t' h1 h2 h3 h4
    obtain ⟨j, vj, o1, a1, a2, a3⟩ := src _ _ _ _ _ h1 h3
    obtain ⟨j', vj', o2, b1, b2, b3⟩ := src _ _ _ _ _ h2 h4
    have hj := D.inj _ _ _ _ _ _ _ _ _ a1 b1 a2 b2
    subst hj
    rw [a1] at b1
    simp only [Option.some.injEq, Prod.mk.injEq] at b1
    have hpr : ∀ (k : Nat) (q : Nat × Nat), pulled[k]? = some q → isRoot n q = false := by
      intro k q hk
      have := List.mem_of_getElem? hk
      rw [← hPl, List.mem_filter] at this
      simpa using this.2
    rcases a3 with ⟨c1, c2, c3⟩ | ⟨c1, c2⟩ <;> rcases b3 with ⟨d1, d2, d3⟩ | ⟨d1, d2⟩
    · omega
    · exfalso
      have hx := hpr _ _ d2
      have h7 : j < n := by omega
      have h8 : vj' = 0 := by omega
      simp [isRoot, h7, h8] at hx
    · exfalso
      have hx := hpr _ _ c2
      have h7 : j < n := by omega
      have h8 : vj = 0 := by omega
      simp [isRoot, h7, h8] at hx
    · have := nodup_inj hpn (i - n) (i' - n) j (by rw [List.getElem?_map, c2]; rfl) (by rw [List.getElem?_map, d2]; rfl)
      omega

theorem callK_sound {C : Cfg} (hC : CfgOk P C) : ∀ (k : Nat), CallOk P (callK C k) ∧ (∀ f aZ fr r, callK C k f aZ fr = some r → Enters P f) ∧ InlOk P (callK C k)
  | 0 => ⟨fun f args frag v Hc h => by simp [callK] at h, fun f aZ fr r h => by simp [callK] at h, fun f args H tick v H' tick' h => by simp [callK] at h⟩
  | k + 1 => by
    obtain ⟨ih, ihe, ihi⟩ := callK_sound hC k
    refine ⟨?_, ?_, ?_⟩
    · intro f args frag v Hc h w Pf ι vals hr D
      simp only [callK] at h
      split at h
      · rename_i m hmx
        split at h
        case isFalse => cases h
        rename_i hfr
        obtain ⟨⟨v1, objs⟩, hv, he⟩ := Option.map_eq_some_iff.1 h
        cases he
        have hf0 : frag = [] := by simpa using hfr
        subst hf0
        exact (hC.ext f m hmx).2 args v1 objs hv w Pf ι vals hr (by simpa using D)
      · split at h
        · cases h
        rename_i fn hfn
        obtain ⟨h1, h2, h3⟩ := hC.fn f fn hfn
        split at h
        · cases h
        rename_i code hcode
        refine calls_of_wp h1 hcode ?_
        have hg : Good w Pf ι (st0 args frag) (fun _ => False) { tmps := vals.toArray ++ Array.replicate (fn.ntmps - vals.toArray.size) undef, defers := [] } := by
          refine ⟨fun x => ?_, D, rfl⟩
          show Rep w Pf ι (args.getD x (.c undef)) ((vals.toArray ++ Array.replicate (fn.ntmps - vals.toArray.size) undef).getD x undef)
          have hl := hr.length
          by_cases hx : x < args.length
          · obtain ⟨u, k1, k2⟩ := hr.get x args[x] (by simp [hx])
            have e1 : args.getD x (.c undef) = args[x] := by simp [List.getD_eq_getElem?_getD, hx]
            have e2 : (vals.toArray ++ Array.replicate (fn.ntmps - vals.toArray.size) undef).getD x undef = u := by
              rw [Array.getD_eq_getD_getElem?, Array.getElem?_append_left (by simp; omega)]
              simp [k1]
            rw [e1, e2]
            exact k2
          · have e1 : args.getD x (.c undef) = .c undef := by simp [List.getD_eq_getElem?_getD, hx]
            have e2 : (vals.toArray ++ Array.replicate (fn.ntmps - vals.toArray.size) undef).getD x undef = undef := by
              rw [Array.getD_eq_getD_getElem?, Array.getElem?_append_right (by simp; omega)]
              by_cases hxx : x - vals.toArray.size < fn.ntmps - vals.toArray.size
              · simp only [List.size_toArray] at hxx ⊢
                simp [hxx]
              · simp only [List.size_toArray] at hxx ⊢
                simp [hxx]
            rw [e1, e2]
            simp only [Rep]
        have hsz : fn.ntmps ≤ ({ tmps := vals.toArray ++ Array.replicate (fn.ntmps - vals.toArray.size) undef, defers := [] } : Act).tmps.size := by simp; omega
        have fin : ∀ st, fin1 C.T fn.results.toList frag.length st = some (v, Hc) → ∀ w' ι' a', Fwd Pf w w' ι ι' → Good w' Pf ι' st (fun _ => False) a' → a'.defers = [] ∧ ∃ u, (results fn a'.tmps).run P w' = .ok u w' ∧ ∃ u' ι' tick done, Ending.returned u = .returned u' ∧ Fwd Pf w w' ι ι' ∧ Rep w' Pf ι' v u' ∧ Desc w' Pf ι' Hc tick done := by
          intro st hst w' ι' a' f hg'
          unfold fin1 at hst
          split at hst
          case h_2 => cases hst
          rename_i x hx
          obtain ⟨u, k1, k2⟩ := results_sound (P := P) hC.tab hg' hx
          obtain ⟨ι2, e1, e2, e3⟩ := export_sound (Pf := Pf) hg'.desc f.ext (fun id vr hv => D.fresh id vr hv) k2 hst
          exact ⟨hg'.defers, u, k1, u, ι2, _, _, rfl, ⟨f.os, f.tape, f.output, f.size, f.prot, e1⟩, e2, e3⟩
        unfold finK at h
        split at h
        · rename_i st hst
          exact runCode_sound hC.mixed hC.tab ih ⟨ihe, hC.bld, ihi⟩ code (h3 code hcode) 0 _ .nrm st hst w ι _ hsz hg _ fun w' ι' a' f hg' _ => fin st h w' ι' a' f hg'
        · rename_i st hst
          exact runCode_sound hC.mixed hC.tab ih ⟨ihe, hC.bld, ihi⟩ code (h3 code hcode) 0 _ .ret st hst w ι _ hsz hg _ fun w' ι' a' f hg' _ => fin st h w' ι' a' f hg'
        · cases h
    · intro f aZ fr r h
      simp only [callK] at h
      split at h
      · rename_i m hmx; exact (hC.ext f m hmx).1
      · split at h
        · cases h
        rename_i fn hfn
        exact (hC.fn f fn hfn).2.1
    · intro f args H tick v H' tick' h w Pf ι vals hr D
      simp only [callK] at h
      split at h
      · cases h
      rename_i fn hfn
      obtain ⟨h1, h2, h3⟩ := hC.fn f fn hfn
      split at h
      · cases h
      rename_i code hcode
      refine calls_of_wp h1 hcode ?_
      have hg : Good w Pf ι { ρ := fun x => args.getD x (.c undef), H := H, tick := tick } (fun _ => False) { tmps := vals.toArray ++ Array.replicate (fn.ntmps - vals.toArray.size) undef, defers := [] } := by
        refine ⟨fun x => ?_, D, rfl⟩
        show Rep w Pf ι (args.getD x (.c undef)) ((vals.toArray ++ Array.replicate (fn.ntmps - vals.toArray.size) undef).getD x undef)
        have hl := hr.length
        by_cases hx : x < args.length
        · obtain ⟨u, k1, k2⟩ := hr.get x args[x] (by simp [hx])
          have e1 : args.getD x (.c undef) = args[x] := by simp [List.getD_eq_getElem?_getD, hx]
          have e2 : (vals.toArray ++ Array.replicate (fn.ntmps - vals.toArray.size) undef).getD x undef = u := by
            rw [Array.getD_eq_getD_getElem?, Array.getElem?_append_left (by simp; omega)]
            simp [k1]
          rw [e1, e2]
          exact k2
        · have e1 : args.getD x (.c undef) = .c undef := by simp [List.getD_eq_getElem?_getD, hx]
          have e2 : (vals.toArray ++ Array.replicate (fn.ntmps - vals.toArray.size) undef).getD x undef = undef := by
            rw [Array.getD_eq_getD_getElem?, Array.getElem?_append_right (by simp; omega)]
            by_cases hxx : x - vals.toArray.size < fn.ntmps - vals.toArray.size
            · simp only [List.size_toArray] at hxx ⊢
              simp [hxx]
            · simp only [List.size_toArray] at hxx ⊢
              simp [hxx]
          rw [e1, e2]
          simp only [Rep]
      have hsz : fn.ntmps ≤ ({ tmps := vals.toArray ++ Array.replicate (fn.ntmps - vals.toArray.size) undef, defers := [] } : Act).tmps.size := by simp; omega
      have fin : ∀ st, (resultsV C.T st fn.results.toList).map (fun v => (v, st.H, st.tick)) = some (v, H', tick') → ∀ w' ι' a', Fwd Pf w w' ι ι' → Good w' Pf ι' st (fun _ => False) a' → a'.defers = [] ∧ ∃ u, (results fn a'.tmps).run P w' = .ok u w' ∧ ∃ u' ι'', Ending.returned u = Ending.returned u' ∧ Fwd Pf w w' ι ι'' ∧ Rep w' Pf ι'' v u' ∧ Desc w' Pf ι'' H' tick' (fun _ => False) := by
        intro st hst w' ι' a' f hg'
        obtain ⟨x, hx, he⟩ := Option.map_eq_some_iff.1 hst
        simp only [Prod.mk.injEq] at he
        obtain ⟨rfl, rfl, rfl⟩ := he
        obtain ⟨u, k1, k2⟩ := results_sound (P := P) hC.tab hg' hx
        exact ⟨hg'.defers, u, k1, u, ι', rfl, f, k2, hg'.desc⟩
      unfold finI at h
      split at h
      · rename_i st hst
        exact runCode_sound hC.mixed hC.tab ih ⟨ihe, hC.bld, ihi⟩ code (h3 code hcode) 0 _ .nrm st hst w ι _ hsz hg _ fun w' ι' a' f hg' _ => fin st h w' ι' a' f hg'
      · rename_i st hst
        exact runCode_sound hC.mixed hC.tab ih ⟨ihe, hC.bld, ihi⟩ code (h3 code hcode) 0 _ .ret st hst w ι _ hsz hg _ fun w' ι' a' f hg' _ => fin st h w' ι' a' f hg'
      · cases h
end
end Go.Proofs.YtbjmfjfnilmhhaaGreatDoor.Eng
