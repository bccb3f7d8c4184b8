/- A deterministic reading of Go code over plain data: a call. No conditions. -/
import Derived.Test.YtbjmfjfnilmhhaaGreatDoorEngK
namespace Go.Proofs.YtbjmfjfnilmhhaaGreatDoor.Eng
open Go Go.RowKit

/-- What the runs of functions come to. -/
def CallOk (P : Program) (call : CallF) : Prop :=
  ∀ f args frag v Hc, call f args frag = some (v, Hc) → ∀ (w : World) (Pf : Pfs) (ι : Plc) (vals : List Value), Reps w Pf ι args vals →
    Desc w Pf ι (fun id => (frag[id]?).map fun o => (0, o)) 1 (fun _ => False) →
    Calls P f vals.toArray w fun e w' => ∃ u ι' tick done, e = .returned u ∧ Fwd Pf w w' ι ι' ∧ Rep w' Pf ι' v u ∧ Desc w' Pf ι' Hc tick done

/-- .. and their runs in place. -/
def InlOk (P : Program) (call : CallF) : Prop :=
  ∀ f args H tick v H' tick', call.inl f args H tick = some (v, H', tick') → ∀ (w : World) (Pf : Pfs) (ι : Plc) (vals : List Value), Reps w Pf ι args vals →
    Desc w Pf ι H tick (fun _ => False) →
    Calls P f vals.toArray w fun e w' => ∃ u ι', e = .returned u ∧ Fwd Pf w w' ι ι' ∧ Rep w' Pf ι' v u ∧ Desc w' Pf ι' H' tick' (fun _ => False)

theorem nodup_inj : ∀ {l : List Nat} (_ : nodup l = true) (i j : Nat) (x : Nat), l[i]? = some x → l[j]? = some x → i = j
  | [], _, i, j, x, h, _ => by simp at h
  | y :: l, hn, i, j, x, hi, hj => by
    simp only [nodup, Bool.and_eq_true, Bool.not_eq_true'] at hn
    have key : ∀ k, l[k]? = some y → False := fun k hk => by
      have := List.mem_of_getElem? hk
      have h2 : l.contains y = true := List.contains_iff_mem.2 this
      rw [hn.1] at h2; cases h2
    cases i with
    | zero =>
      cases j with
      | zero => rfl
      | succ j => simp at hi hj; subst hi; exact (key j hj).elim
    | succ i =>
      cases j with
      | zero => simp at hi hj; subst hj; exact (key i hi).elim
      | succ j => simp at hi hj; rw [nodup_inj hn.2 i j x hi hj]
theorem idx_some {l : List (Nat × Nat)} {id vr i : Nat} (h : idx l id vr = some i) : l[i]? = some (id, vr) := by
  unfold idx at h
  split at h
  · rename_i k hk
    cases h
    obtain ⟨h1, h2, _⟩ := List.findIdx?_eq_some_iff_getElem.1 hk
    simp only [Bool.and_eq_true, beq_iff_eq] at h2
    rw [List.getElem?_eq_getElem h1]
    congr 1
    exact Prod.ext h2.1 h2.2
  · cases h
theorem applyD_some : ∀ (δ : List (Nat × Option (Nat × Obj))) (H : Hp) (i : Nat) (x : Nat × Obj), applyD H δ i = some x → (i, some x) ∈ δ ∨ (H i = some x ∧ ∀ q ∈ δ, q.1 ≠ i)
  | [], H, i, x, h => .inr ⟨h, by simp⟩
  | q :: δ, H, i, x, h => by
    have h' : applyD (fun id => if id = q.1 then q.2 else H id) δ i = some x := h
    rcases applyD_some δ _ i x h' with h1 | ⟨h1, h2⟩
    · exact .inl (by simp [h1])
    · by_cases e : i = q.1
      · rw [if_pos e] at h1
        exact .inl (by rw [← h1, e]; simp)
      · rw [if_neg e] at h1
        refine .inr ⟨h1, fun z hz => ?_⟩
        cases hz with
        | head => exact fun he => e he.symm
        | tail _ hz => exact h2 z hz
theorem newD_mem : ∀ {tick n : Nat} {l : List Obj} {i : Nat} {x : Option (Nat × Obj)}, (i, x) ∈ newD tick n l → ∃ k o, l[k]? = some o ∧ i = n + k ∧ x = some (tick, o)
  | tick, n, [], i, x, h => by simp [newD] at h
  | tick, n, o :: l, i, x, h => by
    simp only [newD, List.mem_cons, Prod.mk.injEq] at h
    rcases h with ⟨rfl, rfl⟩ | h
    · exact ⟨0, o, by simp, by simp, rfl⟩
    · obtain ⟨k, o', h1, h2, h3⟩ := newD_mem h
      exact ⟨k + 1, o', by simpa using h1, by omega, h3⟩
theorem flatAt_some {H : Hp} {q : Nat × Nat} {o : Obj} (h : flatAt H q = some o) : H q.1 = some (q.2, o) ∧ o.fl = true := by
  unfold flatAt at h
  split at h
  · cases h
  rename_i o' ho
  split at h
  · rename_i hf; cases h; exact ⟨find_some ho, hf⟩
  · cases h
theorem refsR_ok : True := trivial
theorem noTagR_get : ∀ {l : List (Option Obj)} (_ : noTagR l = true) (i : Nat) (o : Obj), l[i]? = some (some o) → noTagO o = true
  | [], _, i, o, h => by simp at h
  | none :: l, hn, i, o, h => by
    simp only [noTagR] at hn
    cases i with
    | zero => simp at h
    | succ i => exact noTagR_get hn i o (by simpa using h)
  | some x :: l, hn, i, o, h => by
    simp only [noTagR, Bool.and_eq_true] at hn
    cases i with
    | zero => simp at h; subst h; exact hn.1
    | succ i => exact noTagR_get hn.2 i o (by simpa using h)

theorem flat_isC {w : World} {Pf : Pfs} {ι : Plc} {id vr : Nat} {o : Obj} (ow : Own w Pf ι id vr o) (hf : o.fl = true) : ∀ x ∈ o.es.flatten, x.isC = true := by
  intro x hx
  obtain ⟨e, he, hx'⟩ := List.mem_flatten.1 hx
  exact ow.fl hf e he x hx'

/-- The elements of an object under other names. -/
theorem renE_sound {w : World} {Pf Pf' : Pfs} {ι ι' : Plc} {φ : Nat → Nat → Option (Nat × Nat)} (hp : ∀ b g, Pf b g → Pf' b g) (hφ : ∀ id vr q, φ id vr = some q → ι' q.1 q.2 = ι id vr) : ∀ (es es' : List (List V)) (us : List Value), mapO (renL φ) es = some es' → Reps w Pf ι es.flatten us →
    Reps w Pf' ι' es'.flatten us ∧ (∀ sz, (∀ e ∈ es, e.length = sz) → ∀ e ∈ es', e.length = sz) ∧ ((∀ e ∈ es, ∀ x ∈ e, x.one = true) → ∀ e ∈ es', ∀ x ∈ e, x.one = true)
  | [], es', us, h, hr => by simp only [mapO] at h; cases h; simp only [List.flatten_nil, Reps] at hr ⊢; exact ⟨hr, by simp, by simp⟩
  | e :: es, es', us, h, hr => by
    simp only [mapO] at h
    split at h
    · cases h
    rename_i e1 he1
    split at h
    · cases h
    rename_i es1 hes1
    cases h
    rw [List.flatten_cons] at hr
    obtain ⟨aZ, bs, rfl, ha, hb⟩ := hr.split
    obtain ⟨h1, h2, h3⟩ := renE_sound hp hφ es es1 bs hes1 hb
    have h4 := renL_sound hp hφ e e1 aZ he1 ha
    rw [renL_is] at he1
    obtain ⟨h5, h6⟩ := mapO_get he1
    refine ⟨by rw [List.flatten_cons]; exact h4.append h1, fun sz hx z hz => ?_, fun hx z hz => ?_⟩
    · cases hz with
      | head => rw [h5]; exact hx e (by simp)
      | tail _ hz => exact h2 sz (fun e' he' => hx e' (by simp [he'])) z hz
    · cases hz with
      | head =>
        intro x hx'
        obtain ⟨y, hy, hxy⟩ := mapO_mem he1 hx'
        rw [(ren_one hxy).1]
        exact hx e (by simp) y hy
      | tail _ hz => exact h3 (fun e' he' => hx e' (by simp [he'])) z hz

theorem Own.ren {w : World} {Pf Pf' : Pfs} {ι ι' : Plc} {φ : Nat → Nat → Option (Nat × Nat)} {id vr id' vr' : Nat} {o o' : Obj} (ow : Own w Pf ι id vr o) (h : renO φ o = some o') (hi : ι' id' vr' = ι id vr)
    (hn : o.fl = true ∨ ∃ Q : Pfs, (∀ us, Reps w Pf ι o.es.flatten us → Reps w Q ι o.es.flatten us) ∧ ∀ b g, Q b g → Pf' b g) (hφ : ∀ id vr q, φ id vr = some q → ι' q.1 q.2 = ι id vr) (hg : ∀ g t, ι id vr = some (g, t) → ¬ Pf' true g) : Own w Pf' ι' id' vr' o' := by
  obtain ⟨g, tot, cur, xs, k1, ⟨fz, k2, hfz⟩, k3, k4, k5, k6⟩ := ow.ex
  unfold renO at h
  split at h
  · rename_i hf
    cases h
    exact ⟨⟨g, tot, cur, xs, by rw [hi]; exact k1, ⟨fz, k2, hfz⟩, k3, Reps.isC (flat_isC ow hf) k4, k5, hg g tot k1⟩, ow.one, ow.sz, ow.fl⟩
  · rename_i hf
    split at h
    case h_2 => cases h
    rename_i es hes
    cases h
    obtain ⟨Q, hq1, hq2⟩ := hn.resolve_left hf
    obtain ⟨h1, h2, h3⟩ := renE_sound hq2 hφ _ _ _ hes (hq1 _ k4)
    exact ⟨⟨g, tot, cur, xs, by rw [hi]; exact k1, ⟨fz, k2, hfz⟩, k3, h1, k5, hg g tot k1⟩, h3 ow.one, h2 _ ow.sz, fun h => absurd h hf⟩
theorem noTagE_sound {w : World} {Pf : Pfs} {ι : Plc} : ∀ {es : List (List V)} {us : List Value} (_ : es.all noTagL = true), Reps w Pf ι es.flatten us → Reps w (fun _ => Pf false) ι es.flatten us
  | [], us, _, h => by simp only [List.flatten_nil, Reps] at h ⊢; exact h
  | e :: es, us, hn, h => by
    simp only [List.all_cons, Bool.and_eq_true] at hn
    rw [List.flatten_cons] at h ⊢
    obtain ⟨aZ, bs, rfl, ha, hb⟩ := h.split
    exact (noTagL_sound e aZ hn.1 ha).append (noTagE_sound hn.2 hb)

theorem callV_sound {P : Program} {C : Cfg} {call : CallF} (hcall : CallOk P call) {w : World} {Pf : Pfs} {ι : Plc} {H H' : Hp} {tick : Nat} {done : Nat → Prop} (hs : Sub H' H) (D : Desc w Pf ι H tick done) {site : Nat} (hd : ¬ done site) {f : FuncId} {args : List V} {vals : List Value}
    {v : Option V} {δ : List (Nat × Option (Nat × Obj))} (h : callV C call H' tick site f args = some (v, δ)) (hr : Reps w Pf ι args vals) :
    Calls P f vals.toArray w fun e w' => ∃ u ι' x, e = .returned u ∧ v = some x ∧ Makes w w' Pf ι ι' H tick done site x u δ := by
  unfold callV at h
  simp only [] at h
  generalize hR : (if C.wr f then args.flatMap (rootOf (C.own f)) else []) = R at h
  split at h
  · cases h
  rename_i robjs hrobjs
  generalize hS : robjs.flatMap refsO = S at h
  split at h
  · cases h
  rename_i sobjs hsobjs
  split at h
  case isFalse => cases h
  rename_i hnd
  split at h
  case h_2 => cases h
  rename_i aZ fr has hfr
  split at h
  · cases h
  rename_i v1 Hc hc
  generalize hA : ((List.range (R ++ S).length).map fun i => find Hc i 0) = after at h
  generalize hPl : (refs v1 ++ refsR after).filter (fun q => !isRoot (R ++ S).length q) = pulled at h
  split at h
  case isFalse => cases h
  rename_i hcond
  simp only [Bool.and_eq_true, decide_eq_true_eq] at hcond
  obtain ⟨⟨⟨hpn, hvt⟩, hp16⟩, hat⟩ := hcond
  split at h
  case h_2 => cases h
  rename_i objs v' rs hobjs hv' hrs
  cases h
  -- what the fragments are
  obtain ⟨hrl, hrg⟩ := mapO_get hrobjs
  obtain ⟨hsl, hsg⟩ := mapO_get hsobjs
  obtain ⟨hfl, hfg⟩ := mapO_get hfr
  have hL : ∀ (i : Nat) (q : Nat × Nat), (R ++ S)[i]? = some q → ∃ o, H q.1 = some (q.2, o) := by
    intro i q hi
    by_cases hlt : i < R.length
    · rw [List.getElem?_append_left hlt] at hi
      obtain ⟨o, _, ho⟩ := hrg i q hi
      exact ⟨o, hs _ _ (find_some ho)⟩
    · rw [List.getElem?_append_right (by omega)] at hi
      obtain ⟨o, _, ho⟩ := hsg _ q hi
      exact ⟨o, hs _ _ (flatAt_some ho).1⟩
  have hLι : ∀ (i : Nat) (q : Nat × Nat), (R ++ S)[i]? = some q → ∃ g t, ι q.1 q.2 = some (g, t) ∧ ¬ Pf true g ∧ g < w.heap.size := by
    intro i q hi
    obtain ⟨o, ho⟩ := hL i q hi
    obtain ⟨g, t, cur, xs, k1, ⟨fz, k2, hfz⟩, k3, k4, k5, k6⟩ := (D.own _ _ _ ho).ex
    exact ⟨g, t, k1, k6, (Array.getElem?_eq_some_iff.1 k2).1⟩
  have hLinj : ∀ (i j : Nat) (q q' : Nat × Nat), (R ++ S)[i]? = some q → (R ++ S)[j]? = some q' → q.1 = q'.1 → i = j := by
    intro i j q q' hi hj he
    exact nodup_inj hnd i j q.1 (by rw [List.getElem?_map, hi]; rfl) (by rw [List.getElem?_map, hj, he]; rfl)
  let Pc : Pfs := fun b g => if b then (g < w.heap.size ∧ ∀ q ∈ R ++ S, ∀ t, ι q.1 q.2 ≠ some (g, t)) else Pf false g
  let ιc : Plc := fun i vr => if vr = 0 then ((R ++ S)[i]?).bind (fun q => ι q.1 q.2) else none
  have hPt : ∀ g, Pf true g → Pc true g := by
    intro g hg
    refine ⟨D.lt g hg, fun q hq t ht => ?_⟩
    obtain ⟨i, hi⟩ := List.mem_iff_getElem?.1 hq
    obtain ⟨g', t', h1, h2, _⟩ := hLι i q hi
    rw [ht] at h1; cases h1
    exact h2 hg
  have hPc : ∀ b g, Pf b g → Pc b g := by
    intro b g hg
    cases b with
    | false => exact hg
    | true => exact hPt g hg
  have hfrs : ∀ id vr q, frs (R ++ S) id vr = some q → ιc q.1 q.2 = ι id vr := by
    intro id vr q hq
    unfold frs at hq
    obtain ⟨i, hi, rfl⟩ := Option.map_eq_some_iff.1 hq
    have := idx_some hi
    show (if (0 : Nat) = 0 then ((R ++ S)[i]?).bind (fun q => ι q.1 q.2) else none) = _
    rw [if_pos rfl, this]
    rfl
  have hιc : ∀ (i : Nat) (q : Nat × Nat), (R ++ S)[i]? = some q → ιc i 0 = ι q.1 q.2 := by
    intro i q hi
    show (if (0 : Nat) = 0 then ((R ++ S)[i]?).bind (fun q => ι q.1 q.2) else none) = _
    rw [if_pos rfl, hi]
    rfl
  have hlenL : (fr ++ sobjs).length = (R ++ S).length := by rw [List.length_append, List.length_append, hfl, hrl, hsl]
  have Dc : Desc w Pc ιc (fun id => ((fr ++ sobjs)[id]?).map fun o => (0, o)) 1 (fun _ => False) := by
    refine ⟨?_, ?_, ?_, ?_, fun g hg => hg.1, fun g hg => hPt g (D.sub g hg), fun g hg => hPt g (D.glob.1 g hg), D.glob.2⟩
    · intro i vr o hi
      obtain ⟨o', ho', he⟩ := Option.map_eq_some_iff.1 hi
      cases he
      have hil : i < (R ++ S).length := by have := (List.getElem?_eq_some_iff.1 ho').1; omega
      obtain ⟨q, hq⟩ : ∃ q, (R ++ S)[i]? = some q := ⟨_, List.getElem?_eq_getElem hil⟩
      have hg : ∀ g t, ι q.1 q.2 = some (g, t) → ¬ Pc true g := fun g t hgt hpc => hpc.2 q (List.mem_of_getElem? hq) t hgt
      by_cases hlt : i < R.length
      · rw [List.getElem?_append_left (by omega)] at ho'
        have hq' := hq
        rw [List.getElem?_append_left hlt] at hq'
        obtain ⟨o1, h1, h2⟩ := hrg i q hq'
        obtain ⟨o2, h3, h4⟩ := hfg i o1 h1
        rw [ho'] at h3; cases h3
        exact (D.own _ _ _ (hs _ _ (find_some h2))).ren h4 (hιc i q hq) (.inr ⟨Pf, fun _ h => h, hPc⟩) hfrs hg
      · rw [List.getElem?_append_right (by omega)] at ho'
        have hq' := hq
        rw [List.getElem?_append_right (by omega)] at hq'
        obtain ⟨o1, h1, h2⟩ := hsg _ q hq'
        rw [show i - R.length = i - fr.length by omega, ho'] at h1; cases h1
        obtain ⟨h3, h4⟩ := flatAt_some h2
        exact (D.own _ _ _ (hs _ _ h3)).ren (φ := frs (R ++ S)) (by unfold renO; rw [if_pos h4]) (hιc i q hq) (.inl h4) hfrs hg
    · intro i vr hvr
      show (if vr = 0 then _ else _) = _
      rw [if_neg (by omega)]
    · intro i _
      show (if (1 : Nat) = 0 then _ else _) = _
      rw [if_neg (by omega)]
    · intro i vr o i' vr' o' g t t' h1 h2 h3 h4
      obtain ⟨o1, ho1, he1⟩ := Option.map_eq_some_iff.1 h1
      obtain ⟨o2, ho2, he2⟩ := Option.map_eq_some_iff.1 h2
      cases he1; cases he2
      have hil : i < (R ++ S).length := by have := (List.getElem?_eq_some_iff.1 ho1).1; omega
      have hil' : i' < (R ++ S).length := by have := (List.getElem?_eq_some_iff.1 ho2).1; omega
      have hq := List.getElem?_eq_getElem hil
      have hq' := List.getElem?_eq_getElem hil'
      rw [hιc _ _ hq] at h3
      rw [hιc _ _ hq'] at h4
      obtain ⟨oa, hoa⟩ := hL _ _ hq
      obtain ⟨ob, hob⟩ := hL _ _ hq'
      exact hLinj i i' _ _ hq hq' (D.inj _ _ _ _ _ _ _ _ _ hoa hob h3 h4)
  have hHm : Sub (fun id => if ((R ++ S).map (·.1)).contains id then none else H' id) H := by
    intro id x hx
    simp only [] at hx
    split at hx
    · cases hx
    · exact hs _ _ hx
  have hmask : ∀ id vr o g t, (fun id => if ((R ++ S).map (·.1)).contains id then none else H' id) id = some (vr, o) → ι id vr = some (g, t) → Pc true g := by
    intro id vr o g t hx ht
    simp only [] at hx
    split at hx
    · cases hx
    · rename_i hnc
      have hH := hs _ _ hx
      refine ⟨(D.own _ _ _ hH).lt ht, fun q hq t' ht' => hnc ?_⟩
      obtain ⟨i, hi⟩ := List.mem_iff_getElem?.1 hq
      obtain ⟨o', ho'⟩ := hL i q hi
      have := D.inj _ _ _ _ _ _ _ _ _ hH ho' ht ht'
      rw [this]
      exact List.contains_iff_mem.2 (List.mem_map.2 ⟨q, hq, rfl⟩)
  have hargs : ∀ (l l' : List V) (us : List Value), mapO (passV (C.wr f) (C.own f) (fun id => if ((R ++ S).map (·.1)).contains id then none else H' id) (frs (R ++ S))) l = some l' → Reps w Pf ι l us → Reps w Pc ιc l' us := by
    intro l
    induction l with
    | nil => intro l' us h hr; simp only [mapO] at h; cases h; simpa only [Reps] using hr
    | cons x l ih =>
      intro l' us h hr
      simp only [mapO] at h
      split at h
      · cases h
      rename_i y hy
      split at h
      · cases h
      rename_i l1 hl
      cases h
      simp only [Reps] at hr ⊢
      obtain ⟨u, us', rfl, h1, h2⟩ := hr
      refine ⟨u, us', rfl, ?_, ih _ _ hl h2⟩
      have hren : ∀ y, ren (frs (R ++ S)) x = some y → Rep w Pc ιc y u := fun y hy => ren_sound hPc hfrs x y u hy h1
      have hbor : ∀ y, bor (fun id => if ((R ++ S).map (·.1)).contains id then none else H' id) 4 x = some y → Rep w Pc ιc y u := fun y hy => (bor_sound hHm D hPc hmask 4 x y u hy h1).2.1
      unfold passV at hy
      split at hy
      · exact hren y hy
      · split at hy
        · split at hy
          · exact hren y hy
          · exact hbor y hy
        · exact hbor y hy
  have hcl := hcall f aZ (fr ++ sobjs) v1 Hc hc w Pc ιc vals (hargs _ _ _ has hr) Dc
  refine hcl.mono ?_
  rintro e w' ⟨u, ι1, tk, dn1, rfl, F, R1, D1⟩
  let ι' : Plc := fun i vr => if vr = tick ∧ i / 16 = site then (pulled[i - 16 * site]?).bind (fun q => ι1 q.1 q.2) else ι i vr
  have hι'old : ∀ i vr x, ι i vr = some x → ι' i vr = some x := by
    intro i vr x hx
    show (if vr = tick ∧ i / 16 = site then _ else _) = _
    rw [if_neg]
    · exact hx
    · rintro ⟨rfl, hi⟩
      rw [D.fresh' i (by rw [hi]; exact hd)] at hx
      cases hx
  have hι'new : ∀ (k : Nat) (q : Nat × Nat), pulled[k]? = some q → ι' (16 * site + k) tick = ι1 q.1 q.2 := by
    intro k q hk
    have hk16 : k < 16 := by have := (List.getElem?_eq_some_iff.1 hk).1; omega
    show (if tick = tick ∧ (16 * site + k) / 16 = site then _ else _) = _
    rw [if_pos ⟨rfl, by omega⟩, show 16 * site + k - 16 * site = k by omega, hk]
    rfl
  have hroot : ∀ (i : Nat) (q : Nat × Nat), (R ++ S)[i]? = some q → ι1 i 0 = ι q.1 q.2 ∧ ι' q.1 q.2 = ι q.1 q.2 := by
    intro i q hi
    have hi' := hi
    obtain ⟨g, t, h1, _⟩ := hLι i q hi'
    have h2 := F.ext i 0 (g, t) (by rw [hιc i q hi']; exact h1)
    exact ⟨by rw [h2, h1], by rw [hι'old _ _ _ h1, h1]⟩
  have hψ : ∀ id vr q, psi (R ++ S) pulled site tick id vr = some q → ι' q.1 q.2 = ι1 id vr := by
    intro id vr q hq
    unfold psi at hq
    split at hq
    · rename_i hro
      simp only [isRoot, Bool.and_eq_true, decide_eq_true_eq, beq_iff_eq] at hro
      obtain ⟨h1, h2⟩ := hroot id q hq
      rw [h2, hro.2, h1]
    · obtain ⟨i, hi, rfl⟩ := Option.map_eq_some_iff.1 hq
      exact hι'new i _ (idx_some hi)
  have f : Fwd Pf w w' ι ι' := ⟨F.os, F.tape, F.output, F.size, fun g hg => F.prot g (hPt g hg), hι'old⟩
  have hfalse : ∀ b g, Pf false g → Pf b g := by
    intro b g hg
    cases b with
    | false => exact hg
    | true => exact D.sub g hg
  have hrep : Rep w' Pf ι' v' u := ren_sound (Pf := fun _ => Pf false) hfalse hψ v1 v' u hv' (show Rep w' (fun _ => Pf false) ι1 v1 u from noTag_sound (Pf := Pc) v1 u hvt R1)
  -- the objects behind the call
  have hafter : ∀ (k : Nat) (x : Option Obj), after[k]? = some x → k < (R ++ S).length ∧ x = find Hc k 0 := by
    intro k x hk
    subst hA
    rw [List.getElem?_map] at hk
    obtain ⟨k', hk', rfl⟩ := Option.map_eq_some_iff.1 hk
    obtain ⟨h1, h2⟩ := List.getElem?_eq_some_iff.1 hk'
    simp only [List.length_range, List.getElem_range] at h1 h2
    subst h2
    exact ⟨h1, rfl⟩
  have hrsm : ∀ (i : Nat) (x : Nat × Obj), (i, some x) ∈ rs → ∃ (k vr : Nat) (o1 o : Obj), (R ++ S)[k]? = some (i, vr) ∧ Hc k = some (0, o1) ∧ renO (psi (R ++ S) pulled site tick) o1 = some o ∧ x = (vr, o) ∧ noTagO o1 = true := by
    intro i x hx
    obtain ⟨⟨q, xo⟩, hz, hback⟩ := mapO_mem hrs hx
    obtain ⟨k, hk⟩ := List.mem_iff_getElem?.1 hz
    rw [List.getElem?_zip_eq_some] at hk
    simp only [] at hk
    obtain ⟨hk1, hk2⟩ := hk
    unfold backR at hback
    cases xo with
    | none => simp at hback
    | some o1 =>
      simp only [] at hback
      split at hback
      · cases hback
      rename_i o ho
      cases hback
      obtain ⟨h1, h2⟩ := hafter k _ hk2
      exact ⟨k, q.2, o1, o, hk1, find_some h2.symm, ho, rfl, noTagR_get hat k o1 hk2⟩
  have hkeys : ∀ (k : Nat) (q : Nat × Nat), (R ++ S)[k]? = some q → ∃ x, (q.1, x) ∈ rs := by
    intro k q hk
    have hkl : k < (R ++ S).length := (List.getElem?_eq_some_iff.1 hk).1
    have hal : after[k]? = some (find Hc k 0) := by
      subst hA
      rw [List.getElem?_map, List.getElem?_range hkl]
      rfl
    obtain ⟨y, hy1, hy2⟩ := (mapO_get hrs).2 k (q, find Hc k 0) (by rw [List.getElem?_zip_eq_some]; exact ⟨hk, hal⟩)
    have hmem := List.mem_of_getElem? hy1
    unfold backR at hy2
    simp only [] at hy2
    cases hfc : find Hc k 0 with
    | none => rw [hfc] at hy2; simp only [Option.some.injEq] at hy2; subst hy2; exact ⟨_, hmem⟩
    | some o1 =>
      rw [hfc] at hy2
      simp only [] at hy2
      split at hy2
      · cases hy2
      · simp only [Option.some.injEq] at hy2; subst hy2; exact ⟨_, hmem⟩
  have hnewm : ∀ (i : Nat) (x : Option (Nat × Obj)), (i, x) ∈ newD tick (16 * site) objs → ∃ (k : Nat) (q : Nat × Nat) (o : Obj), pulled[k]? = some q ∧ i = 16 * site + k ∧ x = some (tick, o) ∧ Hc q.1 = some (q.2, o) ∧ o.fl = true := by
    intro i x hx
    obtain ⟨k, o, h1, h2, h3⟩ := newD_mem hx
    have hkl : k < pulled.length := by have := (List.getElem?_eq_some_iff.1 h1).1; rw [(mapO_get hobjs).1] at this; exact this
    obtain ⟨o', h4, h5⟩ := (mapO_get hobjs).2 k _ (List.getElem?_eq_getElem hkl)
    rw [h1] at h4; cases h4
    exact ⟨k, _, o, List.getElem?_eq_getElem hkl, h2, h3, (flatAt_some h5).1, (flatAt_some h5).2⟩
  -- three kinds of objects
  have kinds : ∀ (i vr : Nat) (o : Obj), applyD H (rs ++ newD tick (16 * site) objs) i = some (vr, o) →
      (∃ (k : Nat) (o1 : Obj), (R ++ S)[k]? = some (i, vr) ∧ Hc k = some (0, o1) ∧ renO (psi (R ++ S) pulled site tick) o1 = some o ∧ noTagO o1 = true) ∨
      (∃ (k : Nat) (q : Nat × Nat), pulled[k]? = some q ∧ i = 16 * site + k ∧ vr = tick ∧ Hc q.1 = some (q.2, o) ∧ o.fl = true) ∨
      (H i = some (vr, o) ∧ ∀ q ∈ R ++ S, q.1 ≠ i) := by
    intro i vr o hi
    rcases applyD_some _ _ _ _ hi with hm | ⟨hH, hno⟩
    · rw [List.mem_append] at hm
      rcases hm with hm | hm
      · obtain ⟨k, vr', o1, o', h1, h2, h3, h4, h5⟩ := hrsm _ _ hm
        cases h4
        exact .inl ⟨k, o1, h1, h2, h3, h5⟩
      · obtain ⟨k, q, o', h1, h2, h3, h4, h5⟩ := hnewm _ _ hm
        cases h3
        exact .inr (.inl ⟨k, q, h1, h2, rfl, h4, h5⟩)
    · refine .inr (.inr ⟨hH, fun q hq => ?_⟩)
      obtain ⟨k, hk⟩ := List.mem_iff_getElem?.1 hq
      obtain ⟨x, hx⟩ := hkeys k q hk
      exact hno _ (List.mem_append.2 (.inl hx))
  have hold : ∀ (i vr : Nat) (o : Obj) (g t : Nat), H i = some (vr, o) → (∀ q ∈ R ++ S, q.1 ≠ i) → ι i vr = some (g, t) → Pc true g := by
    intro i vr o g t hH hno ht
    refine ⟨(D.own _ _ _ hH).lt ht, fun q hq t' ht' => hno q hq ?_⟩
    obtain ⟨k, hk⟩ := List.mem_iff_getElem?.1 hq
    obtain ⟨o', ho'⟩ := hL k q hk
    exact D.inj _ _ _ _ _ _ _ _ _ ho' hH ht' ht
  -- each object's place, and where it comes from
  have src : ∀ (i vr : Nat) (o : Obj) (g t : Nat), applyD H (rs ++ newD tick (16 * site) objs) i = some (vr, o) → ι' i vr = some (g, t) →
      (∃ (k : Nat) (o1 : Obj), (R ++ S)[k]? = some (i, vr) ∧ Hc k = some (0, o1) ∧ ι1 k 0 = some (g, t) ∧ ι i vr = some (g, t)) ∨
      (∃ (k : Nat) (q : Nat × Nat) (o1 : Obj), pulled[k]? = some q ∧ i = 16 * site + k ∧ Hc q.1 = some (q.2, o1) ∧ ι1 q.1 q.2 = some (g, t)) ∨
      (∃ o1, H i = some (vr, o1) ∧ (∀ q ∈ R ++ S, q.1 ≠ i) ∧ ι i vr = some (g, t)) := by
    intro i vr o g t hi hg
    rcases kinds i vr o hi with ⟨k, o1, h1, h2, h3, _⟩ | ⟨k, q, h1, h2, h3, h4, _⟩ | ⟨h1, h2⟩
    · obtain ⟨a1, a2⟩ := hroot k _ h1
      simp only [] at a1 a2
      rw [a2] at hg
      exact .inl ⟨k, o1, h1, h2, by rw [a1]; exact hg, hg⟩
    · subst h2 h3
      rw [hι'new k q h1] at hg
      exact .inr (.inl ⟨k, q, o, h1, rfl, h4, hg⟩)
    · refine .inr (.inr ⟨o, h1, h2, ?_⟩)
      obtain ⟨g', t', cur, xs, k1, ⟨fz, _, hfz⟩⟩ := (D.own _ _ _ h1).ex
      rw [hι'old _ _ _ k1] at hg
      rw [k1]; exact hg
  have hpr : ∀ (k : Nat) (q : Nat × Nat), pulled[k]? = some q → isRoot (R ++ S).length q = false := by
    intro k q hk
    have := List.mem_of_getElem? hk
    rw [← hPl, List.mem_filter] at this
    simpa using this.2
  refine ⟨u, ι', v', rfl, rfl, f, hrep, ⟨?_, ?_, ?_, ?_, fun g hg => Nat.lt_of_lt_of_le (D.lt g hg) F.size, D.sub, D.gl f.prot⟩⟩
  · intro i vr o hi
    rcases kinds i vr o hi with ⟨k, o1, h1, h2, h3, h4⟩ | ⟨k, q, h1, h2, h3, h4, h5⟩ | ⟨h1, h2⟩
    · obtain ⟨a1, a2⟩ := hroot k _ h1
      simp only [] at a1 a2
      have ow1 := D1.own _ _ _ h2
      refine ow1.ren h3 (by rw [a2, a1]) ?_ hψ (fun g t hg hpt => ?_)
      · by_cases hf : o1.fl = true
        · exact .inl hf
        · refine .inr ⟨fun _ => Pf false, fun us hus => ?_, hfalse⟩
          unfold noTagO at h4
          simp only [Bool.or_eq_true] at h4
          exact (show Reps w' (fun _ => Pf false) ι1 o1.es.flatten us from noTagE_sound (Pf := Pc) (h4.resolve_left hf) hus)
      · rw [a1] at hg
        have hi' := h1
        obtain ⟨g', t', b1, b2, _⟩ := hLι k _ hi'
        simp only [] at b1
        rw [hg] at b1; cases b1
        exact b2 hpt
    · subst h2 h3
      have ow1 := D1.own _ _ _ h4
      refine ow1.ren (φ := psi (R ++ S) pulled site vr) (by unfold renO; rw [if_pos h5]) (hι'new k q h1) (.inl h5) hψ (fun g t hg hpt => ?_)
      obtain ⟨g', t', cur, xs, k1, ⟨fz, k2, hfz⟩, k3, k4, k5, k6⟩ := ow1.ex
      rw [hg] at k1; cases k1
      exact k6 (hPt g hpt)
    · exact (D.own _ _ _ h1).fwd D.sub f (fun g t hg => F.prot g (hold i vr o g t h1 h2 hg))
  · intro i vr hvr
    show (if vr = tick ∧ i / 16 = site then _ else _) = _
    rw [if_neg (by omega)]
    exact D.fresh i vr hvr
  · intro i hi
    show (if tick = tick ∧ i / 16 = site then _ else _) = _
    rw [if_neg (fun e => hi (.inr e.2))]
    exact D.fresh' i (fun x => hi (.inl x))
  · intro i vr o i' vr' o' g t t' h1 h2 h3 h4
    rcases src _ _ _ _ _ h1 h3 with ⟨k, o1, a1, a2, a3, a4⟩ | ⟨k, q, o1, a1, a2, a3, a4⟩ | ⟨o1, a1, a2, a3⟩ <;>
      rcases src _ _ _ _ _ h2 h4 with ⟨k', o2, b1, b2, b3, b4⟩ | ⟨k', q', o2, b1, b2, b3, b4⟩ | ⟨o2, b1, b2, b3⟩
    · have := D1.inj _ _ _ _ _ _ _ _ _ a2 b2 a3 b3
      subst this
      rw [a1] at b1; cases b1; rfl
    · have := D1.inj _ _ _ _ _ _ _ _ _ a2 b3 a3 b4
      subst this
      rw [a2] at b3
      simp only [Option.some.injEq, Prod.mk.injEq] at b3
      have hx := hpr k' q' b1
      simp only [isRoot, ← b3.1, (List.getElem?_eq_some_iff.1 a1).1, decide_true, Bool.true_and, beq_self_eq_true] at hx
      cases hx
    · obtain ⟨o3, ho3⟩ := hL k _ a1
      exact D.inj _ _ _ _ _ _ _ _ _ ho3 b1 a4 b3
    · have := D1.inj _ _ _ _ _ _ _ _ _ a3 b2 a4 b3
      subst this
      rw [b2] at a3
      simp only [Option.some.injEq, Prod.mk.injEq] at a3
      have hx := hpr k q a1
      simp only [isRoot, ← a3.1, (List.getElem?_eq_some_iff.1 b1).1, decide_true, Bool.true_and, beq_self_eq_true] at hx
      cases hx
    · have := D1.inj _ _ _ _ _ _ _ _ _ a3 b3 a4 b4
      have hk : k = k' := nodup_inj hpn k k' q.1 (by rw [List.getElem?_map, a1]; rfl) (by rw [List.getElem?_map, b1, this]; rfl)
      rw [a2, b2, hk]
    · exfalso
      have ow1 := D1.own _ _ _ a3
      obtain ⟨g', t'', cur, xs, k1, ⟨fz, k2, hfz⟩, k3, k4, k5, k6⟩ := ow1.ex
      rw [a4] at k1; cases k1
      exact k6 (hold _ _ _ _ _ b1 b2 b3)
    · obtain ⟨o3, ho3⟩ := hL k' _ b1
      exact D.inj _ _ _ _ _ _ _ _ _ a1 ho3 a3 b4
    · exfalso
      have ow1 := D1.own _ _ _ b3
      obtain ⟨g', t'', cur, xs, k1, ⟨fz, k2, hfz⟩, k3, k4, k5, k6⟩ := ow1.ex
      rw [b4] at k1; cases k1
      exact k6 (hold _ _ _ _ _ a1 a2 a3)
    · exact D.inj _ _ _ _ _ _ _ _ _ a1 b1 a3 b3
end Go.Proofs.YtbjmfjfnilmhhaaGreatDoor.Eng
