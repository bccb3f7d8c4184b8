/- A deterministic reading of Go code over plain data: values handed to a callee and back. No conditions. -/
import Derived.Test.YtbjmfjfnilmhhaaGreatDoorEngJ
namespace Go.Proofs.YtbjmfjfnilmhhaaGreatDoor.Eng
open Go Go.RowKit

theorem mapO_get {α β : Type} {f : α → Option β} : ∀ {l : List α} {l' : List β} (_ : mapO f l = some l'), l'.length = l.length ∧ ∀ (i : Nat) (x : α), l[i]? = some x → ∃ y, l'[i]? = some y ∧ f x = some y
  | [], l', h => by simp only [mapO] at h; cases h; simp
  | x :: l, l', h => by
    simp only [mapO] at h
    split at h
    · cases h
    rename_i y hy
    split at h
    · cases h
    rename_i l1 hl
    cases h
    obtain ⟨h1, h2⟩ := mapO_get hl
    refine ⟨by simp [h1], fun i z hz => ?_⟩
    cases i with
    | zero => simp at hz; subst hz; exact ⟨y, by simp, hy⟩
    | succ i => simpa using h2 i z (by simpa using hz)
theorem mapO_mem {α β : Type} {f : α → Option β} {l : List α} {l' : List β} (h : mapO f l = some l') {y : β} (hy : y ∈ l') : ∃ x ∈ l, f x = some y := by
  obtain ⟨h1, h2⟩ := mapO_get h
  obtain ⟨i, hi⟩ := List.mem_iff_getElem?.1 hy
  have hil : i < l.length := by have := (List.getElem?_eq_some_iff.1 hi).1; omega
  obtain ⟨y', h3, h4⟩ := h2 i l[i] (by simp [hil])
  rw [hi] at h3; cases h3
  exact ⟨_, List.getElem_mem hil, h4⟩

theorem renL_is (φ : Nat → Nat → Option (Nat × Nat)) : ∀ l, renL φ l = mapO (ren φ) l
  | [] => rfl
  | x :: l => by
    simp only [renL, mapO, renL_is φ l]
    cases ren φ x with
    | none => rfl
    | some y => cases mapO (ren φ) l <;> rfl
theorem ren_one {φ : Nat → Nat → Option (Nat × Nat)} {x y : V} (h : ren φ x = some y) : y.one = x.one ∧ y.isC = x.isC := by
  cases x <;> simp only [ren] at h
  case p => obtain ⟨q, _, rfl⟩ := Option.map_eq_some_iff.1 h; exact ⟨rfl, rfl⟩
  case s => obtain ⟨q, _, rfl⟩ := Option.map_eq_some_iff.1 h; exact ⟨rfl, rfl⟩
  case ag => obtain ⟨q, _, rfl⟩ := Option.map_eq_some_iff.1 h; exact ⟨rfl, rfl⟩
  case tp => obtain ⟨q, _, rfl⟩ := Option.map_eq_some_iff.1 h; exact ⟨rfl, rfl⟩
  case fn => obtain ⟨q, _, rfl⟩ := Option.map_eq_some_iff.1 h; exact ⟨rfl, rfl⟩
  all_goals cases h; exact ⟨rfl, rfl⟩

mutual
theorem Rep.pf {w : World} {Pf Pf' : Pfs} {ι ι' : Plc} (hp : ∀ b g, Pf b g → Pf' b g) (hi : ∀ id vr x, ι id vr = some x → ι' id vr = some x) : ∀ (x : V) (u : Value), Rep w Pf ι x u → Rep w Pf' ι' x u
  | x, u, h => Rep.mono (fun b g hg => ⟨hp b g hg, rfl⟩) hi x u h
end

mutual
theorem ren_sound {w : World} {Pf Pf' : Pfs} {ι ι' : Plc} {φ : Nat → Nat → Option (Nat × Nat)} (hp : ∀ b g, Pf b g → Pf' b g) (hφ : ∀ id vr q, φ id vr = some q → ι' q.1 q.2 = ι id vr) : ∀ (x y : V) (u : Value), ren φ x = some y → Rep w Pf ι x u → Rep w Pf' ι' y u
  | .c v, y, u, h, hr => by simp only [ren] at h; cases h; simpa only [Rep] using hr
  | .e, y, u, h, hr => by simp only [ren] at h; cases h; simpa only [Rep] using hr
  | .er, y, u, h, hr => by simp only [ren] at h; cases h; simpa only [Rep] using hr
  | .un, y, u, h, hr => by simp only [ren] at h; cases h; simp only [Rep]
  | .sq b fl sz l, y, u, h, hr => by
    simp only [ren] at h
    cases h
    have hn : NR (.sq b fl sz l) := by
      simp only [Rep] at hr
      obtain ⟨A, cap, _, _, _, _, h5, _⟩ := hr
      simpa only [NR] using h5
    exact Rep.nr (ι := ι) _ _ hn (Rep.pf hp (fun _ _ _ h => h) _ _ hr)
  | .bx b l, y, u, h, hr => by
    simp only [ren] at h
    cases h
    have hn : NR (.bx b l) := by
      simp only [Rep] at hr
      obtain ⟨a, _, h2, _⟩ := hr
      simpa only [NR] using h2
    exact Rep.nr (ι := ι) _ _ hn (Rep.pf hp (fun _ _ _ h => h) _ _ hr)
  | .p id vr sz i j, y, u, h, hr => by
    simp only [ren] at h
    obtain ⟨q, hq, rfl⟩ := Option.map_eq_some_iff.1 h
    simp only [Rep] at hr ⊢
    obtain ⟨g, tot, h1, h2⟩ := hr
    exact ⟨g, tot, by rw [hφ _ _ _ hq]; exact h1, h2⟩
  | .s id vr sz off len, y, u, h, hr => by
    simp only [ren] at h
    obtain ⟨q, hq, rfl⟩ := Option.map_eq_some_iff.1 h
    simp only [Rep] at hr ⊢
    obtain ⟨g, tot, a, cap, h1, h2⟩ := hr
    exact ⟨g, tot, a, cap, by rw [hφ _ _ _ hq]; exact h1, h2⟩
  | .ag l, y, u, h, hr => by
    simp only [ren] at h
    obtain ⟨l', hl, rfl⟩ := Option.map_eq_some_iff.1 h
    simp only [Rep] at hr ⊢
    obtain ⟨us, h1, h2⟩ := hr
    exact ⟨us, h1, renL_sound hp hφ l l' us hl h2⟩
  | .tp l, y, u, h, hr => by
    simp only [ren] at h
    obtain ⟨l', hl, rfl⟩ := Option.map_eq_some_iff.1 h
    simp only [Rep] at hr ⊢
    obtain ⟨us, h1, h2⟩ := hr
    exact ⟨us, h1, renL_sound hp hφ l l' us hl h2⟩
  | .fn f l, y, u, h, hr => by
    simp only [ren] at h
    obtain ⟨l', hl, rfl⟩ := Option.map_eq_some_iff.1 h
    simp only [Rep] at hr ⊢
    obtain ⟨us, h1, h2⟩ := hr
    exact ⟨us, h1, renL_sound hp hφ l l' us hl h2⟩
theorem renL_sound {w : World} {Pf Pf' : Pfs} {ι ι' : Plc} {φ : Nat → Nat → Option (Nat × Nat)} (hp : ∀ b g, Pf b g → Pf' b g) (hφ : ∀ id vr q, φ id vr = some q → ι' q.1 q.2 = ι id vr) : ∀ (l l' : List V) (us : List Value), renL φ l = some l' → Reps w Pf ι l us → Reps w Pf' ι' l' us
  | [], l', us, h, hr => by simp only [renL] at h; cases h; simpa only [Reps] using hr
  | x :: l, l', us, h, hr => by
    simp only [renL] at h
    split at h
    · cases h
    rename_i y hy
    split at h
    · cases h
    rename_i l1 hl
    cases h
    simp only [Reps] at hr ⊢
    obtain ⟨u, us', rfl, h1, h2⟩ := hr
    exact ⟨u, us', rfl, ren_sound hp hφ x y u hy h1, renL_sound hp hφ l l1 us' hl h2⟩
end

mutual
theorem noTag_sound {w : World} {Pf : Pfs} {ι : Plc} : ∀ (x : V) (u : Value), noTag x = true → Rep w Pf ι x u → Rep w (fun _ => Pf false) ι x u
  | .c v, u, _, h => by simpa only [Rep] using h
  | .e, u, _, h => by simpa only [Rep] using h
  | .er, u, _, h => by simpa only [Rep] using h
  | .un, u, hn, _ => by simp [noTag] at hn
  | .sq b fl sz l, u, hn, h => by
    simp only [noTag, Bool.not_eq_true'] at hn
    subst hn
    simp only [Rep] at h ⊢
    exact h
  | .bx b l, u, hn, h => by
    simp only [noTag, Bool.not_eq_true'] at hn
    subst hn
    simp only [Rep] at h ⊢
    exact h
  | .p id vr sz i j, u, _, h => by simpa only [Rep] using h
  | .s id vr sz off len, u, _, h => by simpa only [Rep] using h
  | .ag l, u, hn, h => by
    simp only [noTag] at hn
    simp only [Rep] at h ⊢
    obtain ⟨us, h1, h2⟩ := h
    exact ⟨us, h1, noTagL_sound l us hn h2⟩
  | .tp l, u, hn, h => by
    simp only [noTag] at hn
    simp only [Rep] at h ⊢
    obtain ⟨us, h1, h2⟩ := h
    exact ⟨us, h1, noTagL_sound l us hn h2⟩
  | .fn f l, u, hn, h => by
    simp only [noTag] at hn
    simp only [Rep] at h ⊢
    obtain ⟨us, h1, h2⟩ := h
    exact ⟨us, h1, noTagL_sound l us hn h2⟩
theorem noTagL_sound {w : World} {Pf : Pfs} {ι : Plc} : ∀ (l : List V) (us : List Value), noTagL l = true → Reps w Pf ι l us → Reps w (fun _ => Pf false) ι l us
  | [], us, _, h => by simpa only [Reps] using h
  | x :: l, us, hn, h => by
    simp only [noTagL, Bool.and_eq_true] at hn
    simp only [Reps] at h ⊢
    obtain ⟨u, us', h1, h2, h3⟩ := h
    exact ⟨u, us', h1, noTag_sound x u hn.1 h2, noTagL_sound l us' hn.2 h3⟩
end

section
variable {w : World} {Pf Pf' : Pfs} {ι ι' : Plc}
theorem Reps.isC {w' : World} : ∀ {l : List V} {us : List Value} (_ : ∀ x ∈ l, x.isC = true), Reps w Pf ι l us → Reps w' Pf' ι' l us
  | [], us, _, h => by simpa only [Reps] using h
  | x :: l, us, hc, h => by
    simp only [Reps] at h ⊢
    obtain ⟨u, us', h1, h2, h3⟩ := h
    obtain ⟨v, rfl⟩ := isC_one (hc x (by simp))
    exact ⟨u, us', h1, by simpa only [Rep] using h2, Reps.isC (fun y hy => hc y (by simp [hy])) h3⟩
theorem isC_NRC : ∀ {l : List V} (_ : ∀ x ∈ l, x.isC = true), NRC l
  | [], _ => by simp [NRC]
  | x :: l, h => by
    obtain ⟨v, rfl⟩ := isC_one (h x (by simp))
    simp only [NRC, NR, true_and]
    exact isC_NRC (fun y hy => h y (by simp [hy]))
theorem isC_NRE : ∀ {l : List (List V)} (_ : ∀ e ∈ l, ∀ x ∈ e, x.isC = true), NRE l
  | [], _ => by simp [NRE]
  | e :: l, h => by
    simp only [NRE]
    exact ⟨isC_NRC (h e (by simp)), isC_NRE (fun e' he => h e' (by simp [he]))⟩

/-- Cells that hold what they should, each of a protected block. -/
theorem RepC.mk {Q : Nat → Prop} (hQ : ∀ g, Q g → Pf true g) : ∀ {l : List V} {us : List Value} {a : Addr} (_ : Reps w Pf ι l us) (_ : ∀ x ∈ l, x.one = true) (_ : ∀ j u, us[j]? = some u → w.cell? (a.add j) = some u) (_ : Q a.block), RepC w Pf ι l a
  | [], us, a, _, _, _, _ => by simp [RepC]
  | x :: l, us, a, hr, h1, hc, hq => by
    simp only [Reps] at hr
    obtain ⟨u, us', rfl, h2, h3⟩ := hr
    simp only [RepC]
    refine ⟨⟨u, by simpa [Addr.add] using hc 0 u (by simp), h2⟩, h1 x (by simp), hQ _ hq, RepC.mk hQ h3 (fun y hy => h1 y (by simp [hy])) (fun j v hv => ?_) (by have : (a.add 1).block = a.block := rfl; rw [this]; exact hq)⟩
    have := hc (j + 1) v (by simpa using hv)
    rw [Go.Deep.add_add, Nat.add_comm]
    exact this
theorem add_block (a : Addr) (n : Nat) : (a.add n).block = a.block := by unfold Addr.add; split <;> rfl
theorem RepE.mk {sz : Nat} : ∀ {l : List (List V)} {us : List Value} {a : Addr} (_ : Reps w Pf ι l.flatten us) (_ : ∀ e ∈ l, e.length = sz) (_ : ∀ e ∈ l, ∀ x ∈ e, x.one = true) (_ : ∀ j u, us[j]? = some u → w.cell? (a.add j) = some u) (_ : Pf true a.block), RepE w Pf ι sz l a
  | [], us, a, _, _, _, _, _ => by simp [RepE]
  | e :: l, us, a, hr, hl, h1, hc, hq => by
    rw [List.flatten_cons] at hr
    obtain ⟨aZ, bs, rfl, ha, hb⟩ := hr.split
    have hel := hl e (by simp)
    have hal := ha.length
    simp only [RepE]
    refine ⟨hel, RepC.mk (Q := Pf true) (fun _ h => h) ha (h1 e (by simp)) (fun j u hj => hc j u ?_) hq, RepE.mk hb (fun e' he => hl e' (by simp [he])) (fun e' he => h1 e' (by simp [he])) (fun j u hj => ?_) (by rw [add_block]; exact hq)⟩
    · rw [List.getElem?_append_left (List.getElem?_eq_some_iff.1 hj).1]; exact hj
    · rw [Go.Deep.add_add]
      refine hc _ u ?_
      rw [List.getElem?_append_right (by omega), show sz + j - aZ.length = j by omega]
      exact hj
theorem dn_true (Pf : Pfs) : dn true Pf = Pf := by funext b; simp [dn]
end

section
variable {w : World} {Pf Pf' : Pfs} {ι ι' : Plc} {H : Hp} {tick : Nat} {done : Nat → Prop}
/-- Elements off..off+len of an object: what its cells hold. -/
theorem Own.elems {id vr : Nat} {o : Obj} (ow : Own w Pf ι id vr o) {off len : Nat} (hle : off + len ≤ o.es.length) :
    ∃ g tot us, ι id vr = some (g, tot) ∧ Reps w Pf ι ((o.es.drop off).take len).flatten us ∧ ∀ j v, us[j]? = some v → w.cell? ((⟨g, off * o.sz, none⟩ : Addr).add j) = some v := by
  obtain ⟨g, tot, cur, xs, k1, ⟨fz, k2, hfz⟩, k3, k4, k5, k6⟩ := ow.ex
  have hes : o.es = o.es.take off ++ ((o.es.drop off).take len ++ (o.es.drop off).drop len) := by rw [List.take_append_drop, List.take_append_drop]
  rw [hes, List.flatten_append, List.flatten_append] at k4
  obtain ⟨A, B, rfl, hA, hB⟩ := k4.split
  obtain ⟨M, E, rfl, hM, hE⟩ := hB.split
  have hAl : A.length = off * o.sz := by
    rw [hA.length, length_flatten_uniform (n := o.sz) (fun e he => ow.sz e (List.mem_of_mem_take he)), List.length_take, Nat.min_eq_left (by omega)]
  refine ⟨g, tot, M, k1, hM, fun j v hj => ?_⟩
  rw [add_lit]
  have hjl : j < M.length := (List.getElem?_eq_some_iff.1 hj).1
  have h7 : (A ++ (M ++ E))[off * o.sz + j]? = some v := by
    rw [List.getElem?_append_right (by omega), hAl, List.getElem?_append_left (by omega), show off * o.sz + j - off * o.sz = j by omega]
    exact hj
  rw [← k5, List.getElem?_take] at h7
  split at h7
  · simpa [World.cell?, k2] using h7
  · cases h7

theorem bor_sound {H' : Hp} (hs : Sub H' H) (D : Desc w Pf ι H tick done) (hp : ∀ b g, Pf b g → Pf' b g) (hb : ∀ id vr o g t, H' id = some (vr, o) → ι id vr = some (g, t) → Pf' true g) :
    ∀ (n : Nat), (∀ (x y : V) (u : Value), bor H' n x = some y → Rep w Pf ι x u → NR y ∧ Rep w Pf' ι' y u ∧ y.one = x.one) := by
  intro n
  induction n with
  | zero => intro x y u h; simp [bor] at h
  | succ n ih =>
    have ihL : ∀ (l l' : List V) (us : List Value), mapO (bor H' n) l = some l' → Reps w Pf ι l us → NRC l' ∧ Reps w Pf' ι' l' us ∧ l'.length = l.length ∧ ((∀ x ∈ l, x.one = true) → ∀ x ∈ l', x.one = true) := by
      intro l
      induction l with
      | nil => intro l' us h hr; simp only [mapO] at h; cases h; exact ⟨by simp [NRC], by simpa only [Reps] using hr, rfl, fun h => h⟩
      | cons x l ihl =>
        intro l' us h hr
        simp only [mapO] at h
        split at h
        · cases h
        rename_i y hy
        split at h
        · cases h
        rename_i l1 hl
        cases h
        simp only [Reps] at hr
        obtain ⟨u, us', rfl, h1, h2⟩ := hr
        obtain ⟨a1, a2, a3⟩ := ih x y u hy h1
        obtain ⟨b1, b2, b3, b4⟩ := ihl l1 us' hl h2
        refine ⟨by simp only [NRC]; exact ⟨a1, b1⟩, by simp only [Reps]; exact ⟨u, us', rfl, a2, b2⟩, by simp [b3], fun hx z hz => ?_⟩
        cases hz with
        | head => rw [a3]; exact hx x (by simp)
        | tail _ hz => exact b4 (fun x hx' => hx x (by simp [hx'])) z hz
    have ihE : ∀ (l l' : List (List V)) (us : List Value), mapO (mapO (bor H' n)) l = some l' → Reps w Pf ι l.flatten us → NRE l' ∧ Reps w Pf' ι' l'.flatten us ∧ l'.length = l.length ∧ ((∀ e ∈ l, ∀ x ∈ e, x.one = true) → ∀ e ∈ l', ∀ x ∈ e, x.one = true) ∧ ∀ sz, (∀ e ∈ l, e.length = sz) → ∀ e ∈ l', e.length = sz := by
      intro l
      induction l with
      | nil => intro l' us h hr; simp only [mapO] at h; cases h; exact ⟨by simp [NRE], (by simp only [List.flatten_nil, Reps] at hr ⊢; exact hr), rfl, fun h => h, fun _ h => h⟩
      | cons x l ihl =>
        intro l' us h hr
        simp only [mapO] at h
        split at h
        · cases h
        rename_i y hy
        split at h
        · cases h
        rename_i l1 hl
        cases h
        rw [List.flatten_cons] at hr
        obtain ⟨aZ, bs, rfl, h1, h2⟩ := hr.split
        obtain ⟨a1, a2, a3, a4⟩ := ihL x y aZ hy h1
        obtain ⟨b1, b2, b3, b4, b5⟩ := ihl l1 bs hl h2
        refine ⟨by simp only [NRE]; exact ⟨a1, b1⟩, by rw [List.flatten_cons]; exact a2.append b2, by simp [b3], fun hx z hz => ?_, fun sz hx z hz => ?_⟩
        · cases hz with
          | head => exact a4 (hx x (by simp))
          | tail _ hz => exact b4 (fun e he => hx e (by simp [he])) z hz
        · cases hz with
          | head => rw [a3]; exact hx x (by simp)
          | tail _ hz => exact b5 sz (fun e he => hx e (by simp [he])) z hz
    intro x y u h hr
    cases x <;> simp only [bor] at h
    case c v => cases h; exact ⟨by simp only [NR], by simpa only [Rep] using hr, rfl⟩
    case e => cases h; exact ⟨by simp only [NR], by simpa only [Rep] using hr, rfl⟩
    case er => cases h; exact ⟨by simp only [NR], by simpa only [Rep] using hr, rfl⟩
    case sq b fl sz l =>
      cases h
      have hn : NR (.sq b fl sz l) := by
        simp only [Rep] at hr
        obtain ⟨A, cap, _, _, _, _, h5, _⟩ := hr
        simpa only [NR] using h5
      exact ⟨hn, Rep.nr (ι := ι) _ _ hn (Rep.pf hp (fun _ _ _ h => h) _ _ hr), rfl⟩
    case bx b l =>
      cases h
      have hn : NR (.bx b l) := by
        simp only [Rep] at hr
        obtain ⟨a, _, h2, _⟩ := hr
        simpa only [NR] using h2
      exact ⟨hn, Rep.nr (ι := ι) _ _ hn (Rep.pf hp (fun _ _ _ h => h) _ _ hr), rfl⟩
    case s id vr sz off len =>
      split at h
      · cases h
      rename_i o ho
      have hH := find_some ho
      have ow := D.own _ _ _ (hs _ _ hH)
      split at h
      case isFalse => cases h
      rename_i hc
      obtain ⟨rfl, hle⟩ := hc
      simp only [Rep] at hr
      obtain ⟨g, tot, a, cap, h1, rfl, h2, h3, h4, h5⟩ := hr
      have hll : ((o.es.drop off).take len).length = len := by rw [List.length_take, List.length_drop]; omega
      obtain ⟨g', tot', us, k1, k2, k3⟩ := ow.elems hle
      rw [h1] at k1; cases k1
      have hblk : Pf' true g := hb _ _ _ _ _ hH h1
      have mem : ∀ e ∈ (o.es.drop off).take len, e ∈ o.es := fun e he => List.mem_of_mem_drop (List.mem_of_mem_take he)
      have goal : ∀ (fl : Bool) (l' : List (List V)), l'.length = len → (fl = true → ∀ e ∈ l', ∀ x ∈ e, x.isC = true) → NRE l' → Reps w Pf' ι' l'.flatten us → (∀ e ∈ l', e.length = o.sz) → (∀ e ∈ l', ∀ x ∈ e, x.one = true) → NR (.sq true fl o.sz l') ∧ Rep w Pf' ι' (.sq true fl o.sz l') (.slice (some a) len cap) := by
        intro fl l' hl' hfl hn hr' hsz hone
        refine ⟨by simpa only [NR] using hn, ?_⟩
        simp only [Rep]
        refine ⟨some a, cap, by rw [hl'], by omega, h3, hfl, hn, ?_⟩
        by_cases hl0 : len = 0
        · left; exact List.eq_nil_of_length_eq_zero (by omega)
        · right
          have ha := h4 (by omega)
          subst ha
          rw [dn_true]
          exact ⟨_, rfl, RepE.mk hr' hsz hone k3 hblk⟩
      split at h
      · rename_i hfl
        cases h
        have hC : ∀ e ∈ (o.es.drop off).take len, ∀ x ∈ e, x.isC = true := fun e he => ow.fl hfl e (mem e he)
        have hCf : ∀ x ∈ ((o.es.drop off).take len).flatten, x.isC = true := by
          intro x hx
          obtain ⟨e, he, hx'⟩ := List.mem_flatten.1 hx
          exact hC e he x hx'
        have := goal true _ hll (fun _ => hC) (isC_NRE hC) (Reps.isC hCf k2) (fun e he => ow.sz e (mem e he)) (fun e he => ow.one e (mem e he))
        exact ⟨this.1, this.2, rfl⟩
      · split at h
        · rename_i l' hl'
          cases h
          obtain ⟨b1, b2, b3, b4, b5⟩ := ihE _ _ _ hl' k2
          have := goal false l' (by omega) (fun h => by cases h) b1 b2 (b5 _ (fun e he => ow.sz e (mem e he))) (b4 (fun e he => ow.one e (mem e he)))
          exact ⟨this.1, this.2, rfl⟩
        · cases h
    case p id vr sz i j =>
      split at h
      · cases h
      rename_i o ho
      have hH := find_some ho
      have ow := D.own _ _ _ (hs _ _ hH)
      split at h
      · cases h
      rename_i e he
      split at h
      case isFalse => cases h
      rename_i hsz
      subst hsz
      split at h
      case h_2 => cases h
      rename_i l' hl'
      cases h
      simp only [Rep] at hr
      obtain ⟨g, tot, h1, rfl⟩ := hr
      obtain ⟨g', tot', us, k1, k2, k3⟩ := ow.run he j
      rw [h1] at k1; cases k1
      obtain ⟨b1, b2, b3, b4⟩ := ihL _ _ _ hl' k2
      refine ⟨by simpa only [NR] using b1, ?_, rfl⟩
      simp only [Rep]
      refine ⟨_, rfl, b1, ?_⟩
      rw [dn_true]
      exact RepC.mk (Q := Pf' true) (fun _ h => h) b2 (b4 (fun x hx => ow.one e (List.mem_of_getElem? he) x (List.mem_of_mem_drop hx))) k3 (hb _ _ _ _ _ hH h1)
    case ag l =>
      split at h
      case h_2 => cases h
      rename_i l' hl'
      cases h
      simp only [Rep] at hr
      obtain ⟨us, rfl, h2⟩ := hr
      obtain ⟨b1, b2, b3, b4⟩ := ihL _ _ _ hl' h2
      exact ⟨by simpa only [NR] using b1, by simp only [Rep]; exact ⟨us, rfl, b2⟩, rfl⟩
    case fn f l =>
      split at h
      case h_2 => cases h
      rename_i l' hl'
      cases h
      simp only [Rep] at hr
      obtain ⟨us, rfl, h2⟩ := hr
      obtain ⟨b1, b2, b3, b4⟩ := ihL _ _ _ hl' h2
      exact ⟨by simpa only [NR] using b1, by simp only [Rep]; exact ⟨us, rfl, b2⟩, rfl⟩
    all_goals cases h
end
end Go.Proofs.YtbjmfjfnilmhhaaGreatDoor.Eng
