/- A deterministic reading of Go code over plain data: what the single operations do to the machine, the ones that leave memory alone. No conditions. -/
import Derived.Test.YtbjmfjfnilmhhaaGreatDoorEngB
import Derived.Deep.Slices
namespace Go.Proofs.YtbjmfjfnilmhhaaGreatDoor.Eng
open Go Go.RowKit

def aggD : TypeDesc → Bool
  | .struct _ | .array .. => true
  | _ => false

/-- A field of a struct of whole numbers, at its place. -/
def numF (P : Program) (q : Field × Nat) : Bool := q.1.name != "_" && q.1.offset == q.2 && (match P.underlying q.1.type with
    | some (.int _) => (P.info? q.1.type).isSome
    | _ => false)
/-- What the program says of a struct of whole numbers. -/
def eqOk (P : Program) (t : TypeId) : Bool := match P.underlying t with
  | some (.struct fields) => !P.stoodInHeld t && !P.eqGuardType P.depth t && fields.toList.zipIdx.all (numF P)
  | _ => false

structure TiOk (P : Program) (t : TypeId) (i : TI) : Prop where
  und : match i.k with
    | .int k => P.underlying t = some (.int k)
    | .bool => P.underlying t = some .bool
    | .str => P.underlying t = some .string
    | .slice e => P.underlying t = some (.slice e)
    | .ptr e => P.underlying t = some (.pointer e)
    | .struct fs => ∃ fields : Array Field, P.underlying t = some (.struct fields) ∧ fields.size = fs.length ∧
        ∀ (j off sz : Nat) (ag : Bool), fs[j]? = some (off, sz, ag) → ∃ f : Field, fields[j]? = some f ∧ f.offset = off ∧ (∃ inf, P.info? f.type = some inf ∧ inf.size = sz) ∧ ∃ d, P.underlying f.type = some d ∧ aggD d = ag
    | .array n e => P.underlying t = some (.array n e)
    | .oth => ∃ d, P.underlying t = some d ∧ aggD d = false
    | .ifc => ∃ ms, P.underlying t = some (.interface ms)
  info : ∃ inf z, P.info? t = some inf ∧ inf.size = i.size ∧ inf.bytes = i.bytes ∧ inf.zero = some z ∧ z.cells.toList = i.zero
  zlen : i.zero.length = i.size
  zone : ∀ u ∈ i.zero, u.oneCell' = true
  eqs : numT i = true → eqOk P t = true
def TabOk (P : Program) (T : Tab) : Prop := ∀ t i, T t = some i → TiOk P t i

theorem TiOk.agg {P : Program} {t : TypeId} {i : TI} (h : TiOk P t i) : ∃ d, P.underlying t = some d ∧ aggD d = i.k.agg := by
  have hu := h.und
  cases hk : i.k <;> rw [hk] at hu <;> simp only [] at hu
  case struct fs => obtain ⟨f, h1, _⟩ := hu; exact ⟨_, h1, rfl⟩
  case oth => exact hu
  case ifc => obtain ⟨f, h1⟩ := hu; exact ⟨_, h1, rfl⟩
  all_goals exact ⟨_, hu, rfl⟩
theorem TiOk.run_isAgg {P : Program} {t : TypeId} {i : TI} (h : TiOk P t i) (w : World) : (isAgg t).run P w = .ok i.k.agg w := by
  obtain ⟨d, h1, h2⟩ := h.agg
  unfold isAgg
  rw [Sem.run_bind, run_underlying h1, Result.andThen_ok, ← h2]
  cases d <;> rfl
theorem TiOk.run_size {P : Program} {t : TypeId} {i : TI} (h : TiOk P t i) (w : World) : (sizeOf t).run P w = .ok i.size w := by
  obtain ⟨inf, z, h1, h2, _⟩ := h.info
  simp [sizeOf, typeInfo, h1, h2]
theorem TiOk.run_zero {P : Program} {t : TypeId} {i : TI} (h : TiOk P t i) (w : World) : ∃ z : Value, (zeroValue t).run P w = .ok z w ∧ z.cells.toList = i.zero := by
  obtain ⟨inf, z, h1, h2, h3, h4, h5⟩ := h.info
  exact ⟨z, by simp [zeroValue, typeInfo, h1, h4], h5⟩

section reps
variable {w : World} {Pf : Pfs} {ι : Plc}
theorem Reps.length : ∀ {l : List V} {us : List Value}, Reps w Pf ι l us → us.length = l.length
  | [], us, h => by simp only [Reps] at h; simp [h]
  | x :: l, us, h => by
    simp only [Reps] at h
    obtain ⟨u, us', rfl, _, h⟩ := h
    simp [Reps.length h]
theorem Reps.get : ∀ {l : List V} {us : List Value} (_ : Reps w Pf ι l us) (i : Nat) (x : V), l[i]? = some x → ∃ u, us[i]? = some u ∧ Rep w Pf ι x u
  | [], us, h, i, x, hx => by simp at hx
  | y :: l, us, h, i, x, hx => by
    simp only [Reps] at h
    obtain ⟨u, us', rfl, h1, h2⟩ := h
    cases i with
    | zero => simp at hx; subst hx; exact ⟨u, by simp, h1⟩
    | succ i => simp at hx; obtain ⟨u', h3, h4⟩ := Reps.get h2 i x hx; exact ⟨u', by simpa using h3, h4⟩
theorem Reps.append : ∀ {l l' : List V} {us us' : List Value}, Reps w Pf ι l us → Reps w Pf ι l' us' → Reps w Pf ι (l ++ l') (us ++ us')
  | [], l', us, us', h, h' => by simp only [Reps] at h; subst h; simpa using h'
  | x :: l, l', us, us', h, h' => by
    simp only [Reps] at h
    obtain ⟨u, us'', rfl, h1, h2⟩ := h
    simp only [List.cons_append, Reps]
    exact ⟨u, us'' ++ us', rfl, h1, Reps.append h2 h'⟩
theorem Reps.drop : ∀ {l : List V} {us : List Value} (n : Nat), Reps w Pf ι l us → Reps w Pf ι (l.drop n) (us.drop n)
  | l, us, 0, h => by simpa using h
  | [], us, n + 1, h => by simp only [Reps] at h; subst h; simp [Reps]
  | x :: l, us, n + 1, h => by
    simp only [Reps] at h
    obtain ⟨u, us'', rfl, h1, h2⟩ := h
    simpa using Reps.drop n h2
theorem Reps.take : ∀ {l : List V} {us : List Value} (n : Nat), Reps w Pf ι l us → Reps w Pf ι (l.take n) (us.take n)
  | l, us, 0, h => by simp [Reps]
  | [], us, n + 1, h => by simp only [Reps] at h; subst h; simp [Reps]
  | x :: l, us, n + 1, h => by
    simp only [Reps] at h
    obtain ⟨u, us'', rfl, h1, h2⟩ := h
    simp only [List.take_succ_cons, Reps]
    exact ⟨u, _, rfl, h1, Reps.take n h2⟩
theorem Reps.split : ∀ {l l' : List V} {us : List Value}, Reps w Pf ι (l ++ l') us → ∃ a b, us = a ++ b ∧ Reps w Pf ι l a ∧ Reps w Pf ι l' b
  | [], l', us, h => ⟨[], us, rfl, by simp [Reps], by simpa using h⟩
  | x :: l, l', us, h => by
    simp only [List.cons_append, Reps] at h
    obtain ⟨u, us'', rfl, h1, h2⟩ := h
    obtain ⟨a, b, rfl, h3, h4⟩ := Reps.split h2
    exact ⟨u :: a, b, rfl, by simp only [Reps]; exact ⟨u, a, rfl, h1, h3⟩, h4⟩
theorem Reps.consts : ∀ (zs : List Value), Reps w Pf ι (zs.map V.c) zs
  | [] => by simp [Reps]
  | z :: zs => by simp only [List.map_cons, Reps]; exact ⟨z, zs, rfl, by simp only [Rep], Reps.consts zs⟩
theorem Rep.oneCell {x : V} {u : Value} (h1 : x.one = true) (h : Rep w Pf ι x u) : u.oneCell' = true := by
  cases x <;> simp only [V.one] at h1 <;> simp only [Rep] at h
  case c v => subst h; exact h1
  case sq => obtain ⟨_, _, rfl, _⟩ := h; rfl
  case bx => obtain ⟨_, rfl, _⟩ := h; rfl
  case fn => obtain ⟨_, rfl, _⟩ := h; rfl
  case p => obtain ⟨_, _, _, rfl⟩ := h; rfl
  case s => obtain ⟨_, _, _, _, _, rfl, _⟩ := h; rfl
  case e => obtain ⟨_, rfl⟩ := h; rfl
  case er => obtain ⟨_, _, rfl⟩ := h; rfl
  all_goals exact absurd h1 (by simp)
theorem Reps.ones {l : List V} {us : List Value} (h1 : ∀ x ∈ l, x.one = true) (h : Reps w Pf ι l us) : ∀ u ∈ us, u.oneCell' = true := by
  intro u hu
  obtain ⟨i, hi, rfl⟩ := List.getElem_of_mem hu
  have hl := h.length
  obtain ⟨u', h2, h3⟩ := h.get i l[i] (by simp)
  have : u' = us[i] := by
    rw [List.getElem?_eq_getElem hi] at h2; exact (Option.some.inj h2).symm
  subst this
  exact h3.oneCell (h1 _ (by simp))
/-- The cells of a value. -/
theorem Rep.cells {x : V} {u : Value} (h : Rep w Pf ι x u) (hx : ∀ y ∈ x.cells, y.one = true) : Reps w Pf ι x.cells u.cells.toList := by
  cases x
  case ag l =>
    simp only [Rep] at h
    obtain ⟨us, rfl, h⟩ := h
    simpa [V.cells, Value.cells] using h
  all_goals
    have h1 := hx _ (by simp [V.cells]; rfl)
    have h2 := h.oneCell h1
    have hc : u.cells = #[u] := by cases u <;> simp_all [Value.cells, Value.oneCell']
    simp only [V.cells, hc, Reps]
    exact ⟨u, [], rfl, h, rfl⟩
theorem RepC.drop : ∀ {l : List V} {a : Addr} (n : Nat), RepC w Pf ι l a → RepC w Pf ι (l.drop n) (a.add n)
  | l, a, 0, h => by simpa [Addr.add] using h
  | [], a, n + 1, h => by simp [RepC]
  | x :: l, a, n + 1, h => by
    simp only [RepC] at h
    have := RepC.drop n h.2.2.2
    rw [Go.Deep.add_add] at this
    rw [List.drop_succ_cons, Nat.add_comm n 1]
    exact this
theorem RepC.take : ∀ {l : List V} {a : Addr} (n : Nat), RepC w Pf ι l a → RepC w Pf ι (l.take n) a
  | l, a, 0, h => by simp [RepC]
  | [], a, n + 1, h => by simp [RepC]
  | x :: l, a, n + 1, h => by
    simp only [RepC] at h
    simp only [List.take_succ_cons, RepC]
    exact ⟨h.1, h.2.1, h.2.2.1, RepC.take n h.2.2.2⟩
theorem RepC.reads : ∀ {l : List V} {a : Addr}, RepC w Pf ι l a → ∃ us, Reps w Pf ι l us ∧ ∀ j u, us[j]? = some u → w.cell? (a.add j) = some u
  | [], a, _ => ⟨[], by simp [Reps], by simp⟩
  | x :: l, a, h => by
    simp only [RepC] at h
    obtain ⟨⟨u, h1, h2⟩, _, _, h3⟩ := h
    obtain ⟨us, h4, h5⟩ := RepC.reads h3
    refine ⟨u :: us, by simp only [Reps]; exact ⟨u, us, rfl, h2, h4⟩, fun j v hv => ?_⟩
    cases j with
    | zero => simp at hv; subst hv; simpa [Addr.add] using h1
    | succ j =>
      simp at hv
      have := h5 j v hv
      rw [Go.Deep.add_add] at this
      rw [Nat.add_comm j 1]; exact this
theorem RepE.get : ∀ {l : List (List V)} {sz : Nat} {a : Addr}, RepE w Pf ι sz l a → ∀ (i : Nat) (e : List V), l[i]? = some e → e.length = sz ∧ RepC w Pf ι e (a.add (i * sz))
  | [], sz, a, _, i, e, h => by simp at h
  | x :: l, sz, a, h, i, e, hx => by
    simp only [RepE] at h
    cases i with
    | zero => simp at hx; subst hx; exact ⟨h.1, by simpa [Addr.add] using h.2.1⟩
    | succ i =>
      simp at hx
      obtain ⟨h1, h2⟩ := RepE.get h.2.2 i e hx
      rw [Go.Deep.add_add] at h2
      exact ⟨h1, by rw [Nat.succ_mul, Nat.add_comm]; exact h2⟩
theorem RepE.drop : ∀ {l : List (List V)} {sz : Nat} {a : Addr} (n : Nat), RepE w Pf ι sz l a → RepE w Pf ι sz (l.drop n) (a.add (n * sz))
  | l, sz, a, 0, h => by simpa [Addr.add] using h
  | [], sz, a, n + 1, h => by simp [RepE]
  | x :: l, sz, a, n + 1, h => by
    simp only [RepE] at h
    have := RepE.drop n h.2.2
    rw [Go.Deep.add_add] at this
    rw [List.drop_succ_cons, Nat.succ_mul, Nat.add_comm (n * sz) sz]
    exact this
theorem RepE.take : ∀ {l : List (List V)} {sz : Nat} {a : Addr} (n : Nat), RepE w Pf ι sz l a → RepE w Pf ι sz (l.take n) a
  | l, sz, a, 0, h => by simp [RepE]
  | [], sz, a, n + 1, h => by simp [RepE]
  | x :: l, sz, a, n + 1, h => by
    simp only [RepE] at h
    simp only [List.take_succ_cons, RepE]
    exact ⟨h.1, h.2.1, RepE.take n h.2.2⟩
end reps
theorem NRC_drop : ∀ {l : List V} (n : Nat), NRC l → NRC (l.drop n)
  | l, 0, h => by simpa using h
  | [], n + 1, h => by simpa using h
  | x :: l, n + 1, h => by simp only [NRC] at h; simpa using NRC_drop n h.2
theorem NRC_take : ∀ {l : List V} (n : Nat), NRC l → NRC (l.take n)
  | l, 0, h => by simp [NRC]
  | [], n + 1, h => by simp [NRC]
  | x :: l, n + 1, h => by simp only [NRC] at h; simp only [List.take_succ_cons, NRC]; exact ⟨h.1, NRC_take n h.2⟩
theorem NRE_drop : ∀ {l : List (List V)} (n : Nat), NRE l → NRE (l.drop n)
  | l, 0, h => by simpa using h
  | [], n + 1, h => by simpa using h
  | x :: l, n + 1, h => by simp only [NRE] at h; simpa using NRE_drop n h.2
theorem NRE_take : ∀ {l : List (List V)} (n : Nat), NRE l → NRE (l.take n)
  | l, 0, h => by simp [NRE]
  | [], n + 1, h => by simp [NRE]
  | x :: l, n + 1, h => by simp only [NRE] at h; simp only [List.take_succ_cons, NRE]; exact ⟨h.1, NRE_take n h.2⟩
theorem NRE_get : ∀ {l : List (List V)} (i : Nat) (e : List V), NRE l → l[i]? = some e → NRC e
  | [], i, e, _, h => by simp at h
  | x :: l, 0, e, h, hx => by simp only [NRE] at h; simp at hx; subst hx; exact h.1
  | x :: l, i + 1, e, h, hx => by simp only [NRE] at h; simp at hx; exact NRE_get i e h.2 hx
end Go.Proofs.YtbjmfjfnilmhhaaGreatDoor.Eng
