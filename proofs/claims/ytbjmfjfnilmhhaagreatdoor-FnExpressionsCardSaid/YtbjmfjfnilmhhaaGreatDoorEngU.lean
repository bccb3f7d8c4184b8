/- A deterministic reading of Go code over plain data: what the arguments of a law read as. No conditions. -/
import Derived.Test.YtbjmfjfnilmhhaaGreatDoorEngS
import Derived.Deep.Slices
import Derived.Lib.SmallJoins
import Derived.DataReads
import Derived.Below
import Derived.ChangeSame
import Derived.WideShapes
namespace Go.Proofs.YtbjmfjfnilmhhaaGreatDoor.Eng
open Go Go.RowKit Go.ChangeShapes Go.WideShapes Go.Deep

abbrev pf0 (w : World) : Pfs := fun _ g => g < w.heap.size
abbrev io0 : Plc := fun _ _ => none
/-- Whatever reads as data of type t stands for cells 'f v' of some v that is ok. -/
def Opn (P : Program) {α : Type} (f : α → List V) (t : TypeId) (ok : α → Prop) : Prop :=
  ∀ (H : Type) (enc : TypeId × Value → H) (w : World) (base : Nat) (spare : Nat → Bool) (held : Bool) (fuel : Nat) (cs : List Value) (x : DataW H × List MemPlace),
    DataW.trod enc P w base spare held fuel t cs = some x → ∃ v : α, Reps w (pf0 w) io0 (f v) cs ∧ ok v
theorem Opn.int {P : Program} {t : TypeId} {k : IntKind} (ht : P.underlying t = some (.int k)) : Opn P (fun n : Int => [.c (.int k n)]) t (fun n => (Lit.int k n).wf = true) := by
  intro H enc w base spare held fuel cs x h
  obtain ⟨n, rfl, _, hw⟩ := DataW.trod_int ht h
  exact ⟨n, by simp [Reps, Rep], hw⟩
theorem Opn.bool {P : Program} {t : TypeId} (ht : P.underlying t = some .bool) : Opn P (fun n : Bool => [.c (.bool n)]) t (fun _ => True) := by
  intro H enc w base spare held fuel cs x h
  obtain ⟨n, rfl, _⟩ := DataW.trod_bool ht h
  exact ⟨n, by simp [Reps, Rep], trivial⟩
theorem Opn.string {P : Program} {t : TypeId} (ht : P.underlying t = some .string) : Opn P (fun s : ByteArray => [.c (.string s)]) t (fun s => s.size ≤ maxLen) := by
  intro H enc w base spare held fuel cs x h
  obtain ⟨n, rfl, _, hw⟩ := DataW.trod_string ht h
  exact ⟨n, by simp [Reps, Rep], hw⟩
theorem repC_of {w : World} {Pf : Pfs} {ι : Plc} : ∀ (xs : List V) (c : List Value) (a : Addr), Reps w Pf ι xs c → (∀ j u, c[j]? = some u → w.cell? (a.add j) = some u) → (∀ x ∈ xs, x.one = true) → (∀ g, g < w.heap.size → Pf true g) → RepC w Pf ι xs a
  | [], _, _, _, _, _, _ => by simp only [RepC]
  | x :: xs, c, a, h, hc, ho, hp => by
    simp only [Reps] at h
    obtain ⟨u, us, rfl, h1, h2⟩ := h
    simp only [RepC]
    have h0 := hc 0 u rfl
    rw [show a.add 0 = a from rfl] at h0
    exact ⟨⟨u, h0, h1⟩, ho x (by simp), hp _ (World.block_lt_of_cell? w _ h0), repC_of xs us (a.add 1) h2 (fun j u hu => by rw [Go.Deep.add_add, Nat.add_comm]; exact hc (j + 1) u (by simpa using hu)) (fun y hy => ho y (by simp [hy])) hp⟩
theorem repE_of {w : World} {Pf : Pfs} {ι : Plc} {sz : Nat} : ∀ (l : List (List V)) (a : Addr), (∀ i e, l[i]? = some e → e.length = sz ∧ RepC w Pf ι e (a.add (i * sz))) → RepE w Pf ι sz l a
  | [], _, _ => by simp only [RepE]
  | e :: l, a, h => by
    simp only [RepE]
    have h0 := h 0 e rfl
    refine ⟨h0.1, by simpa [Addr.add] using h0.2, repE_of l (a.add sz) fun i e' he => ?_⟩
    have := h (i + 1) e' (by simpa using he)
    rw [Go.Deep.add_add, show sz + i * sz = (i + 1) * sz by rw [Nat.add_mul, Nat.one_mul, Nat.add_comm]]
    exact this
theorem nre_of : ∀ (l : List (List V)), (∀ e ∈ l, NRC e) → NRE l
  | [], _ => by simp only [NRE]
  | e :: l, h => by simp only [NRE]; exact ⟨h e (by simp), nre_of l fun e' he => h e' (by simp [he])⟩
theorem Reps.len {w : World} {Pf : Pfs} {ι : Plc} : ∀ {xs : List V} {c : List Value}, Reps w Pf ι xs c → xs.length = c.length
  | [], c, h => by simp only [Reps] at h; subst h; rfl
  | x :: xs, c, h => by simp only [Reps] at h; obtain ⟨u, us, rfl, _, h2⟩ := h; simp [Reps.len h2]
theorem Opn.slice {P : Program} {α : Type} [Inhabited α] {f : α → List V} {t e : TypeId} {ok : α → Prop} (fl : Bool) (sz : Nat) (ht : P.underlying t = some (.slice e)) (hc : P.cellsOf e = sz) (he : Opn P f e ok)
    (h1 : ∀ v, ∀ x ∈ f v, x.one = true) (h2 : fl = true → ∀ v, ∀ x ∈ f v, x.isC = true) (h3 : ∀ v, NRC (f v)) (h4 : ∀ v, (f v).length = sz) :
    Opn P (fun l : List α => [.sq false fl sz (l.map f)]) t (fun l => l.length ≤ maxLen ∧ ∀ x ∈ l, ok x) := by
  intro H enc w base spare held fuel cs x h
  rcases open_slice ht h with ⟨rfl, _⟩ | ⟨a, len, cap, m, n, D, Pl, rfl, hb, hl, hm, hmm, _, hx⟩
  · refine ⟨[], ?_, by simp, fun _ h => by cases h⟩
    simp only [Reps, Rep]
    exact ⟨_, [], rfl, ⟨none, 0, rfl, Nat.le_refl _, by unfold maxLen; omega, by simp, by simp [NRE], .inl rfl⟩, rfl⟩
  · have hle : len ≤ m := by rw [hmm]; split <;> omega
    have key : ∀ i, i < len → ∃ v : α, (∃ c : List Value, Reps w (pf0 w) io0 (f v) c ∧ ∀ j u, c[j]? = some u → w.cell? (a.add (i * sz + j)) = some u) ∧ ok v := by
      intro i hi
      obtain ⟨c, g1, g2⟩ := hx i (by omega)
      obtain ⟨v, hv, hok⟩ := he H enc w base spare held n c _ g2
      rw [hc] at g1
      obtain ⟨_, g3, g4⟩ := World.cells?_some g1
      refine ⟨v, ⟨c, hv, fun j u hu => ?_⟩, hok⟩
      have hj : j < sz := by rw [← g3]; exact (List.getElem?_eq_some_iff.1 hu).1
      rw [← Go.Deep.add_add, g4 j hj, hu]
    obtain ⟨g, hg⟩ := choose_lt key
    refine ⟨(List.range len).map g, ?_, by simp only [List.length_map, List.length_range]; omega, fun x hx => ?_⟩
    · simp only [Reps, Rep]
      refine ⟨_, [], rfl, ⟨some a, cap, by simp, by simpa using hl, hm, ?_, ?_, .inr ⟨a, rfl, ?_⟩⟩, rfl⟩
      · intro hf e' he' y hy
        simp only [List.mem_map] at he'
        obtain ⟨z, _, rfl⟩ := he'
        exact h2 hf z y hy
      · refine nre_of _ fun e' he' => ?_
        simp only [List.mem_map] at he'
        obtain ⟨z, _, rfl⟩ := he'
        exact h3 z
      · refine repE_of _ a fun i e' he' => ?_
        simp only [List.map_map, List.getElem?_map] at he'
        obtain ⟨j, hj, rfl⟩ := Option.map_eq_some_iff.1 he'
        obtain ⟨hlt, hjj⟩ := List.getElem?_eq_some_iff.1 hj
        simp only [List.length_range, List.getElem_range] at hlt hjj
        subst hjj
        obtain ⟨⟨c, hr, hcell⟩, _⟩ := hg i hlt
        exact ⟨h4 _, repC_of _ c _ hr (fun j u hu => by rw [Go.Deep.add_add]; exact hcell j u hu) (h1 _) (fun g hg => hg)⟩
    · obtain ⟨i, hi, rfl⟩ := List.mem_map.1 hx
      exact (hg i (List.mem_range.1 hi)).2
theorem Opn.ints {P : Program} {t e : TypeId} (ht : P.underlying t = some (.slice e)) (he : P.underlying e = some (.int .i64)) (hc : P.cellsOf e = 1) :
    Opn P (fun l : List Int => [.sq false true 1 (ints l)]) t (fun l => l.length ≤ maxLen ∧ ∀ x ∈ l, (Lit.int .i64 x).wf = true) :=
  Opn.slice true 1 ht hc (Opn.int he) (fun v x hx => by simp at hx; subst hx; rfl) (fun _ v x hx => by simp at hx; subst hx; rfl) (fun v => by simp [NRC, NR]) (fun _ => rfl)
/-- One cell. -/
theorem Opn.one {P : Program} {α : Type} {f : α → V} {t : TypeId} {ok : α → Prop} (h : Opn P (fun v => [f v]) t ok) {H : Type} {enc : TypeId × Value → H} {w : World} {base : Nat} {spare : Nat → Bool} {held : Bool} {fuel : Nat} {u : Value} {x : DataW H × List MemPlace}
    (hr : DataW.trod enc P w base spare held fuel t [u] = some x) : ∃ v : α, Rep w (pf0 w) io0 (f v) u ∧ ok v := by
  obtain ⟨v, hv, hok⟩ := h H enc w base spare held fuel _ _ hr
  simp only [Reps] at hv
  obtain ⟨u', us, e, h1, rfl⟩ := hv
  simp only [List.cons.injEq, and_true] at e
  subst e
  exact ⟨v, h1, hok⟩
/-- A struct of two one-cell fields. -/
theorem Opn.two {P : Program} {α β : Type} {f : α → V} {g : β → V} {t : TypeId} {f0 f1 : Field} {oka : α → Prop} {okb : β → Prop} (ht : P.underlying t = some (.struct #[f0, f1])) (hone : oneCellFields P #[f0, f1] = true) (hC : P.cellsOf t = 2)
    (h0 : Opn P (fun v => [f v]) f0.type oka) (h1 : Opn P (fun v => [g v]) f1.type okb) : Opn P (fun v : α × β => [f v.1, g v.2]) t (fun v => oka v.1 ∧ okb v.2) := by
  intro H enc w base spare held fuel cs x h
  obtain ⟨y0, y1, n, _, hl, h2, h3⟩ := trod_struct2 ht h
  rw [hC] at hl
  obtain ⟨o0, k0⟩ := Go.Deep.hone_of hone 0 f0 rfl
  obtain ⟨o1, k1⟩ := Go.Deep.hone_of hone 1 f1 rfl
  match cs, hl with
  | [c0, c1], _ =>
    obtain ⟨v0, hv0, ok0⟩ := Opn.one h0 (u := c0) (by simpa [o0, k0] using h2)
    obtain ⟨v1, hv1, ok1⟩ := Opn.one h1 (u := c1) (by simpa [o1, k1] using h3)
    exact ⟨(v0, v1), by simp only [Reps]; exact ⟨c0, [c1], rfl, hv0, c1, [], rfl, hv1, rfl⟩, ok0, ok1⟩
/-- A struct of three one-cell fields. -/
theorem Opn.three {P : Program} {α β γ : Type} {f : α → V} {g : β → V} {h : γ → V} {t : TypeId} {f0 f1 f2 : Field} {oka : α → Prop} {okb : β → Prop} {okc : γ → Prop} (ht : P.underlying t = some (.struct #[f0, f1, f2])) (hone : oneCellFields P #[f0, f1, f2] = true) (hC : P.cellsOf t = 3)
    (h0 : Opn P (fun v => [f v]) f0.type oka) (h1 : Opn P (fun v => [g v]) f1.type okb) (h2 : Opn P (fun v => [h v]) f2.type okc) : Opn P (fun v : α × β × γ => [f v.1, g v.2.1, h v.2.2]) t (fun v => oka v.1 ∧ okb v.2.1 ∧ okc v.2.2) := by
  intro H enc w base spare held fuel cs x hx
  obtain ⟨xs, n, _, rfl, hl, hlen, hf⟩ := DataW.trod_struct ht hx
  rw [hC] at hl
  obtain ⟨o0, k0⟩ := Go.Deep.hone_of hone 0 f0 rfl
  obtain ⟨o1, k1⟩ := Go.Deep.hone_of hone 1 f1 rfl
  obtain ⟨o2, k2⟩ := Go.Deep.hone_of hone 2 f2 rfl
  match xs, hlen with
  | [y0, y1, y2], _ =>
    have g0 := hf 0 f0 rfl
    have g1 := hf 1 f1 rfl
    have g2 := hf 2 f2 rfl
    match cs, hl with
    | [c0, c1, c2], _ =>
      obtain ⟨v0, hv0, ok0⟩ := Opn.one h0 (u := c0) (x := y0) (by simpa [o0, k0] using g0)
      obtain ⟨v1, hv1, ok1⟩ := Opn.one h1 (u := c1) (x := y1) (by simpa [o1, k1] using g1)
      obtain ⟨v2, hv2, ok2⟩ := Opn.one h2 (u := c2) (x := y2) (by simpa [o2, k2] using g2)
      exact ⟨(v0, v1, v2), by simp only [Reps]; exact ⟨c0, [c1, c2], rfl, hv0, c1, [c2], rfl, hv1, c2, [], rfl, hv2, rfl⟩, ok0, ok1, ok2⟩
/-- An argument of one cell that is a slice. -/
theorem Opn.arg {P : Program} {α : Type} {f : α → V} {t e : TypeId} {ok : α → Prop} (h : Opn P (fun v => [f v]) t ok) (ht : P.underlying t = some (.slice e)) {H : Type} {enc : TypeId × Value → H} {w : World} {r : Reach} {b0 base : Nat} {spare : Nat → Bool} {held : Bool} {v : Value} {d : DataW H} {ps : List MemPlace}
    (hval : Value.okWide P w r b0 t v) (hr : DataW.Trod enc P w base spare held t v d ps) : ∃ y : α, Rep w (pf0 w) io0 (f y) v ∧ ok y := by
  obtain ⟨a, len, cap, rfl⟩ := okWide_slice ht hval
  obtain ⟨fuel, hf⟩ := hr
  exact Opn.one h (by simpa [Value.cells] using hf)
theorem Reps.nl {w : World} {Pf : Pfs} {ι : Plc} : Reps w Pf ι [] [] := by simp only [Reps]
theorem Reps.cs {w : World} {Pf : Pfs} {ι : Plc} {x : V} {l : List V} {u : Value} {us : List Value} (h : Rep w Pf ι x u) (h' : Reps w Pf ι l us) : Reps w Pf ι (x :: l) (u :: us) := by
  simp only [Reps]; exact ⟨u, us, rfl, h, h'⟩
theorem Rep.agg {w : World} {Pf : Pfs} {ι : Plc} {l : List V} {us : List Value} (h : Reps w Pf ι l us) : Rep w Pf ι (.ag l) (.agg us.toArray) := by
  simp only [Rep]; exact ⟨us, rfl, h⟩
theorem Rep.con {w : World} {Pf : Pfs} {ι : Plc} {v : Value} : Rep w Pf ι (.c v) v := by simp only [Rep]
theorem desc0 (w : World) (hgl : (∀ g ∈ gs, g < w.heap.size) ∧ Jw w) : Desc w (pf0 w) io0 (fun id => ((([] : List Eng.Obj))[id]?).map fun o => (0, o)) 1 (fun _ => False) :=
  ⟨fun id vr o h => by simp at h, fun _ _ _ => rfl, fun _ _ => rfl, fun id vr o id' vr' o' g t t' h => by simp at h, fun g h => h, fun g h => h, hgl⟩
theorem Fwd.below {w w' : World} {ι ι' : Plc} (h : Fwd (pf0 w) w w' ι ι') : Below w.heap.size w w' := ⟨h.os, h.tape, h.output, h.size, fun k hk => h.prot k hk⟩
end Go.Proofs.YtbjmfjfnilmhhaaGreatDoor.Eng
