/- What the arguments of a law read as, kind by kind: 'Opens P d t ok': whatever reads as data of type t is a value of kind d of which ok holds. -/
import Derived.Test.YtngbdlkcpkkeoaaXWords
import Derived.Deep.Slices
import Derived.Lib.SmallJoins
import Derived.DataReads
namespace Go.Proofs.YtngbdlkcpkkeoaaW.PrintLast
open Go.RowKit Go.Proofs.YtngbdlkcpkkeoaaW.PrintWords Go.ChangeShapes Go.WideShapes Go.Deep
def Opens (P : Program) {α : Type} (d : Kd α) (t : TypeId) (ok : α → Prop) : Prop :=
  ∀ (H : Type) (enc : TypeId × Value → H) (w : World) (base : Nat) (spare : Nat → Bool) (held : Bool) (fuel : Nat) (cs : List Value) (x : DataW H × List MemPlace),
    DataW.trod enc P w base spare held fuel t cs = some x → ∃ v, d.K w v cs ∧ ok v
theorem Opens.int {P : Program} {t : TypeId} {k : IntKind} (ht : P.underlying t = some (.int k)) : Opens P (Kd.int k) t (fun n => (Lit.int k n).wf = true) := by
  intro H enc w base spare held fuel cs x h
  obtain ⟨n, rfl, _, hw⟩ := DataW.trod_int ht h
  exact ⟨n, rfl, hw⟩
theorem Opens.bool {P : Program} {t : TypeId} (ht : P.underlying t = some .bool) : Opens P Kd.bool t (fun _ => True) := by
  intro H enc w base spare held fuel cs x h
  obtain ⟨n, rfl, _⟩ := DataW.trod_bool ht h
  exact ⟨n, rfl, trivial⟩
theorem Opens.string {P : Program} {t : TypeId} (ht : P.underlying t = some .string) : Opens P Kd.string t (fun s => s.size ≤ maxLen) := by
  intro H enc w base spare held fuel cs x h
  obtain ⟨n, rfl, _, hw⟩ := DataW.trod_string ht h
  exact ⟨n, rfl, hw⟩
theorem Opens.slice {P : Program} {α : Type} (d0 : α) {d : Kd α} {t e : TypeId} {ok : α → Prop} (ht : P.underlying t = some (.slice e)) (hc : P.cellsOf e = d.sz) (he : Opens P d e ok) :
    Opens P (Kd.slice e d) t (fun l => l.length ≤ maxLen ∧ ∀ x ∈ l, ok x) := by
  intro H enc w base spare held fuel cs x h
  haveI : Inhabited α := ⟨d0⟩
  rcases open_slice ht h with ⟨rfl, _⟩ | ⟨a, len, cap, m, n, D, Pl, rfl, hb, hl, hm, hmm, _, hx⟩
  · exact ⟨[], ⟨none, 0, rfl, Nat.le_refl _, rfl, by simp, fun h => absurd h (by simp)⟩, by simp, fun _ h => by cases h⟩
  · have hle : len ≤ m := by rw [hmm]; split <;> omega
    have key : ∀ i, i < len → ∃ v : α, ∃ c : List Value, d.K w v c ∧ ok v ∧ c.length = d.sz ∧ ∀ j u, c[j]? = some u → w.cell? (a.add (i * d.sz + j)) = some u := by
      intro i hi
      obtain ⟨c, h1, h2⟩ := hx i (by omega)
      obtain ⟨v, hv, hok⟩ := he H enc w base spare held n c _ h2
      rw [hc] at h1
      obtain ⟨_, h3, h4⟩ := World.cells?_some h1
      refine ⟨v, c, hv, hok, h3, fun j u hu => ?_⟩
      have hj : j < d.sz := by rw [← h3]; exact (List.getElem?_eq_some_iff.1 hu).1
      rw [← Go.Deep.add_add, h4 j hj, hu]
    obtain ⟨f, hf⟩ := choose_lt key
    refine ⟨(List.range len).map f, ⟨some a, cap, by simp, by simpa using hl, by simp, by simp only [List.length_map, List.length_range]; unfold maxLen at hm; omega, fun _ => ⟨a, rfl, fun j p hj => ?_⟩⟩, by simp only [List.length_map, List.length_range]; omega, fun x hx => ?_⟩
    · rw [List.getElem?_map] at hj
      obtain ⟨j', hj', rfl⟩ := Option.map_eq_some_iff.1 hj
      obtain ⟨hlt, hjj⟩ := List.getElem?_eq_some_iff.1 hj'
      simp only [List.length_range, List.getElem_range] at hlt hjj
      subst hjj
      obtain ⟨c, hk, _, hl2, hcell⟩ := hf j hlt
      exact ⟨c, hl2, hk, hcell⟩
    · obtain ⟨i, hi, rfl⟩ := List.mem_map.1 hx
      exact (hf i (List.mem_range.1 hi)).choose_spec.2.1
theorem Opens.struct2 {P : Program} {α β γ : Type} {da : Kd α} {db : Kd β} {g : γ → α × β} {mk : α → β → γ} {t : TypeId} {f0 f1 : Field} {oka : α → Prop} {okb : β → Prop} (ht : P.underlying t = some (.struct #[f0, f1])) (hone : oneCellFields P #[f0, f1] = true) (hC : P.cellsOf t = 2)
    (hg : ∀ x y, g (mk x y) = (x, y)) (h0 : Opens P da f0.type oka) (h1 : Opens P db f1.type okb) : Opens P (Kd.iso (Kd.pair da db) g) t (fun s => oka (g s).1 ∧ okb (g s).2) := by
  intro H enc w base spare held fuel cs x h
  obtain ⟨y0, y1, n, _, hl, h2, h3⟩ := trod_struct2 ht h
  rw [hC] at hl
  obtain ⟨o0, k0⟩ := Go.Deep.hone_of hone 0 f0 rfl
  obtain ⟨o1, k1⟩ := Go.Deep.hone_of hone 1 f1 rfl
  match cs, hl with
  | [c0, c1], _ =>
    obtain ⟨v0, hv0, ok0⟩ := h0 H enc w base spare held n [c0] y0 (by simpa [o0, k0] using h2)
    obtain ⟨v1, hv1, ok1⟩ := h1 H enc w base spare held n [c1] y1 (by simpa [o1, k1] using h3)
    exact ⟨mk v0 v1, ⟨[c0], [c1], rfl, by rw [hg]; exact hv0, by rw [hg]; exact hv1⟩, by simp only [hg]; exact ⟨ok0, ok1⟩⟩
theorem Opens.struct3 {P : Program} {α β γ δ : Type} {da : Kd α} {db : Kd β} {dc : Kd γ} {g : δ → α × β × γ} {mk : α → β → γ → δ} {t : TypeId} {f0 f1 f2 : Field} {oka : α → Prop} {okb : β → Prop} {okc : γ → Prop} (ht : P.underlying t = some (.struct #[f0, f1, f2])) (hone : oneCellFields P #[f0, f1, f2] = true) (hC : P.cellsOf t = 3)
    (hg : ∀ x y z, g (mk x y z) = (x, y, z)) (h0 : Opens P da f0.type oka) (h1 : Opens P db f1.type okb) (h2 : Opens P dc f2.type okc) : Opens P (Kd.iso (Kd.pair da (Kd.pair db dc)) g) t (fun s => oka (g s).1 ∧ okb (g s).2.1 ∧ okc (g s).2.2) := by
  intro H enc w base spare held fuel cs x h
  obtain ⟨y0, y1, y2, n, _, hl, h3, h4, h5⟩ := trod_struct3 ht h
  rw [hC] at hl
  obtain ⟨o0, k0⟩ := Go.Deep.hone_of hone 0 f0 rfl
  obtain ⟨o1, k1⟩ := Go.Deep.hone_of hone 1 f1 rfl
  obtain ⟨o2, k2⟩ := Go.Deep.hone_of hone 2 f2 rfl
  match cs, hl with
  | [c0, c1, c2], _ =>
    obtain ⟨v0, hv0, ok0⟩ := h0 H enc w base spare held n [c0] y0 (by simpa [o0, k0] using h3)
    obtain ⟨v1, hv1, ok1⟩ := h1 H enc w base spare held n [c1] y1 (by simpa [o1, k1] using h4)
    obtain ⟨v2, hv2, ok2⟩ := h2 H enc w base spare held n [c2] y2 (by simpa [o2, k2] using h5)
    exact ⟨mk v0 v1 v2, ⟨[c0], [c1, c2], rfl, by rw [hg]; exact hv0, [c1], [c2], rfl, by rw [hg]; exact hv1, by rw [hg]; exact hv2⟩, by simp only [hg]; exact ⟨ok0, ok1, ok2⟩⟩
/-- A slice among the arguments, opened. -/
theorem Opens.arg_slice {P : Program} {α : Type} {d : Kd α} {t e : TypeId} {ok : List α → Prop} (h : Opens P (Kd.slice e d) t ok) {H : Type} {enc : TypeId × Value → H} {w : World} {base : Nat} {spare : Nat → Bool} {held : Bool} {a : Option Addr} {len cap : Nat} {x : DataW H} {ps : List MemPlace}
    (hr : DataW.Trod enc P w base spare held t (.slice a len cap) x ps) : ∃ l : List α, len = l.length ∧ Kd.C d w a l.length l ∧ l.length ≤ cap ∧ ok l := by
  obtain ⟨fuel, hf⟩ := hr
  obtain ⟨l, ⟨A, c, hc, hl, hC⟩, hok⟩ := h H enc w base spare held fuel _ _ hf
  simp [Value.cells] at hc
  obtain ⟨rfl, rfl, rfl⟩ := hc
  exact ⟨l, rfl, hC, hl, hok⟩
/-- The same, a field's cell. -/
theorem Opens.cell_slice {P : Program} {α : Type} {d : Kd α} {t e : TypeId} {ok : List α → Prop} (h : Opens P (Kd.slice e d) t ok) {H : Type} {enc : TypeId × Value → H} {w : World} {base : Nat} {spare : Nat → Bool} {held : Bool} {fuel : Nat} {v : Value} {x : DataW H × List MemPlace}
    (hr : DataW.trod enc P w base spare held fuel t [v] = some x) : ∃ (l : List α) (A : Option Addr) (c : Nat), v = .slice A l.length c ∧ Kd.C d w A l.length l ∧ l.length ≤ c ∧ ok l := by
  obtain ⟨l, ⟨A, c, hc, hl, hC⟩, hok⟩ := h H enc w base spare held fuel _ _ hr
  simp at hc
  exact ⟨l, A, c, hc, hC, hl, hok⟩
end Go.Proofs.YtngbdlkcpkkeoaaW.PrintLast
