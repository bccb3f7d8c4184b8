/- A deterministic reading of Go code over plain data ('run'), and what it says about the machine. Here: the values, what they stand for in a world, the steps. No conditions. -/
import Derived.Orders
import Derived.Below
import Derived.Laws.OwnMore
import Derived.Laws.CopyOwn
import Derived.WalkKit
import Derived.Test.YtbjmfjfnilmhhaaGreatDoorEngV
namespace Go.Proofs.YtbjmfjfnilmhhaaGreatDoor.Eng
open Go Go.RowKit

/-- A block of cells, none of them frozen. -/
def Blk (w : World) (g : Nat) (cur : Array Value) (ty : TypeId) : Prop := ∃ fz : Nat × Nat, w.heap[g]? = some (.cells cur ty fz) ∧ (fz = (0, 0) ∨ cur.size ≤ fz.1)
/-- Values: a constant; a slice that is only read (borrowed? plain? cells an element, elements); a pointer to cells that are only read; a function with what it captured; a struct; several results; a pointer to, and a slice of, an object of one's own; a slice without any room; an interface value that is not nil; anything. -/
inductive V where
  | c (v : Value)
  | sq (b fl : Bool) (sz : Nat) (l : List (List V))
  | bx (b : Bool) (l : List V)
  | fn (f : FuncId) (caps : List V)
  | ag (l : List V)
  | tp (l : List V)
  | p (id vr sz i j : Nat)
  | s (id vr sz off len : Nat)
  | e
  | er
  | un
  deriving Inhabited

def V.isC : V → Bool
  | .c _ => true
  | _ => false
def V.one : V → Bool
  | .c v => v.oneCell'
  | .ag _ | .tp _ | .un => false
  | _ => true

mutual
def NR : V → Prop
  | .c _ => True
  | .sq _ _ _ l => NRE l
  | .bx _ l => NRC l
  | .fn _ l => NRC l
  | .ag l => NRC l
  | .tp l => NRC l
  | .p .. => False
  | .s .. => False
  | .e => True
  | .er => True
  | .un => False
def NRC : List V → Prop
  | [] => True
  | x :: l => NR x ∧ NRC l
def NRE : List (List V) → Prop
  | [] => True
  | x :: l => NRC x ∧ NRE l
end

abbrev Pfs := Bool → Nat → Prop
abbrev Plc := Nat → Nat → Option (Nat × Nat)
def dn (b : Bool) (Pf : Pfs) : Pfs := fun b' => Pf (b && b')

mutual
def Rep (w : World) (Pf : Pfs) (ι : Plc) : V → Value → Prop
  | .c v, u => u = v
  | .sq b fl sz l, u => ∃ A cap, u = .slice A l.length cap ∧ l.length ≤ cap ∧ cap ≤ maxLen ∧ (fl = true → ∀ e ∈ l, ∀ x ∈ e, x.isC = true) ∧ NRE l ∧ (l = [] ∨ ∃ a, A = some a ∧ RepE w (dn b Pf) ι sz l a)
  | .bx b l, u => ∃ a, u = .pointer (some a) ∧ NRC l ∧ RepC w (dn b Pf) ι l a
  | .fn f l, u => ∃ us : List Value, u = .func (.func f) #[] us.toArray ∧ Reps w Pf ι l us
  | .ag l, u => ∃ us : List Value, u = .agg us.toArray ∧ Reps w Pf ι l us
  | .tp l, u => ∃ us : List Value, u = .tuple us.toArray ∧ Reps w Pf ι l us
  | .p id vr sz i j, u => ∃ g tot, ι id vr = some (g, tot) ∧ u = .pointer (some ⟨g, i * sz + j, none⟩)
  | .s id vr sz off len, u => ∃ g tot a cap, ι id vr = some (g, tot) ∧ u = .slice (some a) len cap ∧ len ≤ cap ∧ cap ≤ maxLen ∧ (0 < len → a = ⟨g, off * sz, none⟩) ∧ (off = 0 → a = ⟨g, 0, none⟩ ∧ cap * sz = tot)
  | .e, u => ∃ A, u = .slice A 0 0
  | .er, u => ∃ t x, u = .iface t x
  | .un, _ => True
def Reps (w : World) (Pf : Pfs) (ι : Plc) : List V → List Value → Prop
  | [], us => us = []
  | x :: l, us => ∃ u us', us = u :: us' ∧ Rep w Pf ι x u ∧ Reps w Pf ι l us'
def RepC (w : World) (Pf : Pfs) (ι : Plc) : List V → Addr → Prop
  | [], _ => True
  | x :: l, a => (∃ u, w.cell? a = some u ∧ Rep w Pf ι x u) ∧ x.one = true ∧ Pf true a.block ∧ RepC w Pf ι l (a.add 1)
def RepE (w : World) (Pf : Pfs) (ι : Plc) (sz : Nat) : List (List V) → Addr → Prop
  | [], _ => True
  | e :: l, a => e.length = sz ∧ RepC w Pf ι e a ∧ RepE w Pf ι sz l (a.add sz)
end

structure Obj where
  ty : TypeId
  sz : Nat
  fl : Bool
  es : List (List V)
  deriving Inhabited

abbrev Hp := Nat → Option (Nat × Obj)

structure Own (w : World) (Pf : Pfs) (ι : Plc) (id vr : Nat) (o : Obj) : Prop where
  ex : ∃ g tot cur xs, ι id vr = some (g, tot) ∧ Blk w g cur o.ty ∧ cur.size = tot ∧ Reps w Pf ι o.es.flatten xs ∧ cur.toList.take xs.length = xs ∧ ¬ Pf true g
  one : ∀ e ∈ o.es, ∀ x ∈ e, x.one = true
  sz : ∀ e ∈ o.es, e.length = o.sz
  fl : o.fl = true → ∀ e ∈ o.es, ∀ x ∈ e, x.isC = true

/-- What is known of a world. -/
structure Desc (w : World) (Pf : Pfs) (ι : Plc) (H : Hp) (tick : Nat) (done : Nat → Prop) : Prop where
  own : ∀ id vr o, H id = some (vr, o) → Own w Pf ι id vr o
  fresh : ∀ id vr, tick < vr → ι id vr = none
  fresh' : ∀ id, ¬ done (id / 16) → ι id tick = none
  inj : ∀ id vr o id' vr' o' g t t', H id = some (vr, o) → H id' = some (vr', o') → ι id vr = some (g, t) → ι id' vr' = some (g, t') → id = id'
  lt : ∀ g, Pf true g → g < w.heap.size
  sub : ∀ g, Pf false g → Pf true g
  glob : (∀ g ∈ gs, Pf true g) ∧ Jw w
theorem Desc.gl {w w' : World} {Pf : Pfs} {ι : Plc} {H : Hp} {tick : Nat} {done : Nat → Prop} (D : Desc w Pf ι H tick done) (h : ∀ g, Pf true g → w'.heap[g]? = w.heap[g]?) : (∀ g ∈ gs, Pf true g) ∧ Jw w' :=
  ⟨D.glob.1, Jw_cong (fun g hg => h g (D.glob.1 g hg)) D.glob.2⟩

/-- From one world to a later one: what is protected stays; places stay known. -/
structure Fwd (Pf : Pfs) (w w' : World) (ι ι' : Plc) : Prop where
  os : w'.os = w.os
  tape : w'.tape = w.tape
  output : w'.output = w.output
  size : w.heap.size ≤ w'.heap.size
  prot : ∀ g, Pf true g → w'.heap[g]? = w.heap[g]?
  ext : ∀ id vr x, ι id vr = some x → ι' id vr = some x

theorem Fwd.refl (Pf : Pfs) (w : World) (ι : Plc) : Fwd Pf w w ι ι := ⟨rfl, rfl, rfl, Nat.le_refl _, fun _ _ => rfl, fun _ _ _ h => h⟩
theorem Fwd.trans {Pf : Pfs} {a b c : World} {ι ι' ι'' : Plc} (h : Fwd Pf a b ι ι') (k : Fwd Pf b c ι' ι'') : Fwd Pf a c ι ι'' :=
  ⟨k.os.trans h.os, k.tape.trans h.tape, k.output.trans h.output, Nat.le_trans h.size k.size, fun g hg => (k.prot g hg).trans (h.prot g hg), fun _ _ _ hx => k.ext _ _ _ (h.ext _ _ _ hx)⟩

/-! ### frames -/
theorem isC_one {x : V} (h : x.isC = true) : ∃ v, x = .c v := by
  cases x <;> simp [V.isC] at h
  exact ⟨_, rfl⟩

section mono
variable {w w' : World} {Pf Pf' : Pfs} {ι ι' : Plc}
theorem dn_mono (b : Bool) (hf : ∀ b g, Pf b g → Pf' b g ∧ w'.heap[g]? = w.heap[g]?) : ∀ b' g, dn b Pf b' g → dn b Pf' b' g ∧ w'.heap[g]? = w.heap[g]? := fun _ _ h => hf _ _ h
theorem cell_of_blk {a : Addr} (h : w'.heap[a.block]? = w.heap[a.block]?) : w'.cell? a = w.cell? a := World.cell?_of_block h

mutual
theorem Rep.mono {w w' : World} {Pf Pf' : Pfs} {ι ι' : Plc} (hf : ∀ b g, Pf b g → Pf' b g ∧ w'.heap[g]? = w.heap[g]?) (hi : ∀ id vr x, ι id vr = some x → ι' id vr = some x) : ∀ (x : V) (u : Value), Rep w Pf ι x u → Rep w' Pf' ι' x u
  | .c v, u, h => by simpa only [Rep] using h
  | .sq b fl sz l, u, h => by
    simp only [Rep] at h ⊢
    obtain ⟨A, cap, h1, h2, h3, h4, h5, h6⟩ := h
    refine ⟨A, cap, h1, h2, h3, h4, h5, ?_⟩
    rcases h6 with h6 | ⟨a, ha, h6⟩
    · exact .inl h6
    · exact .inr ⟨a, ha, RepE.mono (dn_mono b hf) hi sz l a h6⟩
  | .bx b l, u, h => by
    simp only [Rep] at h ⊢
    obtain ⟨a, h1, h2, h3⟩ := h
    exact ⟨a, h1, h2, RepC.mono (dn_mono b hf) hi l a h3⟩
  | .fn f l, u, h => by
    simp only [Rep] at h ⊢
    obtain ⟨us, h1, h2⟩ := h
    exact ⟨us, h1, Reps.mono hf hi l us h2⟩
  | .ag l, u, h => by
    simp only [Rep] at h ⊢
    obtain ⟨us, h1, h2⟩ := h
    exact ⟨us, h1, Reps.mono hf hi l us h2⟩
  | .tp l, u, h => by
    simp only [Rep] at h ⊢
    obtain ⟨us, h1, h2⟩ := h
    exact ⟨us, h1, Reps.mono hf hi l us h2⟩
  | .p id vr sz i j, u, h => by
    simp only [Rep] at h ⊢
    obtain ⟨g, tot, h1, h2⟩ := h
    exact ⟨g, tot, hi _ _ _ h1, h2⟩
  | .s id vr sz off len, u, h => by
    simp only [Rep] at h ⊢
    obtain ⟨g, tot, a, cap, h1, h2⟩ := h
    exact ⟨g, tot, a, cap, hi _ _ _ h1, h2⟩
  | .e, u, h => by simpa only [Rep] using h
  | .er, u, h => by simpa only [Rep] using h
  | .un, u, h => by simp only [Rep]
theorem Reps.mono {w w' : World} {Pf Pf' : Pfs} {ι ι' : Plc} (hf : ∀ b g, Pf b g → Pf' b g ∧ w'.heap[g]? = w.heap[g]?) (hi : ∀ id vr x, ι id vr = some x → ι' id vr = some x) : ∀ (l : List V) (us : List Value), Reps w Pf ι l us → Reps w' Pf' ι' l us
  | [], us, h => by simpa only [Reps] using h
  | x :: l, us, h => by
    simp only [Reps] at h ⊢
    obtain ⟨u, us', h1, h2, h3⟩ := h
    exact ⟨u, us', h1, Rep.mono hf hi x u h2, Reps.mono hf hi l us' h3⟩
theorem RepC.mono {w w' : World} {Pf Pf' : Pfs} {ι ι' : Plc} (hf : ∀ b g, Pf b g → Pf' b g ∧ w'.heap[g]? = w.heap[g]?) (hi : ∀ id vr x, ι id vr = some x → ι' id vr = some x) : ∀ (l : List V) (a : Addr), RepC w Pf ι l a → RepC w' Pf' ι' l a
  | [], a, h => by simp only [RepC]
  | x :: l, a, h => by
    simp only [RepC] at h ⊢
    obtain ⟨⟨u, h1, h2⟩, h3, h4, h5⟩ := h
    exact ⟨⟨u, (cell_of_blk (hf _ _ h4).2).trans h1, Rep.mono hf hi x u h2⟩, h3, (hf _ _ h4).1, RepC.mono hf hi l _ h5⟩
theorem RepE.mono {w w' : World} {Pf Pf' : Pfs} {ι ι' : Plc} (hf : ∀ b g, Pf b g → Pf' b g ∧ w'.heap[g]? = w.heap[g]?) (hi : ∀ id vr x, ι id vr = some x → ι' id vr = some x) (sz : Nat) : ∀ (l : List (List V)) (a : Addr), RepE w Pf ι sz l a → RepE w' Pf' ι' sz l a
  | [], a, h => by simp only [RepE]
  | e :: l, a, h => by
    simp only [RepE] at h ⊢
    obtain ⟨h1, h2, h3⟩ := h
    exact ⟨h1, RepC.mono hf hi e a h2, RepE.mono hf hi sz l _ h3⟩
end

theorem Rep.fwd {w w' : World} {Pf : Pfs} {ι ι' : Plc} (hs : ∀ g, Pf false g → Pf true g) (h : Fwd Pf w w' ι ι') {x : V} {u : Value} (hr : Rep w Pf ι x u) : Rep w' Pf ι' x u :=
  Rep.mono (fun b g hg => ⟨hg, h.prot g (by cases b with | false => exact hs g hg | true => exact hg)⟩) h.ext x u hr
theorem Reps.fwd {w w' : World} {Pf : Pfs} {ι ι' : Plc} (hs : ∀ g, Pf false g → Pf true g) (h : Fwd Pf w w' ι ι') {x : List V} {u : List Value} (hr : Reps w Pf ι x u) : Reps w' Pf ι' x u :=
  Reps.mono (fun b g hg => ⟨hg, h.prot g (by cases b with | false => exact hs g hg | true => exact hg)⟩) h.ext x u hr

mutual
theorem Rep.nr {w : World} {Pf : Pfs} {ι ι' : Plc} : ∀ (x : V) (u : Value), NR x → Rep w Pf ι x u → Rep w Pf ι' x u
  | .c v, u, _, h => by simpa only [Rep] using h
  | .sq b fl sz l, u, n, h => by
    simp only [Rep] at h ⊢
    obtain ⟨A, cap, h1, h2, h3, h4, h5, h6⟩ := h
    refine ⟨A, cap, h1, h2, h3, h4, h5, ?_⟩
    rcases h6 with h6 | ⟨a, ha, h6⟩
    · exact .inl h6
    · exact .inr ⟨a, ha, RepE.nr sz l a h5 h6⟩
  | .bx b l, u, n, h => by
    simp only [Rep] at h ⊢
    obtain ⟨a, h1, h2, h3⟩ := h
    exact ⟨a, h1, h2, RepC.nr l a h2 h3⟩
  | .fn f l, u, n, h => by
    simp only [Rep] at h ⊢
    simp only [NR] at n
    obtain ⟨us, h1, h2⟩ := h
    exact ⟨us, h1, Reps.nr l us n h2⟩
  | .ag l, u, n, h => by
    simp only [Rep] at h ⊢
    simp only [NR] at n
    obtain ⟨us, h1, h2⟩ := h
    exact ⟨us, h1, Reps.nr l us n h2⟩
  | .tp l, u, n, h => by
    simp only [Rep] at h ⊢
    simp only [NR] at n
    obtain ⟨us, h1, h2⟩ := h
    exact ⟨us, h1, Reps.nr l us n h2⟩
  | .p id vr sz i j, u, n, h => by simp only [NR] at n
  | .s id vr sz off len, u, n, h => by simp only [NR] at n
  | .e, u, n, h => by simpa only [Rep] using h
  | .er, u, n, h => by simpa only [Rep] using h
  | .un, u, n, h => by simp only [Rep]
theorem Reps.nr {w : World} {Pf : Pfs} {ι ι' : Plc} : ∀ (l : List V) (us : List Value), NRC l → Reps w Pf ι l us → Reps w Pf ι' l us
  | [], us, _, h => by simpa only [Reps] using h
  | x :: l, us, n, h => by
    simp only [Reps] at h ⊢
    simp only [NRC] at n
    obtain ⟨u, us', h1, h2, h3⟩ := h
    exact ⟨u, us', h1, Rep.nr x u n.1 h2, Reps.nr l us' n.2 h3⟩
theorem RepC.nr {w : World} {Pf : Pfs} {ι ι' : Plc} : ∀ (l : List V) (a : Addr), NRC l → RepC w Pf ι l a → RepC w Pf ι' l a
  | [], a, _, h => by simp only [RepC]
  | x :: l, a, n, h => by
    simp only [RepC] at h ⊢
    simp only [NRC] at n
    obtain ⟨⟨u, h1, h2⟩, h3, h4, h5⟩ := h
    exact ⟨⟨u, h1, Rep.nr x u n.1 h2⟩, h3, h4, RepC.nr l _ n.2 h5⟩
theorem RepE.nr {w : World} {Pf : Pfs} {ι ι' : Plc} (sz : Nat) : ∀ (l : List (List V)) (a : Addr), NRE l → RepE w Pf ι sz l a → RepE w Pf ι' sz l a
  | [], a, _, h => by simp only [RepE]
  | e :: l, a, n, h => by
    simp only [RepE] at h ⊢
    simp only [NRE] at n
    obtain ⟨h1, h2, h3⟩ := h
    exact ⟨h1, RepC.nr e a n.1 h2, RepE.nr sz l _ n.2 h3⟩
end
end mono
end Go.Proofs.YtbjmfjfnilmhhaaGreatDoor.Eng
