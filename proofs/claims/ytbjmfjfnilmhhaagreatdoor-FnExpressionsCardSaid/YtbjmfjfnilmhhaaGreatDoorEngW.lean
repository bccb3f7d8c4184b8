/- A deterministic reading of Go code over plain data: strings.Builder. No conditions. -/
import Derived.Test.YtbjmfjfnilmhhaaGreatDoorEngL
import Derived.Lib.AppendStr
import Derived.Lib.UnsafeStr
import Derived.Lib.Builder
namespace Go.Proofs.YtbjmfjfnilmhhaaGreatDoor.Eng
open Go Go.RowKit

def byteC (s : ByteArray) : List Value := s.data.toList.map fun b => Value.int .u8 (b.toNat : Int)
/-- A row of bytes that stands in a builder. -/
def RowV (w : World) (e : TypeId) (v : Value) (n : Nat) (xs : List Value) (ob : Option Nat) : Prop :=
  (v = .slice none 0 0 ∧ n = 0 ∧ xs = [] ∧ ob = none) ∨ ∃ g cur, v = .slice (some ⟨g, 0, none⟩) n cur.size ∧ Blk w g cur e ∧ n ≤ cur.size ∧ cur.size ≤ maxLen ∧ cur.toList.take n = xs ∧ xs.length = n ∧ ob = some g
structure Same (w w' : World) : Prop where
  os : w'.os = w.os
  tape : w'.tape = w.tape
  output : w'.output = w.output
  size : w.heap.size ≤ w'.heap.size
def Wrote (w w' : World) (b : Nat) (T e : TypeId) (cur : Array Value) (fz : Nat × Nat) (n : Nat) (xs : List Value) (ob : Option Nat) (s : ByteArray) : Prop :=
  ∃ w1 w2 g' cur', Same w w1 ∧ (∀ k, k ≠ b → w1.heap[k]? = w.heap[k]?) ∧ w1.heap[b]? = some (.cells (cur.setIfInBounds 0 (.pointer (some ⟨b, 0, none⟩))) T fz) ∧
    Same w1 w2 ∧ (∀ k, k < w1.heap.size → k ≠ g' → w2.heap[k]? = w1.heap[k]?) ∧ Blk w2 g' cur' e ∧ n + s.size ≤ cur'.size ∧ cur'.size ≤ maxLen ∧ cur'.toList.take (n + s.size) = xs ++ byteC s ∧ (ob = some g' ∨ w1.heap.size ≤ g') ∧
    Same w2 w' ∧ (∀ k, k ≠ b → w'.heap[k]? = w2.heap[k]?) ∧ w'.heap[b]? = some (.cells ((cur.setIfInBounds 0 (.pointer (some ⟨b, 0, none⟩))).setIfInBounds 1 (.slice (some ⟨g', 0, none⟩) (n + s.size) cur'.size)) T fz)
def Enters (P : Program) (f : FuncId) : Prop := ∀ (args : Array Value) (w : World), (callFunc f args).run P w = .ok (.enter f args) w
/-- What the two methods come to. -/
def BldW (P : Program) (f : FuncId) (T e : TypeId) : Prop :=
  ∀ (w : World) (b n : Nat) (cur : Array Value) (fz : Nat × Nat) (p v : Value) (xs : List Value) (ob : Option Nat) (s : ByteArray), w.heap[b]? = some (.cells cur T fz) → (fz = (0, 0) ∨ cur.size ≤ fz.1) → cur.toList.take 2 = [p, v] →
    (p = .pointer none ∨ p = .pointer (some ⟨b, 0, none⟩)) → RowV w e v n xs ob → ob ≠ some b → 0 < s.size → n + s.size ≤ 140737488355328 →
    Calls P f #[.pointer (some ⟨b, 0, none⟩), .string s] w fun x w' => x = .returned (.tuple #[.int .i64 (s.size : Int), .nilIface]) ∧ Wrote w w' b T e cur fz n xs ob s
def BldS (P : Program) (f : FuncId) (T e : TypeId) : Prop :=
  ∀ (w : World) (b g : Nat) (cur cur2 : Array Value) (fz : Nat × Nat) (p : Value) (l : List UInt8), w.heap[b]? = some (.cells cur T fz) → cur.toList.take 2 = [p, .slice (some ⟨g, 0, none⟩) l.length cur2.size] → Blk w g cur2 e → g ≠ b → l ≠ [] → l.length ≤ cur2.size → cur2.size ≤ maxLen →
    cur2.toList.take l.length = l.map (fun b => Value.int .u8 (b.toNat : Int)) →
    Calls P f #[.pointer (some ⟨b, 0, none⟩)] w fun x w' => x = .returned (.string ⟨l.toArray⟩) ∧ Same w w' ∧ ∀ k, k ≠ g → w'.heap[k]? = w.heap[k]?
/-- What slices.Replace comes to, where one element of two cells takes the place of two or more. -/
def BldR (P : Program) (f : FuncId) (e : TypeId) : Prop :=
  ∀ (w : World) (g n i j cap cap2 : Nat) (cur : Array Value) (fz : Nat × Nat) (ad : Addr) (xs : List Value), w.heap[g]? = some (.cells cur e fz) → (fz = (0, 0) ∨ cur.size ≤ fz.1) → i + 1 < j → j ≤ n → n ≤ cap → cap ≤ maxLen → cap * 2 = cur.size →
    (∀ v ∈ cur.toList.take (n * 2), v.oneCell' = true) → xs.length = 2 → (∀ q v, xs[q]? = some v → w.cell? (ad.add q) = some v) → (∀ v ∈ xs, v.oneCell' = true) →
    Calls P f #[.slice (some ⟨g, 0, none⟩) n cap, .int .i64 (i : Int), .int .i64 (j : Int), .slice (some ad) 1 cap2] w fun x w' => x = .returned (.slice (some ⟨g, 0, none⟩) (i + 1 + (n - j)) cap) ∧ Same w w' ∧ (∀ k, k ≠ g → w'.heap[k]? = w.heap[k]?) ∧
      ∃ cur', w'.heap[g]? = some (.cells cur' e fz) ∧ cur'.size = cur.size ∧ cur'.toList.take ((i + 1 + (n - j)) * 2) = cur.toList.take (i * 2) ++ xs ++ (cur.toList.take (n * 2)).drop (j * 2)
def BldOk (P : Program) (f : FuncId) (k : Nat × TypeId × TypeId) : Prop :=
  Enters P f ∧ (k.1 = 1 → BldW P f k.2.1 k.2.2) ∧ (k.1 = 0 → BldS P f k.2.1 k.2.2) ∧ (k.1 = 2 → BldR P f k.2.2)
def EntOk (P : Program) (C : Cfg) (call : CallF) : Prop := (∀ f aZ fr r, call f aZ fr = some r → Enters P f) ∧ (∀ f k, C.bld f = some k → BldOk P f k) ∧ InlOk P call

section
variable {P : Program} {w : World} {Pf : Pfs} {ι : Plc} {H : Hp} {tick : Nat} {done : Nat → Prop}

theorem Same.refl (w : World) : Same w w := ⟨rfl, rfl, rfl, Nat.le_refl _⟩
theorem byteC_len (s : ByteArray) : (byteC s).length = s.size := by simp [byteC]
theorem byteC_is (s : ByteArray) : Lib.strCells s = byteC s := rfl

/-- A string's bytes put behind a row of bytes. -/
theorem app_str (P : Program) (w : World) (t u ty e : TypeId) (i : TypeInfo) (ht : P.underlying t = some (.slice e)) (hu : P.underlying u = some .string) (hi : P.info? e = some i) (hz : i.zero = some (.int .u8 0)) (hsize : i.size = 1) (hby : i.bytes = 1)
    {v : Value} {n : Nat} {xs : List Value} {ob : Option Nat} (hrow : RowV w e v n xs ob) (s : ByteArray) (hs0 : 0 < s.size) (hlen : n + s.size ≤ 140737488355328) :
    ∃ g' cur' w2, (Builtin.append_ #[t, u] ty #[v, .string s]).run P w = .ok (.slice (some ⟨g', 0, none⟩) (n + s.size) cur'.size) w2 ∧ Same w w2 ∧ (∀ k, k < w.heap.size → k ≠ g' → w2.heap[k]? = w.heap[k]?) ∧ Blk w2 g' cur' e ∧ n + s.size ≤ cur'.size ∧ cur'.size ≤ maxLen ∧
      cur'.toList.take (n + s.size) = xs ++ byteC s ∧ (ob = some g' ∨ w.heap.size ≤ g') := by
  have hz1 : (Value.int IntKind.u8 0).cells.size = 1 := rfl
  have h63 : n + s.size ≤ maxLen := by unfold maxLen; omega
  rcases hrow with ⟨rfl, rfl, rfl, rfl⟩ | ⟨g, cur, rfl, ⟨fz, hg, hfz⟩, hn, hm, htk, hxl, rfl⟩
  · have hr := run_append_nil_string (P := P) w t u ty e i (.int .u8 0) ht hu hi hz s hs0 (by omega) (by rw [hby]; omega)
    have hge := grownCap_ge w s.size 0 e
    have hcm := grownCap_le_maxLen w s.size 0 e (by omega)
    have hcs : (s.data.map (fun b => Value.int .u8 b.toNat) ++ Builtin.zeroCells (Value.int IntKind.u8 0).cells (grownCap w s.size 0 e - s.size)).size = grownCap w s.size 0 e := by
      simp only [Array.size_append, Array.size_map, size_zeroCells, hz1]
      have : s.data.size = s.size := rfl
      omega
    refine ⟨w.heap.size, s.data.map (fun b => Value.int .u8 b.toNat) ++ Builtin.zeroCells (Value.int IntKind.u8 0).cells (grownCap w s.size 0 e - s.size), w.drew.alloc (.cells (s.data.map (fun b => Value.int .u8 b.toNat) ++ Builtin.zeroCells (Value.int IntKind.u8 0).cells (grownCap w s.size 0 e - s.size)) e), by rw [hcs, Nat.zero_add]; exact hr, ⟨rfl, rfl, rfl, by show w.heap.size ≤ (w.heap.push _).size; simp⟩, fun k hk _ => heap_alloc_old w.drew _ hk, ⟨_, heap_alloc_new w.drew _, .inl rfl⟩, by omega, by omega, ?_, .inr (Nat.le_refl _)⟩
    rw [Nat.zero_add, ← byteC_len s, List.nil_append, Array.toList_append, Array.toList_map]
    exact List.take_left
  · by_cases hroom : n + s.size ≤ cur.size
    · have hf := Lib.run_firstCells_string (P := P) w 1 s
      have hst := run_storeCells_fz P g n e fz (Lib.strCells s) 0 cur w hg hfz (by simpa [Lib.strCells_length] using hroom) (Lib.strCells_oneCell s)
      simp only [Nat.add_zero, Lib.strCells_length] at hst
      have hcs : (cur.toList.take n ++ Lib.strCells s ++ cur.toList.drop (n + s.size)).toArray.size = cur.size := by
        simp only [List.size_toArray, List.length_append, List.length_take, List.length_drop, Array.length_toList, Lib.strCells_length]
        omega
      refine ⟨g, (cur.toList.take n ++ Lib.strCells s ++ cur.toList.drop (n + s.size)).toArray, w.setRow g (cur.toList.take n ++ Lib.strCells s ++ cur.toList.drop (n + s.size)).toArray, ?_, ⟨rfl, rfl, rfl, by simp⟩, fun k _ hk => setRow_other w g k _ hk, ⟨fz, setRow_heap w g cur _ e _ hg, by rw [hcs]; exact hfz⟩, by rw [hcs]; exact hroom, by rw [hcs]; exact hm, ?_, .inl rfl⟩
      · rw [hcs]
        simp [Builtin.append_, run_underlying ht, run_underlying hu, sizeOf, typeInfo, hi, hsize, Builtin.lenOf, hroom, hf, Addr.add_lit, hst]
      · rw [htk, byteC_is]
        have : (xs ++ byteC s).length = n + s.size := by rw [List.length_append, hxl, byteC_len]
        rw [← this]
        exact List.take_left
    · have holds : ∀ j u, xs[j]? = some u → w.cell? ((⟨g, 0, none⟩ : Addr).add j) = some u := fun j u hj => by
        rw [Addr.add_lit, Nat.zero_add]
        have hj' : j < n := by have := (List.getElem?_eq_some_iff.1 hj).1; omega
        rw [← htk, List.getElem?_take, if_pos hj'] at hj
        simpa [World.cell?, hg] using hj
      have hr := Lib.run_append_grow_string (P := P) w t u ty e i (.int .u8 0) ht hu hi hz ⟨g, 0, none⟩ n cur.size xs (by rw [hsize]; simpa using hxl) holds s (by omega) (by omega) (by rw [hby]; exact growslice_fits (by omega) (by omega))
      have hge := grownCap_ge w (n + s.size) cur.size e
      have hcm := grownCap_le_maxLen w (n + s.size) cur.size e h63
      have hcs : (xs.toArray ++ (Lib.strCells s).toArray ++ Builtin.zeroCells (Value.int IntKind.u8 0).cells (grownCap w (n + s.size) cur.size e - (n + s.size))).size = grownCap w (n + s.size) cur.size e := by
        simp only [Array.size_append, List.size_toArray, size_zeroCells, hz1, hxl, Lib.strCells_length]
        omega
      refine ⟨w.heap.size, xs.toArray ++ (Lib.strCells s).toArray ++ Builtin.zeroCells (Value.int IntKind.u8 0).cells (grownCap w (n + s.size) cur.size e - (n + s.size)), w.drew.alloc (.cells (xs.toArray ++ (Lib.strCells s).toArray ++ Builtin.zeroCells (Value.int IntKind.u8 0).cells (grownCap w (n + s.size) cur.size e - (n + s.size))) e), by rw [hcs]; exact hr, ⟨rfl, rfl, rfl, by show w.heap.size ≤ (w.heap.push _).size; simp⟩, fun k hk _ => heap_alloc_old w.drew _ hk, ⟨_, heap_alloc_new w.drew _, .inl rfl⟩, by omega, by omega, ?_, .inr (Nat.le_refl _)⟩
      have : (xs ++ byteC s).length = n + s.size := by rw [List.length_append, hxl, byteC_len]
      simp only [Array.toList_append, List.append_assoc]
      rw [← List.append_assoc, ← this]
      exact List.take_left

theorem run_copy_sz (P : Program) (w : World) (dT sT ty elem : TypeId) (i : TypeInfo) (g o dLen dCap : Nat) (a : Addr) (sLen sCap : Nat) (cur : Array Value) (t : TypeId) (fz : Nat × Nat) (cs : List Value)
    (hu : P.underlying dT = some (.slice elem)) (hi : P.info? elem = some i)
    (hg : w.heap[g]? = some (.cells cur t fz)) (hfz : fz = (0, 0) ∨ cur.size ≤ fz.1) (hn : cs.length = Nat.min sLen dLen * i.size)
    (hsrc : ∀ j v, cs[j]? = some v → w.cell? (a.add j) = some v) (hfit : o + cs.length ≤ cur.size) (h1 : ∀ v ∈ cs, v.oneCell' = true) :
    (Builtin.copy_ #[dT, sT] ty #[.slice (some ⟨g, o, none⟩) dLen dCap, .slice (some a) sLen sCap]).run P w =
      .ok (goInt (Nat.min sLen dLen : Nat)) (w.setRow g (cur.toList.take o ++ cs ++ cur.toList.drop (o + cs.length)).toArray) := by
  have hl := run_loadCells_list (P := P) w a cs hsrc
  have hst := run_storeCells_fz P g o t fz cs 0 cur w hg hfz (by simpa using hfit) h1
  rw [hn] at hl
  simp [Builtin.copy_, run_underlying hu, Builtin.lenOf, Builtin.firstCells, sizeOf, typeInfo, hi, hl, hst]
theorem run_clear_sz (P : Program) (w : World) (dT ty elem : TypeId) (z : Value) (g o n c : Nat) (cur : Array Value) (t : TypeId) (fz : Nat × Nat)
    (hu : P.underlying dT = some (.slice elem)) (hz : (zeroValue elem).run P w = .ok z w) (hn : 0 < n)
    (hg : w.heap[g]? = some (.cells cur t fz)) (hfz : fz = (0, 0) ∨ cur.size ≤ fz.1) (hfit : o + (Builtin.zeroCells z.cells n).toList.length ≤ cur.size) (h1 : ∀ v ∈ (Builtin.zeroCells z.cells n).toList, v.oneCell' = true) :
    (Builtin.clear_ #[dT] ty #[.slice (some ⟨g, o, none⟩) n c]).run P w =
      .ok (.tuple #[]) (w.setRow g (cur.toList.take o ++ (Builtin.zeroCells z.cells n).toList ++ cur.toList.drop (o + (Builtin.zeroCells z.cells n).toList.length)).toArray) := by
  have hst := run_storeCells_fz P g o t fz (Builtin.zeroCells z.cells n).toList 0 cur w hg hfz (by simpa using hfit) h1
  obtain ⟨n, rfl⟩ : ∃ m, n = m + 1 := ⟨n - 1, by omega⟩
  simp [Builtin.clear_, run_underlying hu, hz, hst]
/-- An operation of a builtin by its run. -/
theorem wpList_bi {P : Program} {w : World} {ops : Array Oper} {rest : List Oper} {o : Oper} {a : Act} {Q : Exit → Act → World → Prop} (hgd : o.guard = none) (b : Builtin) (xs : Array Operand) (ts : Array TypeId)
    (ho : o.op = .call { callee := .builtin b, args := xs, argTypes := ts }) {vs : Array Value} {r : Value} {w2 : World} (hs : xs.map a.eval = vs)
    (hr : ∀ cs, (builtin b ts o.type cs vs).run P w = .ok (.value r) w2) (h : wpList P ops Q rest (a.put o.dst r) w2) : wpList P ops Q (o :: rest) a w := by
  refine wpList_plain hgd fun K hK => ?_
  unfold Oper.wp execOp
  simp only [ho, resolve, invoke, hs, Sem.run_bind, Sem.run_pure, Result.andThen_ok, hr]
  exact hK _ _ h
theorem wpList_app {P : Program} {w : World} {ops : Array Oper} {rest : List Oper} {o : Oper} {a : Act} {Q : Exit → Act → World → Prop} (hgd : o.guard = none) (sl x : Operand) (t u : TypeId)
    (ho : o.op = .call { callee := .builtin .append, args := #[sl, x], argTypes := #[t, u] }) {v r y : Value} {w2 : World} (hs : a.eval sl = v) (hx : a.eval x = y)
    (hr : (Builtin.append_ #[t, u] o.type #[v, y]).run P w = .ok r w2) (h : wpList P ops Q rest (a.put o.dst r) w2) : wpList P ops Q (o :: rest) a w := by
  refine wpList_plain hgd fun K hK => ?_
  unfold Oper.wp execOp
  simp only [ho, resolve, invoke, builtin, Sem.run_bind, Sem.run_pure, Result.andThen_ok, List.map_toArray, List.map_cons, List.map_nil, hs, hx, hr]
  exact hK _ _ h
theorem zeroCells_one {z : Array Value} (n : Nat) (h : ∀ v ∈ z.toList, v.oneCell' = true) (hp : 0 < z.size) : ∀ v ∈ (Builtin.zeroCells z n).toList, v.oneCell' = true := by
  intro v hv
  simp only [Builtin.zeroCells, Array.toList_map, List.mem_map] at hv
  obtain ⟨i, _, rfl⟩ := hv
  have : i % z.size < z.size := Nat.mod_lt _ hp
  rw [getElem!_pos z _ this]
  exact h _ (by simp)
/-- Cells put into a row. -/
def put2 (c : Array Value) (o : Nat) (cs : List Value) : Array Value := (c.toList.take o ++ cs ++ c.toList.drop (o + cs.length)).toArray
theorem put2_size {c : Array Value} {o : Nat} {cs : List Value} (h : o + cs.length ≤ c.size) : (put2 c o cs).size = c.size := by
  simp only [put2, List.size_toArray, List.length_append, List.length_take, List.length_drop, Array.length_toList]
  omega
theorem put2_le {c : Array Value} {o k : Nat} {cs : List Value} (h : o ≤ c.size) (hk : k ≤ o) : (put2 c o cs).toList.take k = c.toList.take k := by
  have hl : (c.toList.take o).length = o := by rw [List.length_take, Array.length_toList]; omega
  simp only [put2]
  rw [List.append_assoc, List.take_append_of_le_length (by omega), List.take_take, Nat.min_eq_left hk]
theorem put2_end {c : Array Value} {o : Nat} {cs : List Value} (h : o ≤ c.size) : (put2 c o cs).toList.take (o + cs.length) = c.toList.take o ++ cs := by
  have hl : (c.toList.take o ++ cs).length = o + cs.length := by rw [List.length_append, List.length_take, Array.length_toList]; omega
  simp only [put2]
  rw [← hl]
  exact List.take_left
theorem put2_drop {c : Array Value} {o k : Nat} {cs : List Value} (h : o + cs.length ≤ c.size) (hk : o + cs.length ≤ k) : (put2 c o cs).toList.drop k = c.toList.drop k := by
  have hl : (c.toList.take o ++ cs).length = o + cs.length := by rw [List.length_append, List.length_take, Array.length_toList]; omega
  simp only [put2]
  obtain ⟨m, rfl⟩ : ∃ m, k = o + cs.length + m := ⟨k - (o + cs.length), by omega⟩
  rw [← hl, List.drop_append, List.drop_eq_nil_of_le (by omega), List.nil_append, List.drop_drop]
  congr 1
  omega
theorem Same.row (w : World) (g : Nat) (c : Array Value) : Same w (w.setRow g c) := ⟨rfl, rfl, rfl, by simp⟩
theorem Same.trans {a b c : World} (h : Same a b) (h' : Same b c) : Same a c := ⟨h'.os.trans h.os, h'.tape.trans h.tape, h'.output.trans h.output, Nat.le_trans h.size h'.size⟩

theorem lies_self {P : Program} {T : TypeId} {c : Nat} (hs : P.cellsOf T = 2) (hl : sameLayout P P.depth T T = true) (hd : P.depth ≠ 0) (hc : 2 ≤ c) : liesAt P P.depth T (c / P.cellsOf T) 0 T 1 = true := by
  obtain ⟨d, hd'⟩ : ∃ d, P.depth = d + 1 := ⟨P.depth - 1, by omega⟩
  have h1 : 0 + 1 ≤ c / 2 := by omega
  rw [hs]
  conv => lhs; arg 2; rw [hd']
  unfold liesAt
  conv => lhs; arg 1; arg 3; rw [hd']
  unfold rowAt
  simp [hs, h1, hl]

theorem drop_sound (D : Desc w Pf ι H tick done) {H2 : Hp} (hsub : ∀ i x, H2 i = some x → H i = some x) {w' : World} {g : Nat} (S : Same w w') (hkeep : ∀ k, k ≠ g → w'.heap[k]? = w.heap[k]?) (hgP : ¬ Pf true g)
    (hno : ∀ i vr o t, H2 i = some (vr, o) → ι i vr ≠ some (g, t)) : Fwd Pf w w' ι ι ∧ Desc w' Pf ι H2 tick done := by
  have f : Fwd Pf w w' ι ι := ⟨S.os, S.tape, S.output, S.size, fun k hk => hkeep k (fun e => hgP (e ▸ hk)), fun _ _ _ h => h⟩
  refine ⟨f, ⟨fun i vr o hi => ?_, D.fresh, D.fresh', fun i v1 o1 i' v2 o2 g' t t' h1 h2 h3 h4 => D.inj i v1 o1 i' v2 o2 g' t t' (hsub _ _ h1) (hsub _ _ h2) h3 h4, fun k hk => Nat.lt_of_lt_of_le (D.lt k hk) S.size, D.sub, D.gl f.prot⟩⟩
  exact (D.own i vr o (hsub _ _ hi)).fwd D.sub f (fun g' t h => hkeep g' (fun e => hno i vr o t hi (e ▸ h)))

theorem take2 {cur : Array Value} {p v : Value} (h : cur.toList.take 2 = [p, v]) : ∃ l, cur = ⟨p :: v :: l⟩ := by
  obtain ⟨l⟩ := cur
  match l, h with
  | x :: y :: l, h => simp at h; obtain ⟨rfl, rfl⟩ := h; exact ⟨l, rfl⟩

/-- What stands in a builder, in the world. -/
theorem bufV_sound {H' : Hp} (hs : Sub H' H) (D : Desc w Pf ι H tick done) {e : TypeId} {id vr b tot : Nat} {o : Obj} (hH : H id = some (vr, o)) (hi : ι id vr = some (b, tot)) {x : V} {dr : List (Nat × Option (Nat × Obj))} {old : List (List V)} (h : bufV H' e id x = some (dr, old)) {v : Value} (hv : Rep w Pf ι x v) :
    ∃ xs ob, RowV w e v old.length xs ob ∧ Reps w Pf ι old.flatten xs ∧ ob ≠ some b ∧
      ((ob = none ∧ dr = []) ∨ ∃ id2 vr2 o2 g2 t2, dr = [(id2, none)] ∧ H id2 = some (vr2, o2) ∧ ι id2 vr2 = some (g2, t2) ∧ ob = some g2 ∧ id2 ≠ id ∧ ¬ Pf true g2) := by
  unfold bufV at h
  split at h
  · cases h
    simp only [Rep] at hv
    subst hv
    exact ⟨[], none, .inl ⟨rfl, rfl, rfl, rfl⟩, by simp [Reps], by simp, .inl ⟨rfl, rfl⟩⟩
  · rename_i id2 vr2 len
    split at h
    case h_2 => cases h
    rename_i o2 ho
    split at h
    case isFalse => cases h
    rename_i hc
    obtain ⟨hne, hty, hsz, hfl, hlen, hpos⟩ := hc
    cases h
    have hH2 := hs _ _ (find_some ho)
    have ow := D.own _ _ _ hH2
    obtain ⟨g2, t2, cur2, xs, k1, k2, k3, k4, k5, k6⟩ := ow.ex
    simp only [Rep] at hv
    obtain ⟨g', tot', a, cap, j1, rfl, j2, j3, j4, j5⟩ := hv
    rw [k1] at j1
    cases j1
    obtain ⟨rfl, j6⟩ := j5 trivial
    have hxl : xs.length = o2.es.length := by
      rw [k4.length, length_flatten_uniform (n := 1) (fun e he => by rw [ow.sz e he, hsz])]; simp
    have hcap : cap = cur2.size := by omega
    subst hcap
    refine ⟨xs, some g2, .inr ⟨g2, cur2, by rw [hlen], by rw [← hty]; exact k2, by omega, j3, by rw [← hxl]; exact k5, hxl, rfl⟩, k4, ?_, .inr ⟨id2, vr2, o2, g2, _, rfl, hH2, k1, rfl, hne, k6⟩⟩
    intro e1
    cases e1
    exact hne (D.inj _ _ _ _ _ _ _ _ _ hH2 hH k1 hi)
  · cases h

theorem bldV_sound {f : FuncId} {k : Nat × TypeId × TypeId} (hB : BldOk P f k) {H' : Hp} (hs : Sub H' H) (D : Desc w Pf ι H tick done) {site : Nat} (hd : ¬ done site) {args : List V} {vals : List Value}
    {v : Option V} {δ : List (Nat × Option (Nat × Obj))} (h : bldV H' tick site k args = some (v, δ)) (hr : Reps w Pf ι args vals) :
    Calls P f vals.toArray w fun e w' => ∃ u ι' x, e = .returned u ∧ v = some x ∧ Makes w w' Pf ι ι' H tick done site x u δ := by
  unfold bldV at h
  split at h
  · rename_i T e id vr s
    split at h
    case h_2 => cases h
    rename_i ty a buf ho
    split at h
    case h_2 => cases h
    rename_i dr old hbuf
    split at h
    case isFalse => cases h
    rename_i hc
    obtain ⟨rfl, hself, hs0, hlen, hne, hok⟩ := hc
    cases h
    have hH := hs _ _ (find_some ho)
    have ow := D.own _ _ _ hH
    obtain ⟨b, tot, cur, cs, h1, ⟨fz, h2, hfz⟩, h3, h4, h5, h6⟩ := ow.ex
    simp only [List.flatten_cons, List.flatten_nil, List.append_nil, Reps] at h4
    obtain ⟨p, _, rfl, hp, v0, _, rfl, hv0, rfl⟩ := h4
    simp only [Reps] at hr
    obtain ⟨u1, _, rfl, hu1, u2, _, rfl, hu2, rfl⟩ := hr
    simp only [Rep] at hu1 hu2
    subst hu2
    obtain ⟨g, t, h1', rfl⟩ := hu1
    rw [h1] at h1'
    cases h1'
    have hp' : p = .pointer none ∨ p = .pointer (some ⟨b, 0, none⟩) := by
      unfold selfV at hself
      split at hself
      · simp only [Rep] at hp; exact .inl hp
      · rename_i id' vr'
        simp only [Bool.and_eq_true, beq_iff_eq] at hself
        obtain ⟨rfl, rfl⟩ := hself
        simp only [Rep] at hp
        obtain ⟨g, t, e1, e2⟩ := hp
        rw [h1] at e1
        cases e1
        exact .inr e2
      · cases hself
    obtain ⟨xs, ob, hrow, hxs, hob, hdr⟩ := bufV_sound hs D hH h1 hbuf hv0
    have hcall := hB.2.1 rfl
    have hcall := hcall w b old.length cur fz p v0 xs ob s h2 hfz (by simpa using h5) hp' hrow hob hs0 hlen
    refine hcall.mono ?_
    rintro ex w' ⟨rfl, w1, w2, g', cur', S1, k1, e1, S2, k2, B2, l1, l2, t2, o2, S3, k3, e3⟩
    obtain ⟨rest, rfl⟩ := take2 (by simpa using h5)
    have hbone := ow.one _ (List.mem_singleton.2 rfl) buf (by simp)
    have U1 := upd_sound (o' := ⟨ty, 2, false, [[.p id vr 2 0 0, buf]]⟩) (xs := [.pointer (some ⟨b, 0, none⟩), v0]) D hH rfl (by simp only [okObj, List.all_cons, List.all_nil, List.length_cons, List.length_nil, hbone]; rfl) S1.os S1.tape S1.output S1.size h1 h2 hfz (fun k _ hk => k1 k hk) e1 (by simp)
      (by simp only [List.flatten_cons, List.flatten_nil, List.append_nil, Reps]; exact ⟨_, _, rfl, by simp only [Rep]; exact ⟨b, tot, h1, rfl⟩, _, _, rfl, hv0, rfl⟩) (by simp)
    obtain ⟨f1, D1⟩ := U1
    have hnP : ¬ Pf true g' := by
      rcases o2 with o2 | o2
      · rcases hdr with ⟨hn, _⟩ | ⟨id2, vr2, o3, g2, t3, _, _, _, hg, _, hP⟩
        · rw [hn] at o2; cases o2
        · rw [o2] at hg; cases hg; exact hP
      · exact fun h => absurd (D1.lt _ h) (by omega)
    have hget : ∀ i x, applyD (applyD H [(id, some (vr, (⟨ty, 2, false, [[.p id vr 2 0 0, buf]]⟩ : Obj)))]) (dr ++ [(16 * site + 8, some (tick, (⟨e, 1, true, old ++ byteE s⟩ : Obj)))]) i = some x →
        (i = 16 * site + 8 ∧ x = (tick, ⟨e, 1, true, old ++ byteE s⟩)) ∨ (i ≠ 16 * site + 8 ∧ applyD H [(id, some (vr, (⟨ty, 2, false, [[.p id vr 2 0 0, buf]]⟩ : Obj)))] i = some x ∧ ∀ q ∈ dr, q.1 ≠ i) := by
      intro i x hi
      rcases hdr with ⟨_, rfl⟩ | ⟨id2, vr2, o3, g2, t3, rfl, _⟩
      · simp only [applyD, List.nil_append, List.foldl_cons, List.foldl_nil] at hi
        split at hi
        · rename_i e1; exact .inl ⟨e1, by cases hi; rfl⟩
        · rename_i e1; exact .inr ⟨e1, by simpa only [applyD, List.foldl_cons, List.foldl_nil] using hi, by simp⟩
      · simp only [applyD, List.cons_append, List.nil_append, List.foldl_cons, List.foldl_nil] at hi
        split at hi
        · rename_i e1; exact .inl ⟨e1, by cases hi; rfl⟩
        · rename_i e1
          split at hi
          · cases hi
          · rename_i e2
            exact .inr ⟨e1, by simpa only [applyD, List.foldl_cons, List.foldl_nil] using hi, fun q hq e3 => by simp only [List.mem_singleton] at hq; subst hq; exact e2 e3.symm⟩
    have N2 := new_sound (w' := w2) (g := g') (cs := cur') (o := ⟨e, 1, true, old ++ byteE s⟩) (xs := xs ++ byteC s) (site := site) (id := 16 * site + 8) D1 hd (by omega) hok S2.os S2.tape S2.output S2.size k2 B2 hnP
      (H' := applyD (applyD H [(id, some (vr, (⟨ty, 2, false, [[.p id vr 2 0 0, buf]]⟩ : Obj)))]) (dr ++ [(16 * site + 8, some (tick, (⟨e, 1, true, old ++ byteE s⟩ : Obj)))]))
      (fun i x hi => (hget i x hi).imp (fun h => h) (fun h => ⟨h.1, h.2.1⟩))
      (fun i vr' o' t hi hx hh => by
        rcases hget i _ hx with h | ⟨_, hx1, hx2⟩
        · exact hi h.1
        · rcases o2 with o2 | o2
          · rcases hdr with ⟨hn, _⟩ | ⟨id2, vr2, o3, g2, t3, rfl, hH2, hi2, hg, hne2, _⟩
            · rw [hn] at o2; cases o2
            · rw [o2] at hg
              cases hg
              have : i = id2 := D1.inj _ _ _ _ _ _ _ _ _ hx1 (by simp only [applyD, List.foldl_cons, List.foldl_nil, if_neg hne2]; exact hH2) hh hi2
              exact hx2 (id2, none) (by simp) this.symm
          · exact absurd ((D1.own _ _ _ hx1).lt hh) (by omega))
      (by
        show Reps w1 Pf ι (old ++ byteE s).flatten _
        rw [List.flatten_append]
        exact (hxs.fwd D.sub f1).append (byteE_reps w1 Pf ι s))
      (by
        have hxl : (xs ++ byteC s).length = old.length + s.size := by
          have : xs.length = old.length := by
            rcases hrow with ⟨_, h0, rfl, _⟩ | ⟨_, _, _, _, _, _, _, h0, _⟩
            · simp [h0]
            · exact h0
          rw [List.length_append, this]
          simp [byteC]
        rw [hxl]; exact t2)
    obtain ⟨f2, D2⟩ := N2
    have hbg : b ≠ g' := by
      rcases o2 with o2 | o2
      · exact fun e => hob (by rw [e]; exact o2)
      · have := (Array.getElem?_eq_some_iff.1 e1).1
        omega
    have hid : applyD (applyD H [(id, some (vr, (⟨ty, 2, false, [[.p id vr 2 0 0, buf]]⟩ : Obj)))]) (dr ++ [(16 * site + 8, some (tick, (⟨e, 1, true, old ++ byteE s⟩ : Obj)))]) id = some (vr, (⟨ty, 2, false, [[.p id vr 2 0 0, buf]]⟩ : Obj)) := by
      rcases hdr with ⟨_, rfl⟩ | ⟨id2, vr2, o3, g2, t3, rfl, _, _, _, hne2, _⟩
      · simp only [applyD, List.nil_append, List.foldl_cons, List.foldl_nil, if_neg hne, if_true]
      · simp only [applyD, List.cons_append, List.nil_append, List.foldl_cons, List.foldl_nil, if_neg hne, if_neg (Ne.symm hne2), if_true]
    have hb2 : w2.heap[b]? = _ := (k2 b (Array.getElem?_eq_some_iff.1 e1).1 hbg).trans e1
    have hsl : Rep w2 Pf (fun i v => if i = 16 * site + 8 ∧ v = tick then some (g', cur'.size) else ι i v) (.s (16 * site + 8) tick 1 0 (old.length + s.size)) (.slice (some ⟨g', 0, none⟩) (old.length + s.size) cur'.size) := by
      simp only [Rep]
      exact ⟨g', cur'.size, _, _, by simp, rfl, l1, l2, fun _ => by simp, fun _ => ⟨rfl, by simp⟩⟩
    have U3 := upd_sound (o' := ⟨ty, 2, false, [[.p id vr 2 0 0, .s (16 * site + 8) tick 1 0 (old.length + s.size)]]⟩) (xs := [.pointer (some ⟨b, 0, none⟩), .slice (some ⟨g', 0, none⟩) (old.length + s.size) cur'.size]) D2 hid rfl (by simp [okObj, V.one]) S3.os S3.tape S3.output S3.size
      (f2.ext _ _ _ h1) hb2 (by simpa using hfz) (fun k _ hk => k3 k hk) e3 (by simp)
      (by simp only [List.flatten_cons, List.flatten_nil, List.append_nil, Reps]; exact ⟨_, _, rfl, by simp only [Rep]; exact ⟨b, tot, f2.ext _ _ _ h1, rfl⟩, _, _, rfl, hsl, rfl⟩) (by simp)
    obtain ⟨f3, D3⟩ := U3
    refine ⟨_, _, _, rfl, rfl, f1.trans (f2.trans f3), ?_, ?_⟩
    · simp only [Rep, Reps]
      exact ⟨[_, _], rfl, _, _, rfl, rfl, _, _, rfl, rfl, rfl⟩
    · simpa only [applyD, List.foldl_append, List.foldl_cons, List.foldl_nil, List.cons_append, List.nil_append] using D3
  · rename_i T e id vr n i j y
    split at h
    case h_2 => cases h
    rename_i o ho
    split at h
    case h_2 => cases h
    rename_i x hx
    split at h
    case isFalse => cases h
    rename_i hc
    obtain ⟨hty, hsz, hfl, hlen, hi0, hij, hjn, hok⟩ := hc
    cases h
    have hH := hs _ _ (find_some ho)
    have ow := D.own _ _ _ hH
    obtain ⟨g, tot, cur, cs, h1, ⟨fz, h2, hfz⟩, h3, h4, h5, h6⟩ := ow.ex
    simp only [Reps] at hr
    obtain ⟨u1, _, rfl, hu1, u2, _, rfl, hu2, u3, _, rfl, hu3, u4, _, rfl, hu4, rfl⟩ := hr
    simp only [Rep] at hu1 hu2 hu3
    subst hu2
    subst hu3
    obtain ⟨g', tot', a, cap, j1, rfl, j2, j3, j4, j5⟩ := hu1
    rw [h1] at j1
    cases j1
    obtain ⟨rfl, j6⟩ := j5 trivial
    obtain ⟨A, c, rfl, hnl, hnc, hnr⟩ := newsV_sound hs D hx hu4
    obtain ⟨ad, us, rfl, hus, hread⟩ := hnr.resolve_left (by simp)
    obtain ⟨i, rfl⟩ : ∃ q : Nat, i = q := ⟨i.toNat, by omega⟩
    obtain ⟨j, rfl⟩ : ∃ q : Nat, j = q := ⟨j.toNat, by omega⟩
    simp only [Int.toNat_natCast] at hok ⊢
    have hul : us.length = 2 := by
      rw [hus.length, length_flatten_uniform hnl]; rfl
    have hls : ∀ e ∈ o.es, e.length = 2 := fun e he => by rw [ow.sz e he, hsz]
    have hcsl : cs.length = n * 2 := by rw [h4.length, length_flatten_uniform hls, hlen]
    rw [hty] at h2
    have hones := Reps.ones (fun z hz => by
      obtain ⟨l, hl, hz⟩ := List.mem_flatten.1 hz
      exact (hnc l hl z hz).2) hus
    rw [hcsl] at h5
    have hcsone := Reps.ones (fun z hz => by
      obtain ⟨l, hl, hz⟩ := List.mem_flatten.1 hz
      exact ow.one l hl z hz) h4
    have hcall := hB.2.2.2 rfl w g n i j cap c cur fz ad us h2 hfz (by omega) (by omega) j2 j3 (by omega) (by rw [h5]; exact hcsone) hul hread hones
    refine hcall.mono ?_
    rintro ex w' ⟨rfl, S, hk, cur', g1, g2, g3⟩
    have hti : (o.es.take i).flatten = o.es.flatten.take (i * 2) := flatten_take hls i (by omega)
    have hdj : (o.es.drop j).flatten = o.es.flatten.drop (j * 2) := by
      have e1 := flatten_take hls j (by omega)
      have e2 : o.es.flatten = (o.es.take j).flatten ++ (o.es.drop j).flatten := by rw [← List.flatten_append, List.take_append_drop]
      have e3 : (o.es.take j).flatten.length = j * 2 := by rw [length_flatten_uniform (n := 2) (fun e he => hls e (List.mem_of_mem_take he)), List.length_take]; omega
      rw [e2, ← e3, List.drop_left]
    have hrr : Reps w Pf ι (o.es.take i ++ x :: o.es.drop j).flatten (cs.take (i * 2) ++ us ++ cs.drop (j * 2)) := by
      rw [List.flatten_append, List.flatten_cons, hti, hdj, List.append_assoc]
      have hux : Reps w Pf ι x us := by simpa using hus
      exact (h4.take (i * 2)).append (hux.append (h4.drop (j * 2)))
    have hN := new_sound (w' := w') (g := g) (cs := cur') (o := ⟨e, 2, true, o.es.take i ++ x :: o.es.drop j⟩) (xs := cs.take (i * 2) ++ us ++ cs.drop (j * 2)) (site := site) (id := 16 * site + 8) D hd (by omega) hok S.os S.tape S.output S.size
      (fun k _ hk' => hk k hk') ⟨fz, g1, by rw [g2]; exact hfz⟩ h6 (H' := applyD H [(id, none), (16 * site + 8, some (tick, (⟨e, 2, true, o.es.take i ++ x :: o.es.drop j⟩ : Obj)))])
      (fun q z hq => by
        simp only [applyD, List.foldl_cons, List.foldl_nil] at hq
        split at hq
        · rename_i e1; exact .inl ⟨e1, by cases hq; rfl⟩
        · rename_i e1
          split at hq
          · cases hq
          · exact .inr ⟨e1, hq⟩)
      (fun q vr' o' t hq hz hh => by
        simp only [applyD, List.foldl_cons, List.foldl_nil, if_neg hq] at hz
        split at hz
        · cases hz
        · rename_i e1
          exact e1 (D.inj _ _ _ _ _ _ _ _ _ hz hH hh h1))
      hrr (by
        have hl : (cs.take (i * 2) ++ us ++ cs.drop (j * 2)).length = (i + 1 + (n - j)) * 2 := by
          simp only [List.length_append, List.length_take, List.length_drop, hcsl, hul]
          omega
        rw [hl, g3, h5]
        congr 2
        rw [← h5, List.take_take, Nat.min_eq_left (by omega)])
    obtain ⟨f, D'⟩ := hN
    refine ⟨_, _, _, rfl, rfl, f, ?_, D'⟩
    simp only [Rep]
    exact ⟨g, cur'.size, _, _, by simp, rfl, by omega, j3, fun _ => by simp, fun _ => ⟨rfl, by omega⟩⟩
  · rename_i T e id vr
    split at h
    case h_2 => cases h
    rename_i ty a buf ho
    split at h
    case h_2 => cases h
    rename_i dr old hbuf
    split at h
    case h_2 => cases h
    rename_i bb hbb
    split at h
    case isFalse => cases h
    rename_i hc
    obtain ⟨rfl, hbn⟩ := hc
    cases h
    have hH := hs _ _ (find_some ho)
    have ow := D.own _ _ _ hH
    obtain ⟨b, tot, cur, cs, h1, ⟨fz, h2, hfz⟩, h3, h4, h5, h6⟩ := ow.ex
    simp only [List.flatten_cons, List.flatten_nil, List.append_nil, Reps] at h4
    obtain ⟨p, _, rfl, hp, v0, _, rfl, hv0, rfl⟩ := h4
    simp only [Reps] at hr
    obtain ⟨u1, _, rfl, hu1, rfl⟩ := hr
    simp only [Rep] at hu1
    obtain ⟨g, t, h1', rfl⟩ := hu1
    rw [h1] at h1'
    cases h1'
    obtain ⟨xs, ob, hrow, hxs, hob, hdr⟩ := bufV_sound hs D hH h1 hbuf hv0
    obtain ⟨h7, h8⟩ := bytesOf_sound _ _ _ hbb hxs
    have hxsb : xs = bb.map (fun b => Value.int .u8 (b.toNat : Int)) := by
      apply List.ext_getElem?
      intro j
      by_cases hj : j < bb.length
      · rw [h8 j hj]; simp [hj]
      · rw [List.getElem?_eq_none (by omega), List.getElem?_eq_none (by simp; omega)]
    rcases hrow with ⟨_, _, rfl, _⟩ | ⟨g2, cur2, rfl, hB2, l1, l2, l3, l4, rfl⟩
    · simp at h7
      exact absurd (List.eq_nil_of_length_eq_zero (by omega)) hbn
    · rcases hdr with ⟨hn, _⟩ | ⟨id2, vr2, o3, g3, t3, rfl, hH2, hi2, hg, hne2, hP⟩
      · cases hn
      cases hg
      have hlb : old.length = bb.length := by omega
      rw [hlb] at h5 l1 l3
      have hcall := hB.2.2.1 rfl
      have hcall := hcall w b g2 cur cur2 fz p bb h2 (by simpa using h5) hB2 (fun e => hob (by rw [e])) hbn l1 l2 (by rw [l3]; exact hxsb)
      refine hcall.mono ?_
      rintro ex w' ⟨rfl, S, hk⟩
      have hsub : ∀ i x, applyD H ((id, none) :: [(id2, none)]) i = some x → H i = some x ∧ i ≠ id2 := by
        intro i x hi
        simp only [applyD, List.foldl_cons, List.foldl_nil] at hi
        split at hi
        · cases hi
        · rename_i e2
          split at hi
          · cases hi
          · exact ⟨hi, e2⟩
      obtain ⟨f, D'⟩ := drop_sound D (H2 := applyD H ((id, none) :: [(id2, none)])) (fun i x hi => (hsub i x hi).1) S hk hP (fun i vr' o' t hi hh => (hsub i _ hi).2 (D.inj _ _ _ _ _ _ _ _ _ (hsub i _ hi).1 hH2 hh hi2))
      exact ⟨_, _, _, rfl, rfl, f, by simp only [Rep], D'.more fun s h => .inl h⟩
  · cases h
end
end Go.Proofs.YtbjmfjfnilmhhaaGreatDoor.Eng
