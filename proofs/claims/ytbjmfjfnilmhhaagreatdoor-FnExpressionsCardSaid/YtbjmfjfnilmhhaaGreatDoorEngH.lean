/- A deterministic reading of Go code over plain data: objects made and written. No conditions. -/
import Derived.Test.YtbjmfjfnilmhhaaGreatDoorEngG
namespace Go.Proofs.YtbjmfjfnilmhhaaGreatDoor.Eng
open Go Go.RowKit

theorem splice3 (A e D cs : List V) (j : Nat) (hj : j + cs.length ≤ e.length) :
    A ++ ((e.take j ++ cs ++ e.drop (j + cs.length)) ++ D) = (A ++ (e ++ D)).take (A.length + j) ++ cs ++ (A ++ (e ++ D)).drop (A.length + j + cs.length) := by
  rw [List.take_length_add_append, Nat.add_assoc A.length, List.drop_length_add_append, List.take_append_of_le_length (by omega), List.drop_append_of_le_length hj]
  simp
/-- A run of cells is laid into a block whose mark, if any, lies behind all cells. -/
theorem run_storeCells_fz (P : Program) (g o : Nat) (t : TypeId) (fz : Nat × Nat) : ∀ (vs : List Value) (i : Nat) (cur : Array Value) (w : World), w.heap[g]? = some (.cells cur t fz) → (fz = (0, 0) ∨ cur.size ≤ fz.1) → o + i + vs.length ≤ cur.size → (∀ v ∈ vs, v.oneCell' = true) →
    (storeCells ⟨g, o, none⟩ vs i).run P w = .ok () (w.setRow g (cur.toList.take (o + i) ++ vs ++ cur.toList.drop (o + i + vs.length)).toArray)
  | [], i, cur, w, hg, _, _, _ => by
    simp only [storeCells, List.append_nil, List.length_nil, Nat.add_zero, List.take_append_drop, Array.toArray_toList]
    rw [setRow_self w g cur t fz hg]
    rfl
  | v :: rest, i, cur, w, hg, hfz, hl, h1 => by
    have hi : o + i < cur.size := by simp at hl; omega
    have hadd : (⟨g, o, none⟩ : Addr).add i = ⟨g, o + i, none⟩ := by unfold Addr.add; split <;> simp_all
    have hcell : w.cell? ⟨g, o + i, none⟩ = some cur[o + i] := by simp [World.cell?, hg, hi]
    have hfro : w.frozen? ⟨g, o + i, none⟩ = false := by
      obtain ⟨lo, hh⟩ := fz
      rcases hfz with hfz | hfz
      · cases hfz; simp [World.frozen?, hg]
      · simp only [World.frozen?, hg]
        have : ¬ lo ≤ o + i := by simp at hfz; omega
        simp [this]
    have hst : (store ((⟨g, o, none⟩ : Addr).add i) v).run P w = .ok () (w.setRow g (cur.setIfInBounds (o + i) v)) := by
      rw [hadd, run_store P w _ v _ (h1 v (by simp)), hcell]
      simp [hfro, setCell_eq_setRow w g (o + i) cur t fz v hg]
    have ih := run_storeCells_fz P g o t fz rest (i + 1) (cur.setIfInBounds (o + i) v) (w.setRow g (cur.setIfInBounds (o + i) v)) (setRow_heap w g cur _ t _ hg) (by simpa using hfz) (by simp at hl ⊢; omega) (fun x hx => h1 x (by simp [hx]))
    simp only [storeCells, Sem.run_bind, hst, Result.andThen_ok, ih, setRow_setRow]
    congr 3
    have e := list_seg_step cur.toList (o + i) v rest (by simp at hl ⊢; omega)
    simpa [Array.toList_setIfInBounds, Nat.add_assoc] using e

theorem run_copy_fz (P : Program) (w : World) (dT sT ty elem : TypeId) (g o dLen dCap : Nat) (a : Addr) (sLen sCap : Nat) (cur : Array Value) (t : TypeId) (fz : Nat × Nat) (cs : List Value)
    (hu : P.underlying dT = some (.slice elem)) (hs : (P.info? elem).map (·.size) = some 1)
    (hg : w.heap[g]? = some (.cells cur t fz)) (hfz : fz = (0, 0) ∨ cur.size ≤ fz.1) (hn : cs.length = Nat.min sLen dLen)
    (hsrc : ∀ j v, cs[j]? = some v → w.cell? (a.add j) = some v) (hfit : o + cs.length ≤ cur.size) (h1 : ∀ v ∈ cs, v.oneCell' = true) :
    (Builtin.copy_ #[dT, sT] ty #[.slice (some ⟨g, o, none⟩) dLen dCap, .slice (some a) sLen sCap]).run P w =
      .ok (goInt cs.length) (w.setRow g (cur.toList.take o ++ cs ++ cur.toList.drop (o + cs.length)).toArray) := by
  have hl := run_loadCells_list (P := P) w a cs hsrc
  have hst := run_storeCells_fz P g o t fz cs 0 cur w hg hfz (by simpa using hfit) h1
  cases hq : P.info? elem with
  | none => simp [hq] at hs
  | some i =>
    have hi : i.size = 1 := by simpa [hq] using hs
    simp [Builtin.copy_, run_underlying hu, Builtin.lenOf, Builtin.firstCells, sizeOf, typeInfo, hq, hi, ← hn, hl, hst]

theorem run_append_room_fz (P : Program) (w : World) (t ty e : TypeId) (i : TypeInfo) (ht : P.underlying t = some (.slice e)) (hi : P.info? e = some i)
    (g o sLen sCap : Nat) (cur : Array Value) (fz : Nat × Nat) (hg : w.heap[g]? = some (.cells cur e fz)) (hfz : fz = (0, 0) ∨ cur.size ≤ fz.1)
    (a : Addr) (m c : Nat) (news : List Value) (hl : news.length = m * i.size) (hnews : ∀ j u, news[j]? = some u → w.cell? (a.add j) = some u) (h1 : ∀ u ∈ news, u.oneCell' = true)
    (hroom : sLen + m ≤ sCap) (hfit : o + sLen * i.size + news.length ≤ cur.size) :
    (Builtin.append_ #[t, t] ty #[.slice (some ⟨g, o, none⟩) sLen sCap, .slice (some a) m c]).run P w =
      .ok (.slice (some ⟨g, o, none⟩) (sLen + m) sCap) (w.setRow g (cur.toList.take (o + sLen * i.size) ++ news ++ cur.toList.drop (o + sLen * i.size + news.length)).toArray) := by
  have hf := run_firstCells_some (P := P) w i.size m a m c news hl hnews
  have hst := run_storeCells_fz P g (o + sLen * i.size) e fz news 0 cur w hg hfz (by simpa using hfit) h1
  simp only [Nat.add_zero] at hst
  simp [Builtin.append_, run_underlying ht, sizeOf, typeInfo, hi, Builtin.lenOf, hroom, hf, Addr.add_lit, hst]

theorem orC {b : Bool} {p : Prop} (h : b = false ∨ p) (hb : b = true) : p := h.resolve_left (by rw [hb]; decide)
section
variable {P : Program} {w : World} {Pf : Pfs} {ι : Plc} {H : Hp} {tick : Nat} {done : Nat → Prop}

theorem Own.fwd {w' : World} {ι' : Plc} {id vr : Nat} {o : Obj} (ow : Own w Pf ι id vr o) (hs : ∀ g, Pf false g → Pf true g) (f : Fwd Pf w w' ι ι') (hb : ∀ g t, ι id vr = some (g, t) → w'.heap[g]? = w.heap[g]?) : Own w' Pf ι' id vr o := by
  obtain ⟨g, tot, cur, xs, h1, ⟨fz, h2, hfz⟩, h3, h4, h5, h6⟩ := ow.ex
  exact ⟨⟨g, tot, cur, xs, f.ext _ _ _ h1, ⟨fz, (hb g tot h1).trans h2, hfz⟩, h3, h4.fwd hs f, h5, h6⟩, ow.one, ow.sz, ow.fl⟩
theorem Own.lt {id vr : Nat} {o : Obj} (ow : Own w Pf ι id vr o) {g t : Nat} (h : ι id vr = some (g, t)) : g < w.heap.size := by
  obtain ⟨g', tot, cur, xs, h1, ⟨fz, h2, hfz⟩, _⟩ := ow.ex
  rw [h] at h1; cases h1
  exact (Array.getElem?_eq_some_iff.1 h2).1

theorem new_sound (D : Desc w Pf ι H tick done) {site id : Nat} (hd : ¬ done site) (hid : id / 16 = site) {o : Obj} (hok : okObj o = true) {w' : World} {g : Nat} {cs : Array Value} {xs : List Value}
    (hos : w'.os = w.os) (htape : w'.tape = w.tape) (hout : w'.output = w.output) (hsize : w.heap.size ≤ w'.heap.size)
    (hkeep : ∀ k, k < w.heap.size → k ≠ g → w'.heap[k]? = w.heap[k]?) (hg : Blk w' g cs o.ty) (hgP : ¬ Pf true g)
    {H' : Hp} (hH : ∀ i x, H' i = some x → (i = id ∧ x = (tick, o)) ∨ (i ≠ id ∧ H i = some x)) (hne : ∀ i vr o' t, i ≠ id → H' i = some (vr, o') → ι i vr ≠ some (g, t))
    (hr : Reps w Pf ι o.es.flatten xs) (ht : cs.toList.take xs.length = xs) :
    Fwd Pf w w' ι (fun i v => if i = id ∧ v = tick then some (g, cs.size) else ι i v) ∧
    Desc w' Pf (fun i v => if i = id ∧ v = tick then some (g, cs.size) else ι i v) H' tick (fun s => done s ∨ s = site) := by
  have hf0 : ι id tick = none := D.fresh' id (by rw [hid]; exact hd)
  have f : Fwd Pf w w' ι (fun i v => if i = id ∧ v = tick then some (g, cs.size) else ι i v) :=
    ⟨hos, htape, hout, hsize, fun k hk => hkeep k (D.lt k hk) (fun e => hgP (e ▸ hk)), fun i v x hx => by
      show (if i = id ∧ v = tick then _ else _) = _
      rw [if_neg (fun e => by rw [e.1, e.2, hf0] at hx; cases hx)]; exact hx⟩
  have hok' : ∀ e ∈ o.es, e.length = o.sz ∧ ∀ x ∈ e, x.one = true ∧ (o.fl = true → x.isC = true) := by
    intro e he
    have := List.all_eq_true.1 hok e he
    simp only [Bool.and_eq_true, beq_iff_eq, List.all_eq_true, Bool.or_eq_true, Bool.not_eq_true'] at this
    exact ⟨this.1, fun x hx => ⟨(this.2 x hx).1, fun hfl => orC (this.2 x hx).2 hfl⟩⟩
  refine ⟨f, ⟨?_, ?_, ?_, ?_, fun k hk => Nat.lt_of_lt_of_le (D.lt k hk) hsize, D.sub, D.gl f.prot⟩⟩
  · intro i vr o' hi
    rcases hH i _ hi with ⟨rfl, hx⟩ | ⟨hi', hx⟩
    · cases hx
      refine ⟨⟨g, cs.size, cs, xs, by simp, hg, rfl, hr.fwd D.sub f, ht, hgP⟩, fun e he x hx => ((hok' e he).2 x hx).1, fun e he => (hok' e he).1, fun hfl e he x hx => ((hok' e he).2 x hx).2 hfl⟩
    · have ow := D.own i vr o' hx
      refine ow.fwd D.sub f (fun g' t h => hkeep g' (ow.lt h) (fun e => ?_))
      subst e
      exact hne i vr o' t hi' hi h
  · intro i vr hvr
    show (if i = id ∧ vr = tick then _ else _) = _
    rw [if_neg (by omega)]
    exact D.fresh i vr hvr
  · intro i hi
    show (if i = id ∧ tick = tick then _ else _) = _
    rw [if_neg (fun e => hi (.inr (by rw [e.1, hid])))]
    exact D.fresh' i (fun x => hi (.inl x))
  · intro i vr o1 i' vr' o2 g' t t' h1 h2 h3 h4
    rcases hH i _ h1 with ⟨e1, hx1⟩ | ⟨e1, hx1⟩ <;> rcases hH i' _ h2 with ⟨e2, hx2⟩ | ⟨e2, hx2⟩
    · rw [e1, e2]
    · subst e1
      cases hx1
      have h3' : some (g, cs.size) = some (g', t) := by simpa using h3
      cases h3'
      have h4 : ι i' vr' = some (g, t') := by simpa [e2] using h4
      exact absurd h4 (hne i' vr' o2 t' e2 h2)
    · subst e2
      cases hx2
      have h4' : some (g, cs.size) = some (g', t') := by simpa using h4
      cases h4'
      have h3 : ι i vr = some (g, t) := by simpa [e1] using h3
      exact absurd h3 (hne i vr o1 t e1 h1)
    · have h3 : ι i vr = some (g', t) := by simpa [e1] using h3
      have h4 : ι i' vr' = some (g', t') := by simpa [e2] using h4
      exact D.inj i vr o1 i' vr' o2 g' t t' hx1 hx2 h3 h4

/-- A new object in a block of its own. -/
theorem alloc_sound (D : Desc w Pf ι H tick done) {site id : Nat} (hd : ¬ done site) (hid : id / 16 = site) {o : Obj} (hok : okObj o = true) {cs : Array Value} {xs : List Value}
    (hr : Reps w Pf ι o.es.flatten xs) (ht : cs.toList.take xs.length = xs) :
    ∃ ι' : Plc, Fwd Pf w (w.alloc (.cells cs o.ty)) ι ι' ∧ Desc (w.alloc (.cells cs o.ty)) Pf ι' (applyD H [(id, some (tick, o))]) tick (fun s => done s ∨ s = site) ∧ ι' id tick = some (w.heap.size, cs.size) := by
  have h := new_sound (w' := w.alloc (.cells cs o.ty)) (g := w.heap.size) (H' := applyD H [(id, some (tick, o))]) D hd hid hok rfl rfl rfl (by simp)
    (fun k hk _ => Go.heap_alloc_old w _ hk) ⟨_, heap_alloc_new w _, .inl rfl⟩ (fun h => Nat.lt_irrefl _ (D.lt _ h)) (fun i x hx => ?_) (fun i vr o' t hi hx h => ?_) hr ht
  · exact ⟨_, h.1, h.2, by simp⟩
  · simp only [applyD, List.foldl_cons, List.foldl_nil] at hx
    split at hx
    · rename_i e; exact .inl ⟨e, by cases hx; rfl⟩
    · rename_i e; exact .inr ⟨e, hx⟩
  · simp only [applyD, List.foldl_cons, List.foldl_nil, if_neg hi] at hx
    exact Nat.lt_irrefl _ ((D.own i vr o' hx).lt h)

theorem upd_sound (D : Desc w Pf ι H tick done) {id vr : Nat} {o o' : Obj} (hH : H id = some (vr, o)) (hty : o'.ty = o.ty) (hok : okObj o' = true) {w' : World} {g tot : Nat} {cur cur' : Array Value} {xs : List Value}
    (hos : w'.os = w.os) (htape : w'.tape = w.tape) (hout : w'.output = w.output) (hsize : w.heap.size ≤ w'.heap.size)
    (hι : ι id vr = some (g, tot)) {fz : Nat × Nat} (hcur : w.heap[g]? = some (.cells cur o.ty fz)) (hfz : fz = (0, 0) ∨ cur.size ≤ fz.1)
    (hkeep : ∀ k, k < w.heap.size → k ≠ g → w'.heap[k]? = w.heap[k]?) (hg : w'.heap[g]? = some (.cells cur' o.ty fz)) (hcs : cur'.size = cur.size)
    (hr : Reps w Pf ι o'.es.flatten xs) (ht : cur'.toList.take xs.length = xs) :
    Fwd Pf w w' ι ι ∧ Desc w' Pf ι (applyD H [(id, some (vr, o'))]) tick done := by
  have ow0 := D.own id vr o hH
  obtain ⟨g0, tot0, cur0, xs0, h1, ⟨fz0, h2, hfz0⟩, h3, h4, h5, h6⟩ := ow0.ex
  rw [hι] at h1; cases h1
  rw [hcur] at h2; cases h2
  have f : Fwd Pf w w' ι ι := ⟨hos, htape, hout, hsize, fun k hk => hkeep k (D.lt k hk) (fun e => h6 (e ▸ hk)), fun _ _ _ h => h⟩
  have hok' : ∀ e ∈ o'.es, e.length = o'.sz ∧ ∀ x ∈ e, x.one = true ∧ (o'.fl = true → x.isC = true) := by
    intro e he
    have := List.all_eq_true.1 hok e he
    simp only [Bool.and_eq_true, beq_iff_eq, List.all_eq_true, Bool.or_eq_true, Bool.not_eq_true'] at this
    exact ⟨this.1, fun x hx => ⟨(this.2 x hx).1, fun hfl => orC (this.2 x hx).2 hfl⟩⟩
  have hcase : ∀ i x, applyD H [(id, some (vr, o'))] i = some x → (i = id ∧ x = (vr, o')) ∨ (i ≠ id ∧ H i = some x) := by
    intro i x hx
    simp only [applyD, List.foldl_cons, List.foldl_nil] at hx
    split at hx
    · rename_i e; exact .inl ⟨e, by cases hx; rfl⟩
    · rename_i e; exact .inr ⟨e, hx⟩
  refine ⟨f, ⟨?_, D.fresh, D.fresh', ?_, fun k hk => Nat.lt_of_lt_of_le (D.lt k hk) hsize, D.sub, D.gl f.prot⟩⟩
  · intro i vr' o1 hi
    rcases hcase i _ hi with ⟨rfl, hx⟩ | ⟨hi', hx⟩
    · cases hx
      exact ⟨⟨g, tot, cur', xs, hι, ⟨fz, by rw [hty]; exact hg, by rw [hcs]; exact hfz⟩, by rw [hcs]; exact h3, hr.fwd D.sub f, ht, h6⟩, fun e he x hx => ((hok' e he).2 x hx).1, fun e he => (hok' e he).1, fun hfl e he x hx => ((hok' e he).2 x hx).2 hfl⟩
    · have ow := D.own i vr' o1 hx
      refine ow.fwd D.sub f (fun g' t h => hkeep g' (ow.lt h) (fun e => ?_))
      subst e
      exact hi' (D.inj i vr' o1 id vr o g' t tot hx hH h hι)
  · intro i v1 o1 i' v2 o2 g' t t' h1 h2 h3 h4
    have key : ∀ i v1 o1, applyD H [(id, some (vr, o'))] i = some (v1, o1) → ∃ o3, H i = some (v1, o3) := by
      intro i v1 o1 hi
      rcases hcase i _ hi with ⟨rfl, hx⟩ | ⟨_, hx⟩
      · cases hx; exact ⟨o, hH⟩
      · exact ⟨o1, hx⟩
    obtain ⟨o3, h5⟩ := key _ _ _ h1
    obtain ⟨o4, h6⟩ := key _ _ _ h2
    exact D.inj i v1 o3 i' v2 o4 g' t t' h5 h6 h3 h4

theorem storeV_sound {T : Tab} (hT : TabOk P T) {t : TypeId} {x y : V} {H' : Hp} (hs : Sub H' H) (D : Desc w Pf ι H tick done) {v : Option V} {δ : List (Nat × Option (Nat × Obj))} (h : storeV T H' t x y = some (v, δ)) {u n : Value} (hu : Rep w Pf ι x u) (hy : Rep w Pf ι y n) :
    ∃ w', (Instr.storeAt t u n).run P w = .ok () w' ∧ v = none ∧ Fwd Pf w w' ι ι ∧ Desc w' Pf ι (applyD H δ) tick done := by
  unfold storeV at h
  split at h
  · rename_i ti id vr sz i j hti
    have ht := hT _ _ hti
    split at h
    · cases h
    rename_i o ho
    split at h
    · cases h
    rename_i e he
    split at h
    · rename_i hc
      obtain ⟨hsz, hcl, hj, hall⟩ := hc
      subst hsz
      cases h
      have hH := hs _ _ (find_some ho)
      have ow := D.own _ _ _ hH
      have hall' : ∀ z ∈ y.cells, z.one = true ∧ (o.fl = true → z.isC = true) := by
        intro z hz
        have := List.all_eq_true.1 hall z hz
        simp only [Bool.and_eq_true, Bool.or_eq_true, Bool.not_eq_true'] at this
        exact ⟨this.1, fun hf => orC this.2 hf⟩
      simp only [Rep] at hu
      obtain ⟨g, tot, h1, rfl⟩ := hu
      obtain ⟨g', tot', cur, xs, h2, ⟨fz, h3, hfz⟩, h4, h5, h6, h7⟩ := ow.ex
      rw [h1] at h2; cases h2
      have hye := hy.cells (fun z hz => (hall' z hz).1)
      have hyl := hye.length
      simp only [Array.length_toList] at hyl
      have hel := ow.sz e (List.mem_of_getElem? he)
      have hi : i < o.es.length := (List.getElem?_eq_some_iff.1 he).1
      have hxs := h5.length
      rw [length_flatten_uniform ow.sz] at hxs
      have hcurs : xs.length ≤ cur.size := by
        have := congrArg List.length h6
        simp only [List.length_take, Array.length_toList] at this
        omega
      have hbound : i * o.sz + j + ti.size ≤ o.es.length * o.sz := by
        have : (i + 1) * o.sz ≤ o.es.length * o.sz := Nat.mul_le_mul_right _ hi
        rw [Nat.succ_mul] at this
        omega
      have hrun := run_storeCells_fz P g (i * o.sz + j) o.ty fz n.cells.toList 0 cur w h3 hfz (by simp; omega) (hye.ones (fun z hz => (hall' z hz).1))
      simp only [Nat.add_zero, Array.length_toList] at hrun
      refine ⟨w.setRow g (cur.toList.take (i * o.sz + j) ++ n.cells.toList ++ cur.toList.drop (i * o.sz + j + n.cells.size)).toArray, ?_, rfl, ?_⟩
      · simp only [Instr.storeAt, Sem.run_bind, run_sureAddr, Result.andThen_ok, storeVar, ht.run_size]
        rw [if_neg (by rw [hyl, hcl]; simp)]
        exact hrun
      -- the object's new elements
      have hfl : (o.es.set i (setAt e j y.cells)).flatten = o.es.flatten.take (i * o.sz + j) ++ y.cells ++ o.es.flatten.drop (i * o.sz + j + y.cells.length) := by
        have hs : o.es = o.es.take i ++ e :: o.es.drop (i + 1) := by
          obtain ⟨hi', rfl⟩ := List.getElem?_eq_some_iff.1 he
          rw [← List.drop_eq_getElem_cons hi', List.take_append_drop]
        have hlt : (o.es.take i).flatten.length = i * o.sz := by
          rw [length_flatten_uniform (n := o.sz) (fun e he => ow.sz e (List.mem_of_mem_take he)), List.length_take, Nat.min_eq_left (by omega)]
        have hset : o.es.set i (setAt e j y.cells) = o.es.take i ++ setAt e j y.cells :: o.es.drop (i + 1) := by
          rw [List.set_eq_take_append_cons_drop, if_pos hi]
        rw [hset]
        conv => rhs; rw [hs]
        simp only [List.flatten_append, List.flatten_cons]
        have h3 := splice3 (o.es.take i).flatten e (o.es.drop (i + 1)).flatten y.cells j (by omega)
        rw [hlt] at h3
        exact h3
      have hxs' : (xs.take (i * o.sz + j) ++ n.cells.toList ++ xs.drop (i * o.sz + j + y.cells.length)).length = xs.length := by
        simp only [List.length_append, List.length_take, List.length_drop, Array.length_toList]
        omega
      refine upd_sound (o' := { o with es := o.es.set i (setAt e j y.cells) }) (cur' := (cur.toList.take (i * o.sz + j) ++ n.cells.toList ++ cur.toList.drop (i * o.sz + j + n.cells.size)).toArray)
        (xs := xs.take (i * o.sz + j) ++ n.cells.toList ++ xs.drop (i * o.sz + j + y.cells.length)) D hH rfl ?_ rfl rfl rfl (by simp) h1 h3 hfz (fun k _ hk => setRow_other w g k _ hk) (setRow_heap w g cur _ _ _ h3) ?_ ?_ ?_
      · refine List.all_eq_true.2 fun e' he' => ?_
        rcases List.mem_or_eq_of_mem_set he' with h | h
        · simp only [Bool.and_eq_true, beq_iff_eq, List.all_eq_true, Bool.or_eq_true, Bool.not_eq_true']
          exact ⟨ow.sz e' h, fun x hx => ⟨ow.one e' h x hx, by cases hf : o.fl with | false => exact .inl rfl | true => exact .inr (ow.fl hf e' h x hx)⟩⟩
        · subst h
          simp only [Bool.and_eq_true, beq_iff_eq, List.all_eq_true, Bool.or_eq_true, Bool.not_eq_true']
          refine ⟨by simp only [setAt, List.length_append, List.length_take, List.length_drop]; omega, fun x hx => ?_⟩
          have hem := List.mem_of_getElem? he
          simp only [setAt, List.mem_append] at hx
          rcases hx with (hx | hx) | hx
          · have := List.mem_of_mem_take hx
            exact ⟨ow.one e hem x this, by cases hf : o.fl with | false => exact .inl rfl | true => exact .inr (ow.fl hf e hem x this)⟩
          · exact ⟨(hall' x hx).1, by cases hf : o.fl with | false => exact .inl rfl | true => exact .inr ((hall' x hx).2 hf)⟩
          · have := List.mem_of_mem_drop hx
            exact ⟨ow.one e hem x this, by cases hf : o.fl with | false => exact .inl rfl | true => exact .inr (ow.fl hf e hem x this)⟩
      · simp only [List.size_toArray, List.length_append, List.length_take, List.length_drop, Array.length_toList]
        omega
      · show Reps w Pf ι (o.es.set i (setAt e j y.cells)).flatten _
        rw [hfl]
        exact ((h5.take _).append hye).append (h5.drop _)
      · rw [hxs']
        show (cur.toList.take (i * o.sz + j) ++ n.cells.toList ++ cur.toList.drop (i * o.sz + j + n.cells.size)).take xs.length = _
        conv => rhs; rw [← h6]
        rw [hyl, List.take_append, List.take_append]
        simp only [List.length_append, List.length_take, Array.length_toList, List.take_take, List.drop_take]
        have e1 : min xs.length (i * o.sz + j) = min (i * o.sz + j) xs.length := Nat.min_comm _ _
        rw [e1, List.take_of_length_le (i := xs.length - min (i * o.sz + j) cur.size) (by simp; omega)]
        congr 2
        omega
    · cases h
  · cases h
end
end Go.Proofs.YtbjmfjfnilmhhaaGreatDoor.Eng
