/- A deterministic reading of Go code over plain data: rows made, appended to, copied into. No conditions. -/
import Derived.Test.YtbjmfjfnilmhhaaGreatDoorEngH
namespace Go.Proofs.YtbjmfjfnilmhhaaGreatDoor.Eng
open Go Go.RowKit

section
variable {P : Program} {w : World} {Pf : Pfs} {ι : Plc} {H : Hp} {tick : Nat} {done : Nat → Prop}

theorem made_inv {id : Nat} {o : Obj} {x : V} {v : Option V} {δ : List (Nat × Option (Nat × Obj))} (h : made tick id o x = some (v, δ)) : okObj o = true ∧ v = some x ∧ δ = [(id, some (tick, o))] := by
  unfold made at h
  split at h
  · rename_i ho; cases h; exact ⟨ho, rfl, rfl⟩
  · cases h

theorem okObj_inv {o : Obj} (h : okObj o = true) : (∀ e ∈ o.es, e.length = o.sz) ∧ ∀ e ∈ o.es, ∀ x ∈ e, x.one = true := by
  have h' : ∀ e ∈ o.es, e.length = o.sz ∧ ∀ x ∈ e, x.one = true := by
    intro e he
    have := List.all_eq_true.1 h e he
    simp only [Bool.and_eq_true, beq_iff_eq, List.all_eq_true] at this
    exact ⟨this.1, fun x hx => (this.2 x hx).1⟩
  exact ⟨fun e he => (h' e he).1, fun e he => (h' e he).2⟩

/-- What an operation that makes an object comes to. -/
structure Makes (w w' : World) (Pf : Pfs) (ι ι' : Plc) (H : Hp) (tick : Nat) (done : Nat → Prop) (site : Nat) (x : V) (u : Value) (δ : List (Nat × Option (Nat × Obj))) : Prop where
  fwd : Fwd Pf w w' ι ι'
  rep : Rep w' Pf ι' x u
  desc : Desc w' Pf ι' (applyD H δ) tick (fun s => done s ∨ s = site)

theorem box_sound (D : Desc w Pf ι H tick done) {site : Nat} (hd : ¬ done site) {t : TypeId} {ti : TI} {l : List V} {u : Value} {us : List Value} (hu : Reps w Pf ι l us) (hus : u.cells.toList = us)
    {v : Option V} {δ : List (Nat × Option (Nat × Obj))} (h : made tick (16 * site) ⟨t, ti.size, ti.fl, [l]⟩ (.p (16 * site) tick ti.size 0 0) = some (v, δ)) :
    ∃ x ι', v = some x ∧ Makes w (w.alloc (.cells u.cells t)) Pf ι ι' H tick done site x (.pointer (some ⟨w.heap.size, 0, none⟩)) δ := by
  obtain ⟨hok, rfl, rfl⟩ := made_inv h
  obtain ⟨ι', f, D', hi⟩ := alloc_sound (cs := u.cells) (xs := us) D hd (by omega : 16 * site / 16 = site) hok (by simpa using hu) (by rw [← hus]; exact List.take_of_length_le (Nat.le_refl _))
  refine ⟨_, ι', rfl, f, ?_, D'⟩
  simp only [Rep]
  exact ⟨_, _, hi, by simp⟩

theorem run_box (t : TypeId) (u : Value) : (Instr.box t u).run P w = .ok (.pointer (some ⟨w.heap.size, 0, none⟩)) (w.alloc (.cells u.cells t)) := by
  simp [Instr.box, newVar, newRow]
theorem run_alloc {t : TypeId} {z : Value} (hz : (zeroValue t).run P w = .ok z w) : (Instr.alloc t true (.tuple #[])).run P w = .ok (.pointer (some ⟨w.heap.size, 0, none⟩)) (w.alloc (.cells z.cells t)) := by
  simp [Instr.alloc, hz, newVar, newRow]

theorem zero_row {z : Value} {zs : List Value} {l c size : Nat} (hz : z.cells.toList = zs) (hs : zs.length = size) (h0 : 0 < size) (hlc : l ≤ c) :
    Reps w Pf ι ((List.replicate l (zs.map V.c)).flatten) ((List.replicate l zs).flatten) ∧ (madeCells z.cells (c * size)).toList.take ((List.replicate l zs).flatten.length) = (List.replicate l zs).flatten := by
  have hzs : z.cells.size = size := by rw [← hs, ← hz]; simp
  constructor
  · have : (List.replicate l (zs.map V.c)).flatten = ((List.replicate l zs).flatten).map V.c := by
      rw [List.map_flatten, List.map_replicate]
    rw [this]
    exact Reps.consts _
  · have := madeCells_toList z.cells c (by omega)
    rw [hzs] at this
    rw [this, hz]
    have hc : c = l + (c - l) := by omega
    rw [hc, ← List.replicate_append_replicate, List.flatten_append, List.take_left]

theorem makeSlice_sound {T : Tab} (hT : TabOk P T) (D : Desc w Pf ι H tick done) {site : Nat} (hd : ¬ done site) {t e : TypeId} {te : TI} (ht : P.underlying t = some (.slice e)) (hte : T e = some te) {k k' : IntKind} {n m : Int}
    (h0 : 0 ≤ n) (h1 : n ≤ m) (h2 : m ≤ 17592186044416) (h3 : te.bytes * m ≤ 140737488355328) (h4 : 0 < te.size) {v : Option V} {δ : List (Nat × Option (Nat × Obj))}
    (h : made tick (16 * site) ⟨e, te.size, te.fl, List.replicate n.toNat (te.zero.map V.c)⟩ (.s (16 * site) tick te.size 0 n.toNat) = some (v, δ)) :
    ∃ u w' x ι', (Instr.makeSlice t (.int k n) (.int k' m)).run P w = .ok u w' ∧ v = some x ∧ Makes w w' Pf ι ι' H tick done site x u δ := by
  obtain ⟨hok, rfl, rfl⟩ := made_inv h
  have hti := hT _ _ hte
  obtain ⟨inf, z, hinf, hsz, hby, hz, hzs⟩ := hti.info
  have hrun := run_make (P := P) w t e inf z ht hinf hz k k' n m h0 h1 (by rw [hby]; omega) (by omega)
  rw [hsz] at hrun
  have hrow := zero_row (w := w) (Pf := Pf) (ι := ι) (l := n.toNat) (c := m.toNat) hzs hti.zlen h4 (by omega)
  obtain ⟨ι', f, D', hi⟩ := alloc_sound (cs := madeCells z.cells (m.toNat * te.size)) D hd (by omega : 16 * site / 16 = site) hok hrow.1 hrow.2
  refine ⟨_, _, _, ι', hrun, rfl, f, ?_, D'⟩
  simp only [Rep]
  exact ⟨_, _, _, _, hi, rfl, by omega, by unfold maxLen; omega, fun _ => by simp, fun _ => ⟨rfl, by rw [size_madeCells]⟩⟩

theorem buildSlice_sound {T : Tab} (hT : TabOk P T) (D : Desc w Pf ι H tick done) {site : Nat} (hd : ¬ done site) {t e : TypeId} {te : TI} (ht : P.underlying t = some (.slice e)) (hte : T e = some te) {len : Nat}
    (h1 : len * te.size ≤ 16777216) (h4 : 0 < te.size) {parts : List (Nat × V)} {us : Array (Nat × Value)} (hp : PReps w Pf ι parts us.toList) {flat : List V}
    (hf : parts.foldlM (fillF fun i => some (i * te.size, te.size)) (List.replicate len (te.zero.map V.c)).flatten = some flat) {v : Option V} {δ : List (Nat × Option (Nat × Obj))}
    (h : made tick (16 * site) ⟨e, te.size, te.fl, chunk te.size len flat⟩ (.s (16 * site) tick te.size 0 len) = some (v, δ)) :
    ∃ u w' x ι', (Instr.buildSlice t len us).run P w = .ok u w' ∧ v = some x ∧ Makes w w' Pf ι ι' H tick done site x u δ := by
  obtain ⟨hok, rfl, rfl⟩ := made_inv h
  have hti := hT _ _ hte
  obtain ⟨inf, z, hinf, hsz, hby, hz, hzs⟩ := hti.info
  have hzc : z.cells.size = te.size := by rw [← hti.zlen, ← hzs]; simp
  have hrow := zero_row (w := w) (Pf := Pf) (ι := ι) (l := len) (c := len) hzs hti.zlen h4 (Nat.le_refl _)
  have hmade : (madeCells z.cells (len * te.size)).toList = (List.replicate len te.zero).flatten := by
    rw [← hzs, ← hzc]; exact madeCells_toList _ _ (by omega)
  obtain ⟨cells', hc1, hc2, hc3⟩ := fill_sound parts us.toList _ flat (madeCells z.cells (len * te.size)) hp (by rw [hmade]; exact hrow.1) hf
  rw [size_madeCells] at hc3
  have hfl : flat.length = len * te.size := by rw [← hc2.length]; simp [hc3]
  obtain ⟨ι', f, D', hi⟩ := alloc_sound (cs := cells') (xs := cells'.toList) D hd (by omega : 16 * site / 16 = site) hok (by show Reps w Pf ι (chunk te.size len flat).flatten _; rw [chunk_flatten _ _ _ hfl]; exact hc2) (List.take_of_length_le (Nat.le_refl _))
  have hlen : len ≤ 16777216 := Nat.le_trans (Nat.le_mul_of_pos_right _ h4) h1
  refine ⟨.slice (some ⟨w.heap.size, 0, none⟩) len len, _, _, ι', ?_, rfl, f, ?_, D'⟩
  · have hcell : ((Array.range (len * te.size)).map ((if len * te.size = 0 then (#[] : Array Value) else z.cells)[· % (if len * te.size = 0 then (#[] : Array Value) else z.cells).size]!)) = madeCells z.cells (len * te.size) := by
      split
      · rename_i h0; rw [h0]; simp [madeCells]
      · rfl
    by_cases h0 : len * te.size = 0
    · rw [h0] at hcell hc1 hmade
      have hm0 : madeCells z.cells 0 = #[] := by simp [madeCells]
      rw [hm0] at hc1
      simp only [Instr.buildSlice, Sem.run_bind, run_underlying ht, Result.andThen_ok, hti.run_size, h0]
      simp [Array.range_zero', hc1, newRow]
    · obtain ⟨z', hz1, hz2⟩ := hti.run_zero (w := w)
      have hzz : z'.cells = z.cells := by
        apply Array.ext'; rw [hz2, hzs]
      rw [if_neg h0] at hcell
      have hno : ¬ (len * te.size > 2 ^ 24) := by omega
      simp only [Instr.buildSlice, Sem.run_bind, run_underlying ht, Result.andThen_ok, hti.run_size, if_neg hno, if_neg h0, hz1, Sem.run_pure, hzz, hcell, hc1]
      simp [newRow]
  · simp only [Rep]
    exact ⟨_, _, _, _, hi, rfl, Nat.le_refl _, by unfold maxLen; omega, fun _ => by simp, fun _ => ⟨rfl, hc3.symm⟩⟩

/-- What an append reads. -/
theorem RepE.reads : ∀ {l : List (List V)} {sz : Nat} {a : Addr}, RepE w Pf ι sz l a → ∃ us, Reps w Pf ι l.flatten us ∧ (∀ j u, us[j]? = some u → w.cell? (a.add j) = some u) ∧ (∀ x ∈ l.flatten, x.one = true) ∧ us.length = l.length * sz
  | [], sz, a, _ => ⟨[], by simp [Reps], by simp, by simp, by simp⟩
  | e :: l, sz, a, h => by
    simp only [RepE] at h
    obtain ⟨h1, h2, h3⟩ := h
    obtain ⟨us, h4, h5⟩ := h2.reads
    obtain ⟨vs, h6, h7, h8, h9⟩ := RepE.reads h3
    have hl := h4.length
    refine ⟨us ++ vs, by rw [List.flatten_cons]; exact h4.append h6, fun j u hj => ?_, ?_, by rw [List.length_append, h9, hl, h1, List.length_cons, Nat.succ_mul]; omega⟩
    · by_cases hjl : j < us.length
      · rw [List.getElem?_append_left hjl] at hj
        exact h5 j u hj
      · rw [List.getElem?_append_right (by omega)] at hj
        have := h7 _ _ hj
        rw [Go.Deep.add_add] at this
        rw [← this]
        congr 2
        omega
    · intro x hx
      rw [List.flatten_cons, List.mem_append] at hx
      rcases hx with hx | hx
      · clear h4 h5 h6 h7 h8 h9 hl h3 h1
        induction e generalizing a with
        | nil => cases hx
        | cons y e ih =>
          simp only [RepC] at h2
          cases hx with
          | head => exact h2.2.1
          | tail _ hx => exact ih _ h2.2.2.2 hx
      · exact h8 x hx

theorem newsV_sound {H' : Hp} (hs : Sub H' H) (D : Desc w Pf ι H tick done) {sz : Nat} {fl : Bool} {y : V} {news : List (List V)} (h : newsV H' sz fl y = some news) {u : Value} (hu : Rep w Pf ι y u) :
    ∃ A c, u = .slice A news.length c ∧ (∀ e ∈ news, e.length = sz) ∧ (∀ e ∈ news, ∀ x ∈ e, (fl = true → x.isC = true) ∧ x.one = true) ∧ (news = [] ∨ ∃ ad us, A = some ad ∧ Reps w Pf ι news.flatten us ∧ ∀ j v, us[j]? = some v → w.cell? (ad.add j) = some v) := by
  unfold newsV at h
  split at h
  · rename_i b fl' sz' l
    split at h
    · rename_i hc
      obtain ⟨hsz, hfl⟩ := hc
      subst hsz
      cases h
      simp only [Rep] at hu
      obtain ⟨A, cap, rfl, h2, h3, h4, h5, h6⟩ := hu
      refine ⟨A, cap, rfl, ?_, ?_, ?_⟩
      · intro e he
        rcases h6 with rfl | ⟨a, rfl, h6⟩
        · cases he
        · obtain ⟨i, hi⟩ := List.mem_iff_getElem?.1 he
          exact (h6.get i e hi).1
      · intro e he x hx
        refine ⟨fun hf => h4 (by subst hf; simpa using hfl) e he x hx, ?_⟩
        rcases h6 with rfl | ⟨a, rfl, h6⟩
        · cases he
        · obtain ⟨us, _, _, h9, _⟩ := h6.reads
          exact h9 x (List.mem_flatten.2 ⟨e, he, hx⟩)
      · rcases h6 with rfl | ⟨a, rfl, h6⟩
        · exact .inl rfl
        · obtain ⟨us, h7, h8, _⟩ := h6.reads
          exact .inr ⟨a, us, rfl, Reps.mono (fun b' g hg => ⟨by cases b <;> cases b' <;> first | exact hg | exact D.sub _ hg, rfl⟩) (fun _ _ _ h => h) _ _ h7, h8⟩
    · cases h
  · rename_i id vr sz' off len
    split at h
    · rename_i o ho
      split at h
      · rename_i hc
        obtain ⟨hfl, rfl, hosz, hle⟩ := hc
        cases h
        have ow := D.own _ _ _ (hs _ _ (find_some ho))
        simp only [Rep] at hu
        obtain ⟨g, tot, a, cap, h1, rfl, h2, h3, h4, h5⟩ := hu
        have hll : ((o.es.drop off).take len).length = len := by rw [List.length_take, List.length_drop]; omega
        refine ⟨some a, cap, by rw [hll], fun e he => by rw [← hosz]; exact ow.sz e (List.mem_of_mem_drop (List.mem_of_mem_take he)), fun e he x hx => ?_, ?_⟩
        · have := List.mem_of_mem_drop (List.mem_of_mem_take he)
          exact ⟨fun hf => ow.fl (by subst hf; simpa using hfl) e this x hx, ow.one e this x hx⟩
        · by_cases hl0 : len = 0
          · left; exact List.eq_nil_of_length_eq_zero (by omega)
          · right
            obtain ⟨g', tot', cur, xs, k1, ⟨fz, k2, hfz⟩, k3, k4, k5, k6⟩ := ow.ex
            rw [h1] at k1; cases k1
            have hes : o.es = o.es.take off ++ ((o.es.drop off).take len ++ (o.es.drop off).drop len) := by rw [List.take_append_drop, List.take_append_drop]
            rw [hes, List.flatten_append, List.flatten_append] at k4
            obtain ⟨A, B, rfl, hA, hB⟩ := k4.split
            obtain ⟨M, E, rfl, hM, hE⟩ := hB.split
            have hAl : A.length = off * o.sz := by
              rw [hA.length, length_flatten_uniform (n := o.sz) (fun e he => ow.sz e (List.mem_of_mem_take he)), List.length_take, Nat.min_eq_left (by omega)]
            refine ⟨a, M, rfl, hM, fun j v hj => ?_⟩
            rw [h4 (by omega), add_lit]
            have hjl : j < M.length := (List.getElem?_eq_some_iff.1 hj).1
            have h7 : (A ++ (M ++ E))[off * o.sz + j]? = some v := by
              rw [List.getElem?_append_right (by omega), hAl, List.getElem?_append_left (by omega), show off * o.sz + j - off * o.sz = j by omega]
              exact hj
            rw [← k5, List.getElem?_take] at h7
            split at h7
            · subst hosz; simpa [World.cell?, k2] using h7
            · cases h7
      · cases h
    · cases h
  · cases h
    simp only [Rep] at hu
    exact ⟨none, 0, hu, by simp, by simp, .inl rfl⟩
  · cases h
    simp only [Rep] at hu
    obtain ⟨A, rfl⟩ := hu
    exact ⟨A, 0, rfl, by simp, by simp, .inl rfl⟩
  · cases h
end
end Go.Proofs.YtbjmfjfnilmhhaaGreatDoor.Eng
