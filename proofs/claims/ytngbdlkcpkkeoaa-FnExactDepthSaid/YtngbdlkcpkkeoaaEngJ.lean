/- A deterministic reading of Go code over plain data: append. No conditions. -/
import Derived.Test.YtngbdlkcpkkeoaaEngI
namespace Go.Proofs.Ytngbdlkcpkkeoaa.Eng
open Go Go.RowKit

section
variable {P : Program} {w : World} {Pf : Pfs} {ι : Plc} {H : Hp} {tick : Nat} {done : Nat → Prop}

theorem run_append_none {t ty e : TypeId} {i : TypeInfo} (ht : P.underlying t = some (.slice e)) (hi : P.info? e = some i) (A B : Option Addr) (n c c' : Nat) (hc : n ≤ c) :
    (Builtin.append_ #[t, t] ty #[.slice A n c, .slice B 0 c']).run P w = .ok (.slice A n c) w := by
  cases A <;> cases B <;> simp [Builtin.append_, run_underlying ht, sizeOf, typeInfo, hi, Builtin.lenOf, Builtin.firstCells, hc, storeCells, loadCells, loadCellsFrom]

theorem flatten_take {α : Type} {n : Nat} {l : List (List α)} (hl : ∀ e ∈ l, e.length = n) (k : Nat) (hk : k ≤ l.length) : (l.take k).flatten = l.flatten.take (k * n) := by
  have h1 : (l.take k).flatten.length = k * n := by
    rw [length_flatten_uniform (n := n) (fun e he => hl e (List.mem_of_mem_take he)), List.length_take, Nat.min_eq_left hk]
  conv => rhs; rw [← List.take_append_drop k l, List.flatten_append]
  rw [← h1, List.take_left]

theorem appendV_sound {T : Tab} (hT : TabOk P T) {H' : Hp} (hs : Sub H' H) (D : Desc w Pf ι H tick done) {site : Nat} (hd : ¬ done site) {t ty : TypeId} {x y : V} {v : Option V} {δ : List (Nat × Option (Nat × Obj))}
    (h : appendV T H' tick (16 * site + 8) t x y = some (v, δ)) {a b : Value} (ha : Rep w Pf ι x a) (hb : Rep w Pf ι y b) :
    ∃ u w' x' ι', (Builtin.append_ #[t, t] ty #[a, b]).run P w = .ok u w' ∧ v = some x' ∧ Makes w w' Pf ι ι' H tick done site x' u δ := by
  unfold appendV at h
  split at h
  case h_2 => cases h
  rename_i e size bytes zero fl hti
  have ht := (hT _ _ hti).und
  simp only [] at ht
  split at h
  · cases h
  rename_i te hte
  have hte' := hT _ _ hte
  obtain ⟨inf, z, hinf, hsz, hby, hz, hzs⟩ := hte'.info
  split at h
  · cases h
  rename_i hte0
  have hte0 : te.size ≠ 0 ∧ te.fl ≠ false := by
    constructor
    · exact fun h => hte0 (.inl h)
    · exact fun h => hte0 (.inr h)
  split at h
  · cases h
  rename_i news hnews
  obtain ⟨B, c, rfl, hnl, hnc, hnr⟩ := newsV_sound hs D hnews hb
  have hzc : z.cells.size = te.size := by rw [← hte'.zlen, ← hzs]; simp
  split at h
  · -- nothing is appended
    rename_i hn0
    subst hn0
    have key : ∀ A n c', a = .slice A n c' → n ≤ c' → ∃ u w' x' ι', (Builtin.append_ #[t, t] ty #[a, .slice B ([] : List (List V)).length c]).run P w = .ok u w' ∧ (some x : Option V) = some x' ∧ Makes w w' Pf ι ι' H tick done site x' u [] := by
      intro A n c' he hle
      subst he
      exact ⟨_, w, x, ι, run_append_none ht hinf A B n c' c hle, rfl, Fwd.refl _ _ _, ha, D.more fun s h => .inl h⟩
    split at h
    · cases h; simp only [Rep] at ha; exact key _ _ _ ha (Nat.le_refl _)
    · cases h; have ha' := ha; simp only [Rep] at ha'; obtain ⟨A, ha'⟩ := ha'; exact key _ _ _ ha' (Nat.le_refl _)
    · cases h; have ha' := ha; simp only [Rep] at ha'; obtain ⟨g, tot, ad, cap, _, ha', hle, _⟩ := ha'; exact key _ _ _ ha' hle
    · cases h; have ha' := ha; simp only [Rep] at ha'; obtain ⟨A, cap, ha', hle, _⟩ := ha'; exact key _ _ _ ha' hle
    · cases h
  · rename_i hn0
    obtain ⟨ad, us, rfl, hus, hread⟩ := hnr.resolve_left hn0
    have hul : us.length = news.length * te.size := by rw [hus.length, length_flatten_uniform hnl]
    have hpos : 0 < news.length := List.length_pos_iff.2 hn0
    -- a new row of what was there and what is new
    have fresh : ∀ (olds : List Value) (oldE : List (List V)) (cap : Nat) (hok : okObj ⟨e, te.size, true, oldE ++ news⟩ = true) (_ : Reps w Pf ι oldE.flatten olds) (_ : olds.length = oldE.length * te.size) (_ : oldE.length + news.length ≤ maxLen)
        (H'' : Hp) (_ : ∀ i q, H'' i = some q → (i = 16 * site + 8 ∧ q = (tick, ⟨e, te.size, true, oldE ++ news⟩)) ∨ (i ≠ 16 * site + 8 ∧ H i = some q)),
        ∃ ι' : Plc, Fwd Pf w (w.drew.alloc (.cells (olds.toArray ++ us.toArray ++ Builtin.zeroCells z.cells (grownCap w (oldE.length + news.length) cap e - (oldE.length + news.length))) e)) ι ι' ∧
          Rep (w.drew.alloc (.cells (olds.toArray ++ us.toArray ++ Builtin.zeroCells z.cells (grownCap w (oldE.length + news.length) cap e - (oldE.length + news.length))) e)) Pf ι' (.s (16 * site + 8) tick te.size 0 (oldE.length + news.length)) (.slice (some ⟨w.heap.size, 0, none⟩) (oldE.length + news.length) (grownCap w (oldE.length + news.length) cap e)) ∧
          Desc (w.drew.alloc (.cells (olds.toArray ++ us.toArray ++ Builtin.zeroCells z.cells (grownCap w (oldE.length + news.length) cap e - (oldE.length + news.length))) e)) Pf ι' H'' tick (fun s => done s ∨ s = site) := by
      intro olds oldE cap hok hro hol hmax H'' hH''
      have hge := grownCap_ge w (oldE.length + news.length) cap e
      have hcm := grownCap_le_maxLen w (oldE.length + news.length) cap e hmax
      have hnew := new_sound (w' := w.drew.alloc (.cells (olds.toArray ++ us.toArray ++ Builtin.zeroCells z.cells (grownCap w (oldE.length + news.length) cap e - (oldE.length + news.length))) e)) (g := w.heap.size)
        (o := ⟨e, te.size, true, oldE ++ news⟩) (xs := olds ++ us) D hd (by omega : (16 * site + 8) / 16 = site) hok rfl rfl rfl (by show w.heap.size ≤ (w.heap.push _).size; simp)
        (fun k hk _ => heap_alloc_old w.drew _ hk) (heap_alloc_new w.drew _) (fun h => Nat.lt_irrefl _ (D.lt _ h)) hH'' (fun i vr o' t' hi hx hh => by
          rcases hH'' i _ hx with ⟨hi', _⟩ | ⟨_, hx'⟩
          · exact hi hi'
          · exact Nat.lt_irrefl _ ((D.own i vr o' hx').lt hh)) (by show Reps w Pf ι (oldE ++ news).flatten _; rw [List.flatten_append]; exact hro.append hus) (by simp only [Array.toList_append, List.append_assoc]; rw [← List.append_assoc]; exact List.take_left)
      refine ⟨_, hnew.1, ?_, hnew.2⟩
      simp only [Rep]
      refine ⟨_, _, _, _, by first | exact if_pos ⟨trivial, trivial⟩ | exact if_pos ⟨rfl, rfl⟩, rfl, hge, hcm, fun _ => by simp, fun _ => ⟨by trivial, ?_⟩⟩
      simp only [Array.size_append, List.size_toArray, size_zeroCells, hzc, hol, hul, ← Nat.add_mul]
      congr 1
      omega
    split at h
    · -- a nil slice
      split at h
      · rename_i hc
        obtain ⟨hok, rfl, rfl⟩ := made_inv h
        simp only [Rep] at ha
        subst ha
        obtain ⟨ι', f, hr, D'⟩ := fresh [] [] 0 hok (by simp [Reps]) (by simp) (by simpa using hc.2) (applyD H [(16 * site + 8, some (tick, ⟨e, te.size, true, news⟩))]) (fun i q hq => by
          simp only [applyD, List.foldl_cons, List.foldl_nil] at hq
          split at hq
          · rename_i e1; exact .inl ⟨e1, by cases hq; rfl⟩
          · rename_i e1; exact .inr ⟨e1, hq⟩)
        have hrun := run_append_nil (P := P) w t ty e inf z ht hinf hz ad news.length c us (by rw [hul, hsz]) hread hpos (by have := hc.2; unfold maxLen at this; omega) (by rw [hby]; omega)
        simp only [List.length_nil, Nat.zero_add] at f hr D'
        have he : ([] : List Value).toArray ++ us.toArray = us.toArray := by simp
        rw [he] at f hr D'
        exact ⟨_, _, _, ι', hrun, rfl, f, hr, D'⟩
      · cases h
    · -- a slice without room
      split at h
      · rename_i hc
        obtain ⟨hok, rfl, rfl⟩ := made_inv h
        simp only [Rep] at ha
        obtain ⟨A, rfl⟩ := ha
        obtain ⟨ι', f, hr, D'⟩ := fresh [] [] 0 hok (by simp [Reps]) (by simp) (by simpa using hc.2) (applyD H [(16 * site + 8, some (tick, ⟨e, te.size, true, news⟩))]) (fun i q hq => by
          simp only [applyD, List.foldl_cons, List.foldl_nil] at hq
          split at hq
          · rename_i e1; exact .inl ⟨e1, by cases hq; rfl⟩
          · rename_i e1; exact .inr ⟨e1, hq⟩)
        simp only [List.length_nil, Nat.zero_add] at f hr D'
        cases A with
        | none =>
          have hrun := run_append_nil (P := P) w t ty e inf z ht hinf hz ad news.length c us (by rw [hul, hsz]) hread hpos (by have := hc.2; unfold maxLen at this; omega) (by rw [hby]; omega)
          have he : ([] : List Value).toArray ++ us.toArray = us.toArray := by simp
          rw [he] at f hr D'
          exact ⟨_, _, _, ι', hrun, rfl, f, hr, D'⟩
        | some a0 =>
          have hrun := run_append_grow (P := P) w t ty e inf z ht hinf hz a0 0 0 [] (by simp) (by simp) ad news.length c us (by rw [hul, hsz]) hread (by omega) (by have := hc.2; unfold maxLen at this; omega) (growslice_fits (by omega) (by rw [hby]; simpa using hc.1))
          simp only [Nat.zero_add] at hrun
          exact ⟨_, _, _, ι', hrun, rfl, f, hr, D'⟩
      · cases h
    · -- a row of its own
      rename_i id0 vr sz off len
      split at h
      · rename_i o ho
        split at h
        · rename_i hc
          obtain ⟨rfl, rfl, hosz, hoty, hofl, hlen, hbytes, hmax⟩ := hc
          split at h
          case isFalse => cases h
          rename_i hok
          cases h
          have hH := hs _ _ (find_some ho)
          have ow := D.own _ _ _ hH
          simp only [Rep] at ha
          obtain ⟨g, tot, a0, cap, h1, rfl, h2, h3, h4, h5⟩ := ha
          obtain ⟨rfl, hcap⟩ := h5 trivial
          obtain ⟨g', tot', cur, xs, k1, k2, k3, k4, k5, k6⟩ := ow.ex
          rw [h1] at k1; cases k1
          rw [hoty] at k2
          have hsz' : ∀ e ∈ o.es, e.length = te.size := fun e he => by rw [ow.sz e he, hosz]
          have htk := flatten_take hsz' len hlen
          have hxl : xs.length = o.es.length * te.size := by rw [k4.length, length_flatten_uniform hsz']
          have hro : Reps w Pf ι (o.es.take len).flatten (xs.take (len * te.size)) := by rw [htk]; exact k4.take _
          have hle : len * te.size ≤ o.es.length * te.size := Nat.mul_le_mul_right _ hlen
          have hol : (xs.take (len * te.size)).length = len * te.size := by rw [List.length_take]; omega
          have hel : (o.es.take len).length = len := by rw [List.length_take]; omega
          have hxc : xs.length ≤ cur.size := by
            have := congrArg List.length k5
            simp only [List.length_take, Array.length_toList] at this
            omega
          have hcurtake : cur.toList.take (len * te.size) = xs.take (len * te.size) := by
            rw [← k5, List.take_take, Nat.min_eq_left (by omega)]
          have hH'' : ∀ i q, applyD H [(id0, none), (16 * site + 8, some (tick, ⟨e, te.size, true, o.es.take len ++ news⟩))] i = some q → (i = 16 * site + 8 ∧ q = (tick, ⟨e, te.size, true, o.es.take len ++ news⟩)) ∨ (i ≠ 16 * site + 8 ∧ H i = some q) := by
            intro i q hq
            simp only [applyD, List.foldl_cons, List.foldl_nil] at hq
            split at hq
            · rename_i e1; exact .inl ⟨e1, by cases hq; rfl⟩
            · rename_i e1
              split at hq
              · cases hq
              · exact .inr ⟨e1, hq⟩
          by_cases hroom : len + news.length ≤ cap
          · -- in place
            have hfit : len * te.size + us.length ≤ cur.size := by rw [hul, ← Nat.add_mul, k3, ← hcap]; exact Nat.mul_le_mul_right _ hroom
            have hrun := run_append_room (P := P) w t ty e inf ht hinf g len cap cur k2 ad news.length c us (by rw [hul, hsz]) hread (hus.ones (fun x hx => by
              obtain ⟨e', he', hx'⟩ := List.mem_flatten.1 hx
              exact (hnc e' he' x hx').2)) hroom (by rw [hsz]; exact hfit)
            rw [hsz] at hrun
            have hnew := new_sound (w' := w.setRow g (cur.toList.take (len * te.size) ++ us ++ cur.toList.drop (len * te.size + us.length)).toArray) (g := g) (o := ⟨e, te.size, true, o.es.take len ++ news⟩) (xs := xs.take (len * te.size) ++ us) D hd (by omega : (16 * site + 8) / 16 = site) hok
              rfl rfl rfl (by simp) (fun k _ hk => setRow_other w g k _ hk) (setRow_heap w g cur _ e _ k2) k6 hH'' (fun i vr' o' t' hi hx hh => by
                rcases hH'' i _ hx with ⟨hi', _⟩ | ⟨_, hx'⟩
                · exact hi hi'
                · have : i = id0 := D.inj _ _ _ _ _ _ _ _ _ hx' hH hh h1
                  subst this
                  simp only [applyD, List.foldl_cons, List.foldl_nil, if_neg hi, if_true] at hx
                  cases hx) (by show Reps w Pf ι (o.es.take len ++ news).flatten _; rw [List.flatten_append]; exact hro.append hus) (by rw [hcurtake]; exact List.take_left)
            refine ⟨_, _, _, _, hrun, rfl, hnew.1, ?_, hnew.2⟩
            simp only [Rep]
            refine ⟨_, _, _, _, by first | exact if_pos ⟨trivial, trivial⟩ | exact if_pos ⟨rfl, rfl⟩, rfl, hroom, h3, fun _ => by simp, fun _ => ⟨by trivial, ?_⟩⟩
            simp only [List.size_toArray, List.length_append, List.length_take, List.length_drop, Array.length_toList]
            omega
          · -- in a new row
            have hrun := run_append_grow (P := P) w t ty e inf z ht hinf hz ⟨g, 0, none⟩ len cap (xs.take (len * te.size)) (by rw [hol, hsz]) (fun j u hj => by
              rw [add_lit, Nat.zero_add]
              have hj' : j < len * te.size := by have := (List.getElem?_eq_some_iff.1 hj).1; omega
              rw [← hcurtake, List.getElem?_take, if_pos hj'] at hj
              simpa [World.cell?, k2] using hj) ad news.length c us (by rw [hul, hsz]) hread (by omega) (by unfold maxLen at hmax; omega) (growslice_fits (by omega) (by rw [hby]; exact hbytes))
            obtain ⟨ι', f, hr, D'⟩ := fresh (xs.take (len * te.size)) (o.es.take len) cap hok hro (by rw [hol, hel]) (by rw [hel]; exact hmax) _ hH''
            rw [hel] at f hr D'
            exact ⟨_, _, _, ι', hrun, rfl, f, hr, D'⟩
        · cases h
      · cases h
    · cases h

theorem flatten_drop {α : Type} {n : Nat} {l : List (List α)} (hl : ∀ e ∈ l, e.length = n) (k : Nat) (hk : k ≤ l.length) : (l.drop k).flatten = l.flatten.drop (k * n) := by
  have h1 : (l.take k).flatten.length = k * n := by
    rw [length_flatten_uniform (n := n) (fun e he => hl e (List.mem_of_mem_take he)), List.length_take, Nat.min_eq_left hk]
  conv => rhs; rw [← List.take_append_drop k l, List.flatten_append]
  rw [← h1, List.drop_left]

theorem copyV_sound {T : Tab} (hT : TabOk P T) {H' : Hp} (hs : Sub H' H) (D : Desc w Pf ι H tick done) {site : Nat} {t t' ty : TypeId} {x y : V} {v : Option V} {δ : List (Nat × Option (Nat × Obj))}
    (h : copyV T H' t x y = some (v, δ)) {a b : Value} (ha : Rep w Pf ι x a) (hb : Rep w Pf ι y b) :
    ∃ u w' x', (Builtin.copy_ #[t, t'] ty #[a, b]).run P w = .ok u w' ∧ v = some x' ∧ Makes w w' Pf ι ι H tick done site x' u δ := by
  unfold copyV at h
  split at h
  case h_2 => cases h
  rename_i e size bytes zero fl hti
  have ht := (hT _ _ hti).und
  simp only [] at ht
  split at h
  · cases h
  rename_i te hte
  obtain ⟨inf, z, hinf, hsz, hby, hz, hzs⟩ := (hT _ _ hte).info
  split at h
  · cases h
  rename_i news hnews
  obtain ⟨B, c, rfl, hnl, hnc, hnr⟩ := newsV_sound hs D hnews hb
  split at h
  case h_2 => cases h
  rename_i id vr sz off len
  split at h
  · cases h
  rename_i hts
  have hts : te.size = 1 := Decidable.of_not_not hts
  have hsize : (P.info? e).map (·.size) = some 1 := by rw [hinf]; simp [hsz, hts]
  simp only [Rep] at ha
  obtain ⟨g, tot, a0, cap, h1, rfl, h2, h3, h4, h5⟩ := ha
  split at h
  · rename_i h0
    cases h
    have hrun := run_copy_none (P := P) w t t' ty e (some a0) B len cap news.length c ht hsize (by rcases h0 with h0 | h0 <;> simp [h0])
    exact ⟨_, w, _, hrun, rfl, Fwd.refl _ _ _, by simp only [Rep] <;> rfl, D.more fun s h => .inl h⟩
  rename_i h0
  have hl0 : 0 < len := by omega
  have hn0 : 0 < news.length := by omega
  split at h
  case h_2 => cases h
  rename_i o ho
  split at h
  case isFalse => cases h
  rename_i hc
  obtain ⟨rfl, hosz, hfit⟩ := hc
  cases h
  obtain ⟨ad, us, rfl, hus, hread⟩ := hnr.resolve_left (by intro e0; rw [e0] at hn0; simp at hn0)
  have hH := hs _ _ (find_some ho)
  have ow := D.own _ _ _ hH
  obtain ⟨g', tot', cur, xs, k1, k2, k3, k4, k5, k6⟩ := ow.ex
  rw [h1] at k1; cases k1
  have hsz' : ∀ e ∈ o.es, e.length = 1 := fun e he => by rw [ow.sz e he, hosz]
  have hul : us.length = news.length := by rw [hus.length, length_flatten_uniform hnl]; simp
  have hxl : xs.length = o.es.length := by rw [k4.length, length_flatten_uniform hsz']; simp
  have hxc : xs.length ≤ cur.size := by
    have := congrArg List.length k5
    simp only [List.length_take, Array.length_toList] at this
    omega
  have hcl : (us.take len).length = min news.length len := by rw [List.length_take, hul, Nat.min_comm]
  have hco := hus.ones (fun x hx => by
    obtain ⟨e', he', hx'⟩ := List.mem_flatten.1 hx
    exact (hnc e' he' x hx').2)
  have hrun := run_copy_row (P := P) w t t' ty e g off len cap ad news.length c cur o.ty (us.take len) ht hsize k2 (by rw [hcl])
    (fun j v hj => hread j v (by rw [List.getElem?_take] at hj; split at hj; exact hj; cases hj)) (by rw [hcl]; omega) (fun v hv => hco v (List.mem_of_mem_take hv))
  have ha0 : a0 = ⟨g, off, none⟩ := by rw [h4 hl0, Nat.mul_one]
  subst ha0
  rw [hcl] at hrun
  have hfl : (o.es.take off ++ (news.take len ++ o.es.drop (off + min news.length len))).flatten = o.es.flatten.take off ++ (news.flatten.take len ++ o.es.flatten.drop (off + min news.length len)) := by
    have e1 : o.es.flatten.take off = (o.es.take off).flatten := by rw [flatten_take hsz' off (by omega), Nat.mul_one]
    have e2 : o.es.flatten.drop (off + min news.length len) = (o.es.drop (off + min news.length len)).flatten := by rw [flatten_drop hsz' _ (by omega), Nat.mul_one]
    have e3 : news.flatten.take len = (news.take len).flatten := by
      by_cases hle : len ≤ news.length
      · rw [flatten_take hnl len hle, Nat.mul_one]
      · rw [List.take_of_length_le (by rw [length_flatten_uniform hnl]; omega), List.take_of_length_le (by omega)]
    rw [e1, e2, e3]
    simp
  have hup := upd_sound (o' := { o with es := o.es.take off ++ (news.take len ++ o.es.drop (off + min news.length len)) }) (cur' := (cur.toList.take off ++ us.take len ++ cur.toList.drop (off + min news.length len)).toArray)
    (w' := w.setRow g (cur.toList.take off ++ us.take len ++ cur.toList.drop (off + min news.length len)).toArray)
    (xs := xs.take off ++ (us.take len ++ xs.drop (off + min news.length len))) D hH rfl (by
      refine List.all_eq_true.2 fun e' he' => ?_
      simp only [Bool.and_eq_true, beq_iff_eq, List.all_eq_true, Bool.or_eq_true, Bool.not_eq_true']
      simp only [List.mem_append] at he'
      have hin : e' ∈ o.es ∨ e' ∈ news := by
        rcases he' with h | h | h
        · exact .inl (List.mem_of_mem_take h)
        · exact .inr (List.mem_of_mem_take h)
        · exact .inl (List.mem_of_mem_drop h)
      rcases hin with h | h
      · exact ⟨ow.sz e' h, fun x hx => ⟨ow.one e' h x hx, by cases hf : o.fl with | false => exact .inl rfl | true => exact .inr (ow.fl hf e' h x hx)⟩⟩
      · exact ⟨by rw [hnl e' h, hosz], fun x hx => ⟨(hnc e' h x hx).2, .inr (hnc e' h x hx).1⟩⟩) rfl rfl rfl (by simp) h1 k2 (fun k _ hk => setRow_other w g k _ hk) (setRow_heap w g cur _ _ _ k2)
    (by simp only [List.size_toArray, List.length_append, List.length_take, List.length_drop, Array.length_toList, hul]; omega)
    (by
      show Reps w Pf ι (o.es.take off ++ (news.take len ++ o.es.drop (off + min news.length len))).flatten _
      rw [hfl]
      exact (k4.take _).append ((hus.take _).append (k4.drop _)))
    (by
      have hxs' : (xs.take off ++ (us.take len ++ xs.drop (off + min news.length len))).length = xs.length := by
        simp only [List.length_append, List.length_take, List.length_drop, hul]
        omega
      rw [hxs']
      show (cur.toList.take off ++ us.take len ++ cur.toList.drop (off + min news.length len)).take xs.length = _
      conv => rhs; rw [← k5]
      rw [List.append_assoc, List.take_append, List.take_append]
      simp only [List.length_take, Array.length_toList, List.take_take, List.drop_take, hul]
      have e1 : min xs.length off = off := by omega
      have e2 : min off xs.length = off := by omega
      have e3 : min off cur.size = off := by omega
      have e4 : min (xs.length - off) len = len := by omega
      have e5 : xs.length - off - min len news.length = xs.length - (off + min news.length len) := by omega
      rw [e1, e2, e3, e4, e5])
  exact ⟨_, _, _, hrun, rfl, hup.1, by simp only [Rep] <;> rfl, hup.2.more fun s h => .inl h⟩

end
end Go.Proofs.Ytngbdlkcpkkeoaa.Eng
