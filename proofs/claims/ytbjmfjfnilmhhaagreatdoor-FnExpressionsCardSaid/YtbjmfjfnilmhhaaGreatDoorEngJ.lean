/- A deterministic reading of Go code over plain data: append. No conditions. -/
import Derived.Test.YtbjmfjfnilmhhaaGreatDoorEngI
import Derived.Laws.IdiomStrings
namespace Go.Proofs.YtbjmfjfnilmhhaaGreatDoor.Eng
open Go Go.RowKit

section
variable {P : Program} {w : World} {Pf : Pfs} {ι : Plc} {H : Hp} {tick : Nat} {done : Nat → Prop}

theorem run_append_none {t ty e : TypeId} {i : TypeInfo} (ht : P.underlying t = some (.slice e)) (hi : P.info? e = some i) (A B : Option Addr) (n c c' : Nat) (hc : n ≤ c) :
    (Builtin.append_ #[t, t] ty #[.slice A n c, .slice B 0 c']).run P w = .ok (.slice A n c) w := by
  cases A <;> cases B <;> simp [Builtin.append_, run_underlying ht, sizeOf, typeInfo, hi, Builtin.lenOf, Builtin.firstCells, hc, storeCells, loadCells, loadCellsFrom]

theorem flatten_take {α : Type} {n : Nat} {l : List (List α)} (hl : ∀ e ∈ l, e.length = n) (k : Nat) (hk : k ≤ l.length) : (l.take k).flatten = l.flatten.take (k * n) := by
  have h1 : (l.take k).flatten.length = k * n := by
    rw [length_flatten_uniform (n := n) (fun e he => hl e (List.mem_of_mem_take he)), List.length_take, Nat.min_eq_left hk]
  conv => rhs; rw [← List.take_append_drop k l, List.flatten_append]
  rw [← h1, List.take_left]

theorem appendV_sound {T : Tab} (hT : TabOk P T) {H' : Hp} (hs : Sub H' H) (D : Desc w Pf ι H tick done) {site : Nat} (hd : ¬ done site) {t ty : TypeId} {x y : V} {v : Option V} {δ : List (Nat × Option (Nat × Obj))}
    (h : appendV T H' tick (16 * site + 8) t x y = some (v, δ)) {a b : Value} (ha : Rep w Pf ι x a) (hb : Rep w Pf ι y b) :
    ∃ u w' x' ι', (Builtin.append_ #[t, t] ty #[a, b]).run P w = .ok u w' ∧ v = some x' ∧ Makes w w' Pf ι ι' H tick done site x' u δ := by
  unfold appendV at h
  split at h
  case h_2 => cases h
  rename_i e size bytes zero fl hti
  have ht := (hT _ _ hti).und
  simp only [] at ht
  split at h
  · cases h
  rename_i te hte
  have hte' := hT _ _ hte
  obtain ⟨inf, z, hinf, hsz, hby, hz, hzs⟩ := hte'.info
  split at h
  · cases h
  rename_i hte0
  split at h
  · cases h
  rename_i news hnews
  obtain ⟨B, c, rfl, hnl, hnc, hnr⟩ := newsV_sound hs D hnews hb
  have hzc : z.cells.size = te.size := by rw [← hte'.zlen, ← hzs]; simp
  split at h
  · -- nothing is appended
    rename_i hn0
    subst hn0
    have key : ∀ A n c', a = .slice A n c' → n ≤ c' → ∃ u w' x' ι', (Builtin.append_ #[t, t] ty #[a, .slice B ([] : List (List V)).length c]).run P w = .ok u w' ∧ (some x : Option V) = some x' ∧ Makes w w' Pf ι ι' H tick done site x' u [] := by
      intro A n c' he hle
      subst he
      exact ⟨_, w, x, ι, run_append_none ht hinf A B n c' c hle, rfl, Fwd.refl _ _ _, ha, D.more fun s h => .inl h⟩
    split at h
    · cases h; simp only [Rep] at ha; exact key _ _ _ ha (Nat.le_refl _)
    · cases h; have ha' := ha; simp only [Rep] at ha'; obtain ⟨A, ha'⟩ := ha'; exact key _ _ _ ha' (Nat.le_refl _)
    · cases h; have ha' := ha; simp only [Rep] at ha'; obtain ⟨g, tot, ad, cap, _, ha', hle, _⟩ := ha'; exact key _ _ _ ha' hle
    · cases h; have ha' := ha; simp only [Rep] at ha'; obtain ⟨A, cap, ha', hle, _⟩ := ha'; exact key _ _ _ ha' hle
    · cases h
  · rename_i hn0
    obtain ⟨ad, us, rfl, hus, hread⟩ := hnr.resolve_left hn0
    have hul : us.length = news.length * te.size := by rw [hus.length, length_flatten_uniform hnl]
    have hpos : 0 < news.length := List.length_pos_iff.2 hn0
    -- a new row of what was there and what is new
    have fresh : ∀ (olds : List Value) (oldE : List (List V)) (cap : Nat) (hok : okObj ⟨e, te.size, te.fl, oldE ++ news⟩ = true) (_ : Reps w Pf ι oldE.flatten olds) (_ : olds.length = oldE.length * te.size) (_ : oldE.length + news.length ≤ maxLen)
        (H'' : Hp) (_ : ∀ i q, H'' i = some q → (i = 16 * site + 8 ∧ q = (tick, ⟨e, te.size, te.fl, oldE ++ news⟩)) ∨ (i ≠ 16 * site + 8 ∧ H i = some q)),
        ∃ ι' : Plc, Fwd Pf w (w.drew.alloc (.cells (olds.toArray ++ us.toArray ++ Builtin.zeroCells z.cells (grownCap w (oldE.length + news.length) cap e - (oldE.length + news.length))) e)) ι ι' ∧
          Rep (w.drew.alloc (.cells (olds.toArray ++ us.toArray ++ Builtin.zeroCells z.cells (grownCap w (oldE.length + news.length) cap e - (oldE.length + news.length))) e)) Pf ι' (.s (16 * site + 8) tick te.size 0 (oldE.length + news.length)) (.slice (some ⟨w.heap.size, 0, none⟩) (oldE.length + news.length) (grownCap w (oldE.length + news.length) cap e)) ∧
          Desc (w.drew.alloc (.cells (olds.toArray ++ us.toArray ++ Builtin.zeroCells z.cells (grownCap w (oldE.length + news.length) cap e - (oldE.length + news.length))) e)) Pf ι' H'' tick (fun s => done s ∨ s = site) := by
      intro olds oldE cap hok hro hol hmax H'' hH''
      have hge := grownCap_ge w (oldE.length + news.length) cap e
      have hcm := grownCap_le_maxLen w (oldE.length + news.length) cap e hmax
      have hnew := new_sound (w' := w.drew.alloc (.cells (olds.toArray ++ us.toArray ++ Builtin.zeroCells z.cells (grownCap w (oldE.length + news.length) cap e - (oldE.length + news.length))) e)) (g := w.heap.size)
        (o := ⟨e, te.size, te.fl, oldE ++ news⟩) (xs := olds ++ us) D hd (by omega : (16 * site + 8) / 16 = site) hok rfl rfl rfl (by show w.heap.size ≤ (w.heap.push _).size; simp)
        (fun k hk _ => heap_alloc_old w.drew _ hk) ⟨_, heap_alloc_new w.drew _, .inl rfl⟩ (fun h => Nat.lt_irrefl _ (D.lt _ h)) hH'' (fun i vr o' t' hi hx hh => by
          rcases hH'' i _ hx with ⟨hi', _⟩ | ⟨_, hx'⟩
          · exact hi hi'
          · exact Nat.lt_irrefl _ ((D.own i vr o' hx').lt hh)) (by show Reps w Pf ι (oldE ++ news).flatten _; rw [List.flatten_append]; exact hro.append hus) (by simp only [Array.toList_append, List.append_assoc]; rw [← List.append_assoc]; exact List.take_left)
      refine ⟨_, hnew.1, ?_, hnew.2⟩
      simp only [Rep]
      refine ⟨_, _, _, _, by first | exact if_pos ⟨trivial, trivial⟩ | exact if_pos ⟨rfl, rfl⟩, rfl, hge, hcm, fun _ => by simp, fun _ => ⟨by trivial, ?_⟩⟩
      simp only [Array.size_append, List.size_toArray, size_zeroCells, hzc, hol, hul, ← Nat.add_mul]
      congr 1
      omega
    split at h
    · -- a nil slice
      split at h
      · rename_i hc
        obtain ⟨hok, rfl, rfl⟩ := made_inv h
        simp only [Rep] at ha
        subst ha
        obtain ⟨ι', f, hr, D'⟩ := fresh [] [] 0 hok (by simp [Reps]) (by simp) (by simpa using hc.2) (applyD H [(16 * site + 8, some (tick, ⟨e, te.size, te.fl, news⟩))]) (fun i q hq => by
          simp only [applyD, List.foldl_cons, List.foldl_nil] at hq
          split at hq
          · rename_i e1; exact .inl ⟨e1, by cases hq; rfl⟩
          · rename_i e1; exact .inr ⟨e1, hq⟩)
        have hrun := run_append_nil (P := P) w t ty e inf z ht hinf hz ad news.length c us (by rw [hul, hsz]) hread hpos (by have := hc.2; unfold maxLen at this; omega) (by rw [hby]; omega)
        simp only [List.length_nil, Nat.zero_add] at f hr D'
        have he : ([] : List Value).toArray ++ us.toArray = us.toArray := by simp
        rw [he] at f hr D'
        exact ⟨_, _, _, ι', hrun, rfl, f, hr, D'⟩
      · cases h
    · -- a slice without room
      split at h
      · rename_i hc
        obtain ⟨hok, rfl, rfl⟩ := made_inv h
        simp only [Rep] at ha
        obtain ⟨A, rfl⟩ := ha
        obtain ⟨ι', f, hr, D'⟩ := fresh [] [] 0 hok (by simp [Reps]) (by simp) (by simpa using hc.2) (applyD H [(16 * site + 8, some (tick, ⟨e, te.size, te.fl, news⟩))]) (fun i q hq => by
          simp only [applyD, List.foldl_cons, List.foldl_nil] at hq
          split at hq
          · rename_i e1; exact .inl ⟨e1, by cases hq; rfl⟩
          · rename_i e1; exact .inr ⟨e1, hq⟩)
        simp only [List.length_nil, Nat.zero_add] at f hr D'
        cases A with
        | none =>
          have hrun := run_append_nil (P := P) w t ty e inf z ht hinf hz ad news.length c us (by rw [hul, hsz]) hread hpos (by have := hc.2; unfold maxLen at this; omega) (by rw [hby]; omega)
          have he : ([] : List Value).toArray ++ us.toArray = us.toArray := by simp
          rw [he] at f hr D'
          exact ⟨_, _, _, ι', hrun, rfl, f, hr, D'⟩
        | some a0 =>
          have hrun := run_append_grow (P := P) w t ty e inf z ht hinf hz a0 0 0 [] (by simp) (by simp) ad news.length c us (by rw [hul, hsz]) hread (by omega) (by have := hc.2; unfold maxLen at this; omega) (growslice_fits (by omega) (by rw [hby]; simpa using hc.1))
          simp only [Nat.zero_add] at hrun
          exact ⟨_, _, _, ι', hrun, rfl, f, hr, D'⟩
      · cases h
    · -- a row of its own
      rename_i id0 vr sz off len
      split at h
      · rename_i o ho
        split at h
        · rename_i hc
          obtain ⟨rfl, rfl, hosz, hoty, hofl, hlen, hbytes, hmax⟩ := hc
          split at h
          case isFalse => cases h
          rename_i hok
          cases h
          have hH := hs _ _ (find_some ho)
          have ow := D.own _ _ _ hH
          simp only [Rep] at ha
          obtain ⟨g, tot, a0, cap, h1, rfl, h2, h3, h4, h5⟩ := ha
          obtain ⟨rfl, hcap⟩ := h5 trivial
          obtain ⟨g', tot', cur, xs, k1, ⟨fz, k2, hfz⟩, k3, k4, k5, k6⟩ := ow.ex
          rw [h1] at k1; cases k1
          rw [hoty] at k2
          have hsz' : ∀ e ∈ o.es, e.length = te.size := fun e he => by rw [ow.sz e he, hosz]
          have htk := flatten_take hsz' len hlen
          have hxl : xs.length = o.es.length * te.size := by rw [k4.length, length_flatten_uniform hsz']
          have hro : Reps w Pf ι (o.es.take len).flatten (xs.take (len * te.size)) := by rw [htk]; exact k4.take _
          have hle : len * te.size ≤ o.es.length * te.size := Nat.mul_le_mul_right _ hlen
          have hol : (xs.take (len * te.size)).length = len * te.size := by rw [List.length_take]; omega
          have hel : (o.es.take len).length = len := by rw [List.length_take]; omega
          have hxc : xs.length ≤ cur.size := by
            have := congrArg List.length k5
            simp only [List.length_take, Array.length_toList] at this
            omega
          have hcurtake : cur.toList.take (len * te.size) = xs.take (len * te.size) := by
            rw [← k5, List.take_take, Nat.min_eq_left (by omega)]
          have hH'' : ∀ i q, applyD H [(id0, none), (16 * site + 8, some (tick, ⟨e, te.size, te.fl, o.es.take len ++ news⟩))] i = some q → (i = 16 * site + 8 ∧ q = (tick, ⟨e, te.size, te.fl, o.es.take len ++ news⟩)) ∨ (i ≠ 16 * site + 8 ∧ H i = some q) := by
            intro i q hq
            simp only [applyD, List.foldl_cons, List.foldl_nil] at hq
            split at hq
            · rename_i e1; exact .inl ⟨e1, by cases hq; rfl⟩
            · rename_i e1
              split at hq
              · cases hq
              · exact .inr ⟨e1, hq⟩
          by_cases hroom : len + news.length ≤ cap
          · -- in place
            have hfit : len * te.size + us.length ≤ cur.size := by rw [hul, ← Nat.add_mul, k3, ← hcap]; exact Nat.mul_le_mul_right _ hroom
            have hrun := run_append_room_fz P w t ty e inf ht hinf g 0 len cap cur fz k2 hfz ad news.length c us (by rw [hul, hsz]) hread (hus.ones (fun x hx => by
              obtain ⟨e', he', hx'⟩ := List.mem_flatten.1 hx
              exact (hnc e' he' x hx').2)) hroom (by rw [hsz, Nat.zero_add]; exact hfit)
            rw [hsz, Nat.zero_add] at hrun
            have hnew := new_sound (w' := w.setRow g (cur.toList.take (len * te.size) ++ us ++ cur.toList.drop (len * te.size + us.length)).toArray) (g := g) (o := ⟨e, te.size, te.fl, o.es.take len ++ news⟩) (xs := xs.take (len * te.size) ++ us) D hd (by omega : (16 * site + 8) / 16 = site) hok
              rfl rfl rfl (by simp) (fun k _ hk => setRow_other w g k _ hk) ⟨fz, setRow_heap w g cur _ e _ k2, by simp only [List.size_toArray, List.length_append, List.length_take, List.length_drop, Array.length_toList]; rcases hfz with h | h; exact .inl h; exact .inr (by omega)⟩ k6 hH'' (fun i vr' o' t' hi hx hh => by
                rcases hH'' i _ hx with ⟨hi', _⟩ | ⟨_, hx'⟩
                · exact hi hi'
                · have : i = id0 := D.inj _ _ _ _ _ _ _ _ _ hx' hH hh h1
                  subst this
                  simp only [applyD, List.foldl_cons, List.foldl_nil, if_neg hi, if_true] at hx
                  cases hx) (by show Reps w Pf ι (o.es.take len ++ news).flatten _; rw [List.flatten_append]; exact hro.append hus) (by rw [hcurtake]; exact List.take_left)
            refine ⟨_, _, _, _, hrun, rfl, hnew.1, ?_, hnew.2⟩
            simp only [Rep]
            refine ⟨_, _, _, _, by first | exact if_pos ⟨trivial, trivial⟩ | exact if_pos ⟨rfl, rfl⟩, rfl, hroom, h3, fun _ => by simp, fun _ => ⟨by trivial, ?_⟩⟩
            simp only [List.size_toArray, List.length_append, List.length_take, List.length_drop, Array.length_toList]
            omega
          · -- in a new row
            have hrun := run_append_grow (P := P) w t ty e inf z ht hinf hz ⟨g, 0, none⟩ len cap (xs.take (len * te.size)) (by rw [hol, hsz]) (fun j u hj => by
              rw [add_lit, Nat.zero_add]
              have hj' : j < len * te.size := by have := (List.getElem?_eq_some_iff.1 hj).1; omega
              rw [← hcurtake, List.getElem?_take, if_pos hj'] at hj
              simpa [World.cell?, k2] using hj) ad news.length c us (by rw [hul, hsz]) hread (by omega) (by unfold maxLen at hmax; omega) (growslice_fits (by omega) (by rw [hby]; exact hbytes))
            obtain ⟨ι', f, hr, D'⟩ := fresh (xs.take (len * te.size)) (o.es.take len) cap hok hro (by rw [hol, hel]) (by rw [hel]; exact hmax) _ hH''
            rw [hel] at f hr D'
            exact ⟨_, _, _, ι', hrun, rfl, f, hr, D'⟩
        · cases h
      · cases h
    · cases h

theorem flatten_drop {α : Type} {n : Nat} {l : List (List α)} (hl : ∀ e ∈ l, e.length = n) (k : Nat) (hk : k ≤ l.length) : (l.drop k).flatten = l.flatten.drop (k * n) := by
  have h1 : (l.take k).flatten.length = k * n := by
    rw [length_flatten_uniform (n := n) (fun e he => hl e (List.mem_of_mem_take he)), List.length_take, Nat.min_eq_left hk]
  conv => rhs; rw [← List.take_append_drop k l, List.flatten_append]
  rw [← h1, List.drop_left]

theorem copyV_sound {T : Tab} (hT : TabOk P T) {H' : Hp} (hs : Sub H' H) (D : Desc w Pf ι H tick done) {site : Nat} {t t' ty : TypeId} {x y : V} {v : Option V} {δ : List (Nat × Option (Nat × Obj))}
    (h : copyV T H' t x y = some (v, δ)) {a b : Value} (ha : Rep w Pf ι x a) (hb : Rep w Pf ι y b) :
    ∃ u w' x', (Builtin.copy_ #[t, t'] ty #[a, b]).run P w = .ok u w' ∧ v = some x' ∧ Makes w w' Pf ι ι H tick done site x' u δ := by
  unfold copyV at h
  split at h
  case h_2 => cases h
  rename_i e size bytes zero fl hti
  have ht := (hT _ _ hti).und
  simp only [] at ht
  split at h
  · cases h
  rename_i te hte
  obtain ⟨inf, z, hinf, hsz, hby, hz, hzs⟩ := (hT _ _ hte).info
  split at h
  · cases h
  rename_i news hnews
  obtain ⟨B, c, rfl, hnl, hnc, hnr⟩ := newsV_sound hs D hnews hb
  split at h
  case h_2 => cases h
  rename_i id vr sz off len
  split at h
  · cases h
  rename_i hts
  have hts : te.size = 1 := Decidable.of_not_not hts
  have hsize : (P.info? e).map (·.size) = some 1 := by rw [hinf]; simp [hsz, hts]
  simp only [Rep] at ha
  obtain ⟨g, tot, a0, cap, h1, rfl, h2, h3, h4, h5⟩ := ha
  split at h
  · rename_i h0
    cases h
    have hrun := run_copy_none (P := P) w t t' ty e (some a0) B len cap news.length c ht hsize (by rcases h0 with h0 | h0 <;> simp [h0])
    exact ⟨_, w, _, hrun, rfl, Fwd.refl _ _ _, by simp only [Rep] <;> rfl, D.more fun s h => .inl h⟩
  rename_i h0
  have hl0 : 0 < len := by omega
  have hn0 : 0 < news.length := by omega
  split at h
  case h_2 => cases h
  rename_i o ho
  split at h
  case isFalse => cases h
  rename_i hc
  obtain ⟨rfl, hosz, hfit⟩ := hc
  cases h
  obtain ⟨ad, us, rfl, hus, hread⟩ := hnr.resolve_left (by intro e0; rw [e0] at hn0; simp at hn0)
  have hH := hs _ _ (find_some ho)
  have ow := D.own _ _ _ hH
  obtain ⟨g', tot', cur, xs, k1, ⟨fz, k2, hfz⟩, k3, k4, k5, k6⟩ := ow.ex
  rw [h1] at k1; cases k1
  have hsz' : ∀ e ∈ o.es, e.length = 1 := fun e he => by rw [ow.sz e he, hosz]
  have hul : us.length = news.length := by rw [hus.length, length_flatten_uniform hnl]; simp
  have hxl : xs.length = o.es.length := by rw [k4.length, length_flatten_uniform hsz']; simp
  have hxc : xs.length ≤ cur.size := by
    have := congrArg List.length k5
    simp only [List.length_take, Array.length_toList] at this
    omega
  have hcl : (us.take len).length = min news.length len := by rw [List.length_take, hul, Nat.min_comm]
  have hco := hus.ones (fun x hx => by
    obtain ⟨e', he', hx'⟩ := List.mem_flatten.1 hx
    exact (hnc e' he' x hx').2)
  have hrun := run_copy_fz P w t t' ty e g off len cap ad news.length c cur o.ty fz (us.take len) ht hsize k2 hfz (by rw [hcl])
    (fun j v hj => hread j v (by rw [List.getElem?_take] at hj; split at hj; exact hj; cases hj)) (by rw [hcl]; omega) (fun v hv => hco v (List.mem_of_mem_take hv))
  have ha0 : a0 = ⟨g, off, none⟩ := by rw [h4 hl0, Nat.mul_one]
  subst ha0
  rw [hcl] at hrun
  have hfl : (o.es.take off ++ (news.take len ++ o.es.drop (off + min news.length len))).flatten = o.es.flatten.take off ++ (news.flatten.take len ++ o.es.flatten.drop (off + min news.length len)) := by
    have e1 : o.es.flatten.take off = (o.es.take off).flatten := by rw [flatten_take hsz' off (by omega), Nat.mul_one]
    have e2 : o.es.flatten.drop (off + min news.length len) = (o.es.drop (off + min news.length len)).flatten := by rw [flatten_drop hsz' _ (by omega), Nat.mul_one]
    have e3 : news.flatten.take len = (news.take len).flatten := by
      by_cases hle : len ≤ news.length
      · rw [flatten_take hnl len hle, Nat.mul_one]
      · rw [List.take_of_length_le (by rw [length_flatten_uniform hnl]; omega), List.take_of_length_le (by omega)]
    rw [e1, e2, e3]
    simp
  have hup := upd_sound (o' := { o with es := o.es.take off ++ (news.take len ++ o.es.drop (off + min news.length len)) }) (cur' := (cur.toList.take off ++ us.take len ++ cur.toList.drop (off + min news.length len)).toArray)
    (w' := w.setRow g (cur.toList.take off ++ us.take len ++ cur.toList.drop (off + min news.length len)).toArray)
    (xs := xs.take off ++ (us.take len ++ xs.drop (off + min news.length len))) D hH rfl (by
      refine List.all_eq_true.2 fun e' he' => ?_
      simp only [Bool.and_eq_true, beq_iff_eq, List.all_eq_true, Bool.or_eq_true, Bool.not_eq_true']
      simp only [List.mem_append] at he'
      have hin : e' ∈ o.es ∨ e' ∈ news := by
        rcases he' with h | h | h
        · exact .inl (List.mem_of_mem_take h)
        · exact .inr (List.mem_of_mem_take h)
        · exact .inl (List.mem_of_mem_drop h)
      rcases hin with h | h
      · exact ⟨ow.sz e' h, fun x hx => ⟨ow.one e' h x hx, by cases hf : o.fl with | false => exact .inl rfl | true => exact .inr (ow.fl hf e' h x hx)⟩⟩
      · exact ⟨by rw [hnl e' h, hosz], fun x hx => ⟨(hnc e' h x hx).2, .inr ((hnc e' h x hx).1 rfl)⟩⟩) rfl rfl rfl (by simp) h1 k2 hfz (fun k _ hk => setRow_other w g k _ hk) (setRow_heap w g cur _ _ _ k2)
    (by simp only [List.size_toArray, List.length_append, List.length_take, List.length_drop, Array.length_toList, hul]; omega)
    (by
      show Reps w Pf ι (o.es.take off ++ (news.take len ++ o.es.drop (off + min news.length len))).flatten _
      rw [hfl]
      exact (k4.take _).append ((hus.take _).append (k4.drop _)))
    (by
      have hxs' : (xs.take off ++ (us.take len ++ xs.drop (off + min news.length len))).length = xs.length := by
        simp only [List.length_append, List.length_take, List.length_drop, hul]
        omega
      rw [hxs']
      show (cur.toList.take off ++ us.take len ++ cur.toList.drop (off + min news.length len)).take xs.length = _
      conv => rhs; rw [← k5]
      rw [List.append_assoc, List.take_append, List.take_append]
      simp only [List.length_take, Array.length_toList, List.take_take, List.drop_take, hul]
      have e1 : min xs.length off = off := by omega
      have e2 : min off xs.length = off := by omega
      have e3 : min off cur.size = off := by omega
      have e4 : min (xs.length - off) len = len := by omega
      have e5 : xs.length - off - min len news.length = xs.length - (off + min news.length len) := by omega
      rw [e1, e2, e3, e4, e5])
  exact ⟨_, _, _, hrun, rfl, hup.1, by simp only [Rep] <;> rfl, hup.2.more fun s h => .inl h⟩


theorem clearV_sound {T : Tab} (hT : TabOk P T) {H' : Hp} (hs : Sub H' H) (D : Desc w Pf ι H tick done) {site : Nat} {t ty : TypeId} {x : V} {v : Option V} {δ : List (Nat × Option (Nat × Obj))}
    (h : clearV T H' t x = some (v, δ)) {a : Value} (ha : Rep w Pf ι x a) :
    ∃ u w' x', (Builtin.clear_ #[t] ty #[a]).run P w = .ok u w' ∧ v = some x' ∧ Makes w w' Pf ι ι H tick done site x' u δ := by
  unfold clearV at h
  split at h
  case h_2 => cases h
  rename_i e size bytes zero fl hti
  have ht := (hT _ _ hti).und
  simp only [] at ht
  split at h
  · cases h
  rename_i te hte
  obtain ⟨inf, z, hinf, hsz, hby, hz, hzs⟩ := (hT _ _ hte).info
  have hzl := (hT _ _ hte).zlen
  split at h
  case h_2 => cases h
  rename_i id vr sz off len
  split at h
  · cases h
  rename_i hts
  have hts : te.size = 1 := Decidable.of_not_not hts
  obtain ⟨z0, hz0⟩ : ∃ z0, te.zero = [z0] := List.length_eq_one_iff.1 (by omega)
  have hz1 : z0.oneCell' = true := (hT _ _ hte).zone z0 (by rw [hz0]; simp)
  simp only [Rep] at ha
  obtain ⟨g, tot, a0, cap, h1, rfl, h2, h3, h4, h5⟩ := ha
  split at h
  · rename_i h0
    cases h
    subst h0
    have hrun : (Builtin.clear_ #[t] ty #[.slice (some a0) 0 cap]).run P w = .ok (.tuple #[]) w := by
      simp [Builtin.clear_, run_underlying ht]
    exact ⟨_, w, _, hrun, rfl, Fwd.refl _ _ _, by simp [Rep, Reps], D.more fun s h => .inl h⟩
  rename_i h0
  have hl0 : 0 < len := by omega
  split at h
  case h_2 => cases h
  rename_i o ho
  split at h
  case isFalse => cases h
  rename_i hc
  obtain ⟨rfl, hosz, hfit⟩ := hc
  cases h
  have hH := hs _ _ (find_some ho)
  have ow := D.own _ _ _ hH
  obtain ⟨g', tot', cur, xs, k1, ⟨fz, k2, hfz⟩, k3, k4, k5, k6⟩ := ow.ex
  rw [h1] at k1; cases k1
  have hsz' : ∀ e ∈ o.es, e.length = 1 := fun e he => by rw [ow.sz e he, hosz]
  have hxl : xs.length = o.es.length := by rw [k4.length, length_flatten_uniform hsz']; simp
  have hxc : xs.length ≤ cur.size := by
    have := congrArg List.length k5
    simp only [List.length_take, Array.length_toList] at this
    omega
  have ha0 : a0 = ⟨g, off, none⟩ := by rw [h4 hl0, Nat.mul_one]
  subst ha0
  have hzc : (Builtin.zeroCells z.cells len).toList = List.replicate len z0 := by
    have : z.cells = #[z0] := by apply Array.ext'; rw [hzs, hz0]
    rw [this]
    simp [Builtin.zeroCells]
    apply List.ext_getElem
    · simp
    · intro i h1 h2
      simp [Nat.mod_one]
  have hst := run_storeCells_fz P g off o.ty fz (List.replicate len z0) 0 cur w k2 hfz (by simp; omega) (fun v hv => by rw [List.eq_of_mem_replicate hv]; exact hz1)
  simp only [Nat.add_zero, List.length_replicate] at hst
  obtain ⟨m, rfl⟩ : ∃ m, len = m + 1 := ⟨len - 1, by omega⟩
  have hrun : (Builtin.clear_ #[t] ty #[.slice (some ⟨g, off, none⟩) (m + 1) cap]).run P w = .ok (.tuple #[]) (w.setRow g (cur.toList.take off ++ List.replicate (m + 1) z0 ++ cur.toList.drop (off + (m + 1))).toArray) := by
    simp [Builtin.clear_, run_underlying ht, zeroValue, typeInfo, hinf, hz, hzc, hst]
  have hfl : (o.es.take off ++ (List.replicate (m + 1) (te.zero.map V.c) ++ o.es.drop (off + (m + 1)))).flatten = o.es.flatten.take off ++ (List.replicate (m + 1) (V.c z0) ++ o.es.flatten.drop (off + (m + 1))) := by
    have e1 : o.es.flatten.take off = (o.es.take off).flatten := by rw [flatten_take hsz' off (by omega), Nat.mul_one]
    have e2 : o.es.flatten.drop (off + (m + 1)) = (o.es.drop (off + (m + 1))).flatten := by rw [flatten_drop hsz' _ (by omega), Nat.mul_one]
    have e3 : (List.replicate (m + 1) (te.zero.map V.c)).flatten = List.replicate (m + 1) (V.c z0) := by
      rw [hz0]
      simp only [List.map_cons, List.map_nil]
      generalize m + 1 = n
      induction n with
      | zero => rfl
      | succ n ih => rw [List.replicate_succ, List.flatten_cons, ih, List.replicate_succ]; rfl
    rw [e1, e2, ← e3]
    simp
  have hup := upd_sound (o' := { o with es := o.es.take off ++ (List.replicate (m + 1) (te.zero.map V.c) ++ o.es.drop (off + (m + 1))) }) (cur' := (cur.toList.take off ++ List.replicate (m + 1) z0 ++ cur.toList.drop (off + (m + 1))).toArray)
    (w' := w.setRow g (cur.toList.take off ++ List.replicate (m + 1) z0 ++ cur.toList.drop (off + (m + 1))).toArray)
    (xs := xs.take off ++ (List.replicate (m + 1) z0 ++ xs.drop (off + (m + 1)))) D hH rfl (by
      refine List.all_eq_true.2 fun e' he' => ?_
      simp only [Bool.and_eq_true, beq_iff_eq, List.all_eq_true, Bool.or_eq_true, Bool.not_eq_true']
      simp only [List.mem_append] at he'
      have hin : e' ∈ o.es ∨ e' = te.zero.map V.c := by
        rcases he' with h | h | h
        · exact .inl (List.mem_of_mem_take h)
        · exact .inr (List.eq_of_mem_replicate h)
        · exact .inl (List.mem_of_mem_drop h)
      rcases hin with h | h
      · exact ⟨ow.sz e' h, fun x hx => ⟨ow.one e' h x hx, by cases hf : o.fl with | false => exact .inl rfl | true => exact .inr (ow.fl hf e' h x hx)⟩⟩
      · subst h
        rw [hz0]
        exact ⟨by rw [hosz]; rfl, fun x hx => by simp at hx; subst hx; exact ⟨hz1, .inr rfl⟩⟩) rfl rfl rfl (by simp) h1 k2 hfz (fun k _ hk => setRow_other w g k _ hk) (setRow_heap w g cur _ _ _ k2)
    (by simp only [List.size_toArray, List.length_append, List.length_take, List.length_drop, Array.length_toList, List.length_replicate]; omega)
    (by
      show Reps w Pf ι (o.es.take off ++ (List.replicate (m + 1) (te.zero.map V.c) ++ o.es.drop (off + (m + 1)))).flatten _
      rw [hfl]
      have hrep : Reps w Pf ι (List.replicate (m + 1) (V.c z0)) (List.replicate (m + 1) z0) := by
        have := Reps.consts (w := w) (Pf := Pf) (ι := ι) (List.replicate (m + 1) z0)
        simpa using this
      exact (k4.take _).append (hrep.append (k4.drop _)))
    (by
      have hxs' : (xs.take off ++ (List.replicate (m + 1) z0 ++ xs.drop (off + (m + 1)))).length = xs.length := by
        simp only [List.length_append, List.length_take, List.length_drop, List.length_replicate]
        omega
      rw [hxs']
      show (cur.toList.take off ++ List.replicate (m + 1) z0 ++ cur.toList.drop (off + (m + 1))).take xs.length = _
      conv => rhs; rw [← k5]
      rw [List.append_assoc, List.take_append, List.take_append]
      simp only [List.length_take, Array.length_toList, List.take_take, List.drop_take, List.length_replicate]
      have e1 : min xs.length off = off := by omega
      have e2 : min off xs.length = off := by omega
      have e3 : min off cur.size = off := by omega
      have e5 : xs.length - off - (m + 1) = xs.length - (off + (m + 1)) := by omega
      rw [e1, e2, e3, e5, List.take_of_length_le (i := xs.length - off) (by simp; omega)])
  exact ⟨_, _, _, hrun, rfl, hup.1, by simp [Rep, Reps], hup.2.more fun s h => .inl h⟩

theorem bytesOf_sound : ∀ (l : List V) (b : List UInt8) (us : List Value), bytesOf l = some b → Reps w Pf ι l us → us.length = b.length ∧ ∀ j (hj : j < b.length), us[j]? = some (.int .u8 (b[j].toNat : Int))
  | [], b, us, h, hr => by simp only [bytesOf] at h; cases h; simp only [Reps] at hr; subst hr; exact ⟨rfl, fun j hj => by simp at hj⟩
  | x :: l, b, us, h, hr => by
    unfold bytesOf at h
    split at h
    · rename_i h'; cases h'
    · rename_i n l' he
      cases he
      split at h
      case isFalse => cases h
      rename_i hn
      split at h
      · rename_i r hb
        cases h
        simp only [Reps, Rep] at hr
        obtain ⟨u, us', rfl, rfl, h2⟩ := hr
        obtain ⟨h3, h4⟩ := bytesOf_sound l r us' hb h2
        refine ⟨by simp [h3], fun j hj => ?_⟩
        cases j with
        | zero =>
          have : (((UInt8.ofNat n.toNat).toNat : Nat) : Int) = n := by
            rw [UInt8.toNat_ofNat']
            omega
          simp
          omega
        | succ j => simpa using h4 j (by simpa using hj)
      · cases h
    · cases h

theorem strV_sound {T : Tab} (hT : TabOk P T) {H' : Hp} (hs : Sub H' H) (D : Desc w Pf ι H tick done) {s t : TypeId} {x v : V} (h : strV T H' s t x = some v) {u : Value} (hu : Rep w Pf ι x u) :
    ∃ r, (convert s t u).run P w = .ok r w ∧ Rep w Pf ι v r := by
  unfold strV at h
  split at h
  case h_2 => cases h
  rename_i e _ _ _ _ hts
  split at h
  case h_2 => cases h
  rename_i _ _ _ _ _ _ _ htt hte
  have hs1 := (hT _ _ hts).und
  have hs2 := (hT _ _ htt).und
  have hs3 := (hT _ _ hte).und
  simp only [] at hs1 hs2 hs3
  split at h
  case h_2 => cases h
  rename_i news hnews
  split at h
  case h_2 => cases h
  rename_i b hb
  cases h
  obtain ⟨A, c, rfl, hnl, hnc, hnr⟩ := newsV_sound hs D hnews hu
  refine ⟨.string ⟨b.toArray⟩, ?_, by simp only [Rep]⟩
  rcases hnr with rfl | ⟨ad, us, rfl, hus, hread⟩
  · simp only [List.flatten_nil, bytesOf, Option.some.injEq] at hb
    subst hb
    cases A with
    | none =>
      rw [Go.run_convert_bytes_string w s t e none _ c hs1 hs3 hs2]
      simp [Conv.bytesToString]
      rfl
    | some a => exact Go.run_convert_bytes_back w s t e a c [] hs1 hs3 hs2 (fun j hj => by simp at hj)
  · obtain ⟨h3, h4⟩ := bytesOf_sound _ _ _ hb hus
    have hul : us.length = news.length := by rw [hus.length, length_flatten_uniform hnl, Nat.mul_one]
    have := Go.run_convert_bytes_back (P := P) w s t e ad c b hs1 hs3 hs2 (fun j hj => hread j _ (h4 j hj))
    rw [← h3, hul] at this
    exact this

theorem byteE_reps (w : World) (Pf : Pfs) (ι : Plc) (s : ByteArray) : Reps w Pf ι (byteE s).flatten (s.data.toList.map fun b => Value.int .u8 (b.toNat : Int)) := by
  have h : (byteE s).flatten = (s.data.toList.map fun b => Value.int .u8 (b.toNat : Int)).map V.c := by
    unfold byteE
    generalize s.data.toList = l
    induction l with
    | nil => rfl
    | cons a l ih => rw [List.map_cons, List.flatten_cons, ih]; rfl
  rw [h]
  exact Reps.consts _

theorem bytesV_sound {T : Tab} (hT : TabOk P T) (D : Desc w Pf ι H tick done) {site : Nat} (hd : ¬ done site) {src dst e : TypeId} {x : V} {s : ByteArray} (h0 : bytesV T src dst x = some (e, s)) {v : Option V} {δ : List (Nat × Option (Nat × Obj))}
    (h : made tick (16 * site) ⟨e, 1, true, byteE s⟩ (.s (16 * site) tick 1 0 s.size) = some (v, δ)) {u0 : Value} (hu : Rep w Pf ι x u0) :
    ∃ u w' x' ι', (convert src dst u0).run P w = .ok u w' ∧ v = some x' ∧ Makes w w' Pf ι ι' H tick done site x' u δ := by
  obtain ⟨hok, rfl, rfl⟩ := made_inv h
  unfold bytesV at h0
  split at h0
  case h_2 => cases h0
  rename_i _ _ _ _ hts
  split at h0
  case h_2 => cases h0
  rename_i e' _ _ _ _ s' htd
  split at h0
  case h_2 => cases h0
  rename_i _ _ _ hte
  split at h0
  case isFalse => cases h0
  rename_i hsz
  cases h0
  have hs1 := (hT _ _ hts).und
  have hs2 := (hT _ _ htd).und
  have hs3 := (hT _ _ hte).und
  simp only [] at hs1 hs2 hs3
  simp only [Rep] at hu
  subst hu
  have hrun := Go.run_bytes_of_string (P := P) w src dst e s hs1 hs2 hs3
  have hge := grownCap_ge w s.size 0 e
  have hcm := grownCap_le_maxLen w s.size 0 e (by unfold maxLen; omega)
  have hbs : (bytesRow s (grownCap w s.size 0 e)).size = grownCap w s.size 0 e := by
    simp only [bytesRow, Array.size_append, Array.size_map, Array.size_replicate]
    have : s.data.size = s.size := rfl
    omega
  have hH'' : ∀ i q, applyD H [(16 * site, some (tick, ⟨e, 1, true, byteE s⟩))] i = some q → (i = 16 * site ∧ q = (tick, ⟨e, 1, true, byteE s⟩)) ∨ (i ≠ 16 * site ∧ H i = some q) := by
    intro i q hq
    simp only [applyD, List.foldl_cons, List.foldl_nil] at hq
    split at hq
    · rename_i e1; exact .inl ⟨e1, by cases hq; rfl⟩
    · rename_i e1; exact .inr ⟨e1, hq⟩
  have hnew := new_sound (w' := w.drew.alloc (.cells (bytesRow s (grownCap w s.size 0 e)) e ((bytesRow s (grownCap w s.size 0 e)).size, (bytesRow s (grownCap w s.size 0 e)).size + 1))) (g := w.heap.size)
    (o := ⟨e, 1, true, byteE s⟩) (xs := s.data.toList.map fun b => Value.int .u8 (b.toNat : Int)) D hd (by omega : (16 * site) / 16 = site) hok rfl rfl rfl (by show w.heap.size ≤ (w.heap.push _).size; simp)
    (fun k hk _ => heap_alloc_old w.drew _ hk) ⟨_, heap_alloc_new w.drew _, .inr (Nat.le_refl _)⟩ (fun h => Nat.lt_irrefl _ (D.lt _ h)) hH'' (fun i vr o' t' hi hx hh => by
      rcases hH'' i _ hx with ⟨hi', _⟩ | ⟨_, hx'⟩
      · exact hi hi'
      · exact Nat.lt_irrefl _ ((D.own i vr o' hx').lt hh)) (byteE_reps w Pf ι s) (by
      simp only [bytesRow, Array.toList_append, Array.toList_map]
      exact List.take_left)
  refine ⟨_, _, _, _, hrun, rfl, hnew.1, ?_, hnew.2⟩
  simp only [Rep]
  exact ⟨_, _, _, _, by first | exact if_pos ⟨trivial, trivial⟩ | exact if_pos ⟨rfl, rfl⟩, rfl, hge, hcm, fun _ => by simp, fun _ => ⟨by trivial, by rw [hbs, Nat.mul_one]⟩⟩
end
end Go.Proofs.YtbjmfjfnilmhhaaGreatDoor.Eng
