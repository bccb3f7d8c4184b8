/- A deterministic reading of Go code over plain data: loads, addresses, slicings, lengths. No conditions. -/
import Derived.Test.YtbjmfjfnilmhhaaGreatDoorEngD
namespace Go.Proofs.YtbjmfjfnilmhhaaGreatDoor.Eng
open Go Go.RowKit

theorem add_lit (g n m : Nat) : (⟨g, n, none⟩ : Addr).add m = ⟨g, n + m, none⟩ := by
  unfold Addr.add
  split
  · subst_vars; rfl
  · rfl
theorem flatten_uniform {α : Type} {n : Nat} : ∀ {l : List (List α)} (_ : ∀ e ∈ l, e.length = n) (i : Nat) (e : List α) (_ : l[i]? = some e) (j : Nat) (_ : j < n), l.flatten[i * n + j]? = e[j]?
  | [], _, i, e, h, j, hj => by simp at h
  | x :: l, hl, i, e, h, j, hj => by
    have hx : x.length = n := hl x (by simp)
    cases i with
    | zero =>
      simp at h
      subst h
      rw [List.flatten_cons, List.getElem?_append_left (by omega)]
      simp
    | succ i =>
      simp at h
      rw [List.flatten_cons, List.getElem?_append_right (by rw [hx, Nat.succ_mul]; omega), hx, show (i + 1) * n + j - n = i * n + j by rw [Nat.succ_mul]; omega]
      exact flatten_uniform (fun e he => hl e (by simp [he])) i e h j hj
theorem length_flatten_uniform {α : Type} {n : Nat} : ∀ {l : List (List α)} (_ : ∀ e ∈ l, e.length = n), l.flatten.length = l.length * n
  | [], _ => by simp
  | x :: l, hl => by
    rw [List.flatten_cons, List.length_append, hl x (by simp), length_flatten_uniform (fun e he => hl e (by simp [he])), List.length_cons, Nat.succ_mul]
    omega

section
variable {P : Program} {w : World} {Pf : Pfs} {ι : Plc} {H : Hp} {tick : Nat} {done : Nat → Prop}

/-- A cell of an object. -/
theorem Own.cell {id vr : Nat} {o : Obj} (ow : Own w Pf ι id vr o) {i j : Nat} {e : List V} {x : V} (he : o.es[i]? = some e) (hx : e[j]? = some x) :
    ∃ g tot u, ι id vr = some (g, tot) ∧ w.cell? ⟨g, i * o.sz + j, none⟩ = some u ∧ Rep w Pf ι x u := by
  obtain ⟨g, tot, cur, xs, h1, ⟨fz, h2, hfz⟩, h3, h4, h5, h6⟩ := ow.ex
  have hj : j < e.length := (List.getElem?_eq_some_iff.1 hx).1
  have hl := ow.sz e (List.mem_of_getElem? he)
  have hf := flatten_uniform ow.sz i e he j (by omega)
  obtain ⟨u, h7, h8⟩ := h4.get (i * o.sz + j) x (by rw [hf, hx])
  refine ⟨g, tot, u, h1, ?_, h8⟩
  rw [← h5, List.getElem?_take] at h7
  split at h7
  · simpa [World.cell?, h2] using h7
  · cases h7

theorem find_some {id vr : Nat} {o : Obj} (h : find H id vr = some o) : H id = some (vr, o) := by
  unfold find at h
  split at h
  · rename_i vr' o' he
    split at h
    · rename_i hv; subst hv; cases h; exact he
    · cases h
  · cases h
/-- Less is known. -/
def Sub (H' H : Hp) : Prop := ∀ id x, H' id = some x → H id = some x
theorem find_sub {H' : Hp} (hs : Sub H' H) {id vr : Nat} {o : Obj} (h : find H' id vr = some o) : find H id vr = some o := by
  have := hs _ _ (find_some h)
  unfold find
  rw [this]
  simp

/-- A run of cells of an object. -/
theorem Own.run {id vr : Nat} {o : Obj} (ow : Own w Pf ι id vr o) {i : Nat} {e : List V} (he : o.es[i]? = some e) (j : Nat) :
    ∃ g tot us, ι id vr = some (g, tot) ∧ Reps w Pf ι (e.drop j) us ∧ ∀ q u, us[q]? = some u → w.cell? ((⟨g, i * o.sz + j, none⟩ : Addr).add q) = some u := by
  obtain ⟨g, tot, cur, xs, h1, ⟨fz, h2, hfz⟩, h3, h4, h5, h6⟩ := ow.ex
  have hl := ow.sz e (List.mem_of_getElem? he)
  have hs : o.es.flatten = (o.es.take i).flatten ++ (e ++ (o.es.drop (i + 1)).flatten) := by
    have := List.getElem?_eq_some_iff.1 he
    obtain ⟨hi, rfl⟩ := this
    conv => lhs; rw [← List.take_append_drop i o.es]
    rw [List.flatten_append, List.drop_eq_getElem_cons hi, List.flatten_cons]
  rw [hs] at h4
  obtain ⟨a, b, rfl, ha, hb⟩ := h4.split
  obtain ⟨c, d, rfl, hc, hd⟩ := hb.split
  have hal : a.length = i * o.sz := by
    rw [ha.length, length_flatten_uniform (n := o.sz) (fun e he => ow.sz e (List.mem_of_mem_take he)), List.length_take]
    have := (List.getElem?_eq_some_iff.1 he).1
    rw [Nat.min_eq_left (by omega)]
  refine ⟨g, tot, c.drop j, h1, hc.drop j, fun q u hq => ?_⟩
  rw [add_lit]
  rw [List.getElem?_drop] at hq
  have hq' : j + q < c.length := (List.getElem?_eq_some_iff.1 hq).1
  have h7 : (a ++ (c ++ d))[i * o.sz + j + q]? = some u := by
    rw [List.getElem?_append_right (by omega), hal, List.getElem?_append_left (by omega), show i * o.sz + j + q - i * o.sz = j + q by omega]
    exact hq
  rw [← h5, List.getElem?_take] at h7
  split at h7
  · simpa [World.cell?, h2] using h7
  · cases h7

theorem run_sureAddr (a : Addr) : (Instr.sureAddr (.pointer (some a))).run P w = .ok a w := by simp [Instr.sureAddr]

theorem load_cell {t : TypeId} {ti : TI} (ht : TiOk P t ti) (hk : ti.k.agg = false) {a : Addr} {u : Value} (hc : w.cell? a = some u) : (Instr.loadAt t (.pointer (some a))).run P w = .ok u w := by
  simp only [Instr.loadAt, Sem.run_bind, run_sureAddr, Result.andThen_ok, loadVar, ht.run_isAgg, hk, Bool.false_eq_true, if_false, run_load, hc]
theorem load_run {t : TypeId} {ti : TI} (ht : TiOk P t ti) (hk : ti.k.agg = true) {a : Addr} {us : List Value} (hl : us.length = ti.size) (hc : ∀ q u, us[q]? = some u → w.cell? (a.add q) = some u) :
    (Instr.loadAt t (.pointer (some a))).run P w = .ok (.agg us.toArray) w := by
  simp only [Instr.loadAt, Sem.run_bind, run_sureAddr, Result.andThen_ok, loadVar, ht.run_isAgg, hk, if_true, ht.run_size, ← hl, run_loadCells_list w a us hc, Sem.run_pure]

theorem loadV_sound {T : Tab} (hT : TabOk P T) {t : TypeId} {x v : V} {H' : Hp} (hs : Sub H' H) (D : Desc w Pf ι H tick done) (h : loadV T H' t x = some v) {u : Value} (hu : Rep w Pf ι x u) :
    ∃ r, (Instr.loadAt t u).run P w = .ok r w ∧ Rep w Pf ι v r := by
  unfold loadV at h
  split at h
  · cases h
  rename_i ti hti
  have ht := hT _ _ hti
  split at h
  · rename_i id vr sz i j
    split at h
    · cases h
    rename_i o ho
    split at h
    · cases h
    rename_i e he
    split at h
    · rename_i hsz
      subst hsz
      have ow := D.own _ _ _ (hs _ _ (find_some ho))
      simp only [Rep] at hu
      obtain ⟨g, tot, h1, rfl⟩ := hu
      split at h
      · rename_i hk
        split at h
        · rename_i hle
          cases h
          obtain ⟨g', tot', us, h2, h3, h4⟩ := ow.run he j
          rw [h1] at h2; cases h2
          have hlen := h3.length
          rw [List.length_drop] at hlen
          refine ⟨_, load_run ht hk (us := us.take ti.size) (by rw [List.length_take]; omega) (fun q u hq => h4 q u ?_), ?_⟩
          · rw [List.getElem?_take] at hq
            split at hq
            · exact hq
            · cases hq
          · simp only [Rep]
            exact ⟨_, rfl, h3.take _⟩
        · cases h
      · rename_i hk
        simp only [Bool.not_eq_true] at hk
        obtain ⟨g', tot', u, h2, h3, h4⟩ := ow.cell he h
        rw [h1] at h2; cases h2
        exact ⟨u, load_cell ht hk h3, h4⟩
    · cases h
  · rename_i b l
    simp only [Rep] at hu
    obtain ⟨a, rfl, hn, hc⟩ := hu
    split at h
    · rename_i hk
      split at h
      · rename_i hle
        cases h
        obtain ⟨us, h1, h2⟩ := (hc.take ti.size).reads
        have hlen := h1.length
        rw [List.length_take] at hlen
        refine ⟨_, load_run ht hk (us := us) (by omega) h2, ?_⟩
        simp only [Rep]
        refine ⟨us, rfl, ?_⟩
        exact Reps.mono (fun b' g hg => ⟨by cases b <;> cases b' <;> first | exact hg | exact D.sub _ hg, rfl⟩) (fun _ _ _ h => h) _ _ h1
      · cases h
    · rename_i hk
      simp only [Bool.not_eq_true] at hk
      cases l with
      | nil => simp at h
      | cons y l =>
        simp at h
        subst h
        simp only [RepC] at hc
        obtain ⟨⟨u, h1, h2⟩, _⟩ := hc
        exact ⟨u, load_cell ht hk h1, Rep.mono (fun b' g hg => ⟨by cases b <;> cases b' <;> first | exact hg | exact D.sub _ hg, rfl⟩) (fun _ _ _ h => h) _ _ h2⟩
  · cases h

theorem fieldAddrV_sound {T : Tab} (hT : TabOk P T) {t : TypeId} {x v : V} {f : Nat} (h : fieldAddrV T t x f = some v) {u : Value} (hu : Rep w Pf ι x u) :
    ∃ r, (Instr.fieldAt t u f).run P w = .ok r w ∧ Rep w Pf ι v r := by
  unfold fieldAddrV at h
  split at h
  · rename_i fs size bytes zero fl hti
    have ht := (hT _ _ hti).und
    simp only [] at ht
    obtain ⟨fields, hf, hfs, hall⟩ := ht
    split at h
    · rename_i off sz ag hfi
      split at h
      · cases h
      rename_i hsz
      obtain ⟨fd, h1, h2, ⟨inf, h3, h4⟩, _⟩ := hall _ _ _ _ hfi
      have hs0 : ¬ inf.size = 0 := by rw [h4]; exact hsz
      have key : ∀ a : Addr, (Instr.fieldAt t (.pointer (some a)) f).run P w = .ok (.pointer (some (a.add off))) w := by
        intro a
        simp [Instr.fieldAt, run_underlying hf, h1, run_sureAddr, fieldPlace, sizeOf, typeInfo, h3, hs0, h2]
      split at h
      · rename_i id vr s i j
        cases h
        simp only [Rep] at hu
        obtain ⟨g, tot, h5, rfl⟩ := hu
        refine ⟨_, key _, ?_⟩
        simp only [Rep]
        exact ⟨g, tot, h5, by rw [add_lit, Nat.add_assoc]⟩
      · rename_i b l
        cases h
        simp only [Rep] at hu
        obtain ⟨a, rfl, hn, hc⟩ := hu
        refine ⟨_, key _, ?_⟩
        simp only [Rep]
        exact ⟨_, rfl, NRC_drop _ hn, hc.drop off⟩
      · cases h
    · cases h
  · cases h

theorem run_part {t : TypeId} {d : TypeDesc} {inf : TypeInfo} (hd : P.underlying t = some d) (hi : P.info? t = some inf) (cs : Array Value) (off : Nat) :
    (part t cs off).run P w = if aggD d then .ok (.agg (cs.extract off (off + inf.size))) w else (match cs[off]? with | some v => .ok v w | none => (stuck "part: no such cell" : Sem Value).run P w) := by
  unfold part isAgg
  simp only [Sem.run_bind, run_underlying hd, Result.andThen_ok]
  cases d <;> simp [aggD, sizeOf, typeInfo, hi] <;> (cases cs[off]? <;> simp)

theorem eqCells_inv {x : V} {l m : List V} {r : Bool} (he : eqCells (x :: l) m = some r) : ∃ (k : IntKind) (a b : Int) (m' : List V) (r' : Bool), x = .c (.int k a) ∧ m = .c (.int k b) :: m' ∧ eqCells l m' = some r' ∧ r = (a == b && r') := by
  unfold eqCells at he
  split at he
  · rename_i h1; cases h1
  · rename_i k a l' k' b m' h1
    cases h1
    split at he
    case isFalse => cases he
    rename_i hk
    subst hk
    split at he
    case h_2 => cases he
    rename_i r' he'
    cases he
    exact ⟨_, _, _, _, _, rfl, rfl, he', rfl⟩
  · cases he
/-- The fields of structs of whole numbers, one after the other. -/
theorem eqFields_sound : ∀ (fs : List Field) (j : Nat) (l m : List V) (us vs : List Value) (r : Bool), (∀ q ∈ fs.zipIdx j, numF P q = true) → eqCells l m = some r → l.length = fs.length → Reps w Pf ι l (us.drop j) → Reps w Pf ι m (vs.drop j) → (Op.eqFields 9999 us.toArray vs.toArray fs).run P w = .ok r w
  | [], j, l, m, us, vs, r, _, he, hl, hu, hv => by
    obtain rfl : l = [] := List.length_eq_zero_iff.1 hl
    cases m with
    | nil => simp only [eqCells, Option.some.injEq] at he; subst he; rfl
    | cons x m => simp [eqCells] at he
  | f :: fs, j, l, m, us, vs, r, hf, he, hl, hu, hv => by
    cases l with
    | nil => simp at hl
    | cons x l =>
      obtain ⟨k, a, b, m', r', rfl, rfl, he', rfl⟩ := eqCells_inv he
      simp only [Reps, Rep] at hu hv
      obtain ⟨u, us', hu1, rfl, hu2⟩ := hu
      obtain ⟨v, vs', hv1, rfl, hv2⟩ := hv
      have hq := hf (f, j) (by simp [List.zipIdx_cons])
      unfold numF at hq
      simp only [Bool.and_eq_true, bne_iff_ne, ne_eq, beq_iff_eq] at hq
      obtain ⟨⟨hn, ho⟩, ht⟩ := hq
      split at ht
      case h_2 => cases ht
      rename_i kk hkk
      obtain ⟨inf, hinf⟩ := Option.isSome_iff_exists.1 ht
      have gu : us.toArray[j]? = some (.int k a) := by
        have := List.getElem?_drop (xs := us) (i := j) (j := 0)
        rw [hu1] at this
        simpa using this.symm
      have gv : vs.toArray[j]? = some (.int k b) := by
        have := List.getElem?_drop (xs := vs) (i := j) (j := 0)
        rw [hv1] at this
        simpa using this.symm
      have ih := eqFields_sound fs (j + 1) l m' us vs r' (fun q hq => hf q (by rw [List.zipIdx_cons]; exact List.mem_cons_of_mem _ hq)) he' (by simpa using hl)
        (by have : us.drop (j + 1) = us' := by rw [← List.drop_drop, hu1]; rfl
            rw [this]; exact hu2) (by have : vs.drop (j + 1) = vs' := by rw [← List.drop_drop, hv1]; rfl
                                      rw [this]; exact hv2)
      have p1 := run_part (w := w) hkk hinf us.toArray j
      have p2 := run_part (w := w) hkk hinf vs.toArray j
      rw [if_neg (by simp [aggD]), gu] at p1
      rw [if_neg (by simp [aggD]), gv] at p2
      have e1 := run_equalIn_int (P := P) w 9998 f.type k kk a b hkk
      simp only [Op.eqFields, ne_eq, hn, not_false_eq_true, if_true, Sem.run_bind, ho, p1, p2, Result.andThen_ok, e1]
      cases hab : (a == b)
      · simp
      · simp [ih]
theorem eqA_sound {t : TypeId} {i : TI} {op : BinOp} {x y : Operand} (ht : TiOk P t i) (hn : numT i = true) {l m : List V} (hl : l.length = i.size) (hm : m.length = i.size) {us vs : List Value} (hu : Reps w Pf ι l us) (hv : Reps w Pf ι m vs) {b : Bool} (he : eqCells l m = some b) :
    (op = .eql → (do eqGuard .eql t x y (.agg us.toArray) (.agg vs.toArray); binOp .eql t (.agg us.toArray) (.agg vs.toArray) : Sem Value).run P w = .ok (.bool b) w) ∧ (op = .neq → (do eqGuard .neq t x y (.agg us.toArray) (.agg vs.toArray); binOp .neq t (.agg us.toArray) (.agg vs.toArray) : Sem Value).run P w = .ok (.bool (!b)) w) := by
  have hq := ht.eqs hn
  unfold eqOk at hq
  split at hq
  case h_2 => cases hq
  rename_i fields hf
  simp only [Bool.and_eq_true, Bool.not_eq_true', List.all_eq_true] at hq
  obtain ⟨⟨q1, q2⟩, q3⟩ := hq
  have hfs : fields.size = i.size := by
    have hnn := hn
    unfold numT at hnn
    split at hnn
    case h_2 => cases hnn
    rename_i fs hk
    simp only [Bool.and_eq_true, beq_iff_eq] at hnn
    have hu := ht.und
    rw [hk] at hu
    simp only [] at hu
    obtain ⟨fields', h1, h2, _⟩ := hu
    rw [hf] at h1
    cases h1
    rw [h2, hnn.1.1]
  have hof : P.fieldsOf t = fields := by unfold Program.fieldsOf; rw [hf]
  have hr := run_equalIn_struct (P := P) w 9999 t us.toArray vs.toArray (by rw [hof]; exact hf) q1
  rw [hof] at hr
  have he' := eqFields_sound (P := P) (w := w) (Pf := Pf) (ι := ι) fields.toList 0 l m us vs b (fun q hq => q3 q hq) he (by rw [hl, ← hfs]; simp) (by simpa using hu) (by simpa using hv)
  rw [he'] at hr
  constructor
  · rintro rfl
    rw [Sem.run_bind, run_eqGuard_agg w .eql t x y _ _ q2, Result.andThen_ok, run_eql_struct, hr, Result.andThen_ok]
  · rintro rfl
    rw [Sem.run_bind, run_eqGuard_agg w .neq t x y _ _ q2, Result.andThen_ok, run_neq_struct, hr, Result.andThen_ok]

theorem fieldV_sound {T : Tab} (hT : TabOk P T) {t : TypeId} {x v : V} {f : Nat} (h : fieldV T t x f = some v) {u : Value} (hu : Rep w Pf ι x u) :
    ∃ r, (Instr.field t u f).run P w = .ok r w ∧ Rep w Pf ι v r := by
  unfold fieldV at h
  split at h
  · rename_i fs size bytes zero fl l hti
    have ht := (hT _ _ hti).und
    simp only [] at ht
    obtain ⟨fields, hf, hfs, hall⟩ := ht
    simp only [Rep] at hu
    obtain ⟨us, rfl, hr⟩ := hu
    split at h
    · rename_i off sz ag hfi
      obtain ⟨fd, h1, h2, ⟨inf, h3, h4⟩, d, h5, h6⟩ := hall _ _ _ _ hfi
      have key : (Instr.field t (.agg us.toArray) f).run P w = (part fd.type us.toArray off).run P w := by
        simp [Instr.field, run_underlying hf, h1, asAgg, h2]
      rw [run_part h5 h3] at key
      split at h
      · rename_i hag
        split at h
        · rename_i hle
          cases h
          subst h6
          rw [if_pos hag] at key
          refine ⟨_, key, ?_⟩
          simp only [Rep]
          refine ⟨(us.drop off).take sz, ?_, (hr.drop off).take sz⟩
          rw [h4]
          congr 1
          apply Array.ext'
          simp
        · cases h
      · rename_i hag
        subst h6
        rw [if_neg hag] at key
        obtain ⟨u, h7, h8⟩ := hr.get _ _ h
        have : us.toArray[off]? = some u := by simpa using h7
        rw [this] at key
        exact ⟨u, key, h8⟩
    · cases h
  · cases h

theorem run_asIntOf (k : IntKind) (n : Int) : (asIntOf (.int k n)).run P w = .ok (k, n) w := by simp [asIntOf]

theorem indexAddrV_sound {T : Tab} (hT : TabOk P T) {t : TypeId} {x ix v : V} (h : indexAddrV T t x ix = some v) {u n : Value} (hu : Rep w Pf ι x u) (hn : Rep w Pf ι ix n) :
    ∃ r, (Instr.indexAt t u n).run P w = .ok r w ∧ Rep w Pf ι v r := by
  unfold indexAddrV at h
  split at h
  · rename_i e size bytes zero fl k i hti
    have ht := (hT _ _ hti).und
    simp only [] at ht
    simp only [Rep] at hn
    subst hn
    split at h
    · cases h
    rename_i te hte
    have hes := (hT _ _ hte).run_size (w := w)
    split at h
    · rename_i id vr sz off len
      split at h
      · rename_i hsz
        subst hsz
        split at h
        · rename_i hi
          cases h
          simp only [Rep] at hu
          obtain ⟨g, tot, a, cap, h1, rfl, h2, h3, h4, h5⟩ := hu
          have ha := h4 (by omega)
          subst ha
          refine ⟨.pointer (some ⟨g, (off + i.toNat) * te.size + 0, none⟩), ?_, ?_⟩
          · simp [Instr.indexAt, run_asIntOf, run_underlying ht, hi, hes, add_lit, Nat.add_mul]
          · simp only [Rep]
            exact ⟨g, tot, h1, rfl⟩
        · cases h
      · cases h
    · rename_i b fl' sz l
      split at h
      · rename_i hsz
        subst hsz
        split at h
        · rename_i hi
          split at h
          · rename_i c hc
            cases h
            simp only [Rep] at hu
            obtain ⟨A, cap, rfl, h2, h3, h4, h5, h6⟩ := hu
            have hil : i.toNat < l.length := (List.getElem?_eq_some_iff.1 hc).1
            rcases h6 with rfl | ⟨a, rfl, h6⟩
            · simp at hc
            · obtain ⟨h7, h8⟩ := h6.get _ _ hc
              refine ⟨.pointer (some (a.add (i.toNat * te.size))), ?_, ?_⟩
              · have : i < (l.length : Int) := by omega
                simp [Instr.indexAt, run_asIntOf, run_underlying ht, hi, this, hes]
              · simp only [Rep]
                exact ⟨_, rfl, NRE_get _ _ h5 hc, h8⟩
          · cases h
        · cases h
      · cases h
    · cases h
  · rename_i m e size bytes zero fl k i hti
    have ht := (hT _ _ hti).und
    simp only [] at ht
    simp only [Rep] at hn
    subst hn
    split at h
    · cases h
    rename_i te hte
    have hes := (hT _ _ hte).run_size (w := w)
    split at h
    · rename_i id vr sz i0 j
      split at h
      · rename_i hi
        cases h
        simp only [Rep] at hu
        obtain ⟨g, tot, h1, rfl⟩ := hu
        refine ⟨.pointer (some ⟨g, i0 * sz + (j + i.toNat * te.size), none⟩), ?_, ?_⟩
        · simp [Instr.indexAt, run_asIntOf, run_underlying ht, hi, hes, add_lit, run_sureAddr, Nat.add_assoc]
        · simp only [Rep]
          exact ⟨g, tot, h1, rfl⟩
      · cases h
    · rename_i b l
      split at h
      · rename_i hi
        cases h
        simp only [Rep] at hu
        obtain ⟨a, rfl, hn, hc⟩ := hu
        refine ⟨.pointer (some (a.add (i.toNat * te.size))), ?_, ?_⟩
        · simp [Instr.indexAt, run_asIntOf, run_underlying ht, hi, hes, run_sureAddr]
        · simp only [Rep]
          exact ⟨_, rfl, NRC_drop _ hn, hc.drop _⟩
      · cases h
    · cases h
  · cases h
end
end Go.Proofs.YtbjmfjfnilmhhaaGreatDoor.Eng
