/- A deterministic reading of Go code over plain data: a region whose order is open comes to what its text's order comes to. No conditions. -/
import Derived.Test.YtbjmfjfnilmhhaaGreatDoorEngO
namespace Go.Proofs.YtbjmfjfnilmhhaaGreatDoor.Eng
open Go Go.RowKit

/-! ### what an operation looks at -/
theorem mem_ops {ev ev' : Operand → V} {o : Oper} (h : ∀ x ∈ o.op.operands, ev x = ev' x) (x : Operand) (hx : x ∈ o.op.operands.toList) : ev x = ev' x := h x (by simpa using hx)

theorem astep_congr {C : Cfg} {call : CallF} {ev ev' : Operand → V} {H : Hp} {tick site : Nat} {o : Oper} (h : ∀ x ∈ o.op.operands, ev x = ev' x) : astep C call ev H tick site o = astep C call ev' H tick site o := by
  unfold astep
  have h' : ∀ x ∈ o.op.operands.toList, ev x = ev' x := fun x hx => h x (by simpa using hx)
  cases hop : o.op <;> rw [hop] at h' <;> simp only [Op.operands, List.mem_cons, List.not_mem_nil, or_false, forall_eq, forall_eq_or_imp, Array.toList_append, List.mem_append] at h' <;> try simp only []
  case move x => rw [h']
  case assign x => rw [h']
  case pick c a b => rw [h'.1, h'.2.1, h'.2.2]
  case box t x => rw [h']
  case build t parts =>
    have : (parts.toList.map fun q => (q.1, ev q.2)) = parts.toList.map fun q => (q.1, ev' q.2) := List.map_congr_left fun q hq => by rw [h' q.2 (List.mem_map.2 ⟨q, hq, rfl⟩)]
    rw [this]
  case buildSlice t len parts =>
    have : (parts.toList.map fun q => (q.1, ev q.2)) = parts.toList.map fun q => (q.1, ev' q.2) := List.map_congr_left fun q hq => by rw [h' q.2 (List.mem_map.2 ⟨q, hq, rfl⟩)]
    rw [this]
  case load t x => rw [h']
  case store t x v => rw [h'.1, h'.2]
  case nilCheck x => rw [h']
  case binOp op t x y u => rw [h'.1, h'.2]
  case unOp op t x => rw [h']
  case convert s d x => rw [h']
  case makeFunc f first caps =>
    cases f <;> simp only []
    have : caps.toList.map ev = caps.toList.map ev' := List.map_congr_left fun q hq => h' q (.inr hq)
    rw [this]
  case makeSlice t l c => rw [h'.1, h'.2]
  case slice t x lo hi mx =>
    have hx : ev x = ev' x := h' x (by simp)
    have h1 : lo.map ev = lo.map ev' := by cases lo with | none => rfl | some y => rw [Option.map_some, Option.map_some, h' y (by simp)]
    have h2 : hi.map ev = hi.map ev' := by cases hi with | none => rfl | some y => rw [Option.map_some, Option.map_some, h' y (by simp)]
    have h3 : mx.map ev = mx.map ev' := by cases mx with | none => rfl | some y => rw [Option.map_some, Option.map_some, h' y (by simp)]
    rw [hx, h1, h2, h3]
  case fieldAddr t x f => rw [h']
  case field t x f => rw [h']
  case indexAddr t x i => rw [h'.1, h'.2]
  case index t x i => rw [h'.1, h'.2]
  case extract x i => rw [h']
  case call c =>
    have hargs : c.args.toList.map ev = c.args.toList.map ev' := List.map_congr_left fun q hq => h' q (by simp only [Call.operands, Array.toList_append, List.mem_append]; exact .inr hq)
    unfold callO
    cases hcal : c.callee with
    | value f =>
      have hf : ev f = ev' f := h' f (by simp [Call.operands, hcal])
      simp only [hf, hargs]
    | builtin b => simp only [hargs]
    | invoke r m => rfl

def indep (wr : FuncId → Bool) (W : List (Nat × Nat)) (ops : Array Oper) (jp ji : Nat) (p i : Oper) : Bool :=
  (match p.dst with | some d => !(i.looksAt ops).contains d && i.dst != some d | none => true) && (match i.dst with | some d => !(p.looksAt ops).contains d | none => true) &&
  (!(wrsO wr p.op && rdsO wr i.op) || declW W jp) && (!(rdsO wr p.op && wrsO wr i.op) || declW W ji)
theorem hidW_mem {W : List (Nat × Nat)} {ops : List Oper} {j r id : Nat} (h : mayW W r id = true) (hd : declW W r = true) (hne : r ≠ j) (h1 : ((clo ops).getD j 0).testBit r = false) (h2 : ((clo ops).getD r 0).testBit j = false) : hidW W ops j id = true := by
  unfold mayW at h
  rw [hd] at h
  simp only [Bool.not_true, Bool.false_or, List.any_eq_true, Bool.and_eq_true, beq_iff_eq] at h
  obtain ⟨q, hq, ha, hb⟩ := h
  unfold hidW
  rw [List.any_eq_true]
  refine ⟨q, hq, ?_⟩
  rw [ha, hb, h1, h2]
  simp [hne]

theorem wrs_rds {wr : FuncId → Bool} {o : Op} (h : wrsO wr o = true) : rdsO wr o = true := by
  unfold wrsO at h
  unfold rdsO
  split at h
  · rfl
  · rename_i c
    simp only []
    split at h <;> simp_all
  · cases h

theorem putV_comm {ρ : Nat → V} {d e : Option Nat} {x y : V} (h : ∀ k, d = some k → e ≠ some k) : putV (putV ρ d x) e y = putV (putV ρ e y) d x := by
  cases d <;> cases e <;> simp only [putV]
  rename_i d e
  have hne : d ≠ e := fun he => h d rfl (by rw [he])
  funext z
  by_cases h1 : z = d <;> by_cases h2 : z = e <;> simp_all

theorem applyD_none : ∀ (δ : List (Nat × Option (Nat × Obj))) (H : Hp) (i : Nat), (∀ q ∈ δ, q.1 ≠ i) → applyD H δ i = H i
  | [], H, i, _ => rfl
  | q :: δ, H, i, h => by
    have h' : applyD H (q :: δ) i = applyD (fun id => if id = q.1 then q.2 else H id) δ i := rfl
    rw [h', applyD_none δ _ i (fun z hz => h z (by simp [hz])), if_neg (fun e => h q (by simp) e.symm)]
theorem applyD_at : ∀ (δ : List (Nat × Option (Nat × Obj))) (H H' : Hp) (i : Nat), (∃ q ∈ δ, q.1 = i) → applyD H δ i = applyD H' δ i
  | [], H, H', i, h => by obtain ⟨q, hq, _⟩ := h; cases hq
  | q :: δ, H, H', i, h => by
    have h1 : ∀ H : Hp, applyD H (q :: δ) i = applyD (fun id => if id = q.1 then q.2 else H id) δ i := fun _ => rfl
    rw [h1, h1]
    by_cases he : ∃ z ∈ δ, z.1 = i
    · exact applyD_at δ _ _ i he
    · have hn : ∀ z ∈ δ, z.1 ≠ i := fun z hz e => he ⟨z, hz, e⟩
      rw [applyD_none δ _ i hn, applyD_none δ _ i hn]
      obtain ⟨z, hz, hz1⟩ := h
      cases hz with
      | head => rw [if_pos hz1.symm, if_pos hz1.symm]
      | tail _ hz => exact absurd hz1 (hn z hz)
/-- Changes at places that are apart may come in either order. -/
theorem applyD_comm {H : Hp} {δ ε : List (Nat × Option (Nat × Obj))} (h : ∀ q ∈ δ, ∀ z ∈ ε, q.1 ≠ z.1) : applyD (applyD H δ) ε = applyD (applyD H ε) δ := by
  funext i
  by_cases h1 : ∃ q ∈ δ, q.1 = i
  · have h2 : ∀ z ∈ ε, z.1 ≠ i := fun z hz e => by obtain ⟨q, hq, hqi⟩ := h1; exact h q hq z hz (by rw [hqi, e])
    rw [applyD_none ε _ i h2]
    exact applyD_at δ _ _ i h1
  · have h1' : ∀ q ∈ δ, q.1 ≠ i := fun q hq e => h1 ⟨q, hq, e⟩
    rw [applyD_none δ _ i h1']
    by_cases h2 : ∃ z ∈ ε, z.1 = i
    · exact applyD_at ε _ _ i h2
    · have h2' : ∀ z ∈ ε, z.1 ≠ i := fun z hz e => h2 ⟨z, hz, e⟩
      rw [applyD_none ε _ i h2', applyD_none ε _ i h2', applyD_none δ _ i h1']

theorem looks_ops {ops : Array Oper} {o : Oper} {d : Nat} (h : (o.looksAt ops).contains d = false) : (∀ x ∈ o.op.operands, x ≠ .tmp d) ∧ ∀ g want, o.guard = some (g, want) → (ops[g]?).bind (·.dst) ≠ some d := by
  have h' : d ∉ o.looksAt ops := fun hm => by rw [List.contains_iff_mem.2 hm] at h; cases h
  constructor
  · rintro x hx rfl
    apply h'
    unfold Oper.looksAt
    refine List.mem_append.2 (.inl (List.mem_filterMap.2 ⟨.tmp d, by simpa using hx, rfl⟩))
  · intro g want hg he
    apply h'
    unfold Oper.looksAt
    refine List.mem_append.2 (.inr ?_)
    rw [hg]
    simp [he]

theorem ev_put {st : St} {dst : Option Nat} {x : V} {H : Hp} {o : Oper} {ops : Array Oper} (h : ∀ d, dst = some d → (o.looksAt ops).contains d = false) : (∀ y ∈ o.op.operands, ({ st with ρ := putV st.ρ dst x, H := H } : St).ev y = st.ev y) ∧ wantedV ops ({ st with ρ := putV st.ρ dst x, H := H } : St) o = wantedV ops st o := by
  cases dst with
  | none => exact ⟨fun y _ => rfl, rfl⟩
  | some d =>
    obtain ⟨h1, h2⟩ := looks_ops (h d rfl)
    constructor
    · intro y hy
      cases y with
      | tmp t =>
        have : t ≠ d := fun e => h1 _ hy (by rw [e])
        show (if t = d then x else st.ρ t) = st.ρ t
        rw [if_neg this]
      | _ => rfl
    · unfold wantedV
      cases hg : o.guard with
      | none => rfl
      | some gw =>
        obtain ⟨g, want⟩ := gw
        simp only []
        cases hd : (ops[g]?).bind (·.dst) with
        | none => rfl
        | some e =>
          have : e ≠ d := fun he => h2 g want hg (by rw [hd, he])
          simp only []
          have : (putV st.ρ (some d) x) e = st.ρ e := by show (if e = d then x else st.ρ e) = _; rw [if_neg this]
          rw [this]

/-- What a step does. -/
def Does (C : Cfg) (call : CallF) (ops : Array Oper) (rid : Nat) (dr : Dr) (j : Nat) (st : St) (o : Oper) (x : V) (δ : List (Nat × Option (Nat × Obj))) : Prop :=
  (wantedV ops st o = some false ∧ x = .c undef ∧ δ = []) ∨
  (wantedV ops st o = some true ∧ ∃ v, astep C call st.ev (if rdsO C.wr o.op then seen dr ops.toList j (freeL C.T st.ev dr ops.toList j o.op) st.H else fun _ => none) st.tick (siteOf rid j) o = some (v, δ) ∧ x = v.getD (.c undef) ∧ okD dr (youngOf dr ops.toList j) st.H (siteOf rid j) (wrsO C.wr o.op) δ = true)
theorem step_does {C : Cfg} {call : CallF} {ops : Array Oper} {rid : Nat} {dr : Dr} {j : Nat} {st st' : St} {o : Oper} :
    step C call ops rid dr j st o = some st' ↔ ∃ x δ, Does C call ops rid dr j st o x δ ∧ st' = { st with ρ := putV st.ρ o.dst x, H := applyD st.H δ } := by
  constructor
  · intro h
    unfold step at h
    split at h
    · cases h
    · rename_i hw
      cases h
      exact ⟨_, [], .inl ⟨hw, rfl, rfl⟩, rfl⟩
    · rename_i hw
      split at h
      · cases h
      rename_i v δ hv
      split at h
      case isFalse => cases h
      rename_i hok
      cases h
      exact ⟨_, δ, .inr ⟨hw, v, hv, rfl, hok⟩, rfl⟩
  · rintro ⟨x, δ, h | ⟨hw, v, hv, rfl, hok⟩, rfl⟩
    · obtain ⟨hw, rfl, rfl⟩ := h
      unfold step
      rw [hw]
      rfl
    · unfold step
      rw [hw]
      simp only []
      unfold siteOf at hv hok
      rw [hv]
      simp only []
      rw [if_pos hok]

/-- Where a step's changes lie. -/
theorem does_keys {C : Cfg} {call : CallF} {ops : Array Oper} {rid : Nat} {W : List (Nat × Nat)} {j : Nat} {st : St} {o : Oper} {x : V} {δ : List (Nat × Option (Nat × Obj))} (h : Does C call ops rid (some (rid, W)) j st o x δ) :
    ∀ z ∈ δ, (z.1 / 16 = siteOf rid j ∧ z.1 % 16 < 8) ∨ (wrsO C.wr o.op = true ∧ youngOf (some (rid, W)) ops.toList j z.1 = false ∧ mayW W j z.1 = true ∧ keepsF W j z.1 (st.H z.1) z.2 = true) := by
  rcases h with ⟨_, _, rfl⟩ | ⟨_, v, _, _, hok⟩
  · simp
  · intro z hz
    have := List.all_eq_true.1 hok z hz
    split at this
    · rename_i e; exact .inl e
    · simp only [Bool.and_eq_true, Bool.not_eq_true'] at this
      rw [show siteOf rid j - rid * 64 - 1 = j by unfold siteOf; omega] at this
      exact .inr ⟨this.1.1.1, this.1.1.2, this.1.2, this.2⟩
theorem young_site {ops : List Oper} {rid j p id : Nat} {W : List (Nat × Nat)} (h : youngOf (some (rid, W)) ops j id = false) (hs : id / 16 = siteOf rid p ∧ id % 16 < 8) (hp : p < 63) : ((clo ops).getD j 0).testBit p = true := by
  obtain ⟨hs, h8⟩ := hs
  unfold siteOf at hs
  unfold youngOf at h
  simp only [Bool.or_eq_false_iff] at h
  replace h := h.1
  rw [show decide (id % 16 < 8) = true by simp; omega, show decide (rid * 64 < id / 16) = true by simp; omega, show decide (id / 16 ≤ rid * 64 + 64) = true by simp; omega, show id / 16 - rid * 64 - 1 = p by omega] at h
  simpa using h

theorem applyD_mem : ∀ (δ : List (Nat × Option (Nat × Obj))) (H : Hp) (i : Nat), (∃ q ∈ δ, q.1 = i) → (i, applyD H δ i) ∈ δ
  | [], H, i, h => by obtain ⟨q, hq, _⟩ := h; cases hq
  | q :: δ, H, i, h => by
    have h1 : applyD H (q :: δ) i = applyD (fun id => if id = q.1 then q.2 else H id) δ i := rfl
    rw [h1]
    by_cases he : ∃ z ∈ δ, z.1 = i
    · exact List.mem_cons_of_mem _ (applyD_mem δ _ i he)
    · have hn : ∀ z ∈ δ, z.1 ≠ i := fun z hz e => he ⟨z, hz, e⟩
      rw [applyD_none δ _ i hn]
      obtain ⟨z, hz, hz1⟩ := h
      cases hz with
      | head => rw [if_pos hz1.symm, ← hz1]; exact List.mem_cons_self ..
      | tail _ hz => exact absurd hz1 (hn z hz)
theorem freeL_load {T : Tab} {ev : Operand → V} {rid j id : Nat} {W : List (Nat × Nat)} {ops : List Oper} {o : Op} (h : freeL T ev (some (rid, W)) ops j o id = true) :
    ∃ t x vr sz c ti, o = .load t x ∧ ev x = .p id vr sz 0 c ∧ T t = some ti ∧ ti.k.agg = false ∧ ¬ (rid * 64 < id / 16 ∧ id / 16 ≤ rid * 64 + 64) ∧
      ∀ z ∈ W, 1000 ≤ z.1 ∨ z.1 = j ∨ ((clo ops).getD j 0).testBit z.1 = true ∨ ((clo ops).getD z.1 0).testBit j = true ∨ frzW W z.1 id c = true := by
  unfold freeL at h
  split at h
  · rename_i rid' W' t x e
    cases e
    split at h
    · rename_i id' vr sz c ti h1 h2
      simp only [Bool.and_eq_true, beq_iff_eq, Bool.not_eq_true', Bool.and_eq_false_iff, decide_eq_false_iff_not, List.all_eq_true, Bool.or_eq_true, decide_eq_true_eq] at h
      obtain ⟨rfl, h3, h4, h5⟩ := h
      exact ⟨t, x, vr, sz, c, ti, rfl, h1, h2, h3, fun hh => h4.elim (fun f => f hh.1) (fun f => f hh.2), h5⟩
    · cases h
  · cases h
theorem freeL_congr {T : Tab} {ev ev' : Operand → V} {dr : Dr} {j : Nat} {ops : List Oper} {o : Op} (h : ∀ x ∈ o.operands, ev x = ev' x) : freeL T ev dr ops j o = freeL T ev' dr ops j o := by
  funext id
  unfold freeL
  split
  · rw [h _ (by simp [Op.operands])]
  · rfl
theorem load_same {T : Tab} {H H' : Hp} {t : TypeId} {ti : TI} {id vr sz c : Nat} (hT : T t = some ti) (ha : ti.k.agg = false) (h : cellSame c (H id) (H' id) = true) : loadV T H t (.p id vr sz 0 c) = loadV T H' t (.p id vr sz 0 c) := by
  unfold cellSame at h
  split at h
  · rename_i v1 o1 v2 o2 e1 e2
    simp only [Bool.and_eq_true, beq_iff_eq] at h
    obtain ⟨rfl, hs, h⟩ := h
    split at h
    · rename_i a _ a' _ m1 m2
      split at h
      · rename_i x y g1 g2
        have := sameV_eq h
        subst this
        by_cases hv : v1 = vr
        · simp only [loadV, find, hT, e1, e2, hv, if_true, m1, m2, List.getElem?_cons_zero, ha, Bool.false_eq_true, if_false, hs, g1, g2]
        · simp only [loadV, find, hT, e1, e2, hv, if_false]
      · cases h
    · cases h
  · cases h
/-- A step does the same behind another one that is apart from it. -/
theorem does_keep {C : Cfg} {call : CallF} {ops : Array Oper} {rid r q : Nat} {W : List (Nat × Nat)} {st : St} {or_ oq : Oper} {xr xq : V} {δr δq : List (Nat × Option (Nat × Obj))} (hr63 : r < 63) (hq63 : q < 63) (hrq : r ≠ q)
    (hkeys : ∀ z ∈ δr, (z.1 / 16 = siteOf rid r ∧ z.1 % 16 < 8) ∨ (wrsO C.wr or_.op = true ∧ youngOf (some (rid, W)) ops.toList r z.1 = false ∧ mayW W r z.1 = true ∧ keepsF W r z.1 (st.H z.1) z.2 = true))
    (hl : ∀ d, or_.dst = some d → (oq.looksAt ops).contains d = false) (hm : rdsO C.wr oq.op = true → wrsO C.wr or_.op = false ∨ declW W r = true) (hc : ((clo ops.toList).getD q 0).testBit r = false) (hc' : ((clo ops.toList).getD r 0).testBit q = false) :
    Does C call ops rid (some (rid, W)) q ({ st with ρ := putV st.ρ or_.dst xr, H := applyD st.H δr } : St) oq xq δq ↔ Does C call ops rid (some (rid, W)) q st oq xq δq := by
  obtain ⟨he, hw⟩ := ev_put (st := st) (x := xr) (H := applyD st.H δr) hl
  have hfr := freeL_congr (T := C.T) (dr := some (rid, W)) (j := q) (ops := ops.toList) he
  -- what changes is hidden
  have hyoung : rdsO C.wr oq.op = true → ∀ z ∈ δr, youngOf (some (rid, W)) ops.toList q z.1 = true := by
    intro hrd z hz
    rcases hkeys z hz with ⟨h, h8⟩ | ⟨h, _, hmay, _⟩
    · unfold siteOf at h
      unfold youngOf
      simp only [Bool.or_eq_true, Bool.and_eq_true, decide_eq_true_eq, Bool.not_eq_true']
      refine .inl ⟨⟨⟨by omega, by omega⟩, h8⟩, ?_⟩
      rw [show z.1 / 16 - rid * 64 - 1 = r by omega]
      exact hc
    · rcases hm hrd with h' | hdc
      · rw [h'] at h; cases h
      · unfold youngOf
        simp only [Bool.or_eq_true]
        exact .inr (hidW_mem hmay hdc hrq hc hc')
  have hH : astep C call st.ev (if rdsO C.wr oq.op then seen (some (rid, W)) ops.toList q (freeL C.T st.ev (some (rid, W)) ops.toList q oq.op) (applyD st.H δr) else fun _ => none) st.tick (siteOf rid q) oq = astep C call st.ev (if rdsO C.wr oq.op then seen (some (rid, W)) ops.toList q (freeL C.T st.ev (some (rid, W)) ops.toList q oq.op) st.H else fun _ => none) st.tick (siteOf rid q) oq := by
    by_cases hrd : rdsO C.wr oq.op = true
    · rw [if_pos hrd, if_pos hrd]
      by_cases hfree : ∃ id, freeL C.T st.ev (some (rid, W)) ops.toList q oq.op id = true
      · obtain ⟨id, hf⟩ := hfree
        obtain ⟨t, x, vr, sz, c, ti, hop, hx, ht, hag, hfar, hall⟩ := freeL_load hf
        have hs : ∀ H : Hp, astep C call st.ev H st.tick (siteOf rid q) oq = ofO (loadV C.T H t (.p id vr sz 0 c)) := by
          intro H
          unfold astep
          rw [hop]
          simp only [hx]
        rw [hs, hs]
        congr 1
        by_cases hin : ∃ z ∈ δr, z.1 = id
        · have hy : youngOf (some (rid, W)) ops.toList q id = true := by obtain ⟨z, hz, e⟩ := hin; rw [← e]; exact hyoung hrd z hz
          have hmem := applyD_mem δr st.H id hin
          have e1 : seen (some (rid, W)) ops.toList q (freeL C.T st.ev (some (rid, W)) ops.toList q oq.op) (applyD st.H δr) id = applyD st.H δr id := by unfold seen; rw [if_pos hy, if_pos hf]
          have e2 : seen (some (rid, W)) ops.toList q (freeL C.T st.ev (some (rid, W)) ops.toList q oq.op) st.H id = st.H id := by unfold seen; rw [if_pos hy, if_pos hf]
          refine (load_same ht hag ?_).symm
          rw [e1, e2]
          rcases hkeys _ hmem with ⟨h, h8⟩ | ⟨h, _, hmay, hk⟩
          · exfalso
            simp only [] at h
            unfold siteOf at h
            exact hfar ⟨by omega, by omega⟩
          · rcases hm hrd with h' | hdc
            · rw [h'] at h; cases h
            · simp only [] at hmay hk
              unfold mayW at hmay
              rw [hdc] at hmay
              simp only [Bool.not_true, Bool.false_or, List.any_eq_true, Bool.and_eq_true, beq_iff_eq] at hmay
              obtain ⟨z, hz, z1, z2⟩ := hmay
              have := hall z hz
              rw [z1, hc, hc'] at this
              rcases this with h | h | h | h | h
              · omega
              · exact absurd h hrq
              · cases h
              · cases h
              · exact keepsF_cell h hk
        · have e1 : applyD st.H δr id = st.H id := applyD_none δr st.H id fun z hz e => hin ⟨z, hz, e⟩
          have e2 : seen (some (rid, W)) ops.toList q (freeL C.T st.ev (some (rid, W)) ops.toList q oq.op) (applyD st.H δr) id = seen (some (rid, W)) ops.toList q (freeL C.T st.ev (some (rid, W)) ops.toList q oq.op) st.H id := by
            unfold seen
            rw [e1]
          simp only [loadV, find, e2]
      · congr 1
        funext id
        unfold seen
        have hff : freeL C.T st.ev (some (rid, W)) ops.toList q oq.op id = false := by
          cases h : freeL C.T st.ev (some (rid, W)) ops.toList q oq.op id with
          | false => rfl
          | true => exact absurd ⟨id, h⟩ hfree
        rw [hff]
        by_cases hy : youngOf (some (rid, W)) ops.toList q id = true
        · rw [if_pos hy, if_pos hy]; rfl
        · rw [if_neg hy, if_neg hy]
          exact applyD_none δr st.H id fun z hz he => hy (by rw [← he]; exact hyoung hrd z hz)
    · rw [if_neg hrd, if_neg hrd]
  have hok : okD (some (rid, W)) (youngOf (some (rid, W)) ops.toList q) (applyD st.H δr) (siteOf rid q) (wrsO C.wr oq.op) δq = okD (some (rid, W)) (youngOf (some (rid, W)) ops.toList q) st.H (siteOf rid q) (wrsO C.wr oq.op) δq := by
    unfold okD
    simp only []
    congr 1
    funext z
    by_cases hz : z.1 / 16 = siteOf rid q ∧ z.1 % 16 < 8
    · rw [if_pos hz, if_pos hz, applyD_none δr st.H z.1 fun y hy hyz => ?_]
      rcases hkeys y hy with h | ⟨_, h, _, _⟩
      · have h := h.1
        rw [hyz, hz.1] at h
        unfold siteOf at h
        omega
      · rw [hyz] at h
        rw [young_site h hz hq63] at hc'
        cases hc'
    · rw [if_neg hz, if_neg hz]
      cases hwq : wrsO C.wr oq.op with
      | false => rfl
      | true =>
        cases hyz : youngOf (some (rid, W)) ops.toList q z.1 with
        | true => rfl
        | false => rw [applyD_none δr st.H z.1 fun y hy e => by have := hyoung (wrs_rds hwq) y hy; rw [e, hyz] at this; cases this]
  unfold Does
  rw [hw]
  simp only []
  rw [astep_congr (ev := ({ st with ρ := putV st.ρ or_.dst xr, H := applyD st.H δr } : St).ev) (ev' := st.ev) he, hfr, hH, hok]

theorem step_comm {C : Cfg} {call : CallF} {ops : Array Oper} {rid p i : Nat} {W : List (Nat × Nat)} {op oi : Oper} (hp63 : p < 63) (hi63 : i < 63) (hpi : p ≠ i) (hind : indep C.wr W ops p i op oi = true)
    (hc : ((clo ops.toList).getD i 0).testBit p = false) (hc' : ((clo ops.toList).getD p 0).testBit i = false) {st st1 st2 : St} (h1 : step C call ops rid (some (rid, W)) p st op = some st1) (h2 : step C call ops rid (some (rid, W)) i st1 oi = some st2) :
    ∃ st1', step C call ops rid (some (rid, W)) i st oi = some st1' ∧ step C call ops rid (some (rid, W)) p st1' op = some st2 := by
  obtain ⟨x1, δ1, d1, rfl⟩ := step_does.1 h1
  obtain ⟨x2, δ2, d2, rfl⟩ := step_does.1 h2
  unfold indep at hind
  simp only [Bool.and_eq_true, Bool.or_eq_true, Bool.not_eq_true', Bool.and_eq_false_iff] at hind
  obtain ⟨⟨⟨ha, hb⟩, hm1⟩, hm2⟩ := hind
  have hl1 : ∀ d, op.dst = some d → (oi.looksAt ops).contains d = false := by
    intro d hd
    rw [hd] at ha
    simp only [Bool.and_eq_true, Bool.not_eq_true'] at ha
    exact ha.1
  have hne : ∀ d, op.dst = some d → oi.dst ≠ some d := by
    intro d hd he
    rw [hd] at ha
    simp only [Bool.and_eq_true, bne_iff_ne] at ha
    exact ha.2 he
  have hl2 : ∀ d, oi.dst = some d → (op.looksAt ops).contains d = false := by
    intro d hd
    rw [hd] at hb
    simpa using hb
  have k1 := does_keys d1
  have d2' := (does_keep (xr := x1) hp63 hi63 hpi k1 hl1 (fun hr => hm1.imp (fun h => h.resolve_right (fun h => by rw [hr] at h; cases h)) id) hc hc').1 d2
  have k2 := does_keys d2'
  have d1' := (does_keep (xr := x2) hi63 hp63 (Ne.symm hpi) k2 hl2 (fun hr => hm2.imp (fun h => h.resolve_left (fun h => by rw [hr] at h; cases h)) id) hc' hc).2 d1
  refine ⟨_, step_does.2 ⟨x2, δ2, d2', rfl⟩, step_does.2 ⟨x1, δ1, d1', ?_⟩⟩
  have hH : applyD (applyD st.H δ1) δ2 = applyD (applyD st.H δ2) δ1 := applyD_comm fun q hq z hz e => by
    rcases k1 q hq with a1 | ⟨a1, a2, a3, _⟩ <;> rcases k2 z hz with b1 | ⟨b1, b2, b3, _⟩
    · have a1 := a1.1; have b1 := b1.1; rw [e, b1] at a1; unfold siteOf at a1; omega
    · rw [e] at a1; rw [young_site b2 a1 hp63] at hc; cases hc
    · rw [e] at a2; rw [young_site a2 b1 hi63] at hc'; cases hc'
    · have hr := wrs_rds b1
      rcases hm1 with (h | h) | h
      · rw [a1] at h; cases h
      · rw [hr] at h; cases h
      · rw [e] at a3
        have := hidW_mem a3 h hpi hc hc'
        unfold youngOf at b2
        simp only [Bool.or_eq_false_iff] at b2
        rw [this] at b2
        cases b2.2
  simp only [hH, putV_comm hne]
end Go.Proofs.YtbjmfjfnilmhhaaGreatDoor.Eng
