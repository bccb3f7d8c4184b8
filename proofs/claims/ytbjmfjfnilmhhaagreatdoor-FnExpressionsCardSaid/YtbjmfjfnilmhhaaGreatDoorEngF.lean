/- A deterministic reading of Go code over plain data: slicings, lengths, conversions, structs. No conditions. -/
import Derived.Test.YtbjmfjfnilmhhaaGreatDoorEngE
namespace Go.Proofs.YtbjmfjfnilmhhaaGreatDoor.Eng
open Go Go.RowKit

section
variable {P : Program} {w : World} {Pf : Pfs} {ι : Plc} {H : Hp} {tick : Nat} {done : Nat → Prop}

theorem indexV_sound {T : Tab} (hT : TabOk P T) {t : TypeId} {x ix v : V} (h : indexV T t x ix = some v) {u n : Value} (hu : Rep w Pf ι x u) (hn : Rep w Pf ι ix n) :
    ∃ r, (Instr.index t u n).run P w = .ok r w ∧ Rep w Pf ι v r := by
  unfold indexV at h
  split at h
  · rename_i size bytes zero fl s k i hti
    have ht := (hT _ _ hti).und
    simp only [] at ht
    simp only [Rep] at hu hn
    subst hu hn
    split at h
    · rename_i hi
      cases h
      have h2 : i.toNat < s.size := by omega
      have hg : s[i.toNat]? = some (s[i.toNat]'h2) := by
        simp [h2]
      have hb : byteAt s i = ((s[i.toNat]'h2).toNat : Int) := by
        unfold byteAt
        congr 2
        have h3 : i.toNat < s.data.toList.length := by simpa using h2
        rw [List.getD_eq_getElem?_getD, List.getElem?_eq_getElem h3, Option.getD_some]
        rfl
      refine ⟨.int .u8 (byteAt s i), ?_, by simp only [Rep]⟩
      rw [hb]
      simp [Instr.index, run_asIntOf, run_underlying ht, hi.1, hg]
    · cases h
  · rename_i m e size bytes zero fl l k i hti
    have ht := (hT _ _ hti).und
    simp only [] at ht
    simp only [Rep] at hu hn
    subst hn
    obtain ⟨us, rfl, hr⟩ := hu
    split at h
    · rename_i te hte
      split at h
      · rename_i hc
        obtain ⟨hk, hs, h0, hi⟩ := hc
        have hts := hT _ _ hte
        obtain ⟨d, hd, hda⟩ := hts.agg
        obtain ⟨inf, z, hinf, hsz, _⟩ := hts.info
        obtain ⟨u, h1, h2⟩ := hr.get _ _ h
        refine ⟨u, ?_, h2⟩
        have hp := run_part (w := w) hd hinf us.toArray i.toNat
        rw [hda, hk] at hp
        have : us.toArray[i.toNat]? = some u := by simpa using h1
        rw [this] at hp
        simp [Instr.index, run_asIntOf, run_underlying ht, h0, hi, hts.run_size, hs, hp]
      · cases h
    · cases h
  · cases h

def ORep (w : World) (Pf : Pfs) (ι : Plc) : Option V → Option Value → Prop
  | none, none => True
  | some x, some u => Rep w Pf ι x u
  | _, _ => False
theorem oRep {st : St} {a : Act} (hg : Good w Pf ι st done a) (x : Option Operand) : ORep w Pf ι (x.map st.ev) (x.map a.eval) := by
  cases x with
  | none => exact trivial
  | some x => exact eval_rep hg x

theorem run_sliceBound (k : IntKind) (i : Int) (y : Nat) (c : BoundsCode) (h : 0 ≤ i ∧ i ≤ (y : Int)) : (Instr.sliceBound (.int k i) y c).run P w = .ok i.toNat w := by
  simp [Instr.sliceBound, asIntOf, h]

theorem bounds_sound {n m : Nat} (hnm : n ≤ m) {lo hi : Option V} {lo' hi' : Option Value} (hlo : ORep w Pf ι lo lo') (hhi : ORep w Pf ι hi hi') {q : Nat × Nat} (h : bounds n lo hi = some q) (b : Bool) :
    (Instr.sliceBounds b n m lo' hi' none).run P w = .ok (q.1, q.2, m) w ∧ q.1 ≤ q.2 ∧ q.2 ≤ n := by
  unfold bounds at h
  split at h
  · cases h
  rename_i h1 hh
  split at h
  · cases h
  rename_i l1 hl
  cases h
  have e1 : h1 ≤ n ∧ ((match (generalizing := false) hi' with | some v => (Instr.sliceBound v m (if b then .sliceAcap else .sliceAlen)) | none => (pure n : Sem Nat)) : Sem Nat).run P w = .ok h1 w := by
    cases hi with
    | none =>
      cases hi' with
      | none => simp at hh; subst hh; exact ⟨Nat.le_refl _, rfl⟩
      | some _ => exact hhi.elim
    | some x =>
      cases hi' with
      | none => exact hhi.elim
      | some u =>
        split at hh
        · rename_i hxx; cases hxx
        · rename_i k i hxx
          cases hxx
          simp only [ORep, Rep] at hhi
          subst hhi
          split at hh
          · rename_i hb
            cases hh
            exact ⟨by omega, run_sliceBound _ _ _ _ (by omega)⟩
          · cases hh
        · cases hh
  have e2 : l1 ≤ h1 ∧ ((match (generalizing := false) lo' with | some v => (Instr.sliceBound v h1 .sliceB) | none => (pure 0 : Sem Nat)) : Sem Nat).run P w = .ok l1 w := by
    cases lo with
    | none =>
      cases lo' with
      | none => simp at hl; subst hl; exact ⟨Nat.zero_le _, rfl⟩
      | some _ => exact hlo.elim
    | some x =>
      cases lo' with
      | none => exact hlo.elim
      | some u =>
        split at hl
        · rename_i hxx; cases hxx
        · rename_i k i hxx
          cases hxx
          simp only [ORep, Rep] at hlo
          subst hlo
          split at hl
          · rename_i hb
            cases hl
            exact ⟨by omega, run_sliceBound _ _ _ _ (by omega)⟩
          · cases hl
        · cases hl
  refine ⟨?_, e2.1, e1.1⟩
  unfold Instr.sliceBounds
  have f1 := e1.2
  have f2 := e2.2
  cases hi' <;> cases lo' <;> simp only [] at f1 f2 <;> simp only [Sem.run_bind, Sem.run_pure, Result.andThen_ok, f1, f2, Option.isSome_none, Bool.false_eq_true, if_false] <;> simp_all

theorem run_sliceAt_slice {t e : TypeId} (ht : P.underlying t = some (.slice e)) (x : Value) (lo hi mx : Option Value) : (Instr.sliceAt t x lo hi mx).run P w = (Instr.slice t x lo hi mx).run P w := by
  simp [Instr.sliceAt, run_underlying ht]
theorem run_sliceAt_str {t : TypeId} (ht : P.underlying t = some .string) (x : Value) (lo hi mx : Option Value) : (Instr.sliceAt t x lo hi mx).run P w = (Instr.slice t x lo hi mx).run P w := by
  simp [Instr.sliceAt, run_underlying ht]

theorem sliceV_sound {T : Tab} (hT : TabOk P T) {t : TypeId} {x v : V} {lo hi : Option V} {lo' hi' : Option Value} (h : sliceV T t x lo hi none = some v) {u : Value} (hu : Rep w Pf ι x u) (hlo : ORep w Pf ι lo lo') (hhi : ORep w Pf ι hi hi') :
    ∃ r, (Instr.sliceAt t u lo' hi' none).run P w = .ok r w ∧ Rep w Pf ι v r := by
  unfold sliceV at h
  simp only [] at h
  split at h
  · rename_i size bytes zero fl s hti
    have ht := (hT _ _ hti).und
    simp only [] at ht
    simp only [Rep] at hu
    subst hu
    obtain ⟨q, hq, rfl⟩ := Option.map_eq_some_iff.1 h
    have hb := bounds_sound (P := P) (Nat.le_refl _) hlo hhi hq false
    refine ⟨.string (s.extract q.1 q.2), ?_, by simp only [Rep]⟩
    rw [run_sliceAt_str ht]
    simp [Instr.slice, run_underlying ht, hb.1]
  · rename_i e size bytes zero fl id vr sz off len hti
    have ht := (hT _ _ hti).und
    simp only [] at ht
    split at h
    · rename_i te hte
      have hes := (hT _ _ hte).run_size (w := w)
      split at h
      · rename_i hsz
        subst hsz
        obtain ⟨q, hq, rfl⟩ := Option.map_eq_some_iff.1 h
        simp only [Rep] at hu
        obtain ⟨g, tot, a, cap, h1, rfl, h2, h3, h4, h5⟩ := hu
        obtain ⟨hb, hq1, hq2⟩ := bounds_sound (P := P) h2 hlo hhi hq true
        refine ⟨.slice (some (if cap = q.1 then a else a.add (q.1 * te.size))) (q.2 - q.1) (cap - q.1), ?_, ?_⟩
        · rw [run_sliceAt_slice ht]
          simp only [Instr.slice, Sem.run_bind, run_underlying ht, Result.andThen_ok, hb, hes, Sem.run_pure]
          congr 2
          split <;> rfl
        · simp only [Rep]
          refine ⟨g, tot, _, _, h1, rfl, by omega, by omega, fun hlt => ?_, fun h0 => ?_⟩
          · rw [if_neg (by omega), h4 (by omega), add_lit, ← Nat.add_mul]
          · have h6 : off = 0 := by omega
            have h7 : q.1 = 0 := by omega
            obtain ⟨rfl, h8⟩ := h5 h6
            rw [h7]
            refine ⟨?_, by simpa using h8⟩
            split <;> simp [Addr.add]
      · cases h
    · cases h
  · rename_i e size bytes zero fl b fl' sz l hti
    have ht := (hT _ _ hti).und
    simp only [] at ht
    split at h
    · rename_i te hte
      have hes := (hT _ _ hte).run_size (w := w)
      split at h
      · rename_i hsz
        subst hsz
        obtain ⟨q, hq, rfl⟩ := Option.map_eq_some_iff.1 h
        simp only [Rep] at hu
        obtain ⟨A, cap, rfl, h2, h3, h4, h5, h6⟩ := hu
        obtain ⟨hb, hq1, hq2⟩ := bounds_sound (P := P) h2 hlo hhi hq true
        have hlen : ((l.take q.2).drop q.1).length = q.2 - q.1 := by rw [List.length_drop, List.length_take]; omega
        refine ⟨.slice (if cap = q.1 then A else A.map (·.add (q.1 * te.size))) (q.2 - q.1) (cap - q.1), ?_, ?_⟩
        · rw [run_sliceAt_slice ht]
          simp only [Instr.slice, Sem.run_bind, run_underlying ht, Result.andThen_ok, hb, hes, Sem.run_pure]
        · simp only [Rep]
          refine ⟨_, _, by rw [hlen], by rw [hlen]; omega, by omega, fun hf e he => h4 hf e (List.mem_of_mem_take (List.mem_of_mem_drop he)), NRE_drop _ (NRE_take _ h5), ?_⟩
          by_cases hq12 : q.1 < q.2
          · rcases h6 with rfl | ⟨a, rfl, h6⟩
            · simp at hq2; omega
            · exact .inr ⟨a.add (q.1 * te.size), by rw [if_neg (by omega)]; rfl, (h6.take q.2).drop q.1⟩
          · exact .inl (List.eq_nil_of_length_eq_zero (by omega))
      · cases h
    · cases h
  · rename_i e size bytes zero fl hti
    have ht := (hT _ _ hti).und
    simp only [] at ht
    split at h
    case isFalse => cases h
    rename_i hte
    obtain ⟨te, hte⟩ := Option.isSome_iff_exists.1 hte
    have hes := (hT _ _ hte).run_size (w := w)
    obtain ⟨q, hq, rfl⟩ := Option.map_eq_some_iff.1 h
    simp only [Rep] at hu
    subst hu
    obtain ⟨hb, hq1, hq2⟩ := bounds_sound (P := P) (Nat.le_refl _) hlo hhi hq true
    have h1 : q.1 = 0 := by omega
    have h2 : q.2 = 0 := by omega
    refine ⟨.slice none 0 0, ?_, by simp only [Rep]⟩
    rw [run_sliceAt_slice ht]
    simp only [Instr.slice, Sem.run_bind, run_underlying ht, Result.andThen_ok, hb, hes, Sem.run_pure, h1, h2]
    simp
  · cases h

theorem sliceV_sound3 {T : Tab} (hT : TabOk P T) {t : TypeId} {x v m : V} {lo hi : Option V} {lo' hi' : Option Value} {m' : Value} (h : sliceV T t x lo hi (some m) = some v) {u : Value} (hu : Rep w Pf ι x u) (hlo : ORep w Pf ι lo lo') (hhi : ORep w Pf ι hi hi') (hm : Rep w Pf ι m m') :
    ∃ r, (Instr.sliceAt t u lo' hi' (some m')).run P w = .ok r w ∧ Rep w Pf ι v r := by
  unfold sliceV at h
  simp only [] at h
  split at h
  case h_2 => cases h
  rename_i e_ size bytes zero_ fl x k h0 k' m0 hti
  have ht := (hT _ _ hti).und
  simp only [] at ht
  split at h
  case isFalse => cases h
  rename_i hc
  obtain ⟨rfl, rfl, hte⟩ := hc
  obtain ⟨te, hte⟩ := Option.isSome_iff_exists.1 hte
  have hes := (hT _ _ hte).run_size (w := w)
  cases lo' with
  | some _ => exact hlo.elim
  | none =>
    cases hi' with
    | none => exact hhi.elim
    | some hv =>
      simp only [ORep, Rep] at hhi
      simp only [Rep] at hm
      subst hhi hm
      have key : ∀ A n c, u = .slice A n c → v = .e → ∃ r, (Instr.sliceAt t u none (some (.int k 0)) (some (.int k' 0))).run P w = .ok r w ∧ Rep w Pf ι v r := by
        rintro A n c rfl rfl
        refine ⟨.slice A 0 0, ?_, by simp only [Rep]; exact ⟨A, rfl⟩⟩
        rw [run_sliceAt_slice ht]
        have hb : (Instr.sliceBounds true n c none (some (.int k 0)) (some (.int k' 0))).run P w = .ok (0, 0, 0) w := by
          simp [Instr.sliceBounds, Instr.sliceBound, asIntOf]
        simp [Instr.slice, run_underlying ht, hb, hes]
      split at h
      · cases h; simp only [Rep] at hu; obtain ⟨A, cap, h1, _⟩ := hu; exact key _ _ _ h1 rfl
      · cases h; simp only [Rep] at hu; obtain ⟨g, tot, a, cap, _, h1, _⟩ := hu; exact key _ _ _ h1 rfl
      · cases h; simp only [Rep] at hu; obtain ⟨A, h1⟩ := hu; exact key _ _ _ h1 rfl
      · cases h; simp only [Rep] at hu; exact key _ _ _ hu rfl
      · cases h

theorem convV_sound {T : Tab} (hT : TabOk P T) {s t : TypeId} {x v : V} (h : convV T s t x = some v) {u : Value} (hu : Rep w Pf ι x u) :
    ∃ r, (convert s t u).run P w = .ok r w ∧ Rep w Pf ι v r := by
  unfold convV at h
  split at h
  · rename_i k size bytes zero fl k' n hti
    have ht := (hT _ _ hti).und
    simp only [] at ht
    simp only [Rep] at hu
    subst hu
    split at h
    · rename_i hs
      cases h
      obtain ⟨si, hsi⟩ := Option.isSome_iff_exists.1 hs
      obtain ⟨d, hd, _⟩ := (hT _ _ hsi).agg
      refine ⟨.int k (k.wrap n), ?_, by simp only [Rep]⟩
      simp [convert, run_underlying ht, run_underlying hd, Conv.intToInt]
    · cases h
  · rename_i size bytes zero fl s' hti
    have ht := (hT _ _ hti).und
    simp only [] at ht
    simp only [Rep] at hu
    subst hu
    split at h
    · rename_i hsi
      have hs := (hT _ _ hsi).und
      simp only [] at hs
      cases h
      refine ⟨.string s', ?_, by simp only [Rep]⟩
      simp [convert, run_underlying ht, run_underlying hs]
    · cases h
  · cases h

theorem lenV_sound {T : Tab} (hT : TabOk P T) {t : TypeId} {x v : V} (h : lenV T t x = some v) {u : Value} (hu : Rep w Pf ι x u) (ty : TypeId) :
    ∃ r, (Builtin.len_ #[t] ty #[u]).run P w = .ok r w ∧ Rep w Pf ι v r := by
  unfold lenV at h
  split at h
  · rename_i e size bytes zero fl id vr sz off len hti
    have ht := (hT _ _ hti).und
    simp only [] at ht
    simp only [Rep] at hu
    obtain ⟨g, tot, a, cap, h1, rfl, _⟩ := hu
    cases h
    exact ⟨.int .i64 (len : Int), by simp [Builtin.len_, run_underlying ht, goInt], by simp only [Rep]⟩
  · rename_i e size bytes zero fl b fl' sz l hti
    have ht := (hT _ _ hti).und
    simp only [] at ht
    simp only [Rep] at hu
    obtain ⟨A, cap, rfl, _⟩ := hu
    cases h
    exact ⟨.int .i64 (l.length : Int), by simp [Builtin.len_, run_underlying ht, goInt], by simp only [Rep]⟩
  · rename_i e size bytes zero fl A n c hti
    have ht := (hT _ _ hti).und
    simp only [] at ht
    simp only [Rep] at hu
    subst hu
    cases h
    exact ⟨.int .i64 (n : Int), by simp [Builtin.len_, run_underlying ht, goInt], by simp only [Rep]⟩
  · rename_i e size bytes zero fl hti
    have ht := (hT _ _ hti).und
    simp only [] at ht
    simp only [Rep] at hu
    obtain ⟨A, rfl⟩ := hu
    cases h
    exact ⟨.int .i64 0, by simp [Builtin.len_, run_underlying ht, goInt], by simp only [Rep]⟩
  · rename_i size bytes zero fl s hti
    have ht := (hT _ _ hti).und
    simp only [] at ht
    simp only [Rep] at hu
    subst hu
    cases h
    exact ⟨.int .i64 (s.size : Int), by simp [Builtin.len_, run_underlying ht, goInt], by simp only [Rep]⟩
  · rename_i n e size bytes zero fl hti
    have ht := (hT _ _ hti).und
    simp only [] at ht
    cases h
    exact ⟨.int .i64 (n : Int), by simp [Builtin.len_, run_underlying ht, goInt], by simp only [Rep]⟩
  · cases h

theorem max2V_sound {x y v : V} (h : max2V x y = some v) {a b : Value} (ha : Rep w Pf ι x a) (hb : Rep w Pf ι y b) : ∃ r, (Builtin.max2 a b).run P w = .ok r w ∧ Rep w Pf ι v r := by
  unfold max2V at h
  split at h
  · simp only [Rep] at ha hb
    subst ha hb
    cases h
    exact ⟨_, rfl, by simp only [Rep]⟩
  · cases h
theorem min2V_sound {x y v : V} (h : min2V x y = some v) {a b : Value} (ha : Rep w Pf ι x a) (hb : Rep w Pf ι y b) : ∃ r, (Builtin.min2 a b).run P w = .ok r w ∧ Rep w Pf ι v r := by
  unfold min2V at h
  split at h
  · simp only [Rep] at ha hb
    subst ha hb
    cases h
    exact ⟨_, rfl, by simp only [Rep]⟩
  · cases h
theorem foldl_sound {f : V → V → Option V} {g : Value → Value → Sem Value} (hfg : ∀ x y v a b, f x y = some v → Rep w Pf ι x a → Rep w Pf ι y b → ∃ r, (g a b).run P w = .ok r w ∧ Rep w Pf ι v r) :
    ∀ (l : List V) (us : List Value) (x v : V) (a : Value), Reps w Pf ι l us → Rep w Pf ι x a → l.foldlM f x = some v → ∃ r, (us.foldlM g a).run P w = .ok r w ∧ Rep w Pf ι v r
  | [], us, x, v, a, hl, hx, h => by
    simp only [Reps] at hl
    subst hl
    simp at h
    subst h
    exact ⟨a, by simp, hx⟩
  | y :: l, us, x, v, a, hl, hx, h => by
    simp only [Reps] at hl
    obtain ⟨b, us', rfl, hy, hl⟩ := hl
    rw [List.foldlM_cons] at h
    cases hf : f x y with
    | none => rw [hf] at h; cases h
    | some z =>
      rw [hf] at h
      obtain ⟨r, h1, h2⟩ := hfg _ _ _ _ _ hf hx hy
      obtain ⟨r', h3, h4⟩ := foldl_sound hfg l us' z v r hl h2 h
      exact ⟨r', by rw [List.foldlM_cons, Sem.run_bind, h1, Result.andThen_ok, h3], h4⟩
end
end Go.Proofs.YtbjmfjfnilmhhaaGreatDoor.Eng
