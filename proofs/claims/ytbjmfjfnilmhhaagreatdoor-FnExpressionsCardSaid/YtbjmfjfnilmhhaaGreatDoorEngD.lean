/- A deterministic reading of Go code over plain data: what the operations that leave memory alone do to the machine. No conditions. -/
import Derived.Test.YtbjmfjfnilmhhaaGreatDoorEngC
namespace Go.Proofs.YtbjmfjfnilmhhaaGreatDoor.Eng
open Go Go.RowKit

structure Good (w : World) (Pf : Pfs) (ι : Plc) (st : St) (done : Nat → Prop) (a : Act) : Prop where
  rep : ∀ x, Rep w Pf ι (st.ρ x) (a.tmps.getD x undef)
  desc : Desc w Pf ι st.H st.tick done
  defers : a.defers = []

/-- The operation comes to what the step says. -/
def OpOk (P : Program) (o : Oper) (a : Act) (w : World) (Pf : Pfs) (ι : Plc) (H : Hp) (tick : Nat) (done : Nat → Prop) (site : Nat) (v : Option V) (δ : List (Nat × Option (Nat × Obj))) : Prop :=
  ∀ (next : Act → World → Prop) (Q : Exit → Act → World → Prop), (∀ u w' ι', Fwd Pf w w' ι ι' → Rep w' Pf ι' (v.getD (.c undef)) u → Desc w' Pf ι' (applyD H δ) tick (fun s => done s ∨ s = site) → next (a.put o.dst u) w') → o.wp P a w next Q

section
variable {P : Program} {w : World} {Pf : Pfs} {ι : Plc} {H : Hp} {tick : Nat} {done : Nat → Prop}
theorem Desc.more (D : Desc w Pf ι H tick done) {done' : Nat → Prop} (h : ∀ s, done s → done' s) : Desc w Pf ι H tick done' :=
  ⟨D.own, D.fresh, fun id hd => D.fresh' id (fun x => hd (h _ x)), D.inj, D.lt, D.sub, D.glob⟩
theorem opOk_val {o : Oper} {a : Act} {site : Nat} {u : Value} {v : V} (hrun : (execOp a.eval o).run P w = .ok (.value u) w) (hr : Rep w Pf ι v u) (D : Desc w Pf ι H tick done) :
    OpOk P o a w Pf ι H tick done site (some v) [] := by
  intro next Q hn
  unfold Oper.wp
  rw [hrun, Oper.upon_value]
  exact hn u w ι (Fwd.refl _ _ _) hr (D.more fun s h => .inl h)
theorem eval_rep {st : St} {a : Act} (hg : Good w Pf ι st done a) (x : Operand) : Rep w Pf ι (st.ev x) (a.eval x) := by
  cases x with
  | tmp t => exact hg.rep t
  | const v => simp only [St.ev, Act.eval, Rep]
  | global g => simp only [St.ev, Act.eval, Rep]
  | func f => simp only [St.ev, Act.eval, Rep]; exact ⟨[], rfl, by simp [Reps]⟩

theorem run_eqGuard (op : BinOp) (t : TypeId) (x y : Operand) (a b : Value) (h : ∀ l, a ≠ .agg l) (h' : a ≠ .nilIface) : (eqGuard op t x y a b).run P w = .ok () w := by
  unfold eqGuard
  cases op <;> cases a <;> first | rfl | exact absurd rfl (h _) | exact absurd rfl h'

theorem bin_sound {op : BinOp} {x y v : Value} (h : bin op x y = some v) (t : TypeId) : (binOp op t x y).run P w = .ok v w ∧ (∀ l, x ≠ .agg l) ∧ x ≠ .nilIface := by
  unfold bin at h
  split at h
  · rename_i k a k' b
    refine ⟨?_, fun l hl => (by cases hl), fun hl => (by cases hl)⟩
    split at h
    · split at h
      · cases h
      · cases h; rename_i hb
        simp only [binOp, Op.shift, hb, if_false, Sem.run_pure]
    · split at h
      · cases h
      · cases h; rename_i hb
        simp only [binOp, Op.shift, hb, if_false, Sem.run_pure]
    · split at h
      · rename_i hk
        subst hk
        cases op <;> simp only [] at h <;> first
          | (cases h; done)
          | (cases h; simp [binOp, Op.intArith, Op.intCmp, Op.intBits]; done)
          | (split at h
             · cases h
             · cases h; rename_i hb; simp [binOp, Op.intDiv, hb])
          | (cases h; simp only [binOp, Op.intArith, Op.intCmp, Op.intBits, ne_eq, not_true_eq_false, if_false, Sem.run_pure])
          | (exfalso; rename_i h1 h2; first | exact h1 rfl | exact h2 rfl)
      · cases h
  · rename_i a b
    refine ⟨?_, fun l hl => (by cases hl), fun hl => (by cases hl)⟩
    cases op <;> simp only [] at h <;> first
      | (cases h; done)
      | (cases h; simp only [binOp, Op.stringOp, Sem.run_pure]; done)
      | (split at h
         · cases h; rename_i hb
           simp only [binOp, Op.stringOp]
           rw [if_neg (by have : IntKind.i64.max = 9223372036854775807 := by decide
                          rw [this]; omega)]; rfl
         · cases h)
  · cases h

theorem rep_slice_none {x : Value} : ∀ {n c : Nat}, Rep w Pf ι (.c (.slice none n c)) x → x = .slice none n c := fun h => by simpa only [Rep] using h

theorem eq_bool (d : Nat) {t : TypeId} (ht : P.underlying t = some .bool) (a b : Bool) : (Op.equalIn (d + 1) t (.bool a) (.bool b)).run P w = .ok (a == b) w := by
  simp [Op.equalIn, run_underlying ht]
theorem eq_slice1 (d : Nat) {t e : TypeId} (ht : P.underlying t = some (.slice e)) (ad : Addr) (n c n' c' : Nat) : (Op.equalIn (d + 1) t (.slice (some ad) n c) (.slice none n' c')).run P w = .ok false w := by
  simp [Op.equalIn, run_underlying ht]
theorem eq_slice0 (d : Nat) {t e : TypeId} (ht : P.underlying t = some (.slice e)) (n c n' c' : Nat) : (Op.equalIn (d + 1) t (.slice none n c) (.slice none n' c')).run P w = .ok true w := by
  simp [Op.equalIn, run_underlying ht]
theorem eq_ifc0 (d : Nat) {t : TypeId} {ms} (ht : P.underlying t = some (.interface ms)) : (Op.equalIn (d + 1) t .nilIface .nilIface).run P w = .ok true w := by
  simp [Op.equalIn, run_underlying ht]
theorem eq_ifc1 (d : Nat) {t : TypeId} {ms} (ht : P.underlying t = some (.interface ms)) (t' : TypeId) (x' : Value) : (Op.equalIn (d + 1) t (.iface t' x') .nilIface).run P w = .ok false w := by
  simp [Op.equalIn, run_underlying ht]
theorem equal_is (t : TypeId) (x y : Value) : Op.equal t x y = Op.equalIn (9999 + 1) t x y := rfl
theorem eqls {_op : BinOp} {t : TypeId} {x y : Value} {r : Bool} (hr : (Op.equal t x y).run P w = .ok r w) :
    ((do pure (.bool (← Op.equal t x y)) : Sem Value).run P w = .ok (.bool r) w) ∧ ((do pure (.bool (!(← Op.equal t x y))) : Sem Value).run P w = .ok (.bool (!r)) w) := by
  constructor <;> rw [Sem.run_bind, hr, Result.andThen_ok, Sem.run_pure]

theorem binT_sound {k : TK} {op : BinOp} {x y v : V} (h : binT k op x y = some v) {t : TypeId} {i : TI} (ht : TiOk P t i) (hk : i.k = k) {a b : Value} (ha : Rep w Pf ι x a) (hb : Rep w Pf ι y b) :
    ∃ u, (binOp op t a b).run P w = .ok u w ∧ (∀ l, a ≠ .agg l) ∧ a ≠ .nilIface ∧ Rep w Pf ι v u := by
  have hu := ht.und
  rw [hk] at hu
  unfold binT at h
  split at h
  · rename_i a' b'
    simp only [] at hu
    simp only [Rep] at ha hb
    subst ha hb
    have he := eqls (_op := op) (w := w) (by rw [equal_is]; exact eq_bool (w := w) 9999 hu a' b')
    split at h <;> cases h
    · exact ⟨_, he.1, fun l hl => (by cases hl), fun hl => (by cases hl), by simp only [Rep]⟩
    · exact ⟨_, he.2, fun l hl => (by cases hl), fun hl => (by cases hl), by simp only [Rep]⟩
  · rename_i e id vr sz off len n c
    simp only [] at hu
    simp only [Rep] at ha hb
    obtain ⟨g, tot, ad, cap, _, rfl, _⟩ := ha
    subst hb
    have he := eqls (_op := op) (w := w) (by rw [equal_is]; exact eq_slice1 (w := w) 9999 hu ad len cap n c)
    split at h <;> cases h
    · exact ⟨_, he.1, fun l hl => (by cases hl), fun hl => (by cases hl), by simp only [Rep]⟩
    · exact ⟨_, he.2, fun l hl => (by cases hl), fun hl => (by cases hl), by simp only [Rep, Bool.not_false]⟩
  · rename_i e bb fl sz l n c
    split at h
    · cases h
    rename_i hne
    simp only [] at hu
    simp only [Rep] at ha hb
    obtain ⟨A, cap, rfl, _, _, _, _, hA⟩ := ha
    obtain ⟨ad, rfl, _⟩ := hA.resolve_left hne
    subst hb
    have he := eqls (_op := op) (w := w) (by rw [equal_is]; exact eq_slice1 (w := w) 9999 hu ad l.length cap n c)
    split at h <;> cases h
    · exact ⟨_, he.1, fun l hl => (by cases hl), fun hl => (by cases hl), by simp only [Rep]⟩
    · exact ⟨_, he.2, fun l hl => (by cases hl), fun hl => (by cases hl), by simp only [Rep, Bool.not_false]⟩
  · rename_i e n c n' c'
    simp only [] at hu
    simp only [Rep] at ha hb
    subst ha hb
    have he := eqls (_op := op) (w := w) (by rw [equal_is]; exact eq_slice0 (w := w) 9999 hu n c n' c')
    split at h <;> cases h
    · exact ⟨_, he.1, fun l hl => (by cases hl), fun hl => (by cases hl), by simp only [Rep]⟩
    · exact ⟨_, he.2, fun l hl => (by cases hl), fun hl => (by cases hl), by simp only [Rep, Bool.not_true]⟩
  · cases h

theorem un1_sound {op : UnOp} {x v : Value} (h : un1 op x = some v) : (Op.unary op x).run P w = .ok v w := by
  unfold un1 at h
  split at h
  · cases h; simp [Op.unary, Op.intArith]
  · cases h; simp [Op.unary]
  · cases h
end
end Go.Proofs.YtbjmfjfnilmhhaaGreatDoor.Eng
