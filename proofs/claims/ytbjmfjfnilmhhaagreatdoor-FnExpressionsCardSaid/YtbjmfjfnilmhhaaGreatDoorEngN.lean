/- A deterministic reading of Go code over plain data: every step. No conditions. -/
import Derived.Test.YtbjmfjfnilmhhaaGreatDoorEngM
namespace Go.Proofs.YtbjmfjfnilmhhaaGreatDoor.Eng
open Go Go.RowKit

section
variable {P : Program} {w : World} {Pf : Pfs} {ι : Plc} {st : St} {done : Nat → Prop} {a : Act}

theorem astep_sound {C : Cfg} {call : CallF} (hT : TabOk P C.T) (hcall : CallOk P call) (hent : EntOk P C call) (hg : Good w Pf ι st done a) {H' : Hp} (hs : Sub H' st.H) {site : Nat} (hd : ¬ done site) {o : Oper}
    {v : Option V} {δ : List (Nat × Option (Nat × Obj))} (h : astep C call st.ev H' st.tick site o = some (v, δ)) : OpOk P o a w Pf ι st.H st.tick done site v δ := by
  unfold astep at h
  have er := fun x => eval_rep hg x
  split at h
  · rename_i x ho
    cases h
    exact opOk_val (by unfold execOp; rw [ho]; rfl) (er x) hg.desc
  · rename_i x ho
    cases h
    exact opOk_val (by unfold execOp; rw [ho]; rfl) (er x) hg.desc
  · rename_i c x y ho
    split at h
    case h_2 => cases h
    rename_i t hc
    cases h
    have hcv := er c
    rw [hc] at hcv
    simp only [Rep] at hcv
    refine opOk_val (u := if t then a.eval x else a.eval y) (by unfold execOp; rw [ho]; simp [hcv, asBool]) ?_ hg.desc
    cases t
    · exact er y
    · exact er x
  · rename_i t ho
    split at h
    case h_2 => cases h
    rename_i ti hti
    obtain ⟨z, hz1, hz2⟩ := (hT _ _ hti).run_zero (w := w)
    obtain ⟨x, ι', rfl, m⟩ := box_sound hg.desc hd (us := ti.zero) (u := z) (Reps.consts _) hz2 h
    exact opOk_make (e := Instr.alloc t true (.tuple #[])) (by unfold execOp; rw [ho]) (run_alloc hz1) m
  · rename_i t x ho
    split at h
    case h_2 => cases h
    rename_i ti hti
    have hok1 := (okObj_inv (made_inv h).1).2 _ (List.mem_singleton.2 rfl)
    obtain ⟨y, ι', rfl, m⟩ := box_sound hg.desc hd (us := (a.eval x).cells.toList) (u := a.eval x) ((er x).cells hok1) rfl h
    exact opOk_make (e := Instr.box t (a.eval x)) (by unfold execOp; rw [ho]) (run_box t _) m
  · rename_i t parts ho
    obtain ⟨y, hy, rfl, rfl⟩ := ofO_inv h
    obtain ⟨r, h1, h2⟩ := buildV_sound (us := parts.map fun (i, x) => (i, a.eval x)) hT hy (by rw [Array.toList_map]; exact parts_rep hg parts.toList)
    exact opOk_sem hg (by unfold execOp; rw [ho]) h1 h2
  · rename_i t len parts ho
    split at h
    case h_2 => cases h
    rename_i e size bytes zero fl hti
    have ht := (hT _ _ hti).und
    simp only [] at ht
    split at h
    case h_2 => cases h
    rename_i te hte
    split at h
    case isFalse => cases h
    rename_i hc
    split at h
    case h_2 => cases h
    rename_i flat hf
    obtain ⟨u, w', x, ι', h1, rfl, m⟩ := buildSlice_sound hT hg.desc hd ht hte hc.1 hc.2 (us := parts.map fun (i, x) => (i, a.eval x)) (by rw [Array.toList_map]; exact parts_rep hg parts.toList) hf h
    exact opOk_make (by unfold execOp; rw [ho]) h1 m
  · rename_i t x ho
    obtain ⟨y, hy, rfl, rfl⟩ := ofO_inv h
    obtain ⟨r, h1, h2⟩ := loadV_sound (P := P) hT hs hg.desc hy (er x)
    exact opOk_sem hg (by unfold execOp; rw [ho]) h1 h2
  · rename_i t x y ho
    obtain ⟨w', h1, rfl, f, D'⟩ := storeV_sound (P := P) hT hs hg.desc h (er x) (er y)
    intro next Q hn
    have hrun : (execOp a.eval o).run P w = .ok .skip w' := by
      unfold execOp
      rw [ho]
      simp only [Sem.run_bind, h1, Result.andThen_ok, Sem.run_pure]
    unfold Oper.wp
    rw [hrun, Oper.upon_skip]
    exact hn undef w' ι f (by simp only [Option.getD_none, Rep]) (D'.more fun s h => .inl h)
  · rename_i x ho
    split at h
    · rename_i id vr sz i j hx
      cases h
      have hr := er x
      rw [hx] at hr
      have hr' := hr
      simp only [Rep] at hr'
      obtain ⟨g, t, _, he⟩ := hr'
      exact opOk_val (u := a.eval x) (by unfold execOp; rw [ho]; simp only [he]; rfl) hr hg.desc
    · rename_i b' l hx
      cases h
      have hr := er x
      rw [hx] at hr
      have hr' := hr
      simp only [Rep] at hr'
      obtain ⟨g, he, _⟩ := hr'
      exact opOk_val (u := a.eval x) (by unfold execOp; rw [ho]; simp only [he]; rfl) hr hg.desc
    · rename_i f l hx
      cases h
      have hr := er x
      rw [hx] at hr
      have hr' := hr
      simp only [Rep] at hr'
      obtain ⟨us, he, _⟩ := hr'
      exact opOk_val (u := a.eval x) (by unfold execOp; rw [ho]; simp only [he]; rfl) hr hg.desc
    · cases h
  · rename_i op t x y _ ho
    split at h
    · rename_i hnil
      obtain rfl := nilB_eq hnil
      obtain ⟨r, hr, rfl, rfl⟩ := ofO_inv h
      unfold nilCmp at hr
      split at hr
      case h_2 => cases hr
      rename_i a1 a2 a3 a4 hti
      obtain ⟨ms, hms⟩ := (hT _ _ hti).und
      have hx := er x
      have run0 : ∀ (a' : Value), a.eval x = a' → (a' = .nilIface ∨ ∃ t' x', a' = .iface t' x') → ∀ (bq : Bool), (Op.equal t a' .nilIface).run P w = .ok bq w →
          (∀ v, (op = .eql → v = .bool bq) → (op = .neq → v = .bool (!bq)) → (op = .eql ∨ op = .neq) → (do eqGuard op t x (.const .nilIface) a' .nilIface; binOp op t a' .nilIface : Sem Value).run P w = .ok v w) := by
        rintro a' - ha' bq hq v hv1 hv2 hop
        rw [Sem.run_bind]
        have hg0 : (eqGuard op t x (.const .nilIface) a' .nilIface).run P w = .ok () w := by
          unfold eqGuard
          rcases ha' with rfl | ⟨t', x', rfl⟩ <;> rcases hop with rfl | rfl <;> first | rfl | simp
        rw [hg0, Result.andThen_ok]
        have he := eqls (_op := op) (w := w) hq
        rcases hop with rfl | rfl
        · rw [hv1 rfl]
          rcases ha' with rfl | ⟨t', x', rfl⟩ <;> exact he.1
        · rw [hv2 rfl]
          rcases ha' with rfl | ⟨t', x', rfl⟩ <;> exact he.2
      have eq0 : (Op.equal t .nilIface .nilIface).run P w = .ok true w := by
        rw [equal_is]; exact eq_ifc0 9999 hms
      have eq1 : ∀ t' x', (Op.equal t (.iface t' x') .nilIface).run P w = .ok false w := by
        intro t' x'
        rw [equal_is]; exact eq_ifc1 9999 hms t' x'
      split at hr
      all_goals first | (cases hr; done) | skip
      all_goals
        rename_i hxx
        rw [hxx] at hx
        simp only [Rep] at hx
        cases hr
      · exact opOk_sem (e := do eqGuard .eql t x (.const .nilIface) (a.eval x) .nilIface; binOp .eql t (a.eval x) .nilIface) hg (by unfold execOp; rw [ho]; rfl) (by rw [hx]; exact run0 _ hx (.inl rfl) true eq0 _ (fun _ => rfl) (fun h => by cases h) (.inl rfl)) (by simp only [Rep])
      · exact opOk_sem (e := do eqGuard .neq t x (.const .nilIface) (a.eval x) .nilIface; binOp .neq t (a.eval x) .nilIface) hg (by unfold execOp; rw [ho]; rfl) (by rw [hx]; exact run0 _ hx (.inl rfl) true eq0 _ (fun h => by cases h) (fun _ => rfl) (.inr rfl)) (by simp only [Rep]; rfl)
      · obtain ⟨t', x', hx⟩ := hx
        exact opOk_sem (e := do eqGuard .eql t x (.const .nilIface) (a.eval x) .nilIface; binOp .eql t (a.eval x) .nilIface) hg (by unfold execOp; rw [ho]; rfl) (by rw [hx]; exact run0 _ hx (.inr ⟨_, _, rfl⟩) false (eq1 _ _) _ (fun _ => rfl) (fun h => by cases h) (.inl rfl)) (by simp only [Rep])
      · obtain ⟨t', x', hx⟩ := hx
        exact opOk_sem (e := do eqGuard .neq t x (.const .nilIface) (a.eval x) .nilIface; binOp .neq t (a.eval x) .nilIface) hg (by unfold execOp; rw [ho]; rfl) (by rw [hx]; exact run0 _ hx (.inr ⟨_, _, rfl⟩) false (eq1 _ _) _ (fun h => by cases h) (fun _ => rfl) (.inr rfl)) (by simp only [Rep]; rfl)
    have key : ∀ (u : Value) (v : V), (binOp op t (a.eval x) (a.eval y)).run P w = .ok u w → (∀ l, a.eval x ≠ .agg l) → a.eval x ≠ .nilIface → Rep w Pf ι v u → OpOk P o a w Pf ι st.H st.tick done site (some v) [] := by
      intro u v h1 h2 h3 h4
      refine opOk_sem (e := do eqGuard op t x y (a.eval x) (a.eval y); binOp op t (a.eval x) (a.eval y)) hg (by unfold execOp; rw [ho]) ?_ h4
      rw [Sem.run_bind, run_eqGuard _ _ _ _ _ _ h2 h3, Result.andThen_ok, h1]
    split at h
    · rename_i p q hp hq
      have hp' := er x
      have hq' := er y
      rw [hp] at hp'
      rw [hq] at hq'
      split at h
      · rename_i r hbin
        cases h
        have hp'' := hp'
        have hq'' := hq'
        simp only [Rep] at hp'' hq''
        obtain ⟨h1, h2, h3⟩ := bin_sound (P := P) (w := w) hbin t
        refine key r _ ?_ ?_ ?_ (by simp only [Rep])
        · rw [hp'', hq'']; exact h1
        · rw [hp'']; exact h2
        · rw [hp'']; exact h3
      · split at h
        case h_2 => cases h
        rename_i ti hti
        obtain ⟨r, hr, rfl, rfl⟩ := ofO_inv h
        obtain ⟨u, h1, h2, h3, h4⟩ := binT_sound (P := P) hr (hT _ _ hti) rfl hp' hq'
        exact key u r h1 h2 h3 h4
    · split at h
      case h_2 => cases h
      rename_i ti hti
      obtain ⟨r, hr, rfl, rfl⟩ := ofO_inv h
      unfold binA at hr
      split at hr
      · rename_i l m hl hm
        split at hr
        case isFalse => cases hr
        rename_i hc
        obtain ⟨hc1, hc2, hc3⟩ := hc
        have hx := er x
        have hy := er y
        rw [hl] at hx
        rw [hm] at hy
        obtain ⟨us, hu, hus⟩ := (by simpa only [Rep] using hx : ∃ us : List Value, a.eval x = .agg us.toArray ∧ Reps w Pf ι l us)
        obtain ⟨vs, hv, hvs⟩ := (by simpa only [Rep] using hy : ∃ us : List Value, a.eval y = .agg us.toArray ∧ Reps w Pf ι m us)
        have hb := fun b he => eqA_sound (P := P) (w := w) (op := op) (x := x) (y := y) (hT _ _ hti) hc1 hc2 hc3 hus hvs (b := b) he
        split at hr
        · rename_i r' he
          cases hr
          exact opOk_sem (e := do eqGuard .eql t x y (a.eval x) (a.eval y); binOp .eql t (a.eval x) (a.eval y)) hg (by unfold execOp; rw [ho]) (by rw [hu, hv]; exact (hb r' he).1 rfl) (by simp only [Rep])
        · rename_i r' he
          cases hr
          exact opOk_sem (e := do eqGuard .neq t x y (a.eval x) (a.eval y); binOp .neq t (a.eval x) (a.eval y)) hg (by unfold execOp; rw [ho]) (by rw [hu, hv]; exact (hb r' he).2 rfl) (by simp only [Rep])
        · cases hr
      · obtain ⟨u, h1, h2, h3, h4⟩ := binT_sound (P := P) hr (hT _ _ hti) rfl (er x) (er y)
        exact key u r h1 h2 h3 h4
  · rename_i op t x ho
    split at h
    case h_2 => cases h
    rename_i p hp
    split at h
    case h_2 => cases h
    rename_i r hr
    cases h
    have hp' := er x
    rw [hp] at hp'
    simp only [Rep] at hp'
    exact opOk_sem (e := Op.unary op (a.eval x)) hg (by unfold execOp; rw [ho]) (by rw [hp']; exact un1_sound hr) (by simp only [Rep])
  · rename_i src dst x ho
    split at h
    · rename_i y hy
      cases h
      obtain ⟨r, h1, h2⟩ := convV_sound (P := P) hT hy (er x)
      exact opOk_sem hg (by unfold execOp; rw [ho]) h1 h2
    · split at h
      · rename_i e s hb
        obtain ⟨u, w', x', ι', hrun, rfl, mk⟩ := bytesV_sound (P := P) hT hg.desc hd hb h (er x)
        exact opOk_make (by unfold execOp; rw [ho]) hrun mk
      · obtain ⟨y, hy, rfl, rfl⟩ := ofO_inv h
        obtain ⟨r, h1, h2⟩ := strV_sound (P := P) hT hs hg.desc hy (er x)
        exact opOk_sem hg (by unfold execOp; rw [ho]) h1 h2
  · rename_i f first caps ho
    split at h
    case isFalse => cases h
    rename_i hf
    cases h
    have hfe : first = #[] := by simpa using hf
    subst hfe
    refine opOk_sem (e := Instr.makeFunc (.func f) ((#[] : Array Operand).map a.eval) (caps.map a.eval)) (u := .func (.func f) #[] (caps.map a.eval)) hg (by unfold execOp; rw [ho]) (by simp [Instr.makeFunc]) ?_
    simp only [Rep]
    exact ⟨caps.toList.map a.eval, by congr 1; apply Array.ext'; simp, evals_rep hg caps.toList⟩
  · rename_i t l c ho
    split at h
    case h_2 => cases h
    rename_i e size bytes zero fl k n k' m hti hl hc
    have ht := (hT _ _ hti).und
    simp only [] at ht
    split at h
    case h_2 => cases h
    rename_i te hte
    split at h
    case isFalse => cases h
    rename_i hcd
    obtain ⟨h0, h1, h2, h3, h4⟩ := hcd
    have hl' := er l
    have hc' := er c
    rw [hl] at hl'
    rw [hc] at hc'
    simp only [Rep] at hl' hc'
    obtain ⟨u, w', x, ι', hrun, rfl, mk⟩ := makeSlice_sound (P := P) hT hg.desc hd ht hte (k := k) (k' := k') h0 h1 h2 h3 h4 h
    exact opOk_make (e := Instr.makeSlice t (a.eval l) (a.eval c)) (by unfold execOp; rw [ho]) (by rw [hl', hc']; exact hrun) mk
  · rename_i t x lo hi mx ho
    obtain ⟨y, hy, rfl, rfl⟩ := ofO_inv h
    cases mx with
    | some z =>
      obtain ⟨r, h1, h2⟩ := sliceV_sound3 (P := P) hT hy (er x) (oRep hg lo) (oRep hg hi) (er z)
      exact opOk_sem hg (by unfold execOp; rw [ho]; rfl) h1 h2
    | none =>
      obtain ⟨r, h1, h2⟩ := sliceV_sound (P := P) hT hy (er x) (oRep hg lo) (oRep hg hi)
      exact opOk_sem hg (by unfold execOp; rw [ho]; rfl) h1 h2
  · rename_i t x f ho
    obtain ⟨y, hy, rfl, rfl⟩ := ofO_inv h
    obtain ⟨r, h1, h2⟩ := fieldAddrV_sound (P := P) hT hy (er x)
    exact opOk_sem hg (by unfold execOp; rw [ho]) h1 h2
  · rename_i t x f ho
    obtain ⟨y, hy, rfl, rfl⟩ := ofO_inv h
    obtain ⟨r, h1, h2⟩ := fieldV_sound (P := P) hT hy (er x)
    exact opOk_sem hg (by unfold execOp; rw [ho]) h1 h2
  · rename_i t x i ho
    obtain ⟨y, hy, rfl, rfl⟩ := ofO_inv h
    obtain ⟨r, h1, h2⟩ := indexAddrV_sound (P := P) hT hy (er x) (er i)
    exact opOk_sem hg (by unfold execOp; rw [ho]) h1 h2
  · rename_i t x i ho
    obtain ⟨y, hy, rfl, rfl⟩ := ofO_inv h
    obtain ⟨r, h1, h2⟩ := indexV_sound (P := P) hT hy (er x) (er i)
    exact opOk_sem hg (by unfold execOp; rw [ho]) h1 h2
  · rename_i x i ho
    split at h
    case h_2 => cases h
    rename_i l hx
    obtain ⟨y, hy, rfl, rfl⟩ := ofO_inv h
    have hr := er x
    rw [hx] at hr
    simp only [Rep] at hr
    obtain ⟨us, he, hr⟩ := hr
    obtain ⟨u, h1, h2⟩ := hr.get _ _ hy
    refine opOk_sem (e := Instr.extract (a.eval x) i) (u := u) hg (by unfold execOp; rw [ho]) ?_ h2
    rw [he]
    have : us.toArray[i]? = some u := by simpa using h1
    simp [Instr.extract, this]
  · rename_i c ho
    exact callO_sound hT hcall hent hg hs hd ho h
  · cases h
end
end Go.Proofs.YtbjmfjfnilmhhaaGreatDoor.Eng
