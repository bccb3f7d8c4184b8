/- A deterministic reading of Go code over plain data: every operation. No conditions. -/
import Derived.Test.YtbjmfjfnilmhhaaGreatDoorEngW
namespace Go.Proofs.YtbjmfjfnilmhhaaGreatDoor.Eng
open Go Go.RowKit


section
variable {P : Program} {w : World} {Pf : Pfs} {ι : Plc} {st : St} {done : Nat → Prop} {a : Act}

theorem evals_rep (hg : Good w Pf ι st done a) : ∀ (l : List Operand), Reps w Pf ι (l.map st.ev) (l.map a.eval)
  | [] => by simp [Reps]
  | x :: l => by simp only [List.map_cons, Reps]; exact ⟨_, _, rfl, eval_rep hg x, evals_rep hg l⟩
theorem parts_rep (hg : Good w Pf ι st done a) : ∀ (l : List (Nat × Operand)), PReps w Pf ι (l.map fun q => (q.1, st.ev q.2)) (l.map fun q => (q.1, a.eval q.2))
  | [] => by simp [PReps]
  | x :: l => by simp only [List.map_cons, PReps]; exact ⟨_, _, rfl, eval_rep hg x.2, parts_rep hg l⟩

theorem opOk_run {o : Oper} {site : Nat} {x : V} {w' : World} {ι' : Plc} {u : Value} {δ : List (Nat × Option (Nat × Obj))} (hrun : (execOp a.eval o).run P w = .ok (.value u) w') (m : Makes w w' Pf ι ι' st.H st.tick done site x u δ) :
    OpOk P o a w Pf ι st.H st.tick done site (some x) δ := by
  intro next Q hn
  unfold Oper.wp
  rw [hrun, Oper.upon_value]
  exact hn u w' ι' m.fwd m.rep m.desc

theorem ofO_inv {x : Option V} {v : Option V} {δ : List (Nat × Option (Nat × Obj))} (h : ofO x = some (v, δ)) : ∃ y, x = some y ∧ v = some y ∧ δ = [] := by
  unfold ofO at h
  cases x with
  | none => cases h
  | some y => cases h; exact ⟨y, rfl, rfl, rfl⟩

/-- An operation whose value is computed, memory as it is. -/
theorem opOk_sem {o : Oper} {site : Nat} {x : V} {e : Sem Value} {u : Value} (hg : Good w Pf ι st done a) (he : execOp a.eval o = (do pure (.value (← e)))) (hrun : e.run P w = .ok u w) (hr : Rep w Pf ι x u) :
    OpOk P o a w Pf ι st.H st.tick done site (some x) [] := by
  refine opOk_val ?_ hr hg.desc
  rw [he, Sem.run_bind, hrun, Result.andThen_ok, Sem.run_pure]

theorem opOk_make {o : Oper} {site : Nat} {x : V} {e : Sem Value} {u : Value} {w' : World} {ι' : Plc} {δ : List (Nat × Option (Nat × Obj))} (he : execOp a.eval o = (do pure (.value (← e)))) (hrun : e.run P w = .ok u w') (m : Makes w w' Pf ι ι' st.H st.tick done site x u δ) :
    OpOk P o a w Pf ι st.H st.tick done site (some x) δ := by
  refine opOk_run ?_ m
  rw [he, Sem.run_bind, hrun, Result.andThen_ok, Sem.run_pure]

theorem map_one {α β : Type} {xs : Array α} {f : α → β} {y : β} (h : xs.toList.map f = [y]) : ∃ x, xs = #[x] ∧ f x = y := by
  obtain ⟨l⟩ := xs
  match l, h with
  | [x], h => simp at h; exact ⟨x, rfl, h⟩
theorem map_two {α β : Type} {xs : Array α} {f : α → β} {y z : β} (h : xs.toList.map f = [y, z]) : ∃ x x', xs = #[x, x'] ∧ f x = y ∧ f x' = z := by
  obtain ⟨l⟩ := xs
  match l, h with
  | [x, x'], h => simp at h; exact ⟨x, x', rfl, h.1, h.2⟩
theorem list_one {α : Type} {xs : Array α} {y : α} (h : xs.toList = [y]) : xs = #[y] := by
  obtain ⟨l⟩ := xs; simp at h; rw [h]
theorem list_two {α : Type} {xs : Array α} {y z : α} (h : xs.toList = [y, z]) : xs = #[y, z] := by
  obtain ⟨l⟩ := xs; simp at h; rw [h]

theorem callO_sound {C : Cfg} {call : CallF} (hT : TabOk P C.T) (hcall : CallOk P call) (hent : EntOk P C call) (hg : Good w Pf ι st done a) {H' : Hp} (hs : Sub H' st.H) {site : Nat} (hd : ¬ done site) {o : Oper} {c : Call} (ho : o.op = .call c)
    {v : Option V} {δ : List (Nat × Option (Nat × Obj))} (h : callO C call st.ev H' st.tick site c = some (v, δ)) : OpOk P o a w Pf ι st.H st.tick done site v δ := by
  unfold callO at h
  split at h
  · rename_i fo hcal
    split at h
    case h_2 => cases h
    rename_i f caps hev
    have hfo := eval_rep hg fo
    rw [hev] at hfo
    simp only [Rep] at hfo
    obtain ⟨us, hfo, hcaps⟩ := hfo
    have fin : Enters P f → (Calls P f (c.args.toList.map a.eval ++ us).toArray w fun e w' => ∃ u ι' x, e = .returned u ∧ v = some x ∧ Makes w w' Pf ι ι' st.H st.tick done site x u δ) → OpOk P o a w Pf ι st.H st.tick done site v δ := by
      intro hent' hcs
      intro next Q hn
      have hrun : (execOp a.eval o).run P w = .ok (.enter f (c.args.toList.map a.eval ++ us).toArray) w := by
        unfold execOp
        rw [ho]
        simp only [resolve, hcal, hfo, Deferred.ofValue, Sem.run_bind, Sem.run_pure, Result.andThen_ok, invoke]
        rw [hent']
        congr 2
        apply Array.ext'
        simp
      unfold Oper.wp
      rw [hrun, Oper.upon_enter]
      refine hcs.mono ?_
      rintro e w' ⟨u, ι', x, rfl, rfl, m⟩
      exact hn u w' ι' m.fwd m.rep m.desc
    split at h
    · rename_i k hk
      have hB := hent.2.1 f k hk
      exact fin hB.1 (bldV_sound hB hs hg.desc hd h ((evals_rep hg c.args.toList).append hcaps))
    · have hent' : Enters P f := by
        unfold callV at h
        simp only [] at h
        generalize (if C.wr f then (c.args.toList.map st.ev ++ caps).flatMap (rootOf (C.own f)) else []) = R at h
        split at h
        · cases h
        split at h
        · cases h
        split at h
        case isFalse => cases h
        split at h
        case h_2 => cases h
        split at h
        · cases h
        · rename_i hc; exact hent.1 _ _ _ _ hc
      exact fin hent' (callV_sound hcall hs hg.desc hd h ((evals_rep hg c.args.toList).append hcaps))
  · rename_i bi hcal
    have hx : ∀ (e : Sem Value), builtin bi c.argTypes o.type (c.args.map fun | .const _ => true | _ => false) (c.args.map a.eval) = (do pure (.value (← e))) → execOp a.eval o = (do pure (.value (← e))) := by
      intro e he
      unfold execOp
      rw [ho]
      simp only [resolve, hcal, pure_bind, invoke]
      exact he
    split at h
    · rename_i x t hargs hts
      obtain ⟨y, hy, rfl, rfl⟩ := ofO_inv h
      obtain ⟨op1, hop, hev⟩ := map_one hargs
      have hts' := list_one hts
      have hr := eval_rep hg op1
      rw [hev] at hr
      obtain ⟨r, h1, h2⟩ := lenV_sound hT hy hr o.type
      refine opOk_sem (e := Builtin.len_ #[t] o.type #[a.eval op1]) hg (hx _ ?_) h1 h2
      rw [hop, hts']
      simp only [builtin, List.map_toArray, List.map_cons, List.map_nil]
    · rename_i x y t t' hargs hts
      split at h
      case isFalse => cases h
      rename_i htt
      subst htt
      obtain ⟨op1, op2, hop, hev1, hev2⟩ := map_two hargs
      have hts' := list_two hts
      have hr1 := eval_rep hg op1
      have hr2 := eval_rep hg op2
      rw [hev1] at hr1
      rw [hev2] at hr2
      obtain ⟨u, w', x', ι', h1, rfl, m⟩ := appendV_sound (P := P) (ty := o.type) hT hs hg.desc hd h hr1 hr2
      refine opOk_make (e := Builtin.append_ #[t, t] o.type #[a.eval op1, a.eval op2]) (hx _ ?_) h1 m
      rw [hop, hts']
      simp only [builtin, List.map_toArray, List.map_cons, List.map_nil]
    · rename_i x y t t' hargs hts
      obtain ⟨op1, op2, hop, hev1, hev2⟩ := map_two hargs
      have hts' := list_two hts
      have hr1 := eval_rep hg op1
      have hr2 := eval_rep hg op2
      rw [hev1] at hr1
      rw [hev2] at hr2
      obtain ⟨u, w', x', h1, rfl, m⟩ := copyV_sound (P := P) (t' := t') (ty := o.type) (site := site) hT hs hg.desc h hr1 hr2
      refine opOk_make (e := Builtin.copy_ #[t, t'] o.type #[a.eval op1, a.eval op2]) (hx _ ?_) h1 m
      rw [hop, hts']
      simp only [builtin, List.map_toArray, List.map_cons, List.map_nil]
    · rename_i x t hargs hts
      obtain ⟨op1, hop, hev⟩ := map_one hargs
      have hts' := list_one hts
      have hr := eval_rep hg op1
      rw [hev] at hr
      obtain ⟨u, w', x', h1, rfl, m⟩ := clearV_sound (P := P) (ty := o.type) (site := site) hT hs hg.desc h hr
      refine opOk_make (e := Builtin.clear_ #[t] o.type #[a.eval op1]) (hx _ ?_) h1 m
      rw [hop, hts']
      simp only [builtin, List.map_toArray, List.map_cons, List.map_nil]
    · rename_i l _ hl
      obtain ⟨y, hy, rfl, rfl⟩ := ofO_inv h
      unfold foldV at hy
      split at hy
      · cases hy
      rename_i x l' hl'
      have hreps := evals_rep hg c.args.toList
      rw [hl'] at hreps
      simp only [Reps] at hreps
      obtain ⟨u, us', hus, h1, h2⟩ := hreps
      obtain ⟨r, h3, h4⟩ := foldl_sound (P := P) (f := max2V) (g := Builtin.max2) (fun x y v a b h ha hb => max2V_sound h ha hb) l' us' x y u h2 h1 hy
      refine opOk_sem (e := Builtin.max_ c.argTypes o.type (c.args.map a.eval)) hg (hx _ rfl) ?_ h4
      unfold Builtin.max_
      have : (c.args.map a.eval).toList = u :: us' := by rw [Array.toList_map]; exact hus
      rw [this]
      exact h3
    · rename_i l _ hl
      obtain ⟨y, hy, rfl, rfl⟩ := ofO_inv h
      unfold foldV at hy
      split at hy
      · cases hy
      rename_i x l' hl'
      have hreps := evals_rep hg c.args.toList
      rw [hl'] at hreps
      simp only [Reps] at hreps
      obtain ⟨u, us', hus, h1, h2⟩ := hreps
      obtain ⟨r, h3, h4⟩ := foldl_sound (P := P) (f := min2V) (g := Builtin.min2) (fun x y v a b h ha hb => min2V_sound h ha hb) l' us' x y u h2 h1 hy
      refine opOk_sem (e := Builtin.min_ c.argTypes o.type (c.args.map a.eval)) hg (hx _ rfl) ?_ h4
      unfold Builtin.min_
      have : (c.args.map a.eval).toList = u :: us' := by rw [Array.toList_map]; exact hus
      rw [this]
      exact h3
    · cases h
  · cases h
end
end Go.Proofs.YtbjmfjfnilmhhaaGreatDoor.Eng
