/- A deterministic reading of Go code over plain data: what functions of the program compute. No conditions. -/
import Derived.Test.YtemkckldfmpplaaLmbase
import Derived.Test.YtemkckldfmpplaaLmimpl
import Derived.Test.YtemkckldfmpplaaLmgood
import Derived.Test.YtemkckldfmpplaaLmfield
import Derived.Test.YtemkckldfmpplaaLmnested
import Derived.Test.YtemkckldfmpplaaLmpeaki
import Derived.Test.YtemkckldfmpplaaEngT
namespace Go.Proofs.Ytemkckldfmpplaa.Eng
open Go Go.Proofs
set_option maxRecDepth 100000
set_option maxHeartbeats 2000000
set_option linter.unusedSimpArgs false
set_option linter.unusedVariables false
attribute [local simp] finK fin1 hpOf xi renQ isRoot runCode runOps stepX inlOf Eng.step wantedV astep val ofO made loadV storeV find V.cells bin binT binA numT numFs eqCells un1 setAt fieldAddrV fieldV indexAddrV indexV bounds sliceV convV lenV foldV max2V min2V callO bor rdsO wrsO seen_none okD_none loops keepIds resV resultsV St.ev TK.agg refs refsL refsO V.one V.isC Value.oneCell' ren renL renO noTag noTagL noTagR noTagO nodup mapO passV frs psi refsR newD loopNext opsAt idx flatAt rootOf backR newsV appendV copyV clearV strV bytesV bldV bufV selfV bytesOf nilCmp buildV fillF chunk
attribute [local simp] cT cF cX cWR cOW cK cBL X ints_length ints_get ints_getElem ints_drop ints_take ints_append ints_nil ints_set
attribute [local simp] ints_replicate
attribute [local simp] putV_some putV_none putH_app applyD_nil applyD_cons seen_app gc_ρ gc_H gc_tick st0_ρ st0_H st0_tick retV callRo callV_if borL_nil borL_cons ints_snoc take_self callWr cutH_app findQ afterV exportV_0 exportV_n okD_nil okD_cons sub_seq0 sub_seq1 sub_cond0 sub_cond1 sub_block sub_loop sub_nil young_far young_none hidW_nil mayW_nil pairs okI ok_0 ok_1 ok_2
attribute [local simp] T3 T4 T22 T24 T26 T29 T44
attribute [local simp] young_near clo cloF Region.binds Nat.testBit hidW declW mayW List.findIdx?_cons
theorem callI_fn {C : Cfg} {k : Nat} {f : FuncId} {args : List V} {H : Hp} {tick : Nat} {fn : Func} {code : Code} (hf : C.fn f = some fn) (hb : fn.body = some code) :
    (callK C (k + 1)).inl f args H tick = finI C.T fn.results.toList (runCode C (callK C k) k (C.keep f) code 0 { ρ := fun x => args.getD x (.c undef), H := H, tick := tick }) := by
  simp only [callK, hf, hb]
/-- The lists of one's own, marked. -/
def markP (n : Int) : List (Nat × Nat × List Int) → List (Nat × Nat × List Int)
  | [] => []
  | p :: r => (p.1, p.2.1, marks n p.2.2.length) :: markP (n + (p.2.2.length : Int)) r
theorem markP_ids : ∀ (n : Int) (P : List (Nat × Nat × List Int)), (markP n P).map (·.1) = P.map (·.1)
  | _, [] => rfl
  | n, p :: r => by simp [markP, markP_ids]
theorem markP_len : ∀ (n : Int) (P : List (Nat × Nat × List Int)), (markP n P).length = P.length
  | _, [] => rfl
  | n, p :: r => by simp [markP, markP_len]
theorem markP_rows : ∀ (n : Int) (P : List (Nat × Nat × List Int)), rowsP (markP n P) = rowsP P
  | _, [] => rfl
  | n, p :: r => by
    have := markP_rows (n + (p.2.2.length : Int)) r
    simp only [rowsP, markP, List.map_cons, marks_length] at this ⊢
    rw [this]
theorem markP_lists : ∀ (n : Int) (P : List (Nat × Nat × List Int)), (markP n P).map (·.2.2) = mkSS n (P.map (·.2.2))
  | _, [] => rfl
  | n, p :: r => by simp [markP, mkSS, markP_lists]
/-- .. of which the first i are. -/
def mkAt (P : List (Nat × Nat × List Int)) (i : Nat) : List (Nat × Nat × List Int) := markP 1 (P.take i) ++ P.drop i
theorem markP_snoc : ∀ (n : Int) (P : List (Nat × Nat × List Int)) (p : Nat × Nat × List Int), markP n (P ++ [p]) = markP n P ++ [(p.1, p.2.1, marks (n + (sumS (P.map (·.2.2)) : Int)) p.2.2.length)]
  | n, [], p => by simp [markP, sumS]
  | n, q :: r, p => by
    have := markP_snoc (n + (q.2.2.length : Int)) r p
    simp only [List.cons_append, markP, this]
    simp [sumS, Int.add_assoc]
/-- Writing marks into one list. -/
theorem NS.mark {H : Hp} {v : V} {P : List (Nat × Nat × List Int)} {B i : Nat} (hi : i < P.length) (h : NS H v (mkAt P i) B) :
    NS (putH H P[i].1 (some (P[i].2.1, intsO (marks (1 + (sumS ((P.take i).map (·.2.2)) : Int)) P[i].2.2.length)))) v (mkAt P (i + 1)) B := by
  have e1 : mkAt P i = markP 1 (P.take i) ++ P[i] :: P.drop (i + 1) := by
    unfold mkAt
    rw [List.drop_eq_getElem_cons hi]
  have e2 : mkAt P (i + 1) = markP 1 (P.take i) ++ (P[i].1, P[i].2.1, marks (1 + (sumS ((P.take i).map (·.2.2)) : Int)) P[i].2.2.length) :: P.drop (i + 1) := by
    unfold mkAt
    rw [List.take_succ_eq_append_getElem hi, markP_snoc, List.append_assoc]
    rfl
  obtain ⟨p, hp⟩ : ∃ p, P[i] = p := ⟨_, rfl⟩
  obtain ⟨q, hq⟩ : ∃ q, marks (1 + (sumS ((P.take i).map (·.2.2)) : Int)) p.2.2.length = q := ⟨_, rfl⟩
  have hql : q.length = p.2.2.length := by rw [← hq, marks_length]
  rw [hp] at e1 e2 ⊢
  rw [hq] at e2 ⊢
  obtain ⟨A, hA⟩ : ∃ A, markP 1 (P.take i) = A := ⟨_, rfl⟩
  obtain ⟨Z, hZ⟩ : ∃ Z, P.drop (i + 1) = Z := ⟨_, rfl⟩
  rw [hA, hZ] at e1 e2
  rw [e1] at h
  rw [e2]
  obtain ⟨h1, h2, h3⟩ := h
  simp only [List.map_append, List.map_cons] at h2
  have hnd : ∀ x, x ∈ A ∨ x ∈ Z → x.1 ≠ p.1 := by
    intro x hx e
    rw [List.nodup_append] at h2
    obtain ⟨_, a2, a3⟩ := h2
    rcases hx with hx | hx
    · exact a3 _ (List.mem_map_of_mem hx) _ (List.mem_cons_self ..) e
    · exact (List.nodup_cons.1 a2).1 (by rw [← e]; exact List.mem_map_of_mem hx)
  refine ⟨fun x hx => ?_, by simpa using h2, ?_⟩
  · rcases List.mem_append.1 hx with hx | hx
    · have := h1 x (List.mem_append_left _ hx)
      exact ⟨by rw [putH_app, if_neg (hnd x (.inl hx))]; exact this.1, this.2⟩
    · rcases List.mem_cons.1 hx with rfl | hx
      · have := h1 p (by simp)
        exact ⟨by rw [putH_app, if_pos rfl], this.2⟩
      · have := h1 x (List.mem_append_right _ (List.mem_cons_of_mem _ hx))
        exact ⟨by rw [putH_app, if_neg (hnd x (.inr hx))]; exact this.1, this.2⟩
  · rcases h3 with ⟨e, _⟩ | ⟨_, id, vr, a, b, c, d⟩
    · simp at e
    · refine .inr ⟨by simp, id, vr, a, by simpa using b, by simpa using c, ?_⟩
      have hne : id ≠ p.1 := fun e => b (by simp [e])
      rw [putH_app, if_neg hne, d]
      simp [rowsP, hql]
theorem mkAt_rows {P : List (Nat × Nat × List Int)} {i : Nat} : rowsP (mkAt P i) = rowsP P := by
  have := markP_rows 1 (P.take i)
  unfold mkAt
  rw [show rowsP (markP 1 (P.take i) ++ P.drop i) = rowsP (markP 1 (P.take i)) ++ rowsP (P.drop i) by simp [rowsP], this]
  rw [show rowsP (P.take i) ++ rowsP (P.drop i) = rowsP (P.take i ++ P.drop i) by simp [rowsP], List.take_append_drop]
theorem mkAt_len {P : List (Nat × Nat × List Int)} {i : Nat} : (mkAt P i).length = P.length := by
  unfold mkAt
  rw [List.length_append, markP_len, ← List.length_append, List.take_append_drop]
def SmE (s s0 : St) (ids : List Nat) : Prop := ∀ id, id ∉ ids → s.H id = s0.H id
/-- markIntSS in its caller's heap. -/
theorem mark_loop (k : Nat) (P : List (Nat × Nat × List Int)) (hl : P.length ≤ 100) (hs : ∀ p ∈ P, p.2.2.length ≤ 10) (hk : 300 ≤ k) (v : V) (B : Nat) (st0 : St) (h0 : st0.ρ 0 = v) (h1 : st0.ρ 1 = .c (.int .i64 1)) (h5 : st0.ρ 5 = .c (.int .i64 0)) (hP : P ≠ []) (hN : NS st0.H v P B) :
    ∃ s, loopRun (fun st => runCode C (callK C k) k (K 11) L11_0 1 st) [0, 1, 5, 999] k st0 = some (.ex 0, s) ∧ s.ρ 1 = .c (.int .i64 (1 + (sumS (P.map (·.2.2)) : Int))) ∧ NS s.H v (markP 1 P) B ∧ st0.tick ≤ s.tick ∧ SmE s st0 (P.map (·.1)) := by
  have hsum : ∀ i, sumS ((P.take i).map (·.2.2)) ≤ 1000 := by
    intro i
    have h1 := sumS_le (L := (P.take i).map (·.2.2)) (m := 10) (fun l hl' => by
      obtain ⟨p, hp, rfl⟩ := List.mem_map.1 hl'
      exact hs p (List.mem_of_mem_take hp))
    rw [List.length_map, List.length_take] at h1
    omega
  have hfin : mkAt P P.length = markP 1 P := by simp [mkAt]
  have hsumL : (P.take P.length).map (·.2.2) = P.map (·.2.2) := by rw [List.take_length]
  refine loopHas (body := fun st => runCode C (callK C k) k (K 11) L11_0 1 st) (keep := [0, 1, 5, 999]) (.ex 0) (fun s => s.ρ 1 = .c (.int .i64 (1 + (sumS (P.map (·.2.2)) : Int))) ∧ NS s.H v (markP 1 P) B ∧ st0.tick ≤ s.tick ∧ SmE s st0 (P.map (·.1)))
    (fun i s => s.ρ 0 = v ∧ s.ρ 1 = .c (.int .i64 (1 + (sumS ((P.take i).map (·.2.2)) : Int))) ∧ s.ρ 5 = .c (.int .i64 (i : Int)) ∧ NS s.H v (mkAt P i) B ∧ st0.tick ≤ s.tick ∧ SmE s st0 (P.map (·.1)))
    P.length k (by omega) ?_ ?_ st0 ⟨h0, by simp [sumS, h1], by simp [h5], by simpa [mkAt, markP] using hN, Nat.le_refl _, fun _ _ => rfl⟩
  · rintro i s next hi ⟨q0, q1, q5, qN, qt, qH⟩ hn
    have hN2 := NS.mark hi qN
    obtain ⟨n1, n2, n3⟩ := qN
    have hne : mkAt P i ≠ [] := by intro e; have := congrArg List.length e; rw [mkAt_len] at this; simp at this; exact hP this
    obtain ⟨_, id, vr, a, b, c, d⟩ := n3.resolve_left (fun h => hne h.1)
    rw [mkAt_len] at c
    rw [mkAt_rows] at d
    subst c
    have hmem : P[i] ∈ mkAt P i := by
      unfold mkAt
      rw [List.drop_eq_getElem_cons hi]
      exact List.mem_append_right _ (List.mem_cons_self ..)
    have hp := (n1 _ hmem).1
    have hli := hs _ (List.getElem_mem hi)
    have hsi := hsum i
    have hst := sumS_take (P.map (·.2.2)) i (by simpa using hi)
    simp only [← List.map_take, List.getElem_map] at hst
    have hidm : P[i].1 ∈ P.map (·.1) := List.mem_map_of_mem (List.getElem_mem hi)
    have hidne : id ≠ P[i].1 := by
      intro e
      exact b (by rw [e]; exact List.mem_map_of_mem hmem)
    have M := c_markIntS k P[i].2.2 (1 + (sumS ((P.take i).map (·.2.2)) : Int)) (by omega) (by omega) (by omega) (by omega)
    have hrow : (rowsP P)[i]? = some [.s P[i].1 P[i].2.1 1 0 P[i].2.2.length] := by simp [rowsP, hi]
    have hrl : (rowsP P).length = P.length := by simp [rowsP]
    obtain ⟨p, hpp⟩ : ∃ p, P[i] = p := ⟨_, rfl⟩
    rw [hpp] at hp hli hst hidm hidne M hrow hN2
    obtain ⟨pi, pv, pl⟩ := p
    simp only [] at hp hli hst hidm hidne M hrow hN2
    have w1 : 1 + (sumS ((P.take i).map (·.2.2)) : Int) + (pl.length : Int) = 1 + (sumS ((P.take (i + 1)).map (·.2.2)) : Int) := by rw [hst]; omega
    rw [w1] at M
    have hwn := wrap_next hi (by omega : P.length ≤ 9000000000000000000)
    obtain ⟨_, hrow2⟩ := List.getElem?_eq_some_iff.1 hrow
    simp [intsO] at hp M
    simp [L11_0, R11_0, R11_1, R11_2, R11_3, R11_4, R11_5, Try.f11, lpL11_0, lpM11_0, M11_0, q0, q1, q5, d, hrow, hrow2, hrl, hp, M, hi, hwn]
    refine hn _ ⟨?_, ?_, ?_, ?_, ?_, ?_⟩
    · simp [q0]
    · simp
    · simp
    · rw [gc_all _ _ (by decide)]
      simpa [intsO] using hN2
    · dsimp only
      omega
    · intro id' hid'
      have hne' : id' ≠ pi := fun e => hid' (by rw [e]; exact hidm)
      show putH _ _ _ id' = _
      rw [gc_all _ _ (by decide), putH_app, if_neg hne']
      exact qH id' hid'
  · rintro s next ⟨q0, q1, q5, qN, qt, qH⟩
    rw [hsumL] at q1
    rw [hfin] at qN
    have h3 := qN.2.2
    have hne : markP 1 P ≠ [] := by intro e; have := congrArg List.length e; rw [markP_len] at this; simp at this; exact hP this
    obtain ⟨_, id, vr, a, b, c, d⟩ := h3.resolve_left (fun h => hne h.1)
    rw [markP_len] at c
    simp [L11_0, R11_0, R11_1, R11_2, R11_3, R11_4, R11_5, Try.f11, lpL11_0, lpM11_0, M11_0, q0, q1, q5, c]
    refine ⟨?_, ?_, ?_⟩
    · rw [gc_all _ _ (by decide), ← c]
      exact qN
    · omega
    · intro id' hid'
      show (gc [0, 1, 5, 999] s).H id' = _
      rw [gc_all _ _ (by decide)]
      exact qH id' hid'
theorem loop_at2 {LP : St → Option (Ex × St)} {I : St → Prop} {Q : St → St → Prop} {e : Ex} {st1 : St} {res : Option (Ex × St)} (hL : ∀ st, I st → ∃ s, LP st = some (e, s) ∧ Q st s) (hr : LP st1 = res) (h : I st1) : ∃ s, res = some (e, s) ∧ Q st1 s := by
  obtain ⟨s, h1, h2⟩ := hL st1 h
  exact ⟨s, by rw [← hr, h1], h2⟩
def MkI (v : V) (P : List (Nat × Nat × List Int)) (B : Nat) (s : St) : Prop := s.ρ 0 = v ∧ s.ρ 1 = .c (.int .i64 1) ∧ s.ρ 5 = .c (.int .i64 0) ∧ NS s.H v P B
def MkQ (v : V) (P : List (Nat × Nat × List Int)) (B : Nat) (s0 s : St) : Prop := s.ρ 1 = .c (.int .i64 (1 + (sumS (P.map (·.2.2)) : Int))) ∧ NS s.H v (markP 1 P) B ∧ s0.tick ≤ s.tick ∧ SmE s s0 (P.map (·.1))
/-- A heap that differs there alone. -/
def HsE (H' H : Hp) (ids : List Nat) : Prop := ∀ id, id ∉ ids → H' id = H id
theorem i_mark (k : Nat) (P : List (Nat × Nat × List Int)) (hl : P.length ≤ 100) (hs : ∀ p ∈ P, p.2.2.length ≤ 10) (hk : 300 ≤ k) (v : V) (B : Nat) (H : Hp) (tick : Nat) (hN : NS H v P B) :
    ∃ H' tk', (callK C (k + 1)).inl 11 [v, .c (.int .i64 1)] H tick = some (.c (.int .i64 (1 + (sumS (P.map (·.2.2)) : Int))), H', tk') ∧ NS H' v (markP 1 P) B ∧ tick ≤ tk' ∧ HsE H' H (P.map (·.1)) := by
  rw [callI_fn F11 code11]
  by_cases hP : P = []
  · subst hP
    have hN' := hN
    obtain ⟨_, _, h3⟩ := hN
    rcases h3 with ⟨_, h3⟩ | ⟨e, _⟩
    · have hv : ∃ m : Nat, m + 3 = k := ⟨k - 3, by omega⟩
      obtain ⟨m, rfl⟩ := hv
      rcases h3 with rfl | ⟨id, vr, a, rfl, d⟩
      · refine ⟨H, tick + 4, ?_, by simpa [markP] using hN', by omega, fun _ _ => rfl⟩
        simp [R11_0, R11_1, R11_2, R11_3, R11_4, R11_5, Try.f11, lpL11_0, lpM11_0, M11_0, L11_0, loopRun_succ, finI, sumS]
        exact gc_all _ _ (by decide)
      · refine ⟨H, tick + 4, ?_, by simpa [markP] using hN', by omega, fun _ _ => rfl⟩
        simp [R11_0, R11_1, R11_2, R11_3, R11_4, R11_5, Try.f11, lpL11_0, lpM11_0, M11_0, L11_0, loopRun_succ, finI, sumS]
        exact gc_all _ _ (by decide)
    · exact absurd rfl e
  · have hL : ∀ st, MkI v P B st → ∃ s, loopRun (fun st => runCode C (callK C k) k (K 11) L11_0 1 st) [0, 1, 5, 999] k st = some (.ex 0, s) ∧ MkQ v P B st s := by
      rintro st ⟨a, b, c, d⟩
      obtain ⟨s, h1, h2, h3, h4, h5⟩ := mark_loop k P hl hs hk v B st a b c hP d
      exact ⟨s, h1, h2, h3, h4, h5⟩
    simp [R11_0, R11_1, R11_2, R11_3, R11_4, R11_5, Try.f11, lpL11_0, lpM11_0]
    generalize hr : loopRun _ _ _ _ = res
    obtain ⟨s1, rfl, a1, a2, a3, a4⟩ := loop_at2 hL hr ⟨by simp, by simp, by simp, hN⟩
    simp [R11_0, R11_1, R11_2, R11_3, R11_4, R11_5, Try.f11, lpL11_0, lpM11_0, M11_0, finI, a1]
    have h3 : tick + 1 + 1 ≤ s1.tick := a3
    refine ⟨s1.H, s1.tick + 1, ⟨rfl, rfl⟩, a2, by omega, a4⟩

end Go.Proofs.Ytemkckldfmpplaa.Eng
