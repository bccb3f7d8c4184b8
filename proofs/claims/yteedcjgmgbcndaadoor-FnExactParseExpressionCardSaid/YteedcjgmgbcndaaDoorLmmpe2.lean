/- A deterministic reading of Go code over plain data: what functions of the program compute, and what its laws come to. No conditions. -/
import Derived.Test.YteedcjgmgbcndaaDoorEngT
import Derived.Lib.ItoaLen
import Derived.Test.YteedcjgmgbcndaaDoorLmmpe1
namespace Go.Proofs.YteedcjgmgbcndaaDoor.Eng
open Go Go.Proofs
set_option maxRecDepth 100000
set_option maxHeartbeats 2000000
set_option linter.unusedSimpArgs false
set_option linter.unusedVariables false
attribute [local simp] finK fin1 hpOf xi renQ isRoot runCode runOps stepX inlOf Eng.step wantedV astep val ofO made loadV storeV find V.cells bin binT binA numT numFs eqCells un1 setAt fieldAddrV fieldV indexAddrV indexV bounds sliceV convV lenV foldV max2V min2V callO bor rdsO wrsO seen_none okD_none loops keepIds resV resultsV St.ev TK.agg refs refsL refsO V.one V.isC Value.oneCell' ren renL renO noTag noTagL noTagR noTagO nodup mapO passV frs psi refsR newD loopNext opsAt idx flatAt rootOf backR newsV appendV copyV clearV strV bytesV bldV bufV selfV bytesOf nilCmp buildV fillF chunk freeL frzW cellSame sameV
attribute [local simp] cT cF cX cWR cOW cK cBL X ints_length ints_get ints_getElem ints_drop ints_take ints_append ints_nil ints_set
attribute [local simp] ints_replicate
attribute [local simp] putV_some putV_none putH_app applyD_nil applyD_cons seen_app gc_ρ gc_H gc_tick st0_ρ st0_H st0_tick retV callRo callV_if borL_nil borL_cons ints_snoc take_self callWr cutH_app findQ afterV exportV_0 exportV_n okD_nil okD_cons sub_seq0 sub_seq1 sub_cond0 sub_cond1 sub_block sub_loop sub_nil young_far young_none hidW_nil mayW_nil keepsF_nil keepsF_cons pairs okI ok_0 ok_1 ok_2
attribute [local simp] T3 T4 T5 T9 T22 T29 T34 T35 T37 T39 T42 T43 T56
attribute [local simp] young_near clo cloF Region.binds Nat.testBit hidW declW mayW List.findIdx?_cons
def Vok (x : Nat) (v : V) : Prop := ∀ id vr n, v = .s id vr 2 0 n → id ≠ x
theorem Vok.old (x : Nat) (hx : 2 ≤ x) (l : List (Int × Int)) : Vok x (oldV l) := by
  intro id vr n e
  unfold oldV at e
  split at e
  · cases e
  · simp only [V.s.injEq] at e
    omega
theorem Vok.ch {x : Nat} {v : V} (h : Vok x v) (ch : Bool) (tick site n : Nat) (hs : 16 * site ≠ x) : Vok x (chV ch tick site n v) := by
  intro id vr m e
  cases ch
  · exact h id vr m e
  · simp only [chV, if_true, V.s.injEq] at e
    omega
theorem sum_end (k : Nat) {l0 : List (Int × Int)} {t : List UInt8} {L : List (Int × Int)} {v : V} (hk : 1000 ≤ k) (st : St) (q0 : st.ρ 0 = .p 0 0 3 0 0) (P : PSt l0 st.H t L false v) (h1 : stripL [43] t = none) (h2 : stripL [45] t = none) :
    ∃ s, runCode C (callK C k) k (K 10) L10_0 1 st = some (.ret, s) ∧ PSt l0 s.H t L false v := by
  obtain ⟨p1, p2⟩ := hasP_none h1
  obtain ⟨p3, p4⟩ := hasP_none h2
  obtain ⟨δ1, d1, P1, _⟩ := callP k 18 [.string (bs [43])] rfl rfl P (Pl.c _) (c_take k t [43] L false (by omega)) (fun _ => rfl) (fun h => by cases h) (st.tick + 1 + 1) 194 (by omega)
  rw [p2] at P1
  obtain ⟨δ2, d2, P2, _⟩ := callP k 18 [.string (bs [45])] rfl rfl P1 (Pl.c _) (c_take k t [45] L false (by omega)) (fun _ => rfl) (fun h => by cases h) (st.tick + 1 + 1 + 1) 322 (by omega)
  rw [p4] at P2
  rw [p1] at d1
  rw [p3] at d2
  simp only [List.map_nil, List.map_cons] at d1 d2
  have h0 := P.h0
  simp [pO] at h0
  simp [-callV_if, L10_0, R10_0, R10_1, R10_2, R10_3, R10_4, R10_5, R10_6, R10_7, R10_8, Tryd.f10, lpL10_0, q0, h0, lt43, lt45, d1, d2]
  exact P2
def RndOk (n : Nat) (kind : Int) (r : List UInt8) (L l0 : List (Int × Int)) (s : St) : Prop := s.ρ 0 = .p 0 0 3 0 0 ∧ ∃ t' l' f' v', PSt l0 s.H t' (l' ++ [(kind, 0)]) f' v' ∧ Vok 8320 v' ∧ OutP 0 (pT n r) r L t' l' f'
theorem RndOk.mk {n : Nat} {kind : Int} {r : List UInt8} {L l0 : List (Int × Int)} {s : St} {t' : List UInt8} {l' : List (Int × Int)} {f' : Bool} (tk : Nat) (q0 : s.ρ 0 = .p 0 0 3 0 0) (h0 : s.H 0 = some (0, pO t' (.s 8344 tk 2 0 (l'.length + 1)) f')) (hi : s.H 8344 = some (tk, ndO (l' ++ [(kind, 0)]))) (h1 : s.H 1 = none) (o : OutP 0 (pT n r) r L t' l' f') : RndOk n kind r L l0 s :=
  ⟨q0, t', l', f', .s 8344 tk 2 0 (l'.length + 1), ⟨h0, .inr (.inr ⟨by simp, 8344, tk, by omega, by simp, hi, h1⟩)⟩, (fun id vr m e => by simp only [V.s.injEq] at e; omega), o⟩
theorem sum_round (k n : Nat) (hT : AnyS 17 0 n (pT n) 1) {l0 : List (Int × Int)} {t r : List UInt8} {L : List (Int × Int)} {v : V} (hk : 30 * n + 1000 ≤ k) (st : St) (q0 : st.ρ 0 = .p 0 0 3 0 0) (P : PSt l0 st.H t L false v) (hv : Vok 8320 v) (kind : Int)
    (hs : (kind = 3 ∧ stripL [43] t = some r) ∨ (kind = 4 ∧ stripL [43] t = none ∧ stripL [45] t = some r)) (hn : 3 * r.length + 1 ≤ n) (ht : r.length ≤ 450) (hl : L.length + r.length ≤ 1000) :
    ∃ s, runCode C (callK C k) k (K 10) L10_0 1 st = some (.nrm, s) ∧ RndOk n kind r L l0 s := by
  obtain ⟨t1, l1, f1, c1, e1, a1, b1, _, o1⟩ := hT k r L false hk hn ht (fun _ => hl)
  have o1 := o1 rfl
  have hsz := o1.sz
  have hb : l1.length ≤ 1001 := by
    have : (if f1 = true then 1 else 0) ≤ 1 := by split <;> omega
    omega
  have hbb1 : (l1.length + 1) * 16 ≤ 140737488355328 := by omega
  have hbb2 : l1.length + 1 ≤ maxLen := by unfold maxLen; omega
  have h0 := P.h0
  simp [pO] at h0
  rcases hs with ⟨rfl, h1⟩ | ⟨rfl, h1, h2⟩
  · obtain ⟨p1, p2⟩ := hasP_some h1
    obtain ⟨δ1, d1, P1, _⟩ := callP k 18 [.string (bs [43])] rfl rfl P (Pl.c _) (c_take k t [43] L false (by omega)) (fun _ => rfl) (fun h => by cases h) (st.tick + 1 + 1) 194 (by omega)
    rw [p2] at P1
    rw [p1] at d1
    obtain ⟨δ2, d2, P2, _⟩ := callP k 17 [] rfl rfl P1 Pl.tp e1 a1 b1 (st.tick + 1 + 1 + 1 + 1) 450 (by omega)
    simp only [List.map_nil, List.map_cons] at d1 d2
    have hv2 : Vok 8320 (chV c1 (st.tick + 1 + 1 + 1 + 1) 450 l1.length (chV false (st.tick + 1 + 1) 194 L.length v)) := (hv.ch false _ _ _ (by omega)).ch c1 _ _ _ (by omega)
    generalize chV c1 (st.tick + 1 + 1 + 1 + 1) 450 l1.length (chV false (st.tick + 1 + 1) 194 L.length v) = v2 at P2 hv2
    have h02 := P2.h0
    simp [pO] at h02
    rcases P2.hv with ⟨g1, g2, g3, g4⟩ | ⟨g1, g2, g3, g4⟩ | ⟨g1, id, vr, g2, g3, g4, g5⟩
    · rw [g3] at h02
      simp [-callV_if, L10_0, R10_0, R10_1, R10_2, R10_3, R10_4, R10_5, R10_6, R10_7, R10_8, Tryd.f10, lpL10_0, q0, h0, lt43, lt45, d1, d2, h02, okN1, maxLen]
      subst g1
      exact RndOk.mk (st.tick + 1 + 1 + 1 + 1 + 1) (by simp [q0]) (by simp [putH_app, pO]) (by simp [putH_app, ndO, ndL, ndE]) (by simp [putH_app, g4]) o1
    · rw [g3] at h02
      simp [ndO] at g4
      simp [-callV_if, L10_0, R10_0, R10_1, R10_2, R10_3, R10_4, R10_5, R10_6, R10_7, R10_8, Tryd.f10, lpL10_0, q0, h0, lt43, lt45, d1, d2, h02, g4, okN1, okN2, hbb1, hbb2, ndL_length, ndL_take]
      exact RndOk.mk (st.tick + 1 + 1 + 1 + 1 + 1) (by simp [q0]) (by simp [putH_app, pO]) (by simp [putH_app, ndO, ndL, ndE]) (by simp [putH_app]) o1
    · rw [g3] at h02
      have n1 : ¬ id = 8320 := hv2 id vr l1.length g3
      have n3 : ¬ 0 = id := by omega
      have n4 : ¬ 1 = id := by omega
      simp [ndO] at g4
      simp [-callV_if, L10_0, R10_0, R10_1, R10_2, R10_3, R10_4, R10_5, R10_6, R10_7, R10_8, Tryd.f10, lpL10_0, q0, h0, lt43, lt45, d1, d2, h02, g4, n1, n3, okN1, okN2, hbb1, hbb2, ndL_length, ndL_take]
      exact RndOk.mk (st.tick + 1 + 1 + 1 + 1 + 1) (by simp [q0]) (by simp [putH_app, pO]) (by simp [putH_app, ndO, ndL, ndE]) (by simp [putH_app, n4, g5]) o1
  · obtain ⟨p1, p2⟩ := hasP_none h1
    obtain ⟨p3, p4⟩ := hasP_some h2
    obtain ⟨δ0, d0, P0, _⟩ := callP k 18 [.string (bs [43])] rfl rfl P (Pl.c _) (c_take k t [43] L false (by omega)) (fun _ => rfl) (fun h => by cases h) (st.tick + 1 + 1) 194 (by omega)
    rw [p2] at P0
    rw [p1] at d0
    obtain ⟨δ1, d1, P1, _⟩ := callP k 18 [.string (bs [45])] rfl rfl P0 (Pl.c _) (c_take k t [45] L false (by omega)) (fun _ => rfl) (fun h => by cases h) (st.tick + 1 + 1 + 1) 322 (by omega)
    rw [p4] at P1
    rw [p3] at d1
    obtain ⟨δ2, d2, P2, _⟩ := callP k 17 [] rfl rfl P1 Pl.tp e1 a1 b1 (st.tick + 1 + 1 + 1 + 1 + 1) 450 (by omega)
    simp only [List.map_nil, List.map_cons] at d0 d1 d2
    have hv2 : Vok 8320 (chV c1 (st.tick + 1 + 1 + 1 + 1 + 1) 450 l1.length (chV false (st.tick + 1 + 1 + 1) 322 L.length (chV false (st.tick + 1 + 1) 194 L.length v))) := ((hv.ch false _ _ _ (by omega)).ch false _ _ _ (by omega)).ch c1 _ _ _ (by omega)
    generalize chV c1 (st.tick + 1 + 1 + 1 + 1 + 1) 450 l1.length (chV false (st.tick + 1 + 1 + 1) 322 L.length (chV false (st.tick + 1 + 1) 194 L.length v)) = v2 at P2 hv2
    have h02 := P2.h0
    simp [pO] at h02
    rcases P2.hv with ⟨g1, g2, g3, g4⟩ | ⟨g1, g2, g3, g4⟩ | ⟨g1, id, vr, g2, g3, g4, g5⟩
    · rw [g3] at h02
      simp [-callV_if, L10_0, R10_0, R10_1, R10_2, R10_3, R10_4, R10_5, R10_6, R10_7, R10_8, Tryd.f10, lpL10_0, q0, h0, lt43, lt45, d0, d1, d2, h02, okN1, maxLen]
      subst g1
      exact RndOk.mk (st.tick + 1 + 1 + 1 + 1 + 1 + 1) (by simp [q0]) (by simp [putH_app, pO]) (by simp [putH_app, ndO, ndL, ndE]) (by simp [putH_app, g4]) o1
    · rw [g3] at h02
      simp [ndO] at g4
      simp [-callV_if, L10_0, R10_0, R10_1, R10_2, R10_3, R10_4, R10_5, R10_6, R10_7, R10_8, Tryd.f10, lpL10_0, q0, h0, lt43, lt45, d0, d1, d2, h02, g4, okN1, okN2, hbb1, hbb2, ndL_length, ndL_take]
      exact RndOk.mk (st.tick + 1 + 1 + 1 + 1 + 1 + 1) (by simp [q0]) (by simp [putH_app, pO]) (by simp [putH_app, ndO, ndL, ndE]) (by simp [putH_app]) o1
    · rw [g3] at h02
      have n1 : ¬ id = 8320 := hv2 id vr l1.length g3
      have n3 : ¬ 0 = id := by omega
      have n4 : ¬ 1 = id := by omega
      simp [ndO] at g4
      simp [-callV_if, L10_0, R10_0, R10_1, R10_2, R10_3, R10_4, R10_5, R10_6, R10_7, R10_8, Tryd.f10, lpL10_0, q0, h0, lt43, lt45, d0, d1, d2, h02, g4, n1, n3, okN1, okN2, hbb1, hbb2, ndL_length, ndL_take]
      exact RndOk.mk (st.tick + 1 + 1 + 1 + 1 + 1 + 1) (by simp [q0]) (by simp [putH_app, pO]) (by simp [putH_app, ndO, ndL, ndE]) (by simp [putH_app, n4, g5]) o1
/-- What the loop of a sum ends with. -/
def LpOk (n : Nat) (q L0 : List (Int × Int)) (t : List UInt8) (l0 : List (Int × Int)) (s : St) : Prop := ∃ t' l' f' v', PSt l0 s.H t' l' f' v' ∧ (∀ q' u, pL n q t = some (q', u) → f' = false ∧ t' = u ∧ l' = L0 ++ q') ∧ (pL n q t = none → f' = true) ∧ t'.length ≤ t.length ∧ l'.length + t'.length ≤ (L0 ++ q).length + t.length + (if f' = true then 1 else 0)
theorem pL_plus (n : Nat) (q : List (Int × Int)) (t r : List UInt8) (h : stripL [43] t = some r) : pL (n + 1) q t = match pT n r with
  | none => none
  | some (l2, r2) => pL n (q ++ l2 ++ [(3, 0)]) r2 := by
  conv => lhs; unfold pL
  rw [h]
  simp only []
  cases pT n r <;> rfl
theorem pL_minus (n : Nat) (q : List (Int × Int)) (t r : List UInt8) (h : stripL [43] t = none) (h2 : stripL [45] t = some r) : pL (n + 1) q t = match pT n r with
  | none => none
  | some (l2, r2) => pL n (q ++ l2 ++ [(4, 0)]) r2 := by
  conv => lhs; unfold pL
  rw [h, h2]
  simp only []
  cases pT n r <;> rfl
theorem pL_end (n : Nat) (q : List (Int × Int)) (t : List UInt8) (h : stripL [43] t = none) (h2 : stripL [45] t = none) : pL (n + 1) q t = some (q, t) := by
  unfold pL
  rw [h, h2]
theorem loop_ok : ∀ n, (∀ m, m < n → AnyS 17 0 m (pT m) 1) → ∀ k kk, 30 * n + 1000 ≤ k → n + 1 ≤ kk → ∀ (st : St) (l0 : List (Int × Int)) (t : List UInt8) (L0 q : List (Int × Int)) (v : V), st.ρ 0 = .p 0 0 3 0 0 → PSt l0 st.H t (L0 ++ q) false v → Vok 8320 v → 3 * t.length + 1 ≤ n → t.length ≤ 450 → (L0 ++ q).length + t.length ≤ 1000 →
    ∃ e s, loopRun (fun st => runCode C (callK C k) k (K 10) L10_0 1 st) [0] kk st = some (e, s) ∧ (e = .ret ∨ e = .ex 0) ∧ LpOk n q L0 t l0 s := by
  intro n
  induction n with
  | zero => intro _ k kk _ _ st l0 t L0 q v _ _ _ hn; omega
  | succ n ih =>
    intro hT k kk hk hkk st l0 t L0 q v q0 P hv hn ht hl
    obtain ⟨kk, rfl⟩ : ∃ m, kk = m + 1 := ⟨kk - 1, by omega⟩
    have hc : (L0 ++ q).length = L0.length + q.length := by simp
    have P' := P.gc [0] (by simp) q0
    have q0' : (Eng.gc [0] st).ρ 0 = .p 0 0 3 0 0 := by simp [q0]
    have round : ∀ (kind : Int) (r : List UInt8), ((kind = 3 ∧ stripL [43] t = some r) ∨ (kind = 4 ∧ stripL [43] t = none ∧ stripL [45] t = some r)) → r.length + 1 = t.length → (pL (n + 1) q t = match pT n r with
        | none => none
        | some (l2, r2) => pL n (q ++ l2 ++ [(kind, 0)]) r2) →
        ∃ e s, loopRun (fun st => runCode C (callK C k) k (K 10) L10_0 1 st) [0] (kk + 1) st = some (e, s) ∧ (e = .ret ∨ e = .ex 0) ∧ LpOk (n + 1) q L0 t l0 s := by
      intro kind r hs hrl hpL
      obtain ⟨s1, e1, q1, t1, l1, f1, v1, P1, hv1, o1⟩ := sum_round k n (hT n (by omega)) (by omega) (Eng.gc [0] st) q0' P' hv kind hs (by omega) (by omega) (by omega)
      have o1len := o1.len
      have o1sz := o1.sz
      rw [loopRun_succ]
      simp only [e1, loopNext]
      cases f1
      · simp at o1sz
        cases hp : pT n r with
        | none => have := o1.no hp; cases this
        | some x =>
          obtain ⟨l2, r2⟩ := x
          obtain ⟨_, y2, y3⟩ := o1.ok l2 r2 hp
          subst y2
          rw [hp] at hpL
          simp only [] at hpL
          have hlist : l1 ++ [(kind, 0)] = L0 ++ (q ++ l2 ++ [(kind, 0)]) := by rw [y3]; simp
          rw [hlist] at P1
          have hlen : (L0 ++ (q ++ l2 ++ [(kind, 0)])).length = l1.length + 1 := by rw [← hlist]; simp
          obtain ⟨e, s, g1, g2, t', l', f', v', g3, g4, g5, g6, g7⟩ := ih (fun m hm => hT m (by omega)) k kk (by omega) (by omega) s1 l0 t1 L0 (q ++ l2 ++ [(kind, 0)]) v1 q1 P1 hv1 (by omega) (by omega) (by rw [hlen]; simp at hl; omega)
          refine ⟨e, s, g1, g2, t', l', f', v', g3, ?_, ?_, by omega, ?_⟩
          · rw [hpL]; exact g4
          · rw [hpL]; exact g5
          · rw [hlen] at g7
            omega
      · obtain ⟨kk, rfl⟩ : ∃ m, kk = m + 1 := ⟨kk - 1, by omega⟩
        obtain ⟨s, g1, g2⟩ := loopF k kk s1 q1 P1
        have hpn : pT n r = none := by
          cases hp : pT n r with
          | none => rfl
          | some x => obtain ⟨l2, r2⟩ := x; have := (o1.ok l2 r2 hp).1; cases this
        rw [hpn] at hpL
        simp only [] at hpL
        refine ⟨.ex 0, s, g1, .inr rfl, t1, _, true, v1, g2, ?_, fun _ => rfl, by omega, ?_⟩
        · rw [hpL]; intro _ _ h; cases h
        · simp at o1sz ⊢
          omega
    cases h1 : stripL [43] t with
    | some r =>
      have := strip_some h1
      exact round 3 r (.inl ⟨rfl, h1⟩) (by simp at this; omega) (pL_plus n q t r h1)
    | none =>
      cases h2 : stripL [45] t with
      | some r =>
        have := strip_some h2
        exact round 4 r (.inr ⟨rfl, h1, h2⟩) (by simp at this; omega) (pL_minus n q t r h1 h2)
      | none =>
        obtain ⟨s, e, PP⟩ := sum_end k (by omega) (Eng.gc [0] st) q0' P' h1 h2
        rw [loopRun_succ]
        simp only [e, loopNext]
        refine ⟨.ret, s, rfl, .inl rfl, t, _, false, v, PP, ?_, ?_, Nat.le_refl _, by simp⟩
        · rw [pL_end n q t h1 h2]
          intro q' u h
          cases h
          exact ⟨rfl, rfl, rfl⟩
        · rw [pL_end n q t h1 h2]
          intro h
          cases h
theorem loop_any {LP : St → Option (Ex × St)} {D : St → Prop} {Q : Ex → St → Prop} (h : ∀ st, D st → ∃ e s, LP st = some (e, s) ∧ Q e s) {st : St} {res : Option (Ex × St)} (hr : LP st = res) (hD : D st) : ∃ e s, res = some (e, s) ∧ Q e s := by
  obtain ⟨e, s, h1, h2⟩ := h st hD
  exact ⟨e, s, hr ▸ h1, h2⟩
theorem sum_step (n : Nat) (hT : ∀ m, m ≤ n → CtrT 17 [] 0 m (pT m) 1) : CtrT 10 [] 0 (n + 1) (pS (n + 1)) 2 := by
  intro k t l hk hn ht hl
  obtain ⟨k, rfl⟩ : ∃ m, k = m + 9 := ⟨k - 9, by omega⟩
  rw [callK_fn rfl F10 code10]
  obtain ⟨P, _⟩ := PSt.st0 t l false (.p 0 0 3 0 0 :: List.map V.c [])
  rw [frP_len]
  have hst : (Eng.st0 (.p 0 0 3 0 0 :: List.map V.c []) (frP t l false)).ρ 0 = .p 0 0 3 0 0 := rfl
  generalize Eng.st0 (.p 0 0 3 0 0 :: List.map V.c []) (frP t l false) = st at P hst ⊢
  obtain ⟨t1, l1, f1, c1, e1, a1, b1, o1⟩ := hT n (Nat.le_refl _) (k + 8) t l (by omega) (by omega) ht hl
  obtain ⟨δ1, d1, P1, _⟩ := callP (k + 8) 17 [] rfl rfl P Pl.tp e1 a1 b1 st.tick 2 (by omega)
  simp only [List.map_nil] at d1
  have hv1 : Vok 8320 (chV c1 st.tick 2 l1.length (oldV l)) := (Vok.old 8320 (by omega) l).ch c1 _ _ _ (by omega)
  have o1len := o1.len
  have o1sz := o1.sz
  have hpS : pS (n + 1) t = match pT n t with
    | none => none
    | some (q, r) => pL n q r := by unfold pS; rfl
  simp [-callV_if, R10_0, R10_1, R10_2, R10_3, R10_4, R10_5, R10_6, R10_7, R10_8, Tryd.f10, lpL10_0, hst, d1]
  generalize hr : loopRun _ _ _ _ = res
  cases f1
  · simp at o1sz
    cases hp : pT n t with
    | none => have := o1.no hp; cases this
    | some x =>
      obtain ⟨q, r⟩ := x
      obtain ⟨_, y2, y3⟩ := o1.ok q r hp
      subst y2 y3
      rw [hp] at hpS
      simp only [] at hpS
      have hpl := (p_len n).1 t q t1 hp
      have hL := fun (s0 : St) (hs : s0.ρ 0 = .p 0 0 3 0 0 ∧ PSt l s0.H t1 (l ++ q) false (chV c1 st.tick 2 (l ++ q).length (oldV l))) => loop_ok n (fun m hm => anyT_of (hT m (by omega))) (k + 8) (k + 8) (by omega) (by omega) s0 l t1 l q _ hs.1 hs.2 hv1 (by omega) (by omega) (by simp at o1sz ⊢; omega)
      obtain ⟨e, s1, rfl, g2, t', l', f', v', g3, g4, g5, g6, g7⟩ := loop_any hL hr ⟨by simp [hst], by simpa using P1⟩
      have ho : OutP 0 (pS (n + 1) t) t l t' l' f' := by
        rw [hpS]
        exact ⟨g4, g5, by omega, by simp at g7 o1sz ⊢; omega⟩
      have := EndOk.of g3 ho
      rcases g2 with rfl | rfl <;> simpa using this
  · have hpn : pT n t = none := by
      cases hp : pT n t with
      | none => rfl
      | some x => obtain ⟨l2, r2⟩ := x; have := (o1.ok l2 r2 hp).1; cases this
    rw [hpn] at hpS
    simp only [] at hpS
    have hL : ∀ s0 : St, (s0.ρ 0 = .p 0 0 3 0 0 ∧ PSt l s0.H t1 l1 true (chV c1 st.tick 2 l1.length (oldV l))) → ∃ e s, loopRun (fun st => runCode C (callK C (k + 8)) (k + 8) (K 10) L10_0 1 st) [0] (k + 7 + 1) s0 = some (e, s) ∧ (e = Ex.ex 0 ∧ PSt l s.H t1 l1 true (chV c1 st.tick 2 l1.length (oldV l))) := fun s0 hs => by
      obtain ⟨s, e, h⟩ := loopF (k + 8) (k + 7) s0 hs.1 hs.2
      exact ⟨_, s, e, rfl, h⟩
    obtain ⟨e, s1, rfl, rfl, g3⟩ := loop_any hL hr ⟨by simp [hst], by simpa using P1⟩
    have ho : OutP 0 (pS (n + 1) t) t l t1 l1 true := by
      rw [hpS]
      exact ⟨(fun _ _ h => by cases h), fun _ => rfl, o1len, by simp at o1sz ⊢; omega⟩
    simpa using EndOk.of g3 ho

end Go.Proofs.YteedcjgmgbcndaaDoor.Eng
namespace Go.Proofs.YteedcjgmgbcndaaDoor.Eng
open Go Go.Proofs
set_option maxRecDepth 100000
set_option maxHeartbeats 2000000
set_option linter.unusedSimpArgs false
set_option linter.unusedVariables false
attribute [local simp] finK fin1 hpOf xi renQ isRoot runCode runOps stepX inlOf Eng.step wantedV astep val ofO made loadV storeV find V.cells bin binT binA numT numFs eqCells un1 setAt fieldAddrV fieldV indexAddrV indexV bounds sliceV convV lenV foldV max2V min2V callO bor rdsO wrsO seen_none okD_none loops keepIds resV resultsV St.ev TK.agg refs refsL refsO V.one V.isC Value.oneCell' ren renL renO noTag noTagL noTagR noTagO nodup mapO passV frs psi refsR newD loopNext opsAt idx flatAt rootOf backR newsV appendV copyV clearV strV bytesV bldV bufV selfV bytesOf nilCmp buildV fillF chunk freeL frzW cellSame sameV
attribute [local simp] cT cF cX cWR cOW cK cBL X ints_length ints_get ints_getElem ints_drop ints_take ints_append ints_nil ints_set
attribute [local simp] ints_replicate
attribute [local simp] putV_some putV_none putH_app applyD_nil applyD_cons seen_app gc_ρ gc_H gc_tick st0_ρ st0_H st0_tick retV callRo callV_if borL_nil borL_cons ints_snoc take_self callWr cutH_app findQ afterV exportV_0 exportV_n okD_nil okD_cons sub_seq0 sub_seq1 sub_cond0 sub_cond1 sub_block sub_loop sub_nil young_far young_none hidW_nil mayW_nil keepsF_nil keepsF_cons pairs okI ok_0 ok_1 ok_2
attribute [local simp] T3 T4 T5 T9 T22 T29 T34 T35 T37 T39 T42 T43 T56
attribute [local simp] young_near clo cloF Region.binds Nat.testBit hidW declW mayW List.findIdx?_cons
noncomputable def tcA : Code := (.seq (.region 10 R17_10 true) (.region 11 R17_11 false))
noncomputable def tcN : Code := (.region 2 R17_2 true)
theorem tcA_is : (.seq (.region 10 R17_10 true) (.region 11 R17_11 false)) = tcA := rfl
theorem tcN_is : (.region 2 R17_2 true) = tcN := rfl
/-- A node with a number is put. -/
def PutOk (x : Int) (l0 : List (Int × Int)) (t : List UInt8) (l : List (Int × Int)) (f : Bool) (s : St) : Prop := s.ρ 0 = .p 0 0 3 0 0 ∧ ∃ v', PSt l0 s.H (t.dropWhile isD) (l ++ [(x, pV (t.takeWhile isD))]) (f || !pB (t.takeWhile isD)) v'
theorem PutOk.mk {x : Int} {l0 : List (Int × Int)} {t : List UInt8} {l : List (Int × Int)} {f : Bool} {s : St} (a tk : Nat) (ha : 16 ≤ a) (q0 : s.ρ 0 = .p 0 0 3 0 0) (h0 : s.H 0 = some (0, pO (t.dropWhile isD) (.s a tk 2 0 (l.length + 1)) (f || !pB (t.takeWhile isD)))) (hi : s.H a = some (tk, ndO (l ++ [(x, pV (t.takeWhile isD))]))) (h1 : s.H 1 = none) : PutOk x l0 t l f s :=
  ⟨q0, .s a tk 2 0 (l.length + 1), ⟨h0, .inr (.inr ⟨by simp, a, tk, ha, by simp, hi, h1⟩)⟩⟩
theorem reg2 (k n : Nat) {l0 : List (Int × Int)} {t : List UInt8} {l : List (Int × Int)} {f : Bool} (st : St) (q0 : st.ρ 0 = .p 0 0 3 0 0) (P : PSt l0 st.H t l f (oldV l0)) (hn : st.H 2192 = none) (h20 : t.length ≤ 450) (hl : l.length ≤ 1001) (hk : 1000 ≤ k) :
    ∃ s, runCode C (callK C k) k (K 17) tcN n st = some (.nrm, s) ∧ PutOk 2 l0 t l f s := by
  have N := c_number k t l f (by omega) (by omega)
  have hbb1 : (l.length + 1) * 16 ≤ 140737488355328 := by omega
  have hbb2 : l.length + 1 ≤ maxLen := by unfold maxLen; omega
  obtain ⟨vn, hvn⟩ : ∃ vn, pV (t.takeWhile isD) = vn := ⟨_, rfl⟩
  obtain ⟨tn, htn⟩ : ∃ tn, t.dropWhile isD = tn := ⟨_, rfl⟩
  obtain ⟨fn, hfn⟩ : ∃ fn, (f || !pB (t.takeWhile isD)) = fn := ⟨_, rfl⟩
  rw [hvn, htn, hfn] at N
  have h0 := P.h0
  simp [pO] at h0
  unfold tcN
  rcases P.hv with ⟨g1, g2, g3, g4⟩ | ⟨g1, g2, g3, g4⟩ | ⟨g1, id, vr, g2, g3, g4, g5⟩
  · rw [g3] at h0
    subst g1
    simp [frP, endV, pO] at N
    simp [R17_0, R17_1, R17_2, R17_3, R17_4, R17_5, R17_6, R17_7, R17_8, R17_9, R17_10, R17_11, R17_12, R17_13, R17_14, R17_15, R17_16, R17_17, Tryd.f17, q0, h0, N, hn, okN1, maxLen]
    refine PutOk.mk 2216 st.tick (by omega) (by simp [q0]) ?_ ?_ ?_
    · rw [hfn, htn]; simp [putH_app, pO]
    · rw [hvn]; simp [putH_app, ndO, ndL, ndE]
    · simp [putH_app, g4]
  · rw [g3] at h0
    simp [frP, endV, pO, g1, ndO] at N g4
    simp [R17_0, R17_1, R17_2, R17_3, R17_4, R17_5, R17_6, R17_7, R17_8, R17_9, R17_10, R17_11, R17_12, R17_13, R17_14, R17_15, R17_16, R17_17, Tryd.f17, q0, h0, g4, N, hn, okN1, okN2, hbb1, hbb2, ndL_length, ndL_take]
    refine PutOk.mk 2216 st.tick (by omega) (by simp [q0]) ?_ ?_ ?_
    · rw [hfn, htn]; simp [putH_app, pO]
    · rw [hvn]; simp [putH_app, ndO, ndL, ndE]
    · simp [putH_app]
  · exfalso
    unfold oldV at g3
    split at g3
    · cases g3
    · simp only [V.s.injEq] at g3
      omega
theorem reg10 (k n : Nat) {l0 : List (Int × Int)} {t : List UInt8} {l : List (Int × Int)} {f : Bool} {v : V} (st : St) (q0 : st.ρ 0 = .p 0 0 3 0 0) (P : PSt l0 st.H t l f v) (hv : ∀ id vr m, v = .s id vr 2 0 m → id = 1 ∨ id = 8224) (hn : st.H 10384 = none) (h20 : t.length ≤ 450) (hl : l.length ≤ 1001) (hk : 1000 ≤ k) :
    ∃ s, runCode C (callK C k) k (K 17) (.region 10 R17_10 true) n st = some (.nrm, s) ∧ PutOk 7 l0 t l f s := by
  have N := c_number k t l f (by omega) (by omega)
  have hbb1 : (l.length + 1) * 16 ≤ 140737488355328 := by omega
  have hbb2 : l.length + 1 ≤ maxLen := by unfold maxLen; omega
  obtain ⟨vn, hvn⟩ : ∃ vn, pV (t.takeWhile isD) = vn := ⟨_, rfl⟩
  obtain ⟨tn, htn⟩ : ∃ tn, t.dropWhile isD = tn := ⟨_, rfl⟩
  obtain ⟨fn, hfn⟩ : ∃ fn, (f || !pB (t.takeWhile isD)) = fn := ⟨_, rfl⟩
  rw [hvn, htn, hfn] at N
  have h0 := P.h0
  simp [pO] at h0
  rcases P.hv with ⟨g1, g2, g3, g4⟩ | ⟨g1, g2, g3, g4⟩ | ⟨g1, id, vr, g2, g3, g4, g5⟩
  · rw [g3] at h0
    subst g1
    simp [frP, endV, pO] at N
    simp [R17_0, R17_1, R17_2, R17_3, R17_4, R17_5, R17_6, R17_7, R17_8, R17_9, R17_10, R17_11, R17_12, R17_13, R17_14, R17_15, R17_16, R17_17, Tryd.f17, q0, h0, N, hn, okN1, maxLen]
    refine PutOk.mk 10408 st.tick (by omega) (by simp [q0]) ?_ ?_ ?_
    · rw [hfn, htn]; simp [putH_app, pO]
    · rw [hvn]; simp [putH_app, ndO, ndL, ndE]
    · simp [putH_app, g4]
  · rw [g3] at h0
    simp [frP, endV, pO, g1, ndO] at N g4
    simp [R17_0, R17_1, R17_2, R17_3, R17_4, R17_5, R17_6, R17_7, R17_8, R17_9, R17_10, R17_11, R17_12, R17_13, R17_14, R17_15, R17_16, R17_17, Tryd.f17, q0, h0, g4, N, hn, okN1, okN2, hbb1, hbb2, ndL_length, ndL_take]
    refine PutOk.mk 10408 st.tick (by omega) (by simp [q0]) ?_ ?_ ?_
    · rw [hfn, htn]; simp [putH_app, pO]
    · rw [hvn]; simp [putH_app, ndO, ndL, ndE]
    · simp [putH_app]
  · have hid : id = 8224 := by
      rcases hv id vr l.length g3 with h | h
      · omega
      · exact h
    subst hid
    rw [g3] at h0
    simp [frP, endV, pO, g1, ndO] at N g4
    simp [R17_0, R17_1, R17_2, R17_3, R17_4, R17_5, R17_6, R17_7, R17_8, R17_9, R17_10, R17_11, R17_12, R17_13, R17_14, R17_15, R17_16, R17_17, Tryd.f17, q0, h0, g4, N, hn, okN1, okN2, hbb1, hbb2, ndL_length, ndL_take]
    refine PutOk.mk 10408 st.tick (by omega) (by simp [q0]) ?_ ?_ ?_
    · rw [hfn, htn]; simp [putH_app, pO]
    · rw [hvn]; simp [putH_app, ndO, ndL, ndE]
    · simp [putH_app, g5]
theorem tailA (k n : Nat) {l0 : List (Int × Int)} {t : List UInt8} {l : List (Int × Int)} {f : Bool} {v : V} (st : St) (q0 : st.ρ 0 = .p 0 0 3 0 0) (P : PSt l0 st.H t l f v) (hv : ∀ id vr m, v = .s id vr 2 0 m → id = 1 ∨ id = 8224) (hn : st.H 10384 = none) (h20 : t.length ≤ 450) (hl : l.length ≤ 1001) (hk : 1000 ≤ k) :
    ∃ s, runCode C (callK C k) k (K 17) tcA n st = some (.nrm, s) ∧ ∃ v', PSt l0 s.H (restP [41] (t.dropWhile isD)) (l ++ [(7, pV (t.takeWhile isD))]) ((f || !pB (t.takeWhile isD)) || !hasP [41] (t.dropWhile isD)) v' := by
  obtain ⟨s, e, r0, v', P'⟩ := reg10 k n st q0 P hv hn h20 hl hk
  obtain ⟨δ, d, P2, _⟩ := callP k 31 [.string (bs [41])] rfl rfl P' Pl.tp (c_need k (t.dropWhile isD) [41] _ _ (by omega)) (fun _ => rfl) (fun h => by cases h) s.tick 706 (by omega)
  simp only [List.map_nil, List.map_cons] at d
  have hseq : tcA = .seq (.region 10 R17_10 true) (.region 11 R17_11 false) := rfl
  rw [hseq]
  have hrun : ∀ (a b : Code), runCode C (callK C k) k (K 17) (.seq a b) n st = (match runCode C (callK C k) k (K 17) a n st with
    | some (.nrm, st') => runCode C (callK C k) k (K 17) b (n + loops a) st'
    | r => r) := fun a b => by
    simp only [runCode]
    cases runCode C (callK C k) k (K 17) a n st with
    | none => rfl
    | some r => obtain ⟨e, s⟩ := r; cases e <;> rfl
  rw [hrun, e]
  simp only []
  have e2 : ∃ s2, runCode C (callK C k) k (K 17) (.region 11 R17_11 false) (n + loops (.region 10 R17_10 true)) s = some (.nrm, s2) ∧ s2.H = applyD s.H δ := by
    simp [-callV_if, R17_0, R17_1, R17_2, R17_3, R17_4, R17_5, R17_6, R17_7, R17_8, R17_9, R17_10, R17_11, R17_12, R17_13, R17_14, R17_15, R17_16, R17_17, Tryd.f17, r0, lt41, d]
  obtain ⟨s2, e2, h2⟩ := e2
  exact ⟨s2, e2, _, by rw [h2]; exact P2⟩
/-- What a term leaves. -/
def TmOk (n : Nat) (t : List UInt8) (l : List (Int × Int)) (s : St) : Prop := ∃ t' l' f' v', PSt l s.H t' l' f' v' ∧ OutP 0 (pT n t) t l t' l' f'
theorem TmOk.fin {n : Nat} {t : List UInt8} {l : List (Int × Int)} {s : St} (h : TmOk n t l s) : EndOk 0 (pT n t) t l (exportV (if l = [] then 1 else 2) (.tp []) s.H) := by
  obtain ⟨t', l', f', v', P, o⟩ := h
  exact EndOk.of P o
theorem takes (k : Nat) {l : List (Int × Int)} {t : List UInt8} {v : V} {H : Hp} (P : PSt l H t l false v) (p : List UInt8) (hp : stripL p t = none) (tick site : Nat) (hs : 1 ≤ site) (hk : 10 ≤ k) : ∃ δ, callV C (callK C k) H tick site 18 [.p 0 0 3 0 0, .c (.string (bs p))] = some (some (.c (.bool false)), δ) ∧ PSt l (applyD H δ) t l false v ∧ ∀ x, H x = none → x ≠ 16 * site → applyD H δ x = none := by
  obtain ⟨p1, p2⟩ := hasP_none hp
  obtain ⟨δ, d, P1, hn⟩ := callP k 18 [.string (bs p)] rfl rfl P (Pl.c _) (c_take k t p l false hk) (fun _ => rfl) (fun h => by cases h) tick site hs
  rw [p2] at P1
  rw [p1] at d
  exact ⟨δ, d, P1, hn⟩
theorem takesY (k : Nat) {l : List (Int × Int)} {t r : List UInt8} {v : V} {H : Hp} (P : PSt l H t l false v) (p : List UInt8) (hp : stripL p t = some r) (tick site : Nat) (hs : 1 ≤ site) (hk : 10 ≤ k) : ∃ δ, callV C (callK C k) H tick site 18 [.p 0 0 3 0 0, .c (.string (bs p))] = some (some (.c (.bool true)), δ) ∧ PSt l (applyD H δ) r l false v ∧ ∀ x, H x = none → x ≠ 16 * site → applyD H δ x = none := by
  obtain ⟨p1, p2⟩ := hasP_some hp
  obtain ⟨δ, d, P1, hn⟩ := callP k 18 [.string (bs p)] rfl rfl P (Pl.c _) (c_take k t p l false hk) (fun _ => rfl) (fun h => by cases h) tick site hs
  rw [p2] at P1
  rw [p1] at d
  exact ⟨δ, d, P1, hn⟩
theorem pT_eq (n : Nat) (t : List UInt8) : pT (n + 1) t = match stripL [109, 105, 110, 40] t with
    | some r => pP n 5 r
    | none => match stripL [109, 97, 120, 40] t with
      | some r => pP n 6 r
      | none => match stripL [97, 98, 111, 118, 101, 40] t with
        | some r => match pS n r with
          | none => none
          | some (l, r1) => match stripL [44] r1 with
            | none => none
            | some r2 => match numP r2 with
              | none => none
              | some (v, r3) => match stripL [41] r3 with
                | none => none
                | some r4 => some (l ++ [(7, v)], r4)
        | none => match stripL [40] t with
          | some r => match pS n r with
            | none => none
            | some (l, r1) => match stripL [41] r1 with
              | none => none
              | some r2 => some (l, r2)
          | none => match t with
            | [] => none
            | c :: r => if 97 ≤ c.toNat ∧ c.toNat ≤ 100 then some ([(1, (c.toNat : Int) - 97)], r) else match numP (c :: r) with
              | none => none
              | some (v, r') => some ([(2, v)], r') := by
  conv => lhs; unfold pT
  cases stripL [109, 105, 110, 40] t with
  | some r => rfl
  | none =>
    cases stripL [109, 97, 120, 40] t with
    | some r => rfl
    | none =>
      cases stripL [97, 98, 111, 118, 101, 40] t with
      | some r => rfl
      | none =>
        cases stripL [40] t with
        | some r => rfl
        | none => cases t <;> rfl
theorem drop_le (t : List UInt8) : (t.dropWhile isD).length ≤ t.length := by
  obtain ⟨m, _, _, h, _⟩ := dig_facts t
  rw [h, List.length_drop]
  omega
theorem numP_v {t : List UInt8} (h : pB (t.takeWhile isD) = true) : numP t = some (pV (t.takeWhile isD), t.dropWhile isD) := by
  unfold pB at h
  unfold numP pV
  cases hp : pI (t.takeWhile isD) with
  | none => rw [hp] at h; cases h
  | some v => rfl
theorem numP_n {t : List UInt8} (h : pB (t.takeWhile isD) = false) : numP t = none := by
  unfold pB at h
  unfold numP
  cases hp : pI (t.takeWhile isD) with
  | none => rfl
  | some v => rw [hp] at h; cases h
theorem out_min {n : Nat} {t r : List UInt8} {l : List (Int × Int)} {t' : List UInt8} {l' : List (Int × Int)} {f' : Bool} (kind : Int) (hp : pT (n + 1) t = pP n kind r) (hr : r.length + 4 = t.length) (o : OutP 1 (pP n kind r) r l t' l' f') : OutP 0 (pT (n + 1) t) t l t' l' f' := by
  obtain ⟨a, b, c, d⟩ := o
  rw [hp]
  exact ⟨a, b, by omega, by omega⟩
theorem term_step (n : Nat) (hP : ∀ kind, CtrT 30 [.int .i64 kind] 1 n (pP n kind) 3) (hS : CtrT 10 [] 0 n (pS n) 2) : CtrT 17 [] 0 (n + 1) (pT (n + 1)) 1 := by
  intro k t l hk hn ht hl
  obtain ⟨k, rfl⟩ : ∃ m, k = m + 9 := ⟨k - 9, by omega⟩
  rw [callK_fn rfl F17 code17]
  obtain ⟨P, hN⟩ := PSt.st0 t l false (.p 0 0 3 0 0 :: List.map V.c [])
  rw [frP_len]
  have hst : (Eng.st0 (.p 0 0 3 0 0 :: List.map V.c []) (frP t l false)).ρ 0 = .p 0 0 3 0 0 := rfl
  generalize Eng.st0 (.p 0 0 3 0 0 :: List.map V.c []) (frP t l false) = st at P hst hN ⊢
  have hNA := hN 10384 (by omega)
  have hN2 := hN 2192 (by omega)
  have hNL := hN 16608 (by omega)
  have h0 := P.h0
  simp [pO] at h0
  rw [tcA_is, tcN_is]
  cases t with
  | nil =>
    have hn0 : (pT (n + 1) []) = none := by
      unfold pT
      simp [stripL]
    simp [-callV_if, R17_0, R17_1, R17_2, R17_3, R17_4, R17_5, R17_6, R17_7, R17_8, R17_9, R17_10, R17_11, R17_12, R17_13, R17_14, R17_15, R17_16, R17_17, Tryd.f17, hst, h0, lit0, bs_neq]
    refine EndOk.of (t' := []) (l' := l) (f' := true) (P.same (by simp [putH_app, pO]) (fun x hx => by simp [putH_app, hx])) ?_
    rw [hn0]
    exact ⟨(fun _ _ h => by cases h), fun _ => rfl, Nat.le_refl _, by simp⟩
  | cons c r =>
    generalize hT : c :: r = T at P h0 ht hl hn ⊢
    have hTne : ¬ T = [] := by rw [← hT]; simp
    have hTl : T.length = r.length + 1 := by rw [← hT]; simp
    have E := pT_eq n T
    cases h1 : stripL [109, 105, 110, 40] T with
    | some r1 =>
      have hs1 := strip_some h1
      simp at hs1
      rw [h1] at E
      obtain ⟨δ1, d1, P1, _⟩ := takesY (k + 8) P _ h1 (st.tick + 1) 194 (by omega) (by omega)
      obtain ⟨t', l', f', ch, e, a, b, o⟩ := hP 5 (k + 8) r1 l (by omega) (by omega) (by omega) (by omega)
      obtain ⟨δ2, d2, P2, _⟩ := callP (k + 8) 30 [.int .i64 5] rfl rfl P1 Pl.tp e a b (st.tick + 1 + 1) 258 (by omega)
      simp only [List.map_nil, List.map_cons] at d2
      simp [-callV_if, R17_0, R17_1, R17_2, R17_3, R17_4, R17_5, R17_6, R17_7, R17_8, R17_9, R17_10, R17_11, R17_12, R17_13, R17_14, R17_15, R17_16, R17_17, Tryd.f17, hst, h0, lit0, bs_neq, hTne, ltM, ltX, ltA, lt40, d1, d2]
      exact EndOk.of P2 (out_min 5 E (by omega) o)
    | none =>
    rw [h1] at E
    obtain ⟨δ1, d1, P1, N1⟩ := takes (k + 8) P _ h1 (st.tick + 1) 194 (by omega) (by omega)
    cases h2 : stripL [109, 97, 120, 40] T with
    | some r1 =>
      have hs1 := strip_some h2
      simp at hs1
      rw [h2] at E
      obtain ⟨δ2, d2, P2, _⟩ := takesY (k + 8) P1 _ h2 (st.tick + 1 + 1) 322 (by omega) (by omega)
      obtain ⟨t', l', f', ch, e, a, b, o⟩ := hP 6 (k + 8) r1 l (by omega) (by omega) (by omega) (by omega)
      obtain ⟨δ3, d3, P3, _⟩ := callP (k + 8) 30 [.int .i64 6] rfl rfl P2 Pl.tp e a b (st.tick + 1 + 1 + 1) 386 (by omega)
      simp only [List.map_nil, List.map_cons] at d3
      simp [-callV_if, R17_0, R17_1, R17_2, R17_3, R17_4, R17_5, R17_6, R17_7, R17_8, R17_9, R17_10, R17_11, R17_12, R17_13, R17_14, R17_15, R17_16, R17_17, Tryd.f17, hst, h0, lit0, bs_neq, hTne, ltM, ltX, ltA, lt40, d1, d2, d3]
      exact EndOk.of P3 (out_min 6 E (by omega) o)
    | none =>
    rw [h2] at E
    obtain ⟨δ2, d2, P2, N2⟩ := takes (k + 8) P1 _ h2 (st.tick + 1 + 1) 322 (by omega) (by omega)
    cases h3 : stripL [97, 98, 111, 118, 101, 40] T with
    | some r1 =>
      have hs1 := strip_some h3
      simp at hs1
      rw [h3] at E
      simp only [] at E
      obtain ⟨δ3, d3, P3, N3⟩ := takesY (k + 8) P2 _ h3 (st.tick + 1 + 1 + 1) 450 (by omega) (by omega)
      obtain ⟨t1, l1, f1, c1, e, a, b, o⟩ := hS (k + 8) r1 l (by omega) (by omega) (by omega) (by omega)
      obtain ⟨δ4, d4, P4, N4⟩ := callP (k + 8) 10 [] rfl rfl P3 Pl.tp e a b (st.tick + 1 + 1 + 1 + 1) 514 (by omega)
      obtain ⟨δ5, d5, P5, N5⟩ := callP (k + 8) 31 [.string (bs [44])] rfl rfl P4 Pl.tp (c_need (k + 8) t1 [44] l1 f1 (by omega)) (fun _ => rfl) (fun h => by cases h) (st.tick + 1 + 1 + 1 + 1 + 1) 578 (by omega)
      simp only [List.map_nil, List.map_cons] at d4 d5
      have olen := o.len
      have osz := o.sz
      have hf1 : (if f1 = true then 1 else 0) ≤ 1 := by split <;> omega
      obtain ⟨t2, ht2⟩ : ∃ t2, restP [44] t1 = t2 := ⟨_, rfl⟩
      obtain ⟨f2, hf2⟩ : ∃ f2, (f1 || !hasP [44] t1) = f2 := ⟨_, rfl⟩
      have hlen2 : t2.length ≤ t1.length := by rw [← ht2]; exact restP_len _ _
      have hlen3 := drop_le t2
      have hlen4 := restP_len [41] (t2.dropWhile isD)
      rw [ht2, hf2] at P5
      have hnone : applyD (applyD (applyD (applyD (applyD st.H δ1) δ2) δ3) δ4) δ5 10384 = none := N5 _ (N4 _ (N3 _ (N2 _ (N1 _ hNA (by omega)) (by omega)) (by omega)) (by omega)) (by omega)
      have hTA := fun (s0 : St) (hs : s0.ρ 0 = .p 0 0 3 0 0 ∧ PSt l s0.H t2 l1 f2 (chV false (st.tick + 1 + 1 + 1 + 1 + 1) 578 l1.length (chV c1 (st.tick + 1 + 1 + 1 + 1) 514 l1.length (oldV l))) ∧ s0.H 10384 = none) => tailA (k + 8) 0 s0 hs.1 hs.2.1 (by
        intro id vr m e
        cases c1
        · simp only [chV, Bool.false_eq_true, if_false, oldV] at e
          split at e
          · cases e
          · simp only [V.s.injEq] at e
            omega
        · simp only [chV, Bool.false_eq_true, if_false, if_true, V.s.injEq] at e
          omega) hs.2.2 (by omega) (by omega) (by omega)
      simp [-callV_if, R17_0, R17_1, R17_2, R17_3, R17_4, R17_5, R17_6, R17_7, R17_8, R17_9, R17_10, R17_11, R17_12, R17_13, R17_14, R17_15, R17_16, R17_17, Tryd.f17, hst, h0, lit0, bs_neq, hTne, ltM, ltX, ltA, lt40, lt44, d1, d2, d3, d4, d5]
      generalize hr : runCode _ _ _ _ tcA _ _ = res
      obtain ⟨s1, rfl, v', P6⟩ := loop_at hTA hr ⟨by simp [hst], by simpa using P5, by simpa using hnone⟩
      simp
      refine EndOk.of P6 ?_
      obtain ⟨f3, hf3⟩ : ∃ f3, (f2 || !pB (t2.takeWhile isD)) = f3 := ⟨_, rfl⟩
      obtain ⟨f4, hf4⟩ : ∃ f4, (f3 || !hasP [41] (t2.dropWhile isD)) = f4 := ⟨_, rfl⟩
      rw [hf3, hf4]
      have g12 : f1 = true → f2 = true := by intro h; rw [h] at hf2; exact hf2.symm
      have g23 : f2 = true → f3 = true := by intro h; rw [h] at hf3; exact hf3.symm
      have g34 : f3 = true → f4 = true := by intro h; rw [h] at hf4; exact hf4.symm
      have key : (∀ q u, pT (n + 1) T = some (q, u) → f4 = false ∧ restP [41] (t2.dropWhile isD) = u ∧ l1 ++ [(7, pV (t2.takeWhile isD))] = l ++ q) ∧ (pT (n + 1) T = none → f4 = true) := by
        rw [E]
        cases k1 : pS n r1 with
        | none => exact ⟨(fun q u h => by cases h), fun _ => g34 (g23 (g12 (o.no k1)))⟩
        | some x =>
          obtain ⟨q1, u1⟩ := x
          obtain ⟨y1, y2, y3⟩ := o.ok q1 u1 k1
          subst y1 y2
          simp only []
          cases k2 : stripL [44] t1 with
          | none =>
            rw [(hasP_none k2).1] at hf2
            exact ⟨(fun q u h => by cases h), fun _ => g34 (g23 hf2.symm)⟩
          | some u2 =>
            obtain ⟨z1, z2⟩ := hasP_some k2
            rw [z2] at ht2
            rw [z1] at hf2
            subst ht2
            have hf2' : f2 = false := hf2.symm
            subst hf2'
            simp only []
            cases k3 : pB (u2.takeWhile isD) with
            | false =>
              rw [k3] at hf3
              rw [numP_n k3]
              exact ⟨(fun q u h => by cases h), fun _ => g34 hf3.symm⟩
            | true =>
              rw [k3] at hf3
              have hf3' : f3 = false := hf3.symm
              subst hf3'
              rw [numP_v k3]
              simp only []
              cases k4 : stripL [41] (u2.dropWhile isD) with
              | none =>
                rw [(hasP_none k4).1] at hf4
                exact ⟨(fun q u h => by cases h), fun _ => hf4.symm⟩
              | some u4 =>
                obtain ⟨z3, z4⟩ := hasP_some k4
                rw [z3] at hf4
                rw [z4]
                refine ⟨fun q u h => ?_, (fun h => by cases h)⟩
                cases h
                exact ⟨hf4.symm, rfl, by rw [y3]; simp⟩
      refine ⟨key.1, key.2, by omega, ?_⟩
      have : (if f1 = true then 1 else 0) ≤ (if f4 = true then 1 else 0) := by
        cases f1
        · simp
        · rw [g34 (g23 (g12 rfl))]
          simp
      simp only [List.length_append, List.length_cons, List.length_nil]
      omega
    | none =>
    rw [h3] at E
    obtain ⟨δ3, d3, P3, N3⟩ := takes (k + 8) P2 _ h3 (st.tick + 1 + 1 + 1) 450 (by omega) (by omega)
    cases h4 : stripL [40] T with
    | some r1 =>
      have hs1 := strip_some h4
      simp at hs1
      rw [h4] at E
      simp only [] at E
      obtain ⟨δ4, d4, P4, _⟩ := takesY (k + 8) P3 _ h4 (st.tick + 1 + 1 + 1 + 1) 770 (by omega) (by omega)
      obtain ⟨t1, l1, f1, c1, e, a, b, o⟩ := hS (k + 8) r1 l (by omega) (by omega) (by omega) (by omega)
      obtain ⟨δ5, d5, P5, _⟩ := callP (k + 8) 10 [] rfl rfl P4 Pl.tp e a b (st.tick + 1 + 1 + 1 + 1 + 1) 834 (by omega)
      obtain ⟨δ6, d6, P6, _⟩ := callP (k + 8) 31 [.string (bs [41])] rfl rfl P5 Pl.tp (c_need (k + 8) t1 [41] l1 f1 (by omega)) (fun _ => rfl) (fun h => by cases h) (st.tick + 1 + 1 + 1 + 1 + 1 + 1) 898 (by omega)
      simp only [List.map_nil, List.map_cons] at d5 d6
      have olen := o.len
      have osz := o.sz
      simp [-callV_if, R17_0, R17_1, R17_2, R17_3, R17_4, R17_5, R17_6, R17_7, R17_8, R17_9, R17_10, R17_11, R17_12, R17_13, R17_14, R17_15, R17_16, R17_17, Tryd.f17, hst, h0, lit0, bs_neq, hTne, ltM, ltX, ltA, lt40, lt41, d1, d2, d3, d4, d5, d6]
      refine EndOk.of P6 ?_
      have hlen2 := restP_len [41] t1
      obtain ⟨f2, hf2⟩ : ∃ f2, (f1 || !hasP [41] t1) = f2 := ⟨_, rfl⟩
      rw [hf2]
      have g12 : f1 = true → f2 = true := by intro h; rw [h] at hf2; exact hf2.symm
      have key : (∀ q u, pT (n + 1) T = some (q, u) → f2 = false ∧ restP [41] t1 = u ∧ l1 = l ++ q) ∧ (pT (n + 1) T = none → f2 = true) := by
        rw [E]
        cases k1 : pS n r1 with
        | none => exact ⟨(fun q u h => by cases h), fun _ => g12 (o.no k1)⟩
        | some x =>
          obtain ⟨q1, u1⟩ := x
          obtain ⟨y1, y2, y3⟩ := o.ok q1 u1 k1
          subst y1 y2
          simp only []
          cases k2 : stripL [41] t1 with
          | none =>
            rw [(hasP_none k2).1] at hf2
            exact ⟨(fun q u h => by cases h), fun _ => hf2.symm⟩
          | some u2 =>
            obtain ⟨z1, z2⟩ := hasP_some k2
            rw [z1] at hf2
            rw [z2]
            refine ⟨fun q u h => ?_, (fun h => by cases h)⟩
            cases h
            exact ⟨hf2.symm, rfl, y3⟩
      refine ⟨key.1, key.2, by omega, ?_⟩
      have : (if f1 = true then 1 else 0) ≤ (if f2 = true then 1 else 0) := by
        cases f1
        · simp
        · rw [g12 rfl]
          simp
      omega
    | none =>
    rw [h4] at E
    obtain ⟨δ4, d4, P4, N4⟩ := takes (k + 8) P3 _ h4 (st.tick + 1 + 1 + 1 + 1) 770 (by omega) (by omega)
    have hH2 : applyD (applyD (applyD (applyD st.H δ1) δ2) δ3) δ4 2192 = none := N4 _ (N3 _ (N2 _ (N1 _ hN2 (by omega)) (by omega)) (by omega)) (by omega)
    have hHL : applyD (applyD (applyD (applyD st.H δ1) δ2) δ3) δ4 16608 = none := N4 _ (N3 _ (N2 _ (N1 _ hNL (by omega)) (by omega)) (by omega)) (by omega)
    have E2 : pT (n + 1) T = if 97 ≤ c.toNat ∧ c.toNat ≤ 100 then some ([((1 : Int), (c.toNat : Int) - 97)], r) else match numP T with
        | none => none
        | some (v, r') => some ([(2, v)], r') := by
      rw [E, ← hT]
    have hb : byteAt (bs T) 0 = ((c.toNat : Nat) : Int) := by
      rw [← hT]
      exact byteAt_bs (l := c :: r) (i := 0) (by simp)
    have hTp : 0 < T.length := by omega
    have h04 := P4.h0
    simp [pO] at h04
    by_cases hc : 97 ≤ c.toNat ∧ c.toNat ≤ 100
    · have c1 : (97 : Int) ≤ ((c.toNat : Nat) : Int) := by omega
      have c2 : ((c.toNat : Nat) : Int) ≤ 100 := by omega
      have w1 : IntKind.u8.wrap (((c.toNat : Nat) : Int) - 97) = ((c.toNat : Nat) : Int) - 97 := by
        show ((((c.toNat : Nat) : Int) - 97) % 256) = _
        omega
      have w2 : IntKind.i64.wrap (((c.toNat : Nat) : Int) - 97) = ((c.toNat : Nat) : Int) - 97 := wrap_small (by omega) (by omega)
      rw [if_pos hc] at E2
      have hdr : T.tail.take (T.length - 1) = r := by rw [← hT]; simp
      have hT1 : (1 : Int) ≤ (T.length : Int) := by omega
      have hT1' : 1 ≤ T.length := by omega
      have hbb1 : (l.length + 1) * 16 ≤ 140737488355328 := by omega
      have hbb2 : l.length + 1 ≤ maxLen := by unfold maxLen; omega
      have ho : OutP 0 (pT (n + 1) T) T l r (l ++ [(1, (c.toNat : Int) - 97)]) false := by
        rw [E2]
        refine ⟨fun q u h => ?_, (fun h => by cases h), by omega, by simp; omega⟩
        cases h
        exact ⟨rfl, rfl, rfl⟩
      by_cases hl0 : l = []
      · have hov : oldV l = nilL := by simp [oldV, hl0]
        have g4 := P4.hv
        rw [hov] at h04 g4
        have g1 : applyD (applyD (applyD (applyD st.H δ1) δ2) δ3) δ4 1 = none := by
          rcases g4 with ⟨_, _, _, g⟩ | ⟨g, _⟩ | ⟨g, _⟩
          · exact g
          · exact absurd hl0 g
          · exact absurd hl0 g
        simp [-callV_if, R17_0, R17_1, R17_2, R17_3, R17_4, R17_5, R17_6, R17_7, R17_8, R17_9, R17_10, R17_11, R17_12, R17_13, R17_14, R17_15, R17_16, R17_17, Tryd.f17, hst, h0, lit0, bs_neq, hTne, ltM, ltX, ltA, lt40, d1, d2, d3, d4, h04, hb, hTp, bs_size, c1, c2, w1, w2, hHL, okN1, maxLen, bs_extract, hT1, hT1', hdr]
        subst hl0
        exact EndOk.of (t' := r) (l' := [(1, (c.toNat : Int) - 97)]) (f' := false) (v := .s 16632 (st.tick + 1 + 1 + 1 + 1 + 1 + 1) 2 0 1) ⟨by simp [putH_app, pO], .inr (.inr ⟨by simp, 16632, st.tick + 1 + 1 + 1 + 1 + 1 + 1, by omega, by simp, by simp [putH_app, ndO, ndL, ndE], by simp [putH_app, g1]⟩)⟩ (by simpa using ho)
      · have hov : oldV l = .s 1 0 2 0 l.length := by simp [oldV, hl0]
        have g4 := P4.hv
        rw [hov] at h04 g4
        have g1 : applyD (applyD (applyD (applyD st.H δ1) δ2) δ3) δ4 1 = some (0, ndO l) := by
          rcases g4 with ⟨g, _⟩ | ⟨_, _, _, g⟩ | ⟨_, id, vr, g2, g3, _⟩
          · exact absurd g hl0
          · exact g
          · simp only [V.s.injEq] at g3
            omega
        simp [ndO] at g1
        simp [-callV_if, R17_0, R17_1, R17_2, R17_3, R17_4, R17_5, R17_6, R17_7, R17_8, R17_9, R17_10, R17_11, R17_12, R17_13, R17_14, R17_15, R17_16, R17_17, Tryd.f17, hst, h0, lit0, bs_neq, hTne, ltM, ltX, ltA, lt40, d1, d2, d3, d4, h04, hb, hTp, bs_size, c1, c2, w1, w2, hHL, g1, okN1, okN2, hbb1, hbb2, ndL_length, ndL_take, bs_extract, hT1, hT1', hdr]
        exact EndOk.of (t' := r) (l' := l ++ [(1, (c.toNat : Int) - 97)]) (f' := false) (v := .s 16632 (st.tick + 1 + 1 + 1 + 1 + 1 + 1) 2 0 (l.length + 1)) ⟨by simp [putH_app, pO], .inr (.inr ⟨by simp, 16632, st.tick + 1 + 1 + 1 + 1 + 1 + 1, by omega, by simp, by simp [putH_app, ndO, ndL, ndE], by simp [putH_app]⟩)⟩ ho
    · rw [if_neg hc] at E2
      have hTN := fun (s0 : St) (hs : s0.ρ 0 = .p 0 0 3 0 0 ∧ PSt l s0.H T l false (oldV l) ∧ s0.H 2192 = none) => reg2 (k + 8) 0 s0 hs.1 hs.2.1 hs.2.2 ht (by omega) (by omega)
      have fin : ∀ res, (∃ s, res = some (Ex.nrm, s) ∧ PutOk 2 l T l false s) → ∃ s, res = some (Ex.nrm, s) ∧ EndOk 0 (pT (n + 1) T) T l (exportV (if l = [] then 1 else 2) (.tp []) s.H) := by
        rintro res ⟨s, e, _, v', P6⟩
        refine ⟨s, e, EndOk.of P6 ?_⟩
        have hlen3 := drop_le T
        rw [E2]
        simp only [Bool.false_or]
        cases k3 : pB (T.takeWhile isD) with
        | false =>
          rw [numP_n k3]
          exact ⟨(fun q u h => by cases h), fun _ => rfl, hlen3, by simp; omega⟩
        | true =>
          have hnl := numP_v k3
          have hlt := numP_len hnl
          rw [hnl]
          refine ⟨fun q u h => ?_, (fun h => by cases h), hlen3, by simp; omega⟩
          cases h
          exact ⟨rfl, rfl, rfl⟩
      have hTN2 := fun s0 hs => fin _ (hTN s0 hs)
      by_cases c1 : (97 : Int) ≤ ((c.toNat : Nat) : Int)
      · have c2 : ¬ ((c.toNat : Nat) : Int) ≤ 100 := by omega
        simp [-callV_if, R17_0, R17_1, R17_2, R17_3, R17_4, R17_5, R17_6, R17_7, R17_8, R17_9, R17_10, R17_11, R17_12, R17_13, R17_14, R17_15, R17_16, R17_17, Tryd.f17, hst, h0, lit0, bs_neq, hTne, ltM, ltX, ltA, lt40, d1, d2, d3, d4, h04, hb, hTp, bs_size, c1, c2]
        generalize hr : runCode _ _ _ _ tcN _ _ = res
        obtain ⟨s1, rfl, P6⟩ := loop_at hTN2 hr ⟨by simp [hst], by simpa using P4, by simpa using hH2⟩
        simpa using P6
      · simp [-callV_if, R17_0, R17_1, R17_2, R17_3, R17_4, R17_5, R17_6, R17_7, R17_8, R17_9, R17_10, R17_11, R17_12, R17_13, R17_14, R17_15, R17_16, R17_17, Tryd.f17, hst, h0, lit0, bs_neq, hTne, ltM, ltX, ltA, lt40, d1, d2, d3, d4, h04, hb, hTp, bs_size, c1]
        generalize hr : runCode _ _ _ _ tcN _ _ = res
        obtain ⟨s1, rfl, P6⟩ := loop_at hTN2 hr ⟨by simp [hst], by simpa using P4, by simpa using hH2⟩
        simpa using P6

end Go.Proofs.YteedcjgmgbcndaaDoor.Eng
namespace Go.Proofs.YteedcjgmgbcndaaDoor.Eng
open Go Go.Proofs
set_option maxRecDepth 100000
set_option maxHeartbeats 2000000
set_option linter.unusedSimpArgs false
set_option linter.unusedVariables false
attribute [local simp] finK fin1 hpOf xi renQ isRoot runCode runOps stepX inlOf Eng.step wantedV astep val ofO made loadV storeV find V.cells bin binT binA numT numFs eqCells un1 setAt fieldAddrV fieldV indexAddrV indexV bounds sliceV convV lenV foldV max2V min2V callO bor rdsO wrsO seen_none okD_none loops keepIds resV resultsV St.ev TK.agg refs refsL refsO V.one V.isC Value.oneCell' ren renL renO noTag noTagL noTagR noTagO nodup mapO passV frs psi refsR newD loopNext opsAt idx flatAt rootOf backR newsV appendV copyV clearV strV bytesV bldV bufV selfV bytesOf nilCmp buildV fillF chunk freeL frzW cellSame sameV
attribute [local simp] cT cF cX cWR cOW cK cBL X ints_length ints_get ints_getElem ints_drop ints_take ints_append ints_nil ints_set
attribute [local simp] ints_replicate
attribute [local simp] putV_some putV_none putH_app applyD_nil applyD_cons seen_app gc_ρ gc_H gc_tick st0_ρ st0_H st0_tick retV callRo callV_if borL_nil borL_cons ints_snoc take_self callWr cutH_app findQ afterV exportV_0 exportV_n okD_nil okD_cons sub_seq0 sub_seq1 sub_cond0 sub_cond1 sub_block sub_loop sub_nil young_far young_none hidW_nil mayW_nil keepsF_nil keepsF_cons pairs okI ok_0 ok_1 ok_2
attribute [local simp] T3 T4 T5 T9 T22 T29 T34 T35 T37 T39 T42 T43 T56
attribute [local simp] young_near clo cloF Region.binds Nat.testBit hidW declW mayW List.findIdx?_cons
/-- A string and a place in it. -/
structure RT where
  S : List UInt8
  at' : Nat
def RT.T (t : RT) : List UInt8 := t.S.drop t.at'
/-- The reference's reader. -/
def rO (t : RT) (v : V) (f : Bool) : Eng.Obj := ⟨37, 4, false, [[.c (.string (bs t.S)), .c (.int .i64 (t.at' : Int)), .c (.bool f), v]]⟩
/-- What a call is handed. -/
def frR (t : RT) (l : List (Int × Int)) (f : Bool) : List Eng.Obj := if l = [] then [rO t nilL f] else [rO t (.s 1 0 2 0 l.length) f, ndO l]
/-- What a call ends with: a value, whether the list is another one. -/
def endR (v : V) (l l' : List (Int × Int)) (ch : Bool) (t : RT) (f : Bool) : Option (V × Hp) :=
  some (v, if l = [] then (if ch then hpOf [some (rO t (.s 1 2 2 0 l'.length) f)] [ndO l'] else hpOf [some (rO t nilL f)] []) else (if ch then hpOf [some (rO t (.s 2 2 2 0 l'.length) f), none] [ndO l'] else hpOf [some (rO t (.s 1 0 2 0 l.length) f), some (ndO l)] []))
/-- A frame whose slot 0 points to the parser: what the parser holds. -/
structure RSt (l0 : List (Int × Int)) (H : Hp) (t : RT) (l : List (Int × Int)) (f : Bool) (v : V) : Prop where
  h0 : H 0 = some (0, rO t v f)
  hv : (l = [] ∧ l0 = [] ∧ v = nilL ∧ H 1 = none) ∨ (l ≠ [] ∧ l = l0 ∧ v = .s 1 0 2 0 l.length ∧ H 1 = some (0, ndO l)) ∨ (l ≠ [] ∧ ∃ id vr, 16 ≤ id ∧ v = .s id vr 2 0 l.length ∧ H id = some (vr, ndO l) ∧ H 1 = none)
theorem callR (k : Nat) (f : FuncId) (cs : List Value) (hw : WR f = true) (ho : OW f = false) {l0 : List (Int × Int)} {H : Hp} {t : RT} {l : List (Int × Int)} {fl : Bool} {v : V} (P : RSt l0 H t l fl v) {w : V} (hpl : Pl w) {l' : List (Int × Int)} {ch : Bool} {t' : RT} {f' : Bool}
    (hc : callK C k f (.p 0 0 4 0 0 :: cs.map V.c) (frR t l fl) = endR w l l' ch t' f') (hch : ch = false → l' = l) (hne : ch = true → l' ≠ []) (tick site : Nat) (hs : 1 ≤ site) :
    ∃ δ, callV C (callK C k) H tick site f (.p 0 0 4 0 0 :: cs.map V.c) = some (some w, δ) ∧ RSt l0 (applyD H δ) t' l' f' (chV ch tick site l'.length v) ∧ ∀ x, H x = none → x ≠ 16 * site → applyD H δ x = none := by
  obtain ⟨w1, w2, w3⟩ := hpl
  have hroots : (V.p 0 0 4 0 0 :: cs.map V.c).flatMap (rootOf false) = [(0, 0)] := by
    rw [List.flatMap_cons, roots_c]
    rfl
  have hcw : C.wr f = true := by rw [cWR]; exact hw
  have hco : C.own f = false := by rw [cOW]; exact ho
  rw [callV_wr hcw, hco, hroots]
  have s0 : ¬ 0 = 16 * site := by omega
  have s1 : ¬ 1 = 16 * site := by omega
  obtain ⟨h0, hv⟩ := P
  simp [rO] at h0
  rcases hv with ⟨rfl, rfl, rfl, h1⟩ | ⟨hl, rfl, rfl, h1⟩ | ⟨hl, id, vr, hid, rfl, hi, h1⟩
  · simp [frR, rO] at hc
    cases ch
    · have := hch rfl
      subst this
      simp [endR, rO] at hc
      simp [hco, h0, pass_c, hc, w1, w2, w3]
      refine ⟨⟨by simp [putH_app, rO, chV], .inl ⟨rfl, rfl, rfl, by simp [putH_app, h1]⟩⟩, ?_⟩
      · intro x hx hxs
        have x0 : ¬ x = 0 := by rintro rfl; rw [h0] at hx; cases hx
        simp [x0, hxs, hx]
    · simp [endR, rO] at hc
      simp [hco, h0, pass_c, hc, w1, w2, w3, ndO]
      refine ⟨⟨by simp [putH_app, rO, chV, s0], .inr (.inr ⟨hne rfl, 16 * site, tick, by omega, by simp [chV], by simp [putH_app, ndO], by simp [putH_app, s1, h1]⟩)⟩, ?_⟩
      · intro x hx hxs
        have x0 : ¬ x = 0 := by rintro rfl; rw [h0] at hx; cases hx
        simp [x0, hxs, hx]
  · simp [frR, rO, hl, ndO] at hc h1
    cases ch
    · have := hch rfl
      subst this
      simp [endR, rO, hl, ndO] at hc
      simp [hco, h0, h1, pass_c, hc, w1, w2, w3, ndO]
      refine ⟨⟨by simp [putH_app, rO, chV], .inr (.inl ⟨hl, rfl, rfl, by simp [putH_app, ndO]⟩)⟩, ?_⟩
      · intro x hx hxs
        have x0 : ¬ x = 0 := by rintro rfl; rw [h0] at hx; cases hx
        have x1 : ¬ x = 1 := by rintro rfl; rw [h1] at hx; cases hx
        simp [x0, hxs, x1, hx]
    · simp [endR, rO, hl, ndO] at hc
      simp [hco, h0, h1, pass_c, hc, w1, w2, w3, ndO]
      refine ⟨⟨by simp [putH_app, rO, chV, s0], .inr (.inr ⟨hne rfl, 16 * site, tick, by omega, by simp [chV], by simp [putH_app, ndO], by simp [putH_app, s1]⟩)⟩, ?_⟩
      · intro x hx hxs
        have x0 : ¬ x = 0 := by rintro rfl; rw [h0] at hx; cases hx
        have x1 : ¬ x = 1 := by rintro rfl; rw [h1] at hx; cases hx
        simp [x0, hxs, x1, hx]
  · simp [frR, rO, hl, ndO] at hc hi
    have i0 : ¬ id = 0 := by omega
    have i0' : ¬ 0 = id := by omega
    have i1 : ¬ 1 = id := by omega
    cases ch
    · have := hch rfl
      subst this
      simp [endR, rO, hl, ndO] at hc
      simp [hco, h0, hi, i0, i0', pass_c, hc, w1, w2, w3, ndO]
      refine ⟨⟨by simp [putH_app, rO, chV, i0'], .inr (.inr ⟨hl, id, vr, hid, by simp [chV], by simp [putH_app, ndO], by simp [putH_app, i1, h1]⟩)⟩, ?_⟩
      · intro x hx hxs
        have x0 : ¬ x = 0 := by rintro rfl; rw [h0] at hx; cases hx
        have xi : ¬ x = id := by rintro rfl; rw [hi] at hx; cases hx
        simp [x0, hxs, xi, hx]
    · simp [endR, rO, hl, ndO] at hc
      simp [hco, h0, hi, i0, i0', pass_c, hc, w1, w2, w3, ndO]
      refine ⟨⟨by simp [putH_app, rO, chV, s0, i0'], .inr (.inr ⟨hne rfl, 16 * site, tick, by omega, by simp [chV], by simp [putH_app, ndO], by simp [putH_app, s1, i1, h1]⟩)⟩, ?_⟩
      · intro x hx hxs
        have x0 : ¬ x = 0 := by rintro rfl; rw [h0] at hx; cases hx
        have xi : ¬ x = id := by rintro rfl; rw [hi] at hx; cases hx
        simp [x0, hxs, xi, hx]
/-- A frame's end. -/
theorem finR {l0 : List (Int × Int)} {H : Hp} {t : RT} {l : List (Int × Int)} {f : Bool} {v : V} (P : RSt l0 H t l f v) {w : V} (hpl : Pl w) : ∃ ch, exportV (if l0 = [] then 1 else 2) w H = endR w l0 l ch t f ∧ (ch = false → l = l0) ∧ (ch = true → l ≠ []) := by
  obtain ⟨w1, w2, w3⟩ := hpl
  obtain ⟨h0, hv⟩ := P
  simp [rO] at h0
  rcases hv with ⟨rfl, rfl, rfl, h1⟩ | ⟨hl, rfl, rfl, h1⟩ | ⟨hl, id, vr, hid, rfl, hi, h1⟩
  · refine ⟨false, ?_, fun _ => rfl, fun h => by cases h⟩
    simp [endR, h0, w1, w3, rO]
  · refine ⟨false, ?_, fun _ => rfl, fun h => by cases h⟩
    simp [ndO] at h1
    simp [endR, h0, h1, w1, w3, rO, hl, ndO]
  · refine ⟨true, ?_, (fun h => by cases h), fun _ => hl⟩
    simp [ndO] at hi
    have i0 : ¬ id = 0 := by omega
    have i1 : ¬ id = 1 := by omega
    have i2 : ¬ id < 2 := by omega
    by_cases hl0 : l0 = []
    · simp [endR, h0, hi, i0, i1, i2, w1, w3, rO, hl0, ndO]
    · simp [endR, h0, h1, hi, i0, i1, i2, w1, w3, rO, hl0, ndO]
theorem finR0 {l0 : List (Int × Int)} {H : Hp} {t : RT} {l : List (Int × Int)} {f : Bool} (P : RSt l0 H t l f (oldV l0)) {w : V} (hpl : Pl w) : l = l0 ∧ exportV (if l0 = [] then 1 else 2) w H = endR w l0 l0 false t f := by
  obtain ⟨w1, w2, w3⟩ := hpl
  obtain ⟨h0, hv⟩ := P
  rcases hv with ⟨rfl, rfl, e, h1⟩ | ⟨hl, rfl, e, h1⟩ | ⟨hl, id, vr, hid, e, hi, h1⟩
  · simp [rO, oldV] at h0
    refine ⟨rfl, ?_⟩
    simp [endR, h0, w1, w3, rO]
  · simp [rO, oldV, hl] at h0
    refine ⟨rfl, ?_⟩
    simp [ndO] at h1
    simp [endR, h0, h1, w1, w3, rO, hl, ndO]
  · exfalso
    unfold oldV at e
    split at e
    · cases e
    · simp only [V.s.injEq] at e
      omega
/-- What a round of a loop keeps. -/
theorem RSt.gc {l0 : List (Int × Int)} {t : RT} {l : List (Int × Int)} {f : Bool} {v : V} {st : St} (keep : List Nat) (hk : 0 ∈ keep) (q0 : st.ρ 0 = .p 0 0 4 0 0) (P : RSt l0 st.H t l f v) : RSt l0 (Eng.gc keep st).H t l f v := by
  obtain ⟨h0, hv⟩ := P
  have hl : ∀ x, x < 16 → (Eng.gc keep st).H x = st.H x := by
    intro x hx
    rw [gc_H, show decide (x < 16) = true by simpa using hx]
    rfl
  refine ⟨by rw [hl 0 (by omega)]; exact h0, ?_⟩
  rcases hv with ⟨rfl, rfl, e, h1⟩ | ⟨hl', rfl, e, h1⟩ | ⟨hl', id, vr, hid, e, hi, h1⟩
  · exact .inl ⟨rfl, rfl, e, by rw [hl 1 (by omega)]; exact h1⟩
  · exact .inr (.inl ⟨hl', rfl, e, by rw [hl 1 (by omega)]; exact h1⟩)
  · refine .inr (.inr ⟨hl', id, vr, hid, e, ?_, by rw [hl 1 (by omega)]; exact h1⟩)
    have hA : ((0, 0) : Nat × Nat) ∈ keep.flatMap fun t => refs (st.ρ t) := List.mem_flatMap.2 ⟨0, hk, by rw [q0]; simp⟩
    have hB : ((id, vr) : Nat × Nat) ∈ (keep.flatMap fun t => refs (st.ρ t)).flatMap fun x => match find st.H x.1 x.2 with
      | some o => refsO o
      | none => [] := List.mem_flatMap.2 ⟨(0, 0), hA, by simp [h0, rO, e]⟩
    have hC : (keepIds keep st).contains id = true := by
      rw [List.contains_iff_mem]
      unfold keepIds
      exact List.mem_map.2 ⟨(id, vr), List.mem_append.2 (.inr hB), rfl⟩
    rw [gc_H, hC]
    simpa using hi
theorem RSt.same {l0 : List (Int × Int)} {H H' : Hp} {t t' : RT} {l : List (Int × Int)} {f f' : Bool} {v : V} (P : RSt l0 H t l f v) (h0 : H' 0 = some (0, rO t' v f')) (hs : ∀ x, x ≠ 0 → H' x = H x) : RSt l0 H' t' l f' v := by
  obtain ⟨_, hv⟩ := P
  refine ⟨h0, ?_⟩
  rcases hv with ⟨rfl, rfl, e, h1⟩ | ⟨hl', rfl, e, h1⟩ | ⟨hl', id, vr, hid, e, hi, h1⟩
  · exact .inl ⟨rfl, rfl, e, by rw [hs 1 (by omega)]; exact h1⟩
  · exact .inr (.inl ⟨hl', rfl, e, by rw [hs 1 (by omega)]; exact h1⟩)
  · exact .inr (.inr ⟨hl', id, vr, hid, e, by rw [hs id (by omega)]; exact hi, by rw [hs 1 (by omega)]; exact h1⟩)
theorem frR_len (t : RT) (l : List (Int × Int)) (f : Bool) : (frR t l f).length = if l = [] then 1 else 2 := by
  unfold frR
  split <;> rfl
/-- A frame's begin. -/
theorem RSt.st0 (t : RT) (l : List (Int × Int)) (f : Bool) (args : List V) : RSt l (Eng.st0 args (frR t l f)).H t l f (oldV l) ∧ ∀ x, 2 ≤ x → (Eng.st0 args (frR t l f)).H x = none := by
  by_cases hl : l = []
  · subst hl
    refine ⟨⟨by simp [frR, oldV], .inl ⟨rfl, rfl, rfl, by simp [frR]⟩⟩, ?_⟩
    intro x hx
    simp [frR, show ¬ x = 0 by omega]
  · refine ⟨⟨by simp [frR, hl, oldV], .inr (.inl ⟨hl, rfl, by simp [oldV, hl], by simp [frR, hl]⟩)⟩, ?_⟩
    intro x hx
    obtain ⟨y, rfl⟩ : ∃ y, x = y + 2 := ⟨x - 2, by omega⟩
    simp [frR, hl]

end Go.Proofs.YteedcjgmgbcndaaDoor.Eng
namespace Go.Proofs.YteedcjgmgbcndaaDoor.Eng
open Go Go.Proofs
set_option maxRecDepth 100000
set_option maxHeartbeats 2000000
set_option linter.unusedSimpArgs false
set_option linter.unusedVariables false
attribute [local simp] finK fin1 hpOf xi renQ isRoot runCode runOps stepX inlOf Eng.step wantedV astep val ofO made loadV storeV find V.cells bin binT binA numT numFs eqCells un1 setAt fieldAddrV fieldV indexAddrV indexV bounds sliceV convV lenV foldV max2V min2V callO bor rdsO wrsO seen_none okD_none loops keepIds resV resultsV St.ev TK.agg refs refsL refsO V.one V.isC Value.oneCell' ren renL renO noTag noTagL noTagR noTagO nodup mapO passV frs psi refsR newD loopNext opsAt idx flatAt rootOf backR newsV appendV copyV clearV strV bytesV bldV bufV selfV bytesOf nilCmp buildV fillF chunk freeL frzW cellSame sameV
attribute [local simp] cT cF cX cWR cOW cK cBL X ints_length ints_get ints_getElem ints_drop ints_take ints_append ints_nil ints_set
attribute [local simp] ints_replicate
attribute [local simp] putV_some putV_none putH_app applyD_nil applyD_cons seen_app gc_ρ gc_H gc_tick st0_ρ st0_H st0_tick retV callRo callV_if borL_nil borL_cons ints_snoc take_self callWr cutH_app findQ afterV exportV_0 exportV_n okD_nil okD_cons sub_seq0 sub_seq1 sub_cond0 sub_cond1 sub_block sub_loop sub_nil young_far young_none hidW_nil mayW_nil keepsF_nil keepsF_cons pairs okI ok_0 ok_1 ok_2
attribute [local simp] T3 T4 T5 T9 T22 T29 T34 T35 T37 T39 T42 T43 T56
attribute [local simp] young_near clo cloF Region.binds Nat.testBit hidW declW mayW List.findIdx?_cons
def restR (p : List UInt8) (t : RT) : RT := if hasP p t.T = true then ⟨t.S, t.at' + p.length⟩ else t
theorem restR_T (p : List UInt8) (t : RT) : (restR p t).T = restP p t.T := by
  unfold restR
  rw [restP_is]
  cases hasP p t.T
  · rfl
  · simp [RT.T, List.drop_drop]
theorem restR_S (p : List UInt8) (t : RT) : (restR p t).S = t.S := by
  unfold restR
  split <;> rfl
/-- A place within the string. -/
structure RT.ok (t : RT) : Prop where
  le : t.at' ≤ t.S.length
  sm : t.S.length ≤ 450
theorem RT.len (t : RT) : t.T.length = t.S.length - t.at' := by simp [RT.T]
theorem restR_ok {p : List UInt8} {t : RT} (h : t.ok) : (restR p t).ok := by
  refine ⟨?_, by rw [restR_S]; exact h.sm⟩
  have hl := t.len
  have hle := h.le
  unfold restR
  split
  · rename_i hp
    rw [hasP_is] at hp
    simp only [Bool.and_eq_true, decide_eq_true_eq] at hp
    show t.at' + p.length ≤ t.S.length
    omega
  · exact h.le
theorem c_takeR (k : Nat) (t : RT) (p : List UInt8) (l : List (Int × Int)) (f : Bool) (ht : t.ok) (hp : p.length ≤ 10) (hk : 10 ≤ k) : callK C k 24 [.p 0 0 4 0 0, .c (.string (bs p))] (frR t l f) = endR (.c (.bool (hasP p t.T))) l l false (restR p t) f := by
  obtain ⟨k, rfl⟩ : ∃ m, k = m + 1 := ⟨k - 1, by omega⟩
  rw [callK_fn rfl F24 code24]
  obtain ⟨h1, h2⟩ := ht
  have hl := t.len
  have w1 : IntKind.i64.wrap ((t.at' : Int) + (p.length : Int)) = (t.at' : Int) + (p.length : Int) := wrap_small (by omega) (by omega)
  have g8 : (0 : Int) ≤ (t.at' : Int) + (p.length : Int) := by omega
  have g9 : t.at' ≤ t.at' + p.length := by omega
  have g7 : ((t.at' : Int) + (p.length : Int)).toNat = t.at' + p.length := by omega
  unfold frR endR restR
  rw [hasP_is]
  by_cases g1 : t.at' + p.length ≤ t.S.length
  · have g1' : ¬ (t.S.length : Int) < (t.at' : Int) + (p.length : Int) := by omega
    have g2 : (t.at' : Int) + (p.length : Int) ≤ (t.S.length : Int) := by omega
    have g3 : (t.at' : Int) ≤ (t.at' : Int) + (p.length : Int) := by omega
    have g4 : p.length ≤ t.T.length := by omega
    have g5 : t.at' + p.length - t.at' = p.length := by omega
    by_cases g6 : t.T.take p.length = p
    · have g6' : (t.S.drop t.at').take p.length = p := g6
      by_cases hl0 : l = []
      · simp [R24_0, R24_1, R24_2, R24_3, R24_4, Tryd.f24, hl0, rO, lit0, bs_size, bs_extract, bs_neq, w1, g7, g8, g9, g1, g1', g2, g3, g4, g5, g6, g6', undef]
      · simp [R24_0, R24_1, R24_2, R24_3, R24_4, Tryd.f24, hl0, rO, ndO, lit0, bs_size, bs_extract, bs_neq, w1, g7, g8, g9, g1, g1', g2, g3, g4, g5, g6, g6', undef]
    · have g6' : ¬ (t.S.drop t.at').take p.length = p := g6
      by_cases hl0 : l = []
      · simp [R24_0, R24_1, R24_2, R24_3, R24_4, Tryd.f24, hl0, rO, lit0, bs_size, bs_extract, bs_neq, w1, g7, g8, g9, g1, g1', g2, g3, g4, g5, g6, g6', undef]
      · simp [R24_0, R24_1, R24_2, R24_3, R24_4, Tryd.f24, hl0, rO, ndO, lit0, bs_size, bs_extract, bs_neq, w1, g7, g8, g9, g1, g1', g2, g3, g4, g5, g6, g6', undef]
  · have g1' : (t.S.length : Int) < (t.at' : Int) + (p.length : Int) := by omega
    have g4 : ¬ p.length ≤ t.T.length := by omega
    by_cases hl0 : l = []
    · simp [R24_0, R24_1, R24_2, R24_3, R24_4, Tryd.f24, hl0, rO, lit0, bs_size, w1, g7, g8, g9, g1, g1', g4, undef]
    · simp [R24_0, R24_1, R24_2, R24_3, R24_4, Tryd.f24, hl0, rO, ndO, lit0, bs_size, w1, g7, g8, g9, g1, g1', g4, undef]
theorem c_want (k : Nat) (t : RT) (p : List UInt8) (l : List (Int × Int)) (f : Bool) (ht : t.ok) (hp : p.length ≤ 10) (hk : 20 ≤ k) : callK C k 37 [.p 0 0 4 0 0, .c (.string (bs p))] (frR t l f) = endR (.tp []) l l false (restR p t) (f || !hasP p t.T) := by
  obtain ⟨k, rfl⟩ : ∃ m, k = m + 1 := ⟨k - 1, by omega⟩
  rw [callK_fn rfl F37 code37]
  have h := c_takeR k t p l f ht hp (by omega)
  unfold frR endR at h ⊢
  by_cases hl : l = []
  · simp [hl, rO] at h
    cases hh : hasP p t.T <;> (rw [hh] at h; simp [R37_0, R37_1, Tryd.f37, hl, rO, h])
  · simp [hl, rO, ndO] at h
    cases hh : hasP p t.T <;> (rw [hh] at h; simp [R37_0, R37_1, Tryd.f37, hl, rO, h, ndO])
theorem c_putR (k : Nat) (t : RT) (x y : Int) (l : List (Int × Int)) (f : Bool) (hl : l.length ≤ 2000) (hk : 20 ≤ k) : callK C k 25 [.p 0 0 4 0 0, .c (.int .i64 x), .c (.int .i64 y)] (frR t l f) = endR (.tp []) l (l ++ [(x, y)]) true t (f || decide (15 < l.length + 1)) := by
  obtain ⟨k, rfl⟩ : ∃ m, k = m + 1 := ⟨k - 1, by omega⟩
  rw [callK_fn rfl F25 code25]
  have hbb1 : (l.length + 1) * 16 ≤ 140737488355328 := by omega
  have hbb2 : l.length + 1 ≤ maxLen := by unfold maxLen; omega
  unfold frR endR
  by_cases hl0 : l = []
  · simp [R25_0, R25_1, R25_2, Tryd.f25, hl0, rO, okN1, maxLen, ndO, ndL, ndE]
  · by_cases h15 : (15 : Int) < (l.length : Int) + 1
    · have h15' : 15 < l.length + 1 := by omega
      simp [R25_0, R25_1, R25_2, Tryd.f25, hl0, rO, okN2, hbb1, hbb2, ndO, ndL_length, ndL_take, h15, h15']
      rw [ndE_pair, ndL_one, ndL_app]
    · have h15' : ¬ 15 < l.length + 1 := by omega
      simp [R25_0, R25_1, R25_2, Tryd.f25, hl0, rO, okN2, hbb1, hbb2, ndO, ndL_length, ndL_take, h15, h15']
      rw [ndE_pair, ndL_one, ndL_app]

end Go.Proofs.YteedcjgmgbcndaaDoor.Eng
namespace Go.Proofs.YteedcjgmgbcndaaDoor.Eng
open Go Go.Proofs
set_option maxRecDepth 100000
set_option maxHeartbeats 2000000
set_option linter.unusedSimpArgs false
set_option linter.unusedVariables false
attribute [local simp] finK fin1 hpOf xi renQ isRoot runCode runOps stepX inlOf Eng.step wantedV astep val ofO made loadV storeV find V.cells bin binT binA numT numFs eqCells un1 setAt fieldAddrV fieldV indexAddrV indexV bounds sliceV convV lenV foldV max2V min2V callO bor rdsO wrsO seen_none okD_none loops keepIds resV resultsV St.ev TK.agg refs refsL refsO V.one V.isC Value.oneCell' ren renL renO noTag noTagL noTagR noTagO nodup mapO passV frs psi refsR newD loopNext opsAt idx flatAt rootOf backR newsV appendV copyV clearV strV bytesV bldV bufV selfV bytesOf nilCmp buildV fillF chunk freeL frzW cellSame sameV
attribute [local simp] cT cF cX cWR cOW cK cBL X ints_length ints_get ints_getElem ints_drop ints_take ints_append ints_nil ints_set
attribute [local simp] ints_replicate
attribute [local simp] putV_some putV_none putH_app applyD_nil applyD_cons seen_app gc_ρ gc_H gc_tick st0_ρ st0_H st0_tick retV callRo callV_if borL_nil borL_cons ints_snoc take_self callWr cutH_app findQ afterV exportV_0 exportV_n okD_nil okD_cons sub_seq0 sub_seq1 sub_cond0 sub_cond1 sub_block sub_loop sub_nil young_far young_none hidW_nil mayW_nil keepsF_nil keepsF_cons pairs okI ok_0 ok_1 ok_2
attribute [local simp] T3 T4 T5 T9 T22 T29 T34 T35 T37 T39 T42 T43 T56
attribute [local simp] young_near clo cloF Region.binds Nat.testBit hidW declW mayW List.findIdx?_cons
def numR (t : RT) : RT := ⟨t.S, t.at' + (t.T.takeWhile isD).length⟩
theorem tw_len (t : List UInt8) : (t.takeWhile isD).length ≤ t.length := by
  obtain ⟨m, h1, h2, _⟩ := dig_facts t
  rw [h2, List.length_take]
  omega
theorem numR_T (t : RT) : (numR t).T = t.T.dropWhile isD := by
  obtain ⟨m, h1, h2, h3, _⟩ := dig_facts t.T
  have hm : (t.T.takeWhile isD).length = m := by rw [h2, List.length_take]; omega
  rw [h3]
  unfold numR
  rw [hm]
  simp [RT.T, List.drop_drop]
theorem numR_ok {t : RT} (h : t.ok) : (numR t).ok := by
  refine ⟨?_, h.sm⟩
  have h1 := tw_len t.T
  have h2 := t.len
  have h3 := h.le
  show t.at' + (t.T.takeWhile isD).length ≤ t.S.length
  omega
theorem c_numberR (k : Nat) (t : RT) (l : List (Int × Int)) (f : Bool) (ht : t.ok) (hk : 700 ≤ k) : callK C k 38 [.p 0 0 4 0 0] (frR t l f) = endR (.c (.int .i64 (pV (t.T.takeWhile isD)))) l l false (numR t) ((f || !pB (t.T.takeWhile isD)) || decide (9000 < pV (t.T.takeWhile isD))) := by
  obtain ⟨k, rfl⟩ : ∃ m, k = m + 9 := ⟨k - 9, by omega⟩
  rw [callK_fn rfl F38 code38]
  obtain ⟨h1, h2⟩ := ht
  have hl := t.len
  obtain ⟨m, m1, m2, m3, m4, m5⟩ := dig_facts t.T
  have hm : (t.T.takeWhile isD).length = m := by rw [m2, List.length_take]; omega
  have hp := c_l1Read (k + 8) (t.T.take m) (by simp; omega) (by omega)
  unfold numR
  rw [hm, m2]
  obtain ⟨P, _⟩ := RSt.st0 t l f [.p 0 0 4 0 0]
  have hget : ∀ i (hi : i < t.T.length), t.S[t.at' + i]'(by omega) = t.T[i] := by
    intro i hi
    simp [RT.T]
  have hL := loopHas (body := fun st => runCode C (callK C (k + 8)) (k + 8) (K 38) L38_0 1 st) (keep := [0, 3]) (.ex 0) (fun st => st.ρ 0 = .p 0 0 4 0 0 ∧ st.ρ 3 = .c (.int .i64 (t.at' : Int)) ∧ RSt l st.H ⟨t.S, t.at' + m⟩ l f (oldV l))
    (fun i st => st.ρ 0 = .p 0 0 4 0 0 ∧ st.ρ 3 = .c (.int .i64 (t.at' : Int)) ∧ RSt l st.H ⟨t.S, t.at' + i⟩ l f (oldV l))
    m (k + 8) (by omega)
    (by
      rintro i st next hi ⟨q0, q3, P⟩ hx
      have hit : i < t.T.length := by omega
      have hiS : t.at' + i < t.S.length := by omega
      obtain ⟨g1, g2⟩ := m4 i hit hi
      have hb := byteAt_bs hiS
      rw [hget i hit] at hb
      have hwn : IntKind.i64.wrap ((t.at' : Int) + (i : Int) + 1) = (t.at' : Int) + (i : Int) + 1 := wrap_small (by omega) (by omega)
      have c0 : (0 : Int) ≤ (t.at' : Int) + (i : Int) := by omega
      have cS : (t.at' : Int) + (i : Int) < (t.S.length : Int) := by omega
      have c1 : (48 : Int) ≤ ((t.T[i].toNat : Nat) : Int) := by omega
      have c2 : ((t.T[i].toNat : Nat) : Int) ≤ 57 := by omega
      have P' := P.gc [0, 3] (by simp) q0
      have h0 := P.h0
      simp [rO] at h0
      simp at hb
      simp [L38_0, R38_0, R38_1, R38_2, R38_3, R38_4, R38_5, R38_6, Tryd.f38, lpL38_0, lpM38_0, undef, q0, q3, h0, bs_size, c0, cS, hb, c1, c2, hwn]
      exact hx _ ⟨by simp [q0], by simp [q3], P'.same (by simp [putH_app, rO]; omega) (fun x hx => by simp [putH_app, hx])⟩)
    (by
      rintro st next ⟨q0, q3, P⟩
      have P' := P.gc [0, 3] (by simp) q0
      have h0 := P.h0
      simp [rO] at h0
      have c0 : (0 : Int) ≤ (t.at' : Int) + (m : Int) := by omega
      by_cases hmt : m < t.T.length
      · have hiS : t.at' + m < t.S.length := by omega
        have hb := byteAt_bs hiS
        rw [hget m hmt] at hb
        simp at hb
        have cS : (t.at' : Int) + (m : Int) < (t.S.length : Int) := by omega
        rcases m5 hmt with g | g
        · have c1 : ¬ (48 : Int) ≤ ((t.T[m].toNat : Nat) : Int) := by omega
          simp [L38_0, R38_0, R38_1, R38_2, R38_3, R38_4, R38_5, R38_6, Tryd.f38, lpL38_0, lpM38_0, undef, q0, q3, h0, bs_size, c0, cS, hb, c1]
          exact P'
        · have c1 : (48 : Int) ≤ ((t.T[m].toNat : Nat) : Int) := by omega
          have c2 : ¬ ((t.T[m].toNat : Nat) : Int) ≤ 57 := by omega
          simp [L38_0, R38_0, R38_1, R38_2, R38_3, R38_4, R38_5, R38_6, Tryd.f38, lpL38_0, lpM38_0, undef, q0, q3, h0, bs_size, c0, cS, hb, c1, c2]
          exact P'
      · have cS : ¬ (t.at' : Int) + (m : Int) < (t.S.length : Int) := by omega
        simp [L38_0, R38_0, R38_1, R38_2, R38_3, R38_4, R38_5, R38_6, Tryd.f38, lpL38_0, lpM38_0, undef, q0, q3, h0, bs_size, c0, cS]
        exact P')
  rw [frR_len]
  have hst : (Eng.st0 [.p 0 0 4 0 0] (frR t l f)).ρ 0 = .p 0 0 4 0 0 := rfl
  generalize Eng.st0 [.p 0 0 4 0 0] (frR t l f) = st at P hst ⊢
  have h0 := P.h0
  simp [rO] at h0
  simp [R38_0, R38_1, R38_2, R38_3, R38_4, R38_5, R38_6, Tryd.f38, lpL38_0, lpM38_0, hst, h0]
  generalize hr : loopRun _ _ _ _ = res
  obtain ⟨s1, rfl, q0, q3, P1⟩ := loop_at hL hr ⟨by simp [hst], by simp, by simpa using P⟩
  have h01 := P1.h0
  simp [rO] at h01
  have b0 : (0 : Int) ≤ (t.at' : Int) + (m : Int) := by omega
  have b1 : (t.at' : Int) + (m : Int) ≤ (t.S.length : Int) := by omega
  have b2 : (t.at' : Int) ≤ (t.at' : Int) + (m : Int) := by omega
  have b3 : ((t.at' : Int) + (m : Int)).toNat = t.at' + m := by omega
  have b4 : t.at' + m - t.at' = m := by omega
  have b5 : t.at' ≤ t.at' + m := by omega
  have b6 : (t.S.drop t.at').take m = t.T.take m := rfl
  obtain ⟨vn, hvn⟩ : ∃ vn, pV (t.T.take m) = vn := ⟨_, rfl⟩
  rw [hvn] at hp ⊢
  have fin : ∀ b, exportV (if l = [] then 1 else 2) (V.c (.int .i64 vn)) (putH s1.H 0 (some (0, rO ⟨t.S, t.at' + m⟩ (oldV l) b))) = endR (.c (.int .i64 vn)) l l false ⟨t.S, t.at' + m⟩ b := fun b => (finR0 (P1.same (by simp [putH_app]) (fun x hx => by simp [putH_app, hx])) (Pl.c _)).2
  simp [rO] at fin
  by_cases hv : (9000 : Int) < vn <;> cases hf : f <;> cases hb : pB (t.T.take m) <;> (subst hf; rw [hb] at hp; simp [R38_0, R38_1, R38_2, R38_3, R38_4, R38_5, R38_6, Tryd.f38, lpL38_0, lpM38_0, M38_0, q0, q3, h01, bs_size, bs_extract, b0, b1, b2, b3, b4, b5, b6, hp, hv, fin])

end Go.Proofs.YteedcjgmgbcndaaDoor.Eng
namespace Go.Proofs.YteedcjgmgbcndaaDoor.Eng
open Go Go.Proofs
set_option maxRecDepth 100000
set_option maxHeartbeats 2000000
set_option linter.unusedSimpArgs false
set_option linter.unusedVariables false
attribute [local simp] finK fin1 hpOf xi renQ isRoot runCode runOps stepX inlOf Eng.step wantedV astep val ofO made loadV storeV find V.cells bin binT binA numT numFs eqCells un1 setAt fieldAddrV fieldV indexAddrV indexV bounds sliceV convV lenV foldV max2V min2V callO bor rdsO wrsO seen_none okD_none loops keepIds resV resultsV St.ev TK.agg refs refsL refsO V.one V.isC Value.oneCell' ren renL renO noTag noTagL noTagR noTagO nodup mapO passV frs psi refsR newD loopNext opsAt idx flatAt rootOf backR newsV appendV copyV clearV strV bytesV bldV bufV selfV bytesOf nilCmp buildV fillF chunk freeL frzW cellSame sameV
attribute [local simp] cT cF cX cWR cOW cK cBL X ints_length ints_get ints_getElem ints_drop ints_take ints_append ints_nil ints_set
attribute [local simp] ints_replicate
attribute [local simp] putV_some putV_none putH_app applyD_nil applyD_cons seen_app gc_ρ gc_H gc_tick st0_ρ st0_H st0_tick retV callRo callV_if borL_nil borL_cons ints_snoc take_self callWr cutH_app findQ afterV exportV_0 exportV_n okD_nil okD_cons sub_seq0 sub_seq1 sub_cond0 sub_cond1 sub_block sub_loop sub_nil young_far young_none hidW_nil mayW_nil keepsF_nil keepsF_cons pairs okI ok_0 ok_1 ok_2
attribute [local simp] T3 T4 T5 T9 T22 T29 T34 T35 T37 T39 T42 T43 T56
attribute [local simp] young_near clo cloF Region.binds Nat.testBit hidW declW mayW List.findIdx?_cons
def nOk (q : List (Int × Int)) : Bool := q.all fun x => decide (x.2 ≤ 9000)
theorem nOk_app (p q : List (Int × Int)) : nOk (p ++ q) = (nOk p && nOk q) := by simp [nOk]
/-- What a part of the reader does, as the model says. -/
structure OutR (e : Nat) (r : Option (List (Int × Int) × List UInt8)) (t : RT) (l : List (Int × Int)) (t' : RT) (l' : List (Int × Int)) (f' : Bool) : Prop where
  a : f' = false → ∃ q u, r = some (q, u) ∧ (l ++ q).length ≤ 15 ∧ nOk q = true ∧ t'.T = u ∧ l' = l ++ q
  b : ∀ q u, r = some (q, u) → (l ++ q).length ≤ 15 → nOk q = true → f' = false
  s : t'.S = t.S
  k : t'.ok
  len : t'.T.length ≤ t.T.length
  sz : l'.length + t'.T.length ≤ l.length + t.T.length + e + (if f' = true then 1 else 0)
def EndR (e : Nat) (r : Option (List (Int × Int) × List UInt8)) (t : RT) (l : List (Int × Int)) (res : Option (V × Hp)) : Prop := ∃ t' l' f' ch, res = endR (.tp []) l l' ch t' f' ∧ (ch = false → l' = l) ∧ (ch = true → l' ≠ []) ∧ OutR e r t l t' l' f'
def CtrR (f : FuncId) (a : List Value) (e n : Nat) (p : List UInt8 → Option (List (Int × Int) × List UInt8)) (need : Nat) : Prop := ∀ k t l, 30 * n + 2000 ≤ k → 3 * t.T.length + need ≤ n → t.ok → l.length + t.T.length ≤ 1000 → EndR e (p t.T) t l (callK C k f (.p 0 0 4 0 0 :: a.map V.c) (frR t l false))
theorem EndR.of {e : Nat} {r : Option (List (Int × Int) × List UInt8)} {t : RT} {l : List (Int × Int)} {H : Hp} {t' : RT} {l' : List (Int × Int)} {f' : Bool} {v : V} (P : RSt l H t' l' f' v) (o : OutR e r t l t' l' f') : EndR e r t l (exportV (if l = [] then 1 else 2) (.tp []) H) := by
  obtain ⟨ch, q1, q2, q3⟩ := finR P Pl.tp
  exact ⟨_, _, _, ch, q1, q2, q3, o⟩
def AnyR (f : FuncId) (e n : Nat) (p : List UInt8 → Option (List (Int × Int) × List UInt8)) (need : Nat) : Prop := ∀ k t l b, 30 * n + 2000 ≤ k → 3 * t.T.length + need ≤ n → t.ok → (b = false → l.length + t.T.length ≤ 1000) →
  ∃ t' l' f' ch, callK C k f [.p 0 0 4 0 0] (frR t l b) = endR (.tp []) l l' ch t' f' ∧ (ch = false → l' = l) ∧ (ch = true → l' ≠ []) ∧ (b = true → t' = t ∧ l' = l ∧ f' = true) ∧ (b = false → OutR e (p t.T) t l t' l' f')
theorem failRT (k : Nat) (t : RT) (l : List (Int × Int)) (hk : 50 ≤ k) : callK C k 23 [.p 0 0 4 0 0] (frR t l true) = endR (.tp []) l l false t true := by
  obtain ⟨k, rfl⟩ : ∃ m, k = m + 9 := ⟨k - 9, by omega⟩
  rw [callK_fn rfl F23 code23]
  obtain ⟨P, _⟩ := RSt.st0 t l true [.p 0 0 4 0 0]
  rw [frR_len]
  have hst : (Eng.st0 [.p 0 0 4 0 0] (frR t l true)).ρ 0 = .p 0 0 4 0 0 := rfl
  generalize Eng.st0 [.p 0 0 4 0 0] (frR t l true) = st at P hst ⊢
  have h0 := P.h0
  simp [rO] at h0
  simp [R23_0, R23_1, R23_2, R23_3, R23_4, R23_5, R23_6, R23_7, R23_8, R23_9, R23_10, R23_11, R23_12, R23_13, R23_14, R23_15, R23_16, R23_17, R23_18, R23_19, R23_20, R23_21, R23_22, Tryd.f23, hst, h0]
  exact (finR0 P Pl.tp).2
theorem loopFR (k kk : Nat) {l0 : List (Int × Int)} {t : RT} {l : List (Int × Int)} {v : V} (st : St) (q0 : st.ρ 0 = .p 0 0 4 0 0) (P : RSt l0 st.H t l true v) :
    ∃ s, loopRun (fun st => runCode C (callK C k) k (K 14) L14_0 1 st) [0] (kk + 1) st = some (.ex 0, s) ∧ RSt l0 s.H t l true v := by
  have P' := P.gc [0] (by simp) q0
  have q0' : (Eng.gc [0] st).ρ 0 = .p 0 0 4 0 0 := by simp [q0]
  simp only [loopRun_succ]
  generalize Eng.gc [0] st = s1 at P' q0' ⊢
  have h0 := P'.h0
  simp [rO] at h0
  simp [L14_0, R14_0, R14_1, R14_2, R14_3, R14_4, R14_5, R14_6, R14_7, Tryd.f14, lpL14_0, q0', h0]
  exact P'
theorem failRS (k : Nat) (t : RT) (l : List (Int × Int)) (hk : 80 ≤ k) : callK C k 14 [.p 0 0 4 0 0] (frR t l true) = endR (.tp []) l l false t true := by
  obtain ⟨k, rfl⟩ : ∃ m, k = m + 9 := ⟨k - 9, by omega⟩
  rw [callK_fn rfl F14 code14]
  obtain ⟨P, _⟩ := RSt.st0 t l true [.p 0 0 4 0 0]
  rw [frR_len]
  have hst : (Eng.st0 [.p 0 0 4 0 0] (frR t l true)).ρ 0 = .p 0 0 4 0 0 := rfl
  generalize Eng.st0 [.p 0 0 4 0 0] (frR t l true) = st at P hst ⊢
  obtain ⟨δ, e1, P1, _⟩ := callR (k + 8) 23 [] rfl rfl P Pl.tp (failRT (k + 8) t l (by omega)) (fun _ => rfl) (fun h => by cases h) st.tick 2 (by omega)
  have P1' : RSt l (applyD st.H δ) t l true (oldV l) := P1
  simp only [List.map_nil] at e1
  simp [-callV_if, R14_0, R14_1, R14_2, R14_3, R14_4, R14_5, R14_6, R14_7, Tryd.f14, lpL14_0, hst, e1]
  generalize hr : loopRun _ _ _ _ = res
  have hL : ∀ st : St, (st.ρ 0 = .p 0 0 4 0 0 ∧ RSt l st.H t l true (oldV l)) → ∃ s, loopRun (fun st => runCode C (callK C (k + 8)) (k + 8) (K 14) L14_0 1 st) [0] (k + 7 + 1) st = some (.ex 0, s) ∧ RSt l s.H t l true (oldV l) := fun st h => loopFR (k + 8) (k + 7) st h.1 h.2
  obtain ⟨s1, rfl, P2⟩ := loop_at hL hr ⟨by simp [hst], by simpa using P1'⟩
  simp
  exact (finR0 P2 Pl.tp).2
theorem anyRS_of {n : Nat} (h : CtrR 14 [] 0 n (pS n) 2) : AnyR 14 0 n (pS n) 2 := by
  intro k t l b hk hn ht hl
  cases b
  · obtain ⟨t', l', f', ch, e, a, c, o⟩ := h k t l hk hn ht (hl rfl)
    exact ⟨t', l', f', ch, e, a, c, (fun h => by cases h), fun _ => o⟩
  · exact ⟨t, l, true, false, failRS k t l (by omega), fun _ => rfl, (fun h => by cases h), fun _ => ⟨rfl, rfl, rfl⟩, fun h => by cases h⟩
theorem anyRT_of {n : Nat} (h : CtrR 23 [] 0 n (pT n) 1) : AnyR 23 0 n (pT n) 1 := by
  intro k t l b hk hn ht hl
  cases b
  · obtain ⟨t', l', f', ch, e, a, c, o⟩ := h k t l hk hn ht (hl rfl)
    exact ⟨t', l', f', ch, e, a, c, (fun h => by cases h), fun _ => o⟩
  · exact ⟨t, l, true, false, failRT k t l (by omega), fun _ => rfl, (fun h => by cases h), fun _ => ⟨rfl, rfl, rfl⟩, fun h => by cases h⟩
theorem pairR_step (n : Nat) (hS : AnyR 14 0 n (pS n) 2) (kind : Int) : CtrR 36 [.int .i64 kind] 1 (n + 1) (pP (n + 1) kind) 3 := by
  intro k t l hk hn ht hl
  obtain ⟨k, rfl⟩ : ∃ m, k = m + 9 := ⟨k - 9, by omega⟩
  rw [callK_fn rfl F36 code36]
  obtain ⟨P, _⟩ := RSt.st0 t l false (.p 0 0 4 0 0 :: List.map V.c [.int .i64 kind])
  rw [frR_len]
  have hst : (Eng.st0 (.p 0 0 4 0 0 :: List.map V.c [.int .i64 kind]) (frR t l false)).ρ 0 = .p 0 0 4 0 0 := rfl
  have hst1 : (Eng.st0 (.p 0 0 4 0 0 :: List.map V.c [.int .i64 kind]) (frR t l false)).ρ 1 = .c (.int .i64 kind) := rfl
  generalize Eng.st0 (.p 0 0 4 0 0 :: List.map V.c [.int .i64 kind]) (frR t l false) = st at P hst hst1 ⊢
  obtain ⟨t1, l1, f1, c1, e1, a1, b1, _, o1⟩ := hS (k + 8) t l false (by omega) (by omega) ht (fun _ => hl)
  have o1 := o1 rfl
  obtain ⟨δ1, d1, P1, _⟩ := callR (k + 8) 14 [] rfl rfl P Pl.tp e1 a1 b1 st.tick 2 (by omega)
  obtain ⟨δ2, d2, P2, _⟩ := callR (k + 8) 37 [.string (bs [44])] rfl rfl P1 Pl.tp (c_want (k + 8) t1 [44] l1 f1 o1.k (by simp) (by omega)) (fun _ => rfl) (fun h => by cases h) (st.tick + 1) 66 (by omega)
  obtain ⟨t2, ht2⟩ : ∃ t2, restR [44] t1 = t2 := ⟨_, rfl⟩
  obtain ⟨f2, hf2⟩ : ∃ f2, (f1 || !hasP [44] t1.T) = f2 := ⟨_, rfl⟩
  have hT2 : t2.T = restP [44] t1.T := by rw [← ht2]; exact restR_T _ _
  have hS2 : t2.S = t1.S := by rw [← ht2]; exact restR_S _ _
  have hk2 : t2.ok := by rw [← ht2]; exact restR_ok o1.k
  have hlen2 : t2.T.length ≤ t1.T.length := by rw [hT2]; exact restP_len _ _
  rw [ht2, hf2] at P2
  have hl1 := o1.len
  have hsz1 := o1.sz
  obtain ⟨t3, l3, f3, c3, e3, a3, b3, x3, o3⟩ := hS (k + 8) t2 l1 f2 (by omega) (by omega) hk2 (fun h => by
    rw [or_f (hf2.trans h)] at hsz1
    simp at hsz1
    omega)
  obtain ⟨δ3, d3, P3, _⟩ := callR (k + 8) 14 [] rfl rfl P2 Pl.tp e3 a3 b3 (st.tick + 1 + 1) 130 (by omega)
  have hk3 : t3.ok := by
    cases f2
    · exact (o3 rfl).k
    · rw [(x3 rfl).1]; exact hk2
  have hS3 : t3.S = t2.S := by
    cases f2
    · exact (o3 rfl).s
    · rw [(x3 rfl).1]
  have hlen3 : t3.T.length ≤ t2.T.length := by
    cases f2
    · exact (o3 rfl).len
    · rw [(x3 rfl).1]; exact Nat.le_refl _
  obtain ⟨δ4, d4, P4, _⟩ := callR (k + 8) 37 [.string (bs [41])] rfl rfl P3 Pl.tp (c_want (k + 8) t3 [41] l3 f3 hk3 (by simp) (by omega)) (fun _ => rfl) (fun h => by cases h) (st.tick + 1 + 1 + 1) 194 (by omega)
  obtain ⟨t4, ht4⟩ : ∃ t4, restR [41] t3 = t4 := ⟨_, rfl⟩
  obtain ⟨f4, hf4⟩ : ∃ f4, (f3 || !hasP [41] t3.T) = f4 := ⟨_, rfl⟩
  have hT4 : t4.T = restP [41] t3.T := by rw [← ht4]; exact restR_T _ _
  have hS4 : t4.S = t3.S := by rw [← ht4]; exact restR_S _ _
  have hk4 : t4.ok := by rw [← ht4]; exact restR_ok hk3
  have hlen4 : t4.T.length ≤ t3.T.length := by rw [hT4]; exact restP_len _ _
  rw [ht4, hf4] at P4
  have hszall : l3.length + t3.T.length ≤ l.length + t.T.length + (if f3 = true then 1 else 0) := by
    cases f2
    · have o3 := o3 rfl
      have := o3.sz
      rw [or_f hf2] at hsz1
      simp at hsz1
      omega
    · obtain ⟨y1, y2, y3⟩ := x3 rfl
      rw [y1, y2, y3]
      have : (if f1 = true then 1 else 0) ≤ 1 := by split <;> omega
      simp
      omega
  have hb : l3.length ≤ 1001 := by
    have : (if f3 = true then 1 else 0) ≤ 1 := by split <;> omega
    omega
  obtain ⟨δ5, d5, P5, _⟩ := callR (k + 8) 25 [.int .i64 kind, .int .i64 0] rfl rfl P4 Pl.tp (c_putR (k + 8) t4 kind 0 l3 f4 (by omega) (by omega)) (fun h => by cases h) (fun _ => by simp) (st.tick + 1 + 1 + 1 + 1) 259 (by omega)
  simp only [List.map_nil, List.map_cons] at d1 d2 d3 d4 d5
  obtain ⟨f5, hf5⟩ : ∃ f5, (f4 || decide (15 < l3.length + 1)) = f5 := ⟨_, rfl⟩
  rw [hf5] at P5
  simp [-callV_if, R36_0, R36_1, R36_2, R36_3, R36_4, Tryd.f36, hst, hst1, lt44, lt41, d1, d2, d3, d4, d5]
  refine EndR.of P5 ?_
  have f34 : f3 = true → f4 = true := by intro h; rw [h] at hf4; exact hf4.symm
  have f23 : f2 = true → f3 = true := fun h => (x3 h).2.2
  have f12 : f1 = true → f2 = true := by intro h; rw [h] at hf2; exact hf2.symm
  have f45 : f4 = true → f5 = true := by intro h; rw [h] at hf5; exact hf5.symm
  refine ⟨?_, ?_, by rw [hS4, hS3, hS2, o1.s], hk4, by omega, ?_⟩
  · intro h5
    have h4 : f4 = false := by cases f4; rfl; rw [f45 rfl] at h5; cases h5
    have h3 : f3 = false := by cases f3; rfl; rw [f34 rfl] at h4; cases h4
    have h2 : f2 = false := by cases f2; rfl; rw [f23 rfl] at h3; cases h3
    have h1 : f1 = false := by cases f1; rfl; rw [f12 rfl] at h2; cases h2
    subst h1 h2 h3 h4 h5
    obtain ⟨m1, u1, r1, r2, r3, r4, r5⟩ := o1.a rfl
    obtain ⟨m3, u3, r6, r7, r8, r9, r10⟩ := (o3 rfl).a rfl
    have k2 : hasP [44] t1.T = true := by simpa using hf2
    have k4 : hasP [41] t3.T = true := by simpa using hf4
    have k5 : l3.length + 1 ≤ 15 := by simp at hf5; omega
    have e2 : stripL [44] t1.T = some t2.T := by
      rw [hT2]; unfold restP; unfold hasP at k2
      cases h : stripL [44] t1.T with
      | none => rw [h] at k2; cases k2
      | some x => rfl
    have e4 : stripL [41] t3.T = some t4.T := by
      rw [hT4]; unfold restP; unfold hasP at k4
      cases h : stripL [41] t3.T with
      | none => rw [h] at k4; cases k4
      | some x => rfl
    subst r4 r9
    refine ⟨m1 ++ m3 ++ [(kind, 0)], t4.T, ?_, ?_, ?_, rfl, by rw [r10, r5]; simp⟩
    · unfold pP
      simp only [r1, e2, r6, e4]
    · rw [r10, r5] at k5
      simp at k5 ⊢
      omega
    · rw [nOk_app, nOk_app, r3, r8]; rfl
  · intro q u hq hlq hnq
    unfold pP at hq
    cases h1 : pS n t.T with
    | none => rw [h1] at hq; cases hq
    | some x1 =>
      obtain ⟨m1, u1⟩ := x1
      rw [h1] at hq
      simp only [] at hq
      cases h2 : stripL [44] u1 with
      | none => rw [h2] at hq; cases hq
      | some u2 =>
        rw [h2] at hq
        simp only [] at hq
        cases h3 : pS n u2 with
        | none => rw [h3] at hq; cases hq
        | some x3' =>
          obtain ⟨m3, u3⟩ := x3'
          rw [h3] at hq
          simp only [] at hq
          cases h4 : stripL [41] u3 with
          | none => rw [h4] at hq; cases hq
          | some u4 =>
            rw [h4] at hq
            simp only [Option.some.injEq, Prod.mk.injEq] at hq
            obtain ⟨rfl, rfl⟩ := hq
            rw [nOk_app, nOk_app] at hnq
            simp only [Bool.and_eq_true] at hnq
            have g1 : f1 = false := o1.b m1 u1 h1 (by simp at hlq ⊢; omega) hnq.1.1
            subst g1
            obtain ⟨m1', u1', r1, r2, r3, r4, r5⟩ := o1.a rfl
            rw [h1] at r1
            simp only [Option.some.injEq, Prod.mk.injEq] at r1
            obtain ⟨rfl, rfl⟩ := r1
            rw [r4] at hf2 hT2
            obtain ⟨z1, z2⟩ := hasP_some h2
            rw [z1] at hf2
            rw [z2] at hT2
            have g2 : f2 = false := hf2.symm
            subst g2
            have o3' := o3 rfl
            rw [hT2] at o3'
            have g3 : f3 = false := o3'.b m3 u3 h3 (by rw [r5]; simp at hlq ⊢; omega) hnq.1.2
            subst g3
            obtain ⟨m3', u3', s1, s2, s3, s4, s5⟩ := o3'.a rfl
            rw [h3] at s1
            simp only [Option.some.injEq, Prod.mk.injEq] at s1
            obtain ⟨rfl, rfl⟩ := s1
            rw [s4] at hf4
            rw [(hasP_some h4).1] at hf4
            have g4 : f4 = false := hf4.symm
            subst g4
            rw [← hf5]
            rw [s5, r5]
            simp at hlq ⊢
            omega
  · have : (if f3 = true then 1 else 0) ≤ (if f5 = true then 1 else 0) := by
      cases f3
      · simp
      · rw [f45 (f34 rfl)]
        simp
    simp only [List.length_append, List.length_cons, List.length_nil]
    omega

end Go.Proofs.YteedcjgmgbcndaaDoor.Eng
namespace Go.Proofs.YteedcjgmgbcndaaDoor.Eng
open Go Go.Proofs
set_option maxRecDepth 100000
set_option maxHeartbeats 2000000
set_option linter.unusedSimpArgs false
set_option linter.unusedVariables false
attribute [local simp] finK fin1 hpOf xi renQ isRoot runCode runOps stepX inlOf Eng.step wantedV astep val ofO made loadV storeV find V.cells bin binT binA numT numFs eqCells un1 setAt fieldAddrV fieldV indexAddrV indexV bounds sliceV convV lenV foldV max2V min2V callO bor rdsO wrsO seen_none okD_none loops keepIds resV resultsV St.ev TK.agg refs refsL refsO V.one V.isC Value.oneCell' ren renL renO noTag noTagL noTagR noTagO nodup mapO passV frs psi refsR newD loopNext opsAt idx flatAt rootOf backR newsV appendV copyV clearV strV bytesV bldV bufV selfV bytesOf nilCmp buildV fillF chunk freeL frzW cellSame sameV
attribute [local simp] cT cF cX cWR cOW cK cBL X ints_length ints_get ints_getElem ints_drop ints_take ints_append ints_nil ints_set
attribute [local simp] ints_replicate
attribute [local simp] putV_some putV_none putH_app applyD_nil applyD_cons seen_app gc_ρ gc_H gc_tick st0_ρ st0_H st0_tick retV callRo callV_if borL_nil borL_cons ints_snoc take_self callWr cutH_app findQ afterV exportV_0 exportV_n okD_nil okD_cons sub_seq0 sub_seq1 sub_cond0 sub_cond1 sub_block sub_loop sub_nil young_far young_none hidW_nil mayW_nil keepsF_nil keepsF_cons pairs okI ok_0 ok_1 ok_2
attribute [local simp] T3 T4 T5 T9 T22 T29 T34 T35 T37 T39 T42 T43 T56
attribute [local simp] young_near clo cloF Region.binds Nat.testBit hidW declW mayW List.findIdx?_cons
theorem takesR (k : Nat) {l0 l : List (Int × Int)} {t : RT} {v : V} {H : Hp} (P : RSt l0 H t l false v) (p : List UInt8) (ht : t.ok) (hpl : p.length ≤ 10) (hp : stripL p t.T = none) (tick site : Nat) (hs : 1 ≤ site) (hk : 10 ≤ k) : ∃ δ, callV C (callK C k) H tick site 24 [.p 0 0 4 0 0, .c (.string (bs p))] = some (some (.c (.bool false)), δ) ∧ RSt l0 (applyD H δ) t l false v := by
  obtain ⟨p1, p2⟩ := hasP_none hp
  obtain ⟨δ, d, P1, _⟩ := callR k 24 [.string (bs p)] rfl rfl P (Pl.c _) (c_takeR k t p l false ht hpl hk) (fun _ => rfl) (fun h => by cases h) tick site hs
  have : restR p t = t := by unfold restR; rw [p1]; rfl
  rw [this] at P1
  rw [p1] at d
  exact ⟨δ, d, P1⟩
theorem takesYR (k : Nat) {l0 l : List (Int × Int)} {t : RT} {r : List UInt8} {v : V} {H : Hp} (P : RSt l0 H t l false v) (p : List UInt8) (ht : t.ok) (hpl : p.length ≤ 10) (hp : stripL p t.T = some r) (tick site : Nat) (hs : 1 ≤ site) (hk : 10 ≤ k) : ∃ δ u, callV C (callK C k) H tick site 24 [.p 0 0 4 0 0, .c (.string (bs p))] = some (some (.c (.bool true)), δ) ∧ RSt l0 (applyD H δ) u l false v ∧ u.ok ∧ u.T = r ∧ u.S = t.S := by
  obtain ⟨p1, p2⟩ := hasP_some hp
  obtain ⟨δ, d, P1, _⟩ := callR k 24 [.string (bs p)] rfl rfl P (Pl.c _) (c_takeR k t p l false ht hpl hk) (fun _ => rfl) (fun h => by cases h) tick site hs
  rw [p1] at d
  exact ⟨δ, restR p t, d, P1, restR_ok ht, by rw [restR_T, p2], restR_S _ _⟩
theorem sumR_end (k : Nat) {l0 : List (Int × Int)} {t : RT} {L : List (Int × Int)} {v : V} (hk : 1000 ≤ k) (st : St) (q0 : st.ρ 0 = .p 0 0 4 0 0) (P : RSt l0 st.H t L false v) (ht : t.ok) (h1 : stripL [43] t.T = none) (h2 : stripL [45] t.T = none) :
    ∃ s, runCode C (callK C k) k (K 14) L14_0 1 st = some (.ret, s) ∧ RSt l0 s.H t L false v := by
  obtain ⟨δ1, d1, P1⟩ := takesR k P [43] ht (by simp) h1 (st.tick + 1) 130 (by omega) (by omega)
  obtain ⟨δ2, d2, P2⟩ := takesR k P1 [45] ht (by simp) h2 (st.tick + 1 + 1) 322 (by omega) (by omega)
  have h0 := P.h0
  simp [rO] at h0
  simp [-callV_if, L14_0, R14_0, R14_1, R14_2, R14_3, R14_4, R14_5, R14_6, R14_7, Tryd.f14, lpL14_0, q0, h0, lt43, lt45, d1, d2]
  exact P2
def RndR (n : Nat) (kind : Int) (r : RT) (L l0 : List (Int × Int)) (s : St) : Prop := s.ρ 0 = .p 0 0 4 0 0 ∧ ∃ t' l' f' v', RSt l0 s.H t' (l' ++ [(kind, 0)]) (f' || decide (15 < l'.length + 1)) v' ∧ OutR 0 (pT n r.T) r L t' l' f'
theorem sumR_round (k n : Nat) (hT : AnyR 23 0 n (pT n) 1) {l0 : List (Int × Int)} {t : RT} {r : List UInt8} {L : List (Int × Int)} {v : V} (hk : 30 * n + 2000 ≤ k) (st : St) (q0 : st.ρ 0 = .p 0 0 4 0 0) (P : RSt l0 st.H t L false v) (ht : t.ok) (kind : Int)
    (hs : (kind = 3 ∧ stripL [43] t.T = some r) ∨ (kind = 4 ∧ stripL [43] t.T = none ∧ stripL [45] t.T = some r)) (hn : 3 * r.length + 1 ≤ n) (hl : L.length + r.length ≤ 1000) :
    ∃ s u, runCode C (callK C k) k (K 14) L14_0 1 st = some (.nrm, s) ∧ RndR n kind u L l0 s ∧ u.ok ∧ u.T = r ∧ u.S = t.S := by
  have h0 := P.h0
  simp [rO] at h0
  rcases hs with ⟨rfl, h1⟩ | ⟨rfl, h1, h2⟩
  · obtain ⟨δ1, u, d1, P1, uk, uT, uS⟩ := takesYR k P [43] ht (by simp) h1 (st.tick + 1) 130 (by omega) (by omega)
    obtain ⟨t1, l1, f1, c1, e1, a1, b1, _, o1⟩ := hT k u L false hk (by rw [uT]; exact hn) uk (fun _ => by rw [uT]; exact hl)
    have o1 := o1 rfl
    have hsz := o1.sz
    have hf1 : (if f1 = true then 1 else 0) ≤ 1 := by split <;> omega
    obtain ⟨δ2, d2, P2, _⟩ := callR k 23 [] rfl rfl P1 Pl.tp e1 a1 b1 (st.tick + 1 + 1) 194 (by omega)
    obtain ⟨δ3, d3, P3, _⟩ := callR k 25 [.int .i64 3, .int .i64 0] rfl rfl P2 Pl.tp (c_putR k t1 3 0 l1 f1 (by rw [uT] at hsz; omega) (by omega)) (fun h => by cases h) (fun _ => by simp) (st.tick + 1 + 1 + 1) 258 (by omega)
    simp only [List.map_nil, List.map_cons] at d2 d3
    simp [-callV_if, L14_0, R14_0, R14_1, R14_2, R14_3, R14_4, R14_5, R14_6, R14_7, Tryd.f14, lpL14_0, q0, h0, lt43, lt45, d1, d2, d3]
    exact ⟨u, ⟨by simp [q0], t1, l1, f1, _, P3, o1⟩, uk, uT, uS⟩
  · obtain ⟨δ0, d0, P0⟩ := takesR k P [43] ht (by simp) h1 (st.tick + 1) 130 (by omega) (by omega)
    obtain ⟨δ1, u, d1, P1, uk, uT, uS⟩ := takesYR k P0 [45] ht (by simp) h2 (st.tick + 1 + 1) 322 (by omega) (by omega)
    obtain ⟨t1, l1, f1, c1, e1, a1, b1, _, o1⟩ := hT k u L false hk (by rw [uT]; exact hn) uk (fun _ => by rw [uT]; exact hl)
    have o1 := o1 rfl
    have hsz := o1.sz
    have hf1 : (if f1 = true then 1 else 0) ≤ 1 := by split <;> omega
    obtain ⟨δ2, d2, P2, _⟩ := callR k 23 [] rfl rfl P1 Pl.tp e1 a1 b1 (st.tick + 1 + 1 + 1) 386 (by omega)
    obtain ⟨δ3, d3, P3, _⟩ := callR k 25 [.int .i64 4, .int .i64 0] rfl rfl P2 Pl.tp (c_putR k t1 4 0 l1 f1 (by rw [uT] at hsz; omega) (by omega)) (fun h => by cases h) (fun _ => by simp) (st.tick + 1 + 1 + 1 + 1) 450 (by omega)
    simp only [List.map_nil, List.map_cons] at d2 d3
    simp [-callV_if, L14_0, R14_0, R14_1, R14_2, R14_3, R14_4, R14_5, R14_6, R14_7, Tryd.f14, lpL14_0, q0, h0, lt43, lt45, d0, d1, d2, d3]
    exact ⟨u, ⟨by simp [q0], t1, l1, f1, _, P3, o1⟩, uk, uT, uS⟩
/-- What the loop of a sum ends with. -/
def LpR (n : Nat) (q L0 : List (Int × Int)) (t : RT) (l0 : List (Int × Int)) (s : St) : Prop := ∃ t' l' f' v', RSt l0 s.H t' l' f' v' ∧
  (f' = false → ∃ q' u, pL n q t.T = some (q', u) ∧ (L0 ++ q').length ≤ 15 ∧ nOk q' = true ∧ t'.T = u ∧ l' = L0 ++ q') ∧
  (∀ q' u, pL n q t.T = some (q', u) → (L0 ++ q').length ≤ 15 → nOk q' = true → f' = false) ∧ t'.S = t.S ∧ t'.ok ∧ t'.T.length ≤ t.T.length ∧ l'.length + t'.T.length ≤ (L0 ++ q).length + t.T.length + (if f' = true then 1 else 0)
theorem pL_pre : ∀ (n : Nat) (q : List (Int × Int)) (t : List UInt8) (q' : List (Int × Int)) (u : List UInt8), pL n q t = some (q', u) → ∃ q2, q' = q ++ q2
  | 0, q, t, q', u, h => by simp [pL] at h
  | n + 1, q, t, q', u, h => by
    unfold pL at h
    split at h
    · split at h
      · cases h
      · obtain ⟨q2, rfl⟩ := pL_pre n _ _ _ _ h
        exact ⟨_, by rw [List.append_assoc, List.append_assoc]⟩
    · split at h
      · split at h
        · cases h
        · obtain ⟨q2, rfl⟩ := pL_pre n _ _ _ _ h
          exact ⟨_, by rw [List.append_assoc, List.append_assoc]⟩
      · cases h
        exact ⟨[], by simp⟩
theorem loopR_ok : ∀ n, (∀ m, m < n → AnyR 23 0 m (pT m) 1) → ∀ k kk, 30 * n + 2000 ≤ k → n + 1 ≤ kk → ∀ (st : St) (l0 : List (Int × Int)) (t : RT) (L0 q : List (Int × Int)) (v : V), st.ρ 0 = .p 0 0 4 0 0 → RSt l0 st.H t (L0 ++ q) false v → t.ok → 3 * t.T.length + 1 ≤ n → (L0 ++ q).length + t.T.length ≤ 1000 → (L0 ++ q).length ≤ 15 → nOk q = true →
    ∃ e s, loopRun (fun st => runCode C (callK C k) k (K 14) L14_0 1 st) [0] kk st = some (e, s) ∧ (e = .ret ∨ e = .ex 0) ∧ LpR n q L0 t l0 s := by
  intro n
  induction n with
  | zero => intro _ k kk _ _ st l0 t L0 q v _ _ _ hn; omega
  | succ n ih =>
    intro hT k kk hk hkk st l0 t L0 q v q0 P ht hn hl h15 hnq
    obtain ⟨kk, rfl⟩ : ∃ m, kk = m + 1 := ⟨kk - 1, by omega⟩
    have hc : (L0 ++ q).length = L0.length + q.length := by simp
    have P' := P.gc [0] (by simp) q0
    have q0' : (Eng.gc [0] st).ρ 0 = .p 0 0 4 0 0 := by simp [q0]
    have round : ∀ (kind : Int) (r : List UInt8), ((kind = 3 ∧ stripL [43] t.T = some r) ∨ (kind = 4 ∧ stripL [43] t.T = none ∧ stripL [45] t.T = some r)) → r.length + 1 = t.T.length → (pL (n + 1) q t.T = match pT n r with
        | none => none
        | some (l2, r2) => pL n (q ++ l2 ++ [(kind, 0)]) r2) →
        ∃ e s, loopRun (fun st => runCode C (callK C k) k (K 14) L14_0 1 st) [0] (kk + 1) st = some (e, s) ∧ (e = .ret ∨ e = .ex 0) ∧ LpR (n + 1) q L0 t l0 s := by
      intro kind r hs hrl hpL
      obtain ⟨s1, u, e1, ⟨q1, t1, l1, f1, v1, P1, o1⟩, uk, uT, uS⟩ := sumR_round k n (hT n (by omega)) (by omega) (Eng.gc [0] st) q0' P' ht kind hs (by omega) (by omega)
      have o1len := o1.len
      have o1sz := o1.sz
      have o1S := o1.s
      rw [uT] at o1len o1sz
      rw [uS] at o1S
      rw [loopRun_succ]
      simp only [e1, loopNext]
      cases hf : (f1 || decide (15 < l1.length + 1))
      · have hf1 : f1 = false := or_f hf
        subst hf1
        have hl15 : l1.length + 1 ≤ 15 := by simp at hf; omega
        simp at o1sz
        obtain ⟨l2, r2, y0, y1, y2, y3, y4⟩ := o1.a rfl
        rw [uT] at y0
        rw [y0] at hpL
        simp only [] at hpL
        have hlist : l1 ++ [(kind, 0)] = L0 ++ (q ++ l2 ++ [(kind, 0)]) := by rw [y4]; simp
        rw [hlist, hf] at P1
        have hlen : (L0 ++ (q ++ l2 ++ [(kind, 0)])).length = l1.length + 1 := by rw [← hlist]; simp
        subst y3
        obtain ⟨e, s, g1, g2, t', l', f', v', g3, g4, g5, g6, g7, g8, g9⟩ := ih (fun m hm => hT m (by omega)) k kk (by omega) (by omega) s1 l0 t1 L0 (q ++ l2 ++ [(kind, 0)]) v1 q1 P1 o1.k (by omega) (by rw [hlen]; simp at hl; omega) (by omega) (by rw [nOk_app, nOk_app, hnq, y2]; rfl)
        refine ⟨e, s, g1, g2, t', l', f', v', g3, ?_, ?_, by rw [g6, o1S], g7, by omega, ?_⟩
        · rw [hpL]; exact g4
        · rw [hpL]; exact g5
        · rw [hlen] at g9
          omega
      · rw [hf] at P1
        obtain ⟨kk, rfl⟩ : ∃ m, kk = m + 1 := ⟨kk - 1, by omega⟩
        obtain ⟨s, g1, g2⟩ := loopFR k kk s1 q1 P1
        refine ⟨.ex 0, s, g1, .inr rfl, t1, _, true, v1, g2, (fun h => by cases h), ?_, o1S, o1.k, by omega, ?_⟩
        · intro q' w hq hlq hnq'
          exfalso
          rw [hpL] at hq
          cases hp : pT n r with
          | none => rw [hp] at hq; cases hq
          | some x =>
            obtain ⟨l2, r2⟩ := x
            rw [hp] at hq
            simp only [] at hq
            obtain ⟨q2, rfl⟩ := pL_pre n _ _ _ _ hq
            rw [nOk_app, nOk_app, nOk_app] at hnq'
            simp only [Bool.and_eq_true] at hnq'
            have hf1 := o1.b l2 r2 (by rw [uT]; exact hp) (by simp at hlq ⊢; omega) hnq'.1.1.2
            subst hf1
            obtain ⟨l2', r2', y0, y1, y2, y3, y4⟩ := o1.a rfl
            rw [uT, hp] at y0
            simp only [Option.some.injEq, Prod.mk.injEq] at y0
            obtain ⟨rfl, rfl⟩ := y0
            rw [y4] at hf
            simp at hf hlq
            omega
        · have : (if f1 = true then 1 else 0) ≤ 1 := by split <;> omega
          simp at o1sz ⊢
          omega
    cases h1 : stripL [43] t.T with
    | some r =>
      have := strip_some h1
      exact round 3 r (.inl ⟨rfl, h1⟩) (by simp at this; omega) (pL_plus n q t.T r h1)
    | none =>
      cases h2 : stripL [45] t.T with
      | some r =>
        have := strip_some h2
        exact round 4 r (.inr ⟨rfl, h1, h2⟩) (by simp at this; omega) (pL_minus n q t.T r h1 h2)
      | none =>
        obtain ⟨s, e, PP⟩ := sumR_end k (by omega) (Eng.gc [0] st) q0' P' ht h1 h2
        rw [loopRun_succ]
        simp only [e, loopNext]
        refine ⟨.ret, s, rfl, .inl rfl, t, _, false, v, PP, fun _ => ⟨q, t.T, pL_end n q t.T h1 h2, h15, hnq, rfl, rfl⟩, fun _ _ _ _ _ => rfl, rfl, ht, Nat.le_refl _, by simp⟩
theorem sumR_step (n : Nat) (hT : ∀ m, m ≤ n → CtrR 23 [] 0 m (pT m) 1) : CtrR 14 [] 0 (n + 1) (pS (n + 1)) 2 := by
  intro k t l hk hn ht hl
  obtain ⟨k, rfl⟩ : ∃ m, k = m + 9 := ⟨k - 9, by omega⟩
  rw [callK_fn rfl F14 code14]
  obtain ⟨P, _⟩ := RSt.st0 t l false (.p 0 0 4 0 0 :: List.map V.c [])
  rw [frR_len]
  have hst : (Eng.st0 (.p 0 0 4 0 0 :: List.map V.c []) (frR t l false)).ρ 0 = .p 0 0 4 0 0 := rfl
  generalize Eng.st0 (.p 0 0 4 0 0 :: List.map V.c []) (frR t l false) = st at P hst ⊢
  obtain ⟨t1, l1, f1, c1, e1, a1, b1, o1⟩ := hT n (Nat.le_refl _) (k + 8) t l (by omega) (by omega) ht hl
  obtain ⟨δ1, d1, P1, _⟩ := callR (k + 8) 23 [] rfl rfl P Pl.tp e1 a1 b1 st.tick 2 (by omega)
  simp only [List.map_nil] at d1
  have o1len := o1.len
  have o1sz := o1.sz
  have hpS : pS (n + 1) t.T = match pT n t.T with
    | none => none
    | some (q, r) => pL n q r := by unfold pS; rfl
  simp [-callV_if, R14_0, R14_1, R14_2, R14_3, R14_4, R14_5, R14_6, R14_7, Tryd.f14, lpL14_0, hst, d1]
  generalize hr : loopRun _ _ _ _ = res
  cases f1
  · simp at o1sz
    obtain ⟨q, r, y0, y1, y2, y3, y4⟩ := o1.a rfl
    subst y3 y4
    rw [y0] at hpS
    simp only [] at hpS
    have hpl := (p_len n).1 t.T q t1.T y0
    have hL := fun (s0 : St) (hs : s0.ρ 0 = .p 0 0 4 0 0 ∧ RSt l s0.H t1 (l ++ q) false (chV c1 st.tick 2 (l ++ q).length (oldV l))) => loopR_ok n (fun m hm => anyRT_of (hT m (by omega))) (k + 8) (k + 8) (by omega) (by omega) s0 l t1 l q _ hs.1 hs.2 o1.k (by omega) (by simp at o1sz ⊢; omega) y1 y2
    obtain ⟨e, s1, rfl, g2, t', l', f', v', g3, g4, g5, g6, g7, g8, g9⟩ := loop_any hL hr ⟨by simp [hst], by simpa using P1⟩
    have ho : OutR 0 (pS (n + 1) t.T) t l t' l' f' := by
      rw [hpS]
      exact ⟨g4, g5, by rw [g6, o1.s], g7, by omega, by simp at g9 o1sz ⊢; omega⟩
    have := EndR.of g3 ho
    rcases g2 with rfl | rfl <;> simpa using this
  · have hL : ∀ s0 : St, (s0.ρ 0 = .p 0 0 4 0 0 ∧ RSt l s0.H t1 l1 true (chV c1 st.tick 2 l1.length (oldV l))) → ∃ e s, loopRun (fun st => runCode C (callK C (k + 8)) (k + 8) (K 14) L14_0 1 st) [0] (k + 7 + 1) s0 = some (e, s) ∧ (e = Ex.ex 0 ∧ RSt l s.H t1 l1 true (chV c1 st.tick 2 l1.length (oldV l))) := fun s0 hs => by
      obtain ⟨s, e, h⟩ := loopFR (k + 8) (k + 7) s0 hs.1 hs.2
      exact ⟨_, s, e, rfl, h⟩
    obtain ⟨e, s1, rfl, rfl, g3⟩ := loop_any hL hr ⟨by simp [hst], by simpa using P1⟩
    have ho : OutR 0 (pS (n + 1) t.T) t l t1 l1 true := by
      rw [hpS]
      refine ⟨(fun h => by cases h), ?_, o1.s, o1.k, o1len, by simp at o1sz ⊢; omega⟩
      intro q' w hq hlq hnq
      cases hp : pT n t.T with
      | none => rw [hp] at hq; cases hq
      | some x =>
        obtain ⟨l2, r2⟩ := x
        rw [hp] at hq
        simp only [] at hq
        obtain ⟨q2, rfl⟩ := pL_pre n _ _ _ _ hq
        rw [nOk_app] at hnq
        simp only [Bool.and_eq_true] at hnq
        have := o1.b l2 r2 hp (by simp at hlq ⊢; omega) hnq.1
        cases this
    simpa using EndR.of g3 ho

end Go.Proofs.YteedcjgmgbcndaaDoor.Eng
namespace Go.Proofs.YteedcjgmgbcndaaDoor.Eng
open Go Go.Proofs
set_option maxRecDepth 100000
set_option maxHeartbeats 2000000
set_option linter.unusedSimpArgs false
set_option linter.unusedVariables false
attribute [local simp] finK fin1 hpOf xi renQ isRoot runCode runOps stepX inlOf Eng.step wantedV astep val ofO made loadV storeV find V.cells bin binT binA numT numFs eqCells un1 setAt fieldAddrV fieldV indexAddrV indexV bounds sliceV convV lenV foldV max2V min2V callO bor rdsO wrsO seen_none okD_none loops keepIds resV resultsV St.ev TK.agg refs refsL refsO V.one V.isC Value.oneCell' ren renL renO noTag noTagL noTagR noTagO nodup mapO passV frs psi refsR newD loopNext opsAt idx flatAt rootOf backR newsV appendV copyV clearV strV bytesV bldV bufV selfV bytesOf nilCmp buildV fillF chunk freeL frzW cellSame sameV
attribute [local simp] cT cF cX cWR cOW cK cBL X ints_length ints_get ints_getElem ints_drop ints_take ints_append ints_nil ints_set
attribute [local simp] ints_replicate
attribute [local simp] putV_some putV_none putH_app applyD_nil applyD_cons seen_app gc_ρ gc_H gc_tick st0_ρ st0_H st0_tick retV callRo callV_if borL_nil borL_cons ints_snoc take_self callWr cutH_app findQ afterV exportV_0 exportV_n okD_nil okD_cons sub_seq0 sub_seq1 sub_cond0 sub_cond1 sub_block sub_loop sub_nil young_far young_none hidW_nil mayW_nil keepsF_nil keepsF_cons pairs okI ok_0 ok_1 ok_2
attribute [local simp] T3 T4 T5 T9 T22 T29 T34 T35 T37 T39 T42 T43 T56
attribute [local simp] young_near clo cloF Region.binds Nat.testBit hidW declW mayW List.findIdx?_cons
theorem ltL (c : UInt8) : (⟨#[c]⟩ : ByteArray) = bs [c] := rfl
theorem out_minR {n : Nat} {t u : RT} {l : List (Int × Int)} {t' : RT} {l' : List (Int × Int)} {f' : Bool} (kind : Int) (hp : pT (n + 1) t.T = pP n kind u.T) (hr : u.T.length + 4 = t.T.length) (hS : u.S = t.S) (o : OutR 1 (pP n kind u.T) u l t' l' f') : OutR 0 (pT (n + 1) t.T) t l t' l' f' := by
  obtain ⟨a, b, c, d, e, f⟩ := o
  rw [hp]
  exact ⟨a, b, c.trans hS, d, by omega, by omega⟩
theorem strip1 {c : UInt8} {t r : List UInt8} (h : stripL [c] t = some r) : t = c :: r := by
  have := strip_len _ _ _ h
  simpa using this
theorem termR_step (n : Nat) (hP : ∀ kind, CtrR 36 [.int .i64 kind] 1 n (pP n kind) 3) (hS : CtrR 14 [] 0 n (pS n) 2) : CtrR 23 [] 0 (n + 1) (pT (n + 1)) 1 := by
  intro k t l hk hn ht hl
  obtain ⟨k, rfl⟩ : ∃ m, k = m + 9 := ⟨k - 9, by omega⟩
  rw [callK_fn rfl F23 code23]
  obtain ⟨P, _⟩ := RSt.st0 t l false (.p 0 0 4 0 0 :: List.map V.c [])
  rw [frR_len]
  have hst : (Eng.st0 (.p 0 0 4 0 0 :: List.map V.c []) (frR t l false)).ρ 0 = .p 0 0 4 0 0 := rfl
  generalize Eng.st0 (.p 0 0 4 0 0 :: List.map V.c []) (frR t l false) = st at P hst ⊢
  have h0 := P.h0
  simp [rO] at h0
  have E := pT_eq n t.T
  cases h1 : stripL [109, 105, 110, 40] t.T with
  | some r1 =>
    have hs1 := strip_some h1
    simp at hs1
    rw [h1] at E
    obtain ⟨δ1, u, d1, P1, uk, uT, uS⟩ := takesYR (k + 8) P _ ht (by simp) h1 (st.tick + 1) 130 (by omega) (by omega)
    obtain ⟨t', l', f', ch, e, a, b, o⟩ := hP 5 (k + 8) u l (by omega) (by rw [uT]; omega) uk (by rw [uT]; omega)
    obtain ⟨δ2, d2, P2, _⟩ := callR (k + 8) 36 [.int .i64 5] rfl rfl P1 Pl.tp e a b (st.tick + 1 + 1) 194 (by omega)
    simp only [List.map_nil, List.map_cons] at d2
    simp [-callV_if, R23_0, R23_1, R23_2, R23_3, R23_4, R23_5, R23_6, R23_7, R23_8, R23_9, R23_10, R23_11, R23_12, R23_13, R23_14, R23_15, R23_16, R23_17, R23_18, R23_19, R23_20, R23_21, R23_22, Tryd.f23, hst, h0, ltM, ltX, ltA, d1, d2]
    exact EndR.of P2 (out_minR 5 (by rw [uT]; exact E) (by rw [uT]; omega) uS o)
  | none =>
  rw [h1] at E
  obtain ⟨δ1, d1, P1⟩ := takesR (k + 8) P _ ht (by simp) h1 (st.tick + 1) 130 (by omega) (by omega)
  cases h2 : stripL [109, 97, 120, 40] t.T with
  | some r1 =>
    have hs1 := strip_some h2
    simp at hs1
    rw [h2] at E
    obtain ⟨δ2, u, d2, P2, uk, uT, uS⟩ := takesYR (k + 8) P1 _ ht (by simp) h2 (st.tick + 1 + 1) 258 (by omega) (by omega)
    obtain ⟨t', l', f', ch, e, a, b, o⟩ := hP 6 (k + 8) u l (by omega) (by rw [uT]; omega) uk (by rw [uT]; omega)
    obtain ⟨δ3, d3, P3, _⟩ := callR (k + 8) 36 [.int .i64 6] rfl rfl P2 Pl.tp e a b (st.tick + 1 + 1 + 1) 322 (by omega)
    simp only [List.map_nil, List.map_cons] at d3
    simp [-callV_if, R23_0, R23_1, R23_2, R23_3, R23_4, R23_5, R23_6, R23_7, R23_8, R23_9, R23_10, R23_11, R23_12, R23_13, R23_14, R23_15, R23_16, R23_17, R23_18, R23_19, R23_20, R23_21, R23_22, Tryd.f23, hst, h0, ltM, ltX, ltA, d1, d2, d3]
    exact EndR.of P3 (out_minR 6 (by rw [uT]; exact E) (by rw [uT]; omega) uS o)
  | none =>
  rw [h2] at E
  obtain ⟨δ2, d2, P2⟩ := takesR (k + 8) P1 _ ht (by simp) h2 (st.tick + 1 + 1) 258 (by omega) (by omega)
  cases h3 : stripL [97, 98, 111, 118, 101, 40] t.T with
  | some r1 =>
    have hs1 := strip_some h3
    simp at hs1
    rw [h3] at E
    simp only [] at E
    obtain ⟨δ3, u, d3, P3, uk, uT, uS⟩ := takesYR (k + 8) P2 _ ht (by simp) h3 (st.tick + 1 + 1 + 1) 386 (by omega) (by omega)
    obtain ⟨t1, l1, f1, c1, e, a, b, o⟩ := hS (k + 8) u l (by omega) (by rw [uT]; omega) uk (by rw [uT]; omega)
    rw [uT] at o
    obtain ⟨δ4, d4, P4, _⟩ := callR (k + 8) 14 [] rfl rfl P3 Pl.tp e a b (st.tick + 1 + 1 + 1 + 1) 450 (by omega)
    obtain ⟨δ5, d5, P5, _⟩ := callR (k + 8) 37 [.string (bs [44])] rfl rfl P4 Pl.tp (c_want (k + 8) t1 [44] l1 f1 o.k (by simp) (by omega)) (fun _ => rfl) (fun h => by cases h) (st.tick + 1 + 1 + 1 + 1 + 1) 514 (by omega)
    have olen := o.len
    have osz := o.sz
    rw [uT] at olen osz
    have hf1 : (if f1 = true then 1 else 0) ≤ 1 := by split <;> omega
    obtain ⟨t2, ht2⟩ : ∃ t2, restR [44] t1 = t2 := ⟨_, rfl⟩
    obtain ⟨f2, hf2⟩ : ∃ f2, (f1 || !hasP [44] t1.T) = f2 := ⟨_, rfl⟩
    have hT2 : t2.T = restP [44] t1.T := by rw [← ht2]; exact restR_T _ _
    have hS2 : t2.S = t1.S := by rw [← ht2]; exact restR_S _ _
    have hk2 : t2.ok := by rw [← ht2]; exact restR_ok o.k
    have hlen2 : t2.T.length ≤ t1.T.length := by rw [hT2]; exact restP_len _ _
    rw [ht2, hf2] at P5
    obtain ⟨δ6, d6, P6, _⟩ := callR (k + 8) 38 [] rfl rfl P5 (Pl.c _) (c_numberR (k + 8) t2 l1 f2 hk2 (by omega)) (fun _ => rfl) (fun h => by cases h) (st.tick + 1 + 1 + 1 + 1 + 1 + 1) 578 (by omega)
    obtain ⟨vn, hvn⟩ : ∃ vn, pV (t2.T.takeWhile isD) = vn := ⟨_, rfl⟩
    obtain ⟨f3, hf3⟩ : ∃ f3, ((f2 || !pB (t2.T.takeWhile isD)) || decide (9000 < vn)) = f3 := ⟨_, rfl⟩
    rw [hvn, hf3] at P6
    rw [hvn] at d6
    have hk3 := numR_ok hk2
    have hT3 := numR_T t2
    have hlen3 := drop_le t2.T
    obtain ⟨δ7, d7, P7, _⟩ := callR (k + 8) 37 [.string (bs [41])] rfl rfl P6 Pl.tp (c_want (k + 8) (numR t2) [41] l1 f3 hk3 (by simp) (by omega)) (fun _ => rfl) (fun h => by cases h) (st.tick + 1 + 1 + 1 + 1 + 1 + 1 + 1) 642 (by omega)
    obtain ⟨t4, ht4⟩ : ∃ t4, restR [41] (numR t2) = t4 := ⟨_, rfl⟩
    obtain ⟨f4, hf4⟩ : ∃ f4, (f3 || !hasP [41] (numR t2).T) = f4 := ⟨_, rfl⟩
    have hT4 : t4.T = restP [41] (t2.T.dropWhile isD) := by rw [← ht4, restR_T, hT3]
    have hS4 : t4.S = t2.S := by rw [← ht4]; exact restR_S _ _
    have hk4 : t4.ok := by rw [← ht4]; exact restR_ok hk3
    have hlen4 : t4.T.length ≤ (t2.T.dropWhile isD).length := by rw [hT4]; exact restP_len _ _
    rw [ht4, hf4] at P7
    rw [hT3] at hf4
    obtain ⟨δ8, d8, P8, _⟩ := callR (k + 8) 25 [.int .i64 7, .int .i64 vn] rfl rfl P7 Pl.tp (c_putR (k + 8) t4 7 vn l1 f4 (by omega) (by omega)) (fun h => by cases h) (fun _ => by simp) (st.tick + 1 + 1 + 1 + 1 + 1 + 1 + 1 + 1) 707 (by omega)
    obtain ⟨f5, hf5⟩ : ∃ f5, (f4 || decide (15 < l1.length + 1)) = f5 := ⟨_, rfl⟩
    rw [hf5] at P8
    simp only [List.map_nil, List.map_cons] at d4 d5 d6 d7 d8
    simp [-callV_if, R23_0, R23_1, R23_2, R23_3, R23_4, R23_5, R23_6, R23_7, R23_8, R23_9, R23_10, R23_11, R23_12, R23_13, R23_14, R23_15, R23_16, R23_17, R23_18, R23_19, R23_20, R23_21, R23_22, Tryd.f23, hst, h0, ltM, ltX, ltA, lt44, lt41, d1, d2, d3, d4, d5, d6, d7, d8]
    refine EndR.of P8 ?_
    have g12 : f1 = true → f2 = true := by intro h; rw [h] at hf2; exact hf2.symm
    have g23 : f2 = true → f3 = true := by intro h; rw [h] at hf3; exact hf3.symm
    have g34 : f3 = true → f4 = true := by intro h; rw [h] at hf4; exact hf4.symm
    have g45 : f4 = true → f5 = true := by intro h; rw [h] at hf5; exact hf5.symm
    refine ⟨?_, ?_, by rw [hS4, hS2, o.s, uS], hk4, by omega, ?_⟩
    · intro z5
      have z4 : f4 = false := by cases f4; rfl; rw [g45 rfl] at z5; cases z5
      have z3 : f3 = false := by cases f3; rfl; rw [g34 rfl] at z4; cases z4
      have z2 : f2 = false := by cases f2; rfl; rw [g23 rfl] at z3; cases z3
      have z1 : f1 = false := by cases f1; rfl; rw [g12 rfl] at z2; cases z2
      subst z1 z2 z3 z4 z5
      obtain ⟨m1, u1, r1, r2, r3, r4, r5⟩ := o.a rfl
      have k2 : hasP [44] t1.T = true := by simpa using hf2
      simp at hf3
      have k4 : hasP [41] (t2.T.dropWhile isD) = true := by simpa using hf4
      have k5 : l1.length + 1 ≤ 15 := by simp at hf5; omega
      have e2 : stripL [44] t1.T = some t2.T := by
        rw [hT2]; unfold restP; unfold hasP at k2
        cases h : stripL [44] t1.T with
        | none => rw [h] at k2; cases k2
        | some x => rfl
      have e4 : stripL [41] (t2.T.dropWhile isD) = some t4.T := by
        rw [hT4]; unfold restP; unfold hasP at k4
        cases h : stripL [41] (t2.T.dropWhile isD) with
        | none => rw [h] at k4; cases k4
        | some x => rfl
      have e3 := numP_v (t := t2.T) hf3.1
      rw [hvn] at e3
      subst r4
      refine ⟨m1 ++ [(7, vn)], t4.T, ?_, ?_, ?_, rfl, by rw [r5]; simp⟩
      · rw [E]
        simp only [r1, e2, e3, e4]
      · rw [r5] at k5
        simp at k5 ⊢
        omega
      · rw [nOk_app, r3]
        simp [nOk]
        omega
    · intro q w hq hlq hnq
      rw [E] at hq
      cases k1 : pS n r1 with
      | none => rw [k1] at hq; cases hq
      | some x1 =>
        obtain ⟨m1, u1⟩ := x1
        rw [k1] at hq
        simp only [] at hq
        cases k2 : stripL [44] u1 with
        | none => rw [k2] at hq; cases hq
        | some u2 =>
          rw [k2] at hq
          simp only [] at hq
          cases k3 : pB (u2.takeWhile isD) with
          | false => rw [numP_n k3] at hq; cases hq
          | true =>
            rw [numP_v k3] at hq
            simp only [] at hq
            cases k4 : stripL [41] (u2.dropWhile isD) with
            | none => rw [k4] at hq; cases hq
            | some u4 =>
              rw [k4] at hq
              simp only [Option.some.injEq, Prod.mk.injEq] at hq
              obtain ⟨rfl, rfl⟩ := hq
              rw [nOk_app] at hnq
              simp only [Bool.and_eq_true] at hnq
              have g1 : f1 = false := o.b m1 u1 k1 (by simp at hlq ⊢; omega) hnq.1
              subst g1
              obtain ⟨m1', u1', r1', r2, r3, r4, r5⟩ := o.a rfl
              rw [k1] at r1'
              simp only [Option.some.injEq, Prod.mk.injEq] at r1'
              obtain ⟨rfl, rfl⟩ := r1'
              rw [r4] at hf2 hT2
              obtain ⟨z1, z2⟩ := hasP_some k2
              rw [z1] at hf2
              rw [z2] at hT2
              have g2 : f2 = false := hf2.symm
              subst g2
              rw [hT2] at hvn hf3 hf4
              have hv9 : vn ≤ 9000 := by
                have := hnq.2
                rw [hvn] at this
                simpa [nOk] using this
              rw [k3] at hf3
              have g3 : f3 = false := by rw [← hf3]; simp; omega
              subst g3
              rw [(hasP_some k4).1] at hf4
              have g4 : f4 = false := hf4.symm
              subst g4
              rw [← hf5, r5]
              simp at hlq ⊢
              omega
    · have : (if f1 = true then 1 else 0) ≤ (if f5 = true then 1 else 0) := by
        cases f1
        · simp
        · rw [g45 (g34 (g23 (g12 rfl)))]
          simp
      simp only [List.length_append, List.length_cons, List.length_nil]
      omega
  | none =>
  rw [h3] at E
  obtain ⟨δ3, d3, P3⟩ := takesR (k + 8) P2 _ ht (by simp) h3 (st.tick + 1 + 1 + 1) 386 (by omega) (by omega)
  cases h4 : stripL [40] t.T with
  | some r1 =>
    have hs1 := strip_some h4
    simp at hs1
    rw [h4] at E
    simp only [] at E
    obtain ⟨δ4, u, d4, P4, uk, uT, uS⟩ := takesYR (k + 8) P3 _ ht (by simp) h4 (st.tick + 1 + 1 + 1 + 1) 770 (by omega) (by omega)
    obtain ⟨t1, l1, f1, c1, e, a, b, o⟩ := hS (k + 8) u l (by omega) (by rw [uT]; omega) uk (by rw [uT]; omega)
    rw [uT] at o
    obtain ⟨δ5, d5, P5, _⟩ := callR (k + 8) 14 [] rfl rfl P4 Pl.tp e a b (st.tick + 1 + 1 + 1 + 1 + 1) 834 (by omega)
    obtain ⟨δ6, d6, P6, _⟩ := callR (k + 8) 37 [.string (bs [41])] rfl rfl P5 Pl.tp (c_want (k + 8) t1 [41] l1 f1 o.k (by simp) (by omega)) (fun _ => rfl) (fun h => by cases h) (st.tick + 1 + 1 + 1 + 1 + 1 + 1) 898 (by omega)
    simp only [List.map_nil, List.map_cons] at d5 d6
    have olen := o.len
    have osz := o.sz
    rw [uT] at olen osz
    simp [-callV_if, R23_0, R23_1, R23_2, R23_3, R23_4, R23_5, R23_6, R23_7, R23_8, R23_9, R23_10, R23_11, R23_12, R23_13, R23_14, R23_15, R23_16, R23_17, R23_18, R23_19, R23_20, R23_21, R23_22, Tryd.f23, hst, h0, ltM, ltX, ltA, lt40, lt41, d1, d2, d3, d4, d5, d6]
    refine EndR.of P6 ?_
    have hlen2 : (restR [41] t1).T.length ≤ t1.T.length := by rw [restR_T]; exact restP_len _ _
    obtain ⟨f2, hf2⟩ : ∃ f2, (f1 || !hasP [41] t1.T) = f2 := ⟨_, rfl⟩
    rw [hf2]
    have g12 : f1 = true → f2 = true := by intro h; rw [h] at hf2; exact hf2.symm
    refine ⟨?_, ?_, by rw [restR_S, o.s, uS], restR_ok o.k, by omega, ?_⟩
    · intro z2
      have z1 : f1 = false := by cases f1; rfl; rw [g12 rfl] at z2; cases z2
      subst z1 z2
      obtain ⟨m1, u1, r1', r2, r3, r4, r5⟩ := o.a rfl
      have k2 : hasP [41] t1.T = true := by simpa using hf2
      subst r4
      refine ⟨m1, (restR [41] t1).T, ?_, r2, r3, rfl, r5⟩
      rw [E]
      simp only [r1']
      rw [restR_T]
      unfold restP
      unfold hasP at k2
      cases h : stripL [41] t1.T with
      | none => rw [h] at k2; cases k2
      | some x => rfl
    · intro q w hq hlq hnq
      rw [E] at hq
      cases k1 : pS n r1 with
      | none => rw [k1] at hq; cases hq
      | some x1 =>
        obtain ⟨m1, u1⟩ := x1
        rw [k1] at hq
        simp only [] at hq
        cases k2 : stripL [41] u1 with
        | none => rw [k2] at hq; cases hq
        | some u2 =>
          rw [k2] at hq
          simp only [Option.some.injEq, Prod.mk.injEq] at hq
          obtain ⟨rfl, rfl⟩ := hq
          have g1 : f1 = false := o.b m1 u1 k1 hlq hnq
          subst g1
          obtain ⟨m1', u1', r1', r2, r3, r4, r5⟩ := o.a rfl
          rw [k1] at r1'
          simp only [Option.some.injEq, Prod.mk.injEq] at r1'
          obtain ⟨rfl, rfl⟩ := r1'
          rw [r4, (hasP_some k2).1] at hf2
          exact hf2.symm
    · have : (if f1 = true then 1 else 0) ≤ (if f2 = true then 1 else 0) := by
        cases f1
        · simp
        · rw [g12 rfl]
          simp
      omega
  | none =>
  rw [h4] at E
  obtain ⟨δ4, d4, P4⟩ := takesR (k + 8) P3 _ ht (by simp) h4 (st.tick + 1 + 1 + 1 + 1) 770 (by omega) (by omega)
  have letter : ∀ (c : UInt8) (i : Int) (r : List UInt8) (u : RT), 97 ≤ c.toNat → c.toNat ≤ 100 → (c.toNat : Int) - 97 = i → stripL [c] t.T = some r → u.T = r → u.S = t.S → u.ok → OutR 0 (pT (n + 1) t.T) t l u (l ++ [(1, i)]) (false || decide (15 < l.length + 1)) := by
    intro c i r u c1 c2 ci hs uT uS uk
    have htc := strip1 hs
    have hp : pT (n + 1) t.T = some ([(1, i)], r) := by
      rw [E, htc]
      simp only []
      rw [if_pos ⟨c1, c2⟩, ci]
    rw [hp]
    have hlen : t.T.length = r.length + 1 := by rw [htc]; rfl
    refine ⟨fun h => ⟨_, _, rfl, ?_, ?_, uT, rfl⟩, ?_, uS, uk, by rw [uT]; omega, ?_⟩
    · simp at h ⊢
      omega
    · simp [nOk]
      omega
    · intro q w hq hlq _
      cases hq
      simp at hlq ⊢
      omega
    · rw [uT]
      simp
      omega
  have hl15 : l.length ≤ 2000 := by omega
  cases h5 : stripL [97] t.T with
  | some r1 =>
    obtain ⟨δ5, u, d5, P5, uk, uT, uS⟩ := takesYR (k + 8) P4 _ ht (by simp) h5 (st.tick + 1 + 1 + 1 + 1 + 1) 962 (by omega) (by omega)
    obtain ⟨δ6, d6, P6, _⟩ := callR (k + 8) 25 [.int .i64 1, .int .i64 0] rfl rfl P5 Pl.tp (c_putR (k + 8) u 1 0 l false hl15 (by omega)) (fun h => by cases h) (fun _ => by simp) (st.tick + 1 + 1 + 1 + 1 + 1 + 1) 1026 (by omega)
    simp only [List.map_nil, List.map_cons] at d6
    simp [-callV_if, R23_0, R23_1, R23_2, R23_3, R23_4, R23_5, R23_6, R23_7, R23_8, R23_9, R23_10, R23_11, R23_12, R23_13, R23_14, R23_15, R23_16, R23_17, R23_18, R23_19, R23_20, R23_21, R23_22, Tryd.f23, hst, h0, ltM, ltX, ltA, ltL, d1, d2, d3, d4, d5, d6]
    exact EndR.of P6 (letter 97 0 r1 u (by decide) (by decide) (by decide) h5 uT uS uk)
  | none =>
  obtain ⟨δ5, d5, P5⟩ := takesR (k + 8) P4 _ ht (by simp) h5 (st.tick + 1 + 1 + 1 + 1 + 1) 962 (by omega) (by omega)
  cases h6 : stripL [98] t.T with
  | some r1 =>
    obtain ⟨δ6, u, d6, P6, uk, uT, uS⟩ := takesYR (k + 8) P5 _ ht (by simp) h6 (st.tick + 1 + 1 + 1 + 1 + 1 + 1) 1090 (by omega) (by omega)
    obtain ⟨δ7, d7, P7, _⟩ := callR (k + 8) 25 [.int .i64 1, .int .i64 1] rfl rfl P6 Pl.tp (c_putR (k + 8) u 1 1 l false hl15 (by omega)) (fun h => by cases h) (fun _ => by simp) (st.tick + 1 + 1 + 1 + 1 + 1 + 1 + 1) 1154 (by omega)
    simp only [List.map_nil, List.map_cons] at d7
    simp [-callV_if, R23_0, R23_1, R23_2, R23_3, R23_4, R23_5, R23_6, R23_7, R23_8, R23_9, R23_10, R23_11, R23_12, R23_13, R23_14, R23_15, R23_16, R23_17, R23_18, R23_19, R23_20, R23_21, R23_22, Tryd.f23, hst, h0, ltM, ltX, ltA, ltL, d1, d2, d3, d4, d5, d6, d7]
    exact EndR.of P7 (letter 98 1 r1 u (by decide) (by decide) (by decide) h6 uT uS uk)
  | none =>
  obtain ⟨δ6, d6, P6⟩ := takesR (k + 8) P5 _ ht (by simp) h6 (st.tick + 1 + 1 + 1 + 1 + 1 + 1) 1090 (by omega) (by omega)
  cases h7 : stripL [99] t.T with
  | some r1 =>
    obtain ⟨δ7, u, d7, P7, uk, uT, uS⟩ := takesYR (k + 8) P6 _ ht (by simp) h7 (st.tick + 1 + 1 + 1 + 1 + 1 + 1 + 1) 1218 (by omega) (by omega)
    obtain ⟨δ8, d8, P8, _⟩ := callR (k + 8) 25 [.int .i64 1, .int .i64 2] rfl rfl P7 Pl.tp (c_putR (k + 8) u 1 2 l false hl15 (by omega)) (fun h => by cases h) (fun _ => by simp) (st.tick + 1 + 1 + 1 + 1 + 1 + 1 + 1 + 1) 1282 (by omega)
    simp only [List.map_nil, List.map_cons] at d8
    simp [-callV_if, R23_0, R23_1, R23_2, R23_3, R23_4, R23_5, R23_6, R23_7, R23_8, R23_9, R23_10, R23_11, R23_12, R23_13, R23_14, R23_15, R23_16, R23_17, R23_18, R23_19, R23_20, R23_21, R23_22, Tryd.f23, hst, h0, ltM, ltX, ltA, ltL, d1, d2, d3, d4, d5, d6, d7, d8]
    exact EndR.of P8 (letter 99 2 r1 u (by decide) (by decide) (by decide) h7 uT uS uk)
  | none =>
  obtain ⟨δ7, d7, P7⟩ := takesR (k + 8) P6 _ ht (by simp) h7 (st.tick + 1 + 1 + 1 + 1 + 1 + 1 + 1) 1218 (by omega) (by omega)
  cases h8 : stripL [100] t.T with
  | some r1 =>
    obtain ⟨δ8, u, d8, P8, uk, uT, uS⟩ := takesYR (k + 8) P7 _ ht (by simp) h8 (st.tick + 1 + 1 + 1 + 1 + 1 + 1 + 1 + 1) 1346 (by omega) (by omega)
    obtain ⟨δ9, d9, P9, _⟩ := callR (k + 8) 25 [.int .i64 1, .int .i64 3] rfl rfl P8 Pl.tp (c_putR (k + 8) u 1 3 l false hl15 (by omega)) (fun h => by cases h) (fun _ => by simp) (st.tick + 1 + 1 + 1 + 1 + 1 + 1 + 1 + 1 + 1) 1410 (by omega)
    simp only [List.map_nil, List.map_cons] at d9
    simp [-callV_if, R23_0, R23_1, R23_2, R23_3, R23_4, R23_5, R23_6, R23_7, R23_8, R23_9, R23_10, R23_11, R23_12, R23_13, R23_14, R23_15, R23_16, R23_17, R23_18, R23_19, R23_20, R23_21, R23_22, Tryd.f23, hst, h0, ltM, ltX, ltA, ltL, d1, d2, d3, d4, d5, d6, d7, d8, d9]
    exact EndR.of P9 (letter 100 3 r1 u (by decide) (by decide) (by decide) h8 uT uS uk)
  | none =>
  obtain ⟨δ8, d8, P8⟩ := takesR (k + 8) P7 _ ht (by simp) h8 (st.tick + 1 + 1 + 1 + 1 + 1 + 1 + 1 + 1) 1346 (by omega) (by omega)
  obtain ⟨δ9, d9, P9, _⟩ := callR (k + 8) 38 [] rfl rfl P8 (Pl.c _) (c_numberR (k + 8) t l false ht (by omega)) (fun _ => rfl) (fun h => by cases h) (st.tick + 1 + 1 + 1 + 1 + 1 + 1 + 1 + 1 + 1) 3 (by omega)
  obtain ⟨vn, hvn⟩ : ∃ vn, pV (t.T.takeWhile isD) = vn := ⟨_, rfl⟩
  obtain ⟨f3, hf3⟩ : ∃ f3, ((false || !pB (t.T.takeWhile isD)) || decide (9000 < vn)) = f3 := ⟨_, rfl⟩
  rw [hvn, hf3] at P9
  rw [hvn] at d9
  obtain ⟨δ10, d10, P10, _⟩ := callR (k + 8) 25 [.int .i64 2, .int .i64 vn] rfl rfl P9 Pl.tp (c_putR (k + 8) (numR t) 2 vn l f3 hl15 (by omega)) (fun h => by cases h) (fun _ => by simp) (st.tick + 1 + 1 + 1 + 1 + 1 + 1 + 1 + 1 + 1) 4 (by omega)
  simp only [List.map_nil, List.map_cons] at d9 d10
  simp [-callV_if, R23_0, R23_1, R23_2, R23_3, R23_4, R23_5, R23_6, R23_7, R23_8, R23_9, R23_10, R23_11, R23_12, R23_13, R23_14, R23_15, R23_16, R23_17, R23_18, R23_19, R23_20, R23_21, R23_22, Tryd.f23, hst, h0, ltM, ltX, ltA, ltL, d1, d2, d3, d4, d5, d6, d7, d8, d9, d10]
  refine EndR.of P10 ?_
  have hT3 := numR_T t
  have hlen3 := drop_le t.T
  have E2 : pT (n + 1) t.T = match numP t.T with
      | none => none
      | some (v, r') => some ([(2, v)], r') := by
    rw [E]
    cases hT : t.T with
    | nil =>
      simp only []
      have : numP [] = none := by
        unfold numP
        cases hp : pI (List.takeWhile isD []) with
        | none => rfl
        | some v => exact (pI_ne hp).elim
      rw [this]
    | cons c r =>
      have nc : ∀ d : UInt8, stripL [d] t.T = none → ¬ c = d := by
        intro d hd e
        rw [hT, ← e] at hd
        simp [stripL] at hd
      have n1 := nc 97 h5
      have n2 := nc 98 h6
      have n3 := nc 99 h7
      have n4 := nc 100 h8
      have hcn : ¬ (97 ≤ c.toNat ∧ c.toNat ≤ 100) := by
        rintro ⟨g1, g2⟩
        have : c.toNat = 97 ∨ c.toNat = 98 ∨ c.toNat = 99 ∨ c.toNat = 100 := by omega
        rcases this with h | h | h | h
        · exact n1 (UInt8.toNat_inj.1 h)
        · exact n2 (UInt8.toNat_inj.1 h)
        · exact n3 (UInt8.toNat_inj.1 h)
        · exact n4 (UInt8.toNat_inj.1 h)
      simp only []
      rw [if_neg hcn]
      all_goals (cases numP (c :: r) <;> rfl)
  rw [E2]
  refine ⟨?_, ?_, rfl, numR_ok ht, by rw [hT3]; exact hlen3, ?_⟩
  · intro z
    simp only [Bool.or_eq_false_iff] at z
    obtain ⟨z1, z2⟩ := z
    subst z1
    simp at hf3 z2
    have e3 := numP_v (t := t.T) hf3.1
    rw [hvn] at e3
    rw [e3]
    exact ⟨_, _, rfl, by simp; omega, by simp [nOk]; omega, hT3, rfl⟩
  · intro q w hq hlq hnq
    cases k3 : pB (t.T.takeWhile isD) with
    | false => rw [numP_n k3] at hq; cases hq
    | true =>
      rw [numP_v k3] at hq
      simp only [Option.some.injEq, Prod.mk.injEq] at hq
      obtain ⟨rfl, rfl⟩ := hq
      rw [hvn] at hnq
      rw [k3] at hf3
      have : vn ≤ 9000 := by simpa [nOk] using hnq
      rw [← hf3]
      simp at hlq ⊢
      omega
  · rw [hT3]
    cases k3 : pB (t.T.takeWhile isD) with
    | false =>
      rw [k3] at hf3
      have : f3 = true := by rw [← hf3]; rfl
      subst this
      simp
      omega
    | true =>
      have := numP_len (numP_v k3)
      simp
      omega

end Go.Proofs.YteedcjgmgbcndaaDoor.Eng
namespace Go.Proofs.YteedcjgmgbcndaaDoor.Eng
open Go Go.Proofs
set_option maxRecDepth 100000
set_option maxHeartbeats 2000000
set_option linter.unusedSimpArgs false
set_option linter.unusedVariables false
attribute [local simp] finK fin1 hpOf xi renQ isRoot runCode runOps stepX inlOf Eng.step wantedV astep val ofO made loadV storeV find V.cells bin binT binA numT numFs eqCells un1 setAt fieldAddrV fieldV indexAddrV indexV bounds sliceV convV lenV foldV max2V min2V callO bor rdsO wrsO seen_none okD_none loops keepIds resV resultsV St.ev TK.agg refs refsL refsO V.one V.isC Value.oneCell' ren renL renO noTag noTagL noTagR noTagO nodup mapO passV frs psi refsR newD loopNext opsAt idx flatAt rootOf backR newsV appendV copyV clearV strV bytesV bldV bufV selfV bytesOf nilCmp buildV fillF chunk freeL frzW cellSame sameV
attribute [local simp] cT cF cX cWR cOW cK cBL X ints_length ints_get ints_getElem ints_drop ints_take ints_append ints_nil ints_set
attribute [local simp] ints_replicate
attribute [local simp] putV_some putV_none putH_app applyD_nil applyD_cons seen_app gc_ρ gc_H gc_tick st0_ρ st0_H st0_tick retV callRo callV_if borL_nil borL_cons ints_snoc take_self callWr cutH_app findQ afterV exportV_0 exportV_n okD_nil okD_cons sub_seq0 sub_seq1 sub_cond0 sub_cond1 sub_block sub_loop sub_nil young_far young_none hidW_nil mayW_nil keepsF_nil keepsF_cons pairs okI ok_0 ok_1 ok_2
attribute [local simp] T3 T4 T5 T9 T22 T29 T34 T35 T37 T39 T42 T43 T56
attribute [local simp] young_near clo cloF Region.binds Nat.testBit hidW declW mayW List.findIdx?_cons
theorem allP : ∀ n m, m ≤ n → CtrT 17 [] 0 m (pT m) 1 ∧ (∀ kind, CtrT 30 [.int .i64 kind] 1 m (pP m kind) 3) ∧ CtrT 10 [] 0 m (pS m) 2
  | 0, m, h => by
    obtain rfl : m = 0 := by omega
    exact ⟨fun k t l _ hn => by omega, fun kind k t l _ hn => by omega, fun k t l _ hn => by omega⟩
  | n + 1, m, h => by
    have ih := allP n
    by_cases hm : m = n + 1
    · subst hm
      obtain ⟨a, b, c⟩ := ih n (Nat.le_refl _)
      exact ⟨term_step n b c, fun kind => pair_step n (anyS_of c) kind, sum_step n fun m hm => (ih m hm).1⟩
    · exact ih m (by omega)
theorem allR : ∀ n m, m ≤ n → CtrR 23 [] 0 m (pT m) 1 ∧ (∀ kind, CtrR 36 [.int .i64 kind] 1 m (pP m kind) 3) ∧ CtrR 14 [] 0 m (pS m) 2
  | 0, m, h => by
    obtain rfl : m = 0 := by omega
    exact ⟨fun k t l _ hn => by omega, fun kind k t l _ hn => by omega, fun k t l _ hn => by omega⟩
  | n + 1, m, h => by
    have ih := allR n
    by_cases hm : m = n + 1
    · subst hm
      obtain ⟨a, b, c⟩ := ih n (Nat.le_refl _)
      exact ⟨termR_step n b c, fun kind => pairR_step n (anyRS_of c) kind, sumR_step n fun m hm => (ih m hm).1⟩
    · exact ih m (by omega)
def textE (q : List (Int × Int)) : List UInt8 := ((tks q q.length).headD ([], false)).1
/-- The expression with a text. -/
noncomputable def parseE (s : List UInt8) : Option (List (Int × Int)) := match pS (3 * s.length + 2) s with
  | some (q, []) => if goodE q = true ∧ textE q = s then some q else none
  | _ => none
theorem c_IsExprNil (k : Nat) (hk : 10 ≤ k) : callK C k 11 [.c (.slice none 0 0)] [] = some (.c (.bool false), hpOf [] []) := by
  obtain ⟨k, rfl⟩ : ∃ m, k = m + 5 := ⟨k - 5, by omega⟩
  rw [callK_fn rfl F11 code11]
  simp [R11_0, R11_1, R11_2, R11_3, R11_4, R11_5, R11_6, R11_7, R11_8, R11_9, R11_10, R11_11, R11_12, Tryd.f11, lpL11_0, lpM11_0, M11_0, L11_0, loopRun_succ]
theorem c_l5GoodNil (k : Nat) (hk : 10 ≤ k) : callK C k 15 [.c (.slice none 0 0)] [] = some (.c (.bool false), hpOf [] []) := by
  obtain ⟨k, rfl⟩ : ∃ m, k = m + 5 := ⟨k - 5, by omega⟩
  rw [callK_fn rfl F15 code15]
  simp [R15_0, R15_1, R15_2, R15_3, R15_4, R15_5, R15_6, R15_7, R15_8, R15_9, R15_10, R15_11, Tryd.f15, lpL15_0, lpM15_0, M15_0, L15_0, loopRun_succ]
def resE (r : Option (List (Int × Int))) : Option (V × Hp) := match r with
  | some q => some (.tp [.s 0 2 2 0 q.length, .c (.bool true)], hpOf [] [ndO q])
  | none => some (.tp [.c (.slice none 0 0), .c (.bool false)], hpOf [] [])
theorem goodE_ne {q : List (Int × Int)} (h : goodE q = true) : q ≠ [] := by
  rintro rfl
  simp [goodE, runO] at h
theorem c_implParseE (k : Nat) (s : List UInt8) (h : s.length ≤ 9223372036854775807) (hk : 60000 ≤ k) : callK C k 5 [.c (.string (bs s))] [] = resE (if s.length ≤ 450 then parseE s else none) := by
  obtain ⟨k, rfl⟩ : ∃ m, k = m + 9 := ⟨k - 9, by omega⟩
  rw [callK_fn rfl F5 code5]
  by_cases h450 : s.length ≤ 450
  · have h450' : ¬ (450 : Int) < (s.length : Int) := by omega
    rw [if_pos h450]
    obtain ⟨t', l', f', ch, e, a, b, o⟩ := (allP (3 * s.length + 2) _ (Nat.le_refl _)).2.2 (k + 8) s [] (by omega) (by omega) h450 (by simp; omega)
    have hpa : parseE s = match pS (3 * s.length + 2) s with
      | some (q, []) => if goodE q = true ∧ textE q = s then some q else none
      | _ => none := rfl
    cases ch
    · have := a rfl
      subst this
      simp [frP, endV, pO] at e
      have hI := c_IsExprNil (k + 8) (by omega)
      have hnone : parseE s = none := by
        rw [hpa]
        split
        · rename_i q hq
          have := (o.ok q [] hq).2.2
          have hq0 : q = [] := by simpa using this.symm
          rw [if_neg]
          rintro ⟨g, _⟩
          exact goodE_ne g hq0
        · rfl
      rw [hnone]
      cases f'
      · by_cases ht : t' = []
        · simp [R5_0, R5_1, R5_2, R5_3, R5_4, R5_5, R5_6, R5_7, Tryd.f5, bs_size, h450', e, lit0, bs_neq, ht, hI, resE, pO]
        · simp [R5_0, R5_1, R5_2, R5_3, R5_4, R5_5, R5_6, R5_7, Tryd.f5, bs_size, h450', e, lit0, bs_neq, ht, hI, resE, pO]
      · simp [R5_0, R5_1, R5_2, R5_3, R5_4, R5_5, R5_6, R5_7, Tryd.f5, bs_size, h450', e, lit0, bs_neq, hI, resE, pO]
    · have hne := b rfl
      simp [frP, endV, pO, ndO] at e
      have hI := c_IsExpression (k + 8) true l' (by omega)
      cases f'
      · by_cases ht : t' = []
        · subst ht
          obtain ⟨q, hq, rfl⟩ : ∃ q, pS (3 * s.length + 2) s = some (q, []) ∧ l' = q := by
            cases hp : pS (3 * s.length + 2) s with
            | none => have := o.no hp; cases this
            | some x =>
              obtain ⟨q, u⟩ := x
              obtain ⟨_, y2, y3⟩ := o.ok q u hp
              subst y2
              exact ⟨q, rfl, by simpa using y3⟩
          rw [hq] at hpa
          simp only [] at hpa
          rw [hpa]
          cases hg : goodE l'
          · rw [hg] at hI
            simp [R5_0, R5_1, R5_2, R5_3, R5_4, R5_5, R5_6, R5_7, Tryd.f5, bs_size, h450', e, lit0, bs_neq, hI, resE, pO, ndO, ndL_length, ndL_take]
          · rw [hg] at hI
            have hT := c_exprText (k + 8) true l' hg (by omega)
            by_cases htx : textE l' = s
            · rw [show ((tks l' l'.length).headD ([], false)).1 = s from htx] at hT
              simp [R5_0, R5_1, R5_2, R5_3, R5_4, R5_5, R5_6, R5_7, Tryd.f5, bs_size, h450', e, lit0, bs_neq, hI, hT, htx, resE, pO, ndO, ndL_length, ndL_take]
            · rw [show ((tks l' l'.length).headD ([], false)).1 = textE l' from rfl] at hT
              simp [R5_0, R5_1, R5_2, R5_3, R5_4, R5_5, R5_6, R5_7, Tryd.f5, bs_size, h450', e, lit0, bs_neq, hI, hT, htx, resE, pO, ndO, ndL_length, ndL_take]
        · have hnone : parseE s = none := by
            rw [hpa]
            split
            · rename_i q hq
              exact absurd (o.ok q [] hq).2.1 ht
            · rfl
          rw [hnone]
          simp [R5_0, R5_1, R5_2, R5_3, R5_4, R5_5, R5_6, R5_7, Tryd.f5, bs_size, h450', e, lit0, bs_neq, ht, resE, pO, ndO]
      · have hnone : parseE s = none := by
          rw [hpa]
          split
          · rename_i q hq
            have := (o.ok q [] hq).1
            cases this
          · rfl
        rw [hnone]
        simp [R5_0, R5_1, R5_2, R5_3, R5_4, R5_5, R5_6, R5_7, Tryd.f5, bs_size, h450', e, lit0, bs_neq, resE, pO, ndO]
  · have h450' : (450 : Int) < (s.length : Int) := by omega
    rw [if_neg h450]
    simp [R5_0, R5_1, R5_2, R5_3, R5_4, R5_5, R5_6, R5_7, Tryd.f5, bs_size, h450', resE]

end Go.Proofs.YteedcjgmgbcndaaDoor.Eng
namespace Go.Proofs.YteedcjgmgbcndaaDoor.Eng
open Go Go.Proofs
set_option maxRecDepth 100000
set_option maxHeartbeats 2000000
set_option linter.unusedSimpArgs false
set_option linter.unusedVariables false
attribute [local simp] finK fin1 hpOf xi renQ isRoot runCode runOps stepX inlOf Eng.step wantedV astep val ofO made loadV storeV find V.cells bin binT binA numT numFs eqCells un1 setAt fieldAddrV fieldV indexAddrV indexV bounds sliceV convV lenV foldV max2V min2V callO bor rdsO wrsO seen_none okD_none loops keepIds resV resultsV St.ev TK.agg refs refsL refsO V.one V.isC Value.oneCell' ren renL renO noTag noTagL noTagR noTagO nodup mapO passV frs psi refsR newD loopNext opsAt idx flatAt rootOf backR newsV appendV copyV clearV strV bytesV bldV bufV selfV bytesOf nilCmp buildV fillF chunk freeL frzW cellSame sameV
attribute [local simp] cT cF cX cWR cOW cK cBL X ints_length ints_get ints_getElem ints_drop ints_take ints_append ints_nil ints_set
attribute [local simp] ints_replicate
attribute [local simp] putV_some putV_none putH_app applyD_nil applyD_cons seen_app gc_ρ gc_H gc_tick st0_ρ st0_H st0_tick retV callRo callV_if borL_nil borL_cons ints_snoc take_self callWr cutH_app findQ afterV exportV_0 exportV_n okD_nil okD_cons sub_seq0 sub_seq1 sub_cond0 sub_cond1 sub_block sub_loop sub_nil young_far young_none hidW_nil mayW_nil keepsF_nil keepsF_cons pairs okI ok_0 ok_1 ok_2
attribute [local simp] T3 T4 T5 T9 T22 T29 T34 T35 T37 T39 T42 T43 T56
attribute [local simp] young_near clo cloF Region.binds Nat.testBit hidW declW mayW List.findIdx?_cons
theorem good_nOk {q : List (Int × Int)} (h : goodE q = true) : nOk q = true := by
  obtain ⟨h15, hr⟩ := good_run h
  unfold nOk
  rw [List.all_eq_true]
  intro x hx
  obtain ⟨i, hi, rfl⟩ := List.getElem_of_mem hx
  have hb := runO_back (runO_mono (by omega : 0 ≤ runO q q.length) (q.length - (i + 1)) (i + 1) (by omega))
  have h2 := hb.2.1
  rw [getD_nd hi] at h2
  obtain ⟨r0, r1, r2⟩ := ar_range (q := q[i])
  simp only [decide_eq_true_eq]
  rcases ar_cases q[i] with e | e | e | e
  · rcases r0 e with g | g <;> omega
  · have := r1 e; omega
  · have := r2 e; omega
  · omega
theorem dec_len4 {u : Nat} (h : u ≤ 9999) : (Lib.decDigits u).length ≤ 4 := by
  rw [Lib.decDigits_length]
  have : ∀ (k u : Nat), u < 10 ^ (k + 1) → Lib.nDigits u ≤ k + 1 := by
    intro k
    induction k with
    | zero => intro u hu; rw [Lib.nDigits_small (by omega)]; omega
    | succ k ih =>
      intro u hu
      by_cases h10 : u < 10
      · rw [Lib.nDigits_small h10]; omega
      · rw [Lib.nDigits_big h10]
        have := ih (u / 10) (by rw [Nat.pow_succ] at hu; omega)
        omega
  exact this 3 u (by omega)
theorem tks_bound12 {l : List (Int × Int)} : ∀ i, 0 ≤ runO l i → lenT (tks l i) ≤ 12 * i
  | 0, _ => by simp [tks, lenT]
  | i + 1, h => by
    obtain ⟨h1, h2, h3, h4⟩ := runO_back h
    have ih := tks_bound12 i h1
    obtain ⟨r0, r1, r2⟩ := ar_range (q := l.getD i (0, 0))
    rcases ar_cases (l.getD i (0, 0)) with e | e | e | e
    · rw [tks_0 e]
      have hat : (atT (l.getD i (0, 0))).length ≤ 4 := by
        unfold atT
        split
        · simp
        · rename_i hn
          rcases r0 e with hr | hr
          · exact absurd hr.1 hn
          · exact dec_len4 (by omega)
      simp only [lenT, List.map_cons, List.sum_cons] at ih ⊢
      omega
    · have hl := tks_len i h1
      cases hs : tks l i with
      | nil => rw [hs] at hl; simp only [List.length_nil] at hl; omega
      | cons x s =>
        obtain ⟨t, b⟩ := x
        rw [tks_1 e hs]
        rw [hs] at ih
        have hd : (Lib.decDigits (l.getD i (0, 0)).2.toNat).length ≤ 4 := dec_len4 (by have := r1 e; omega)
        simp only [lenT, List.map_cons, List.sum_cons, abT, List.length_append, List.length_cons, List.length_nil] at ih ⊢
        omega
    · have hl := tks_len i h1
      cases hs : tks l i with
      | nil => rw [hs] at hl; simp only [List.length_nil] at hl; omega
      | cons x s =>
        cases s with
        | nil => rw [hs] at hl; simp only [List.length_cons, List.length_nil] at hl; omega
        | cons y s =>
          obtain ⟨t, b⟩ := x
          obtain ⟨u, c⟩ := y
          rw [tks_2 e hs]
          rw [hs] at ih
          have hb : (biT (l.getD i (0, 0)) u t b).length ≤ u.length + t.length + 6 := by
            unfold biT
            split
            · simp only [List.length_append, List.length_cons, List.length_nil]; omega
            · split
              · simp only [List.length_append, List.length_cons, List.length_nil]; omega
              · cases b <;> simp only [if_true, Bool.false_eq_true, if_false, List.length_append, List.length_cons, List.length_nil] <;> omega
          simp only [lenT, List.map_cons, List.sum_cons] at ih ⊢
          omega
    · omega
theorem text_le {q : List (Int × Int)} (h : goodE q = true) : (textE q).length ≤ 180 := by
  obtain ⟨h15, hr⟩ := good_run h
  have h1 := tks_bound12 (l := q) q.length (by omega)
  unfold textE
  cases hs : tks q q.length with
  | nil => simp
  | cons x s =>
    rw [hs] at h1
    simp only [lenT, List.map_cons, List.sum_cons] at h1
    simp only [List.headD_cons]
    omega
theorem parse_long {s : List UInt8} (h : 180 < s.length) : parseE s = none := by
  unfold parseE
  split
  · split
    · rename_i h2
      have := text_le h2.1
      rw [h2.2] at this
      omega
    · rfl
  · rfl
def resQ (r : Option (List (Int × Int))) : Option (V × Hp) := match r with
  | some q => some (.tp [.s 0 2 2 0 q.length, .c (.bool true)], hpOf [] [ndO q])
  | none => some (.tp [.s 0 2 2 0 0, .c (.bool false)], hpOf [] [ndO []])
theorem text_at (k : Nat) (q : List (Int × Int)) (hg : goodE q = true) (hk : 100 ≤ k) : callK C k 16 [.sq true true 2 (ndL q), .c (.int .i64 ((q.length : Int) - 1))] [] = some (.c (.string (bs (textE q))), hpOf [] []) := by
  obtain ⟨h15, hr⟩ := good_run hg
  obtain ⟨n, hn⟩ : ∃ n, q.length = n + 1 := by
    cases hl : q.length with
    | zero => rw [hl] at hr; simp [runO] at hr
    | succ n => exact ⟨n, rfl⟩
  obtain ⟨a, d, ha, hs⟩ := stk_top (l := q) n (by rw [← hn]; omega)
  obtain ⟨t, ht⟩ := tks_top n (by rw [← hn]; omega) a d _ hs
  have h := c_l5Text true q h15 n (by omega) (by rw [← hn]; omega) k (by omega) t _ _ ht
  have he : textE q = t := by unfold textE; rw [hn, ht]; rfl
  rw [he, hn, show (((n + 1 : Nat) : Int) - 1) = (n : Int) by omega]
  exact h
theorem c_l5ParseE (k : Nat) (s : List UInt8) (h : s.length ≤ 9223372036854775807) (hk : 60000 ≤ k) : callK C k 9 [.c (.string (bs s))] [] = resQ (parseE s) := by
  obtain ⟨k, rfl⟩ : ∃ m, k = m + 9 := ⟨k - 9, by omega⟩
  rw [callK_fn rfl F9 code9]
  by_cases h200 : s.length ≤ 200
  · have h200' : ¬ (200 : Int) < (s.length : Int) := by omega
    have hT : (⟨s, 0⟩ : RT).T = s := by simp [RT.T]
    obtain ⟨t', l', f', ch, e, a, b, o⟩ := (allR (3 * s.length + 2) _ (Nat.le_refl _)).2.2 (k + 8) ⟨s, 0⟩ [] (by omega) (by rw [hT]; omega) ⟨by simp, by simp; omega⟩ (by rw [hT]; simp; omega)
    rw [hT] at o
    have hpa : parseE s = match pS (3 * s.length + 2) s with
      | some (q, []) => if goodE q = true ∧ textE q = s then some q else none
      | _ => none := rfl
    have hTe : t'.T = [] ↔ t'.at' = s.length := by
      have h1 := o.k.le
      have h2 := o.s
      simp only [] at h2
      rw [h2] at h1
      unfold RT.T
      rw [List.drop_eq_nil_iff, h2]
      omega
    have hS : t'.S = s := o.s
    cases f'
    · obtain ⟨q, u, r1, r2, r3, r4, r5⟩ := o.a rfl
      rw [r1] at hpa
      have r5' : l' = q := by simpa using r5
      subst r5'
      by_cases hu : u = []
      · subst hu
        have hat := hTe.1 r4
        simp only [] at hpa
        rw [hpa]
        cases ch
        · have := a rfl
          subst this
          have hng : ¬ (goodE [] = true ∧ textE [] = s) := fun hh => goodE_ne hh.1 rfl
          rw [if_neg hng]
          simp [frR, endR, rO, hS, hat] at e
          have hG := c_l5GoodNil (k + 8) (by omega)
          simp [R9_0, R9_1, R9_2, R9_3, R9_4, R9_5, R9_6, R9_7, Tryd.f9, bs_size, h200', e, hG, resQ, ndO, ndL, rO] <;> rfl
        · simp [frR, endR, rO, ndO, hS, hat] at e
          have hG := c_l5Good (k + 8) true l' (by omega)
          cases hg : goodE l'
          · rw [hg] at hG
            simp [R9_0, R9_1, R9_2, R9_3, R9_4, R9_5, R9_6, R9_7, Tryd.f9, bs_size, h200', e, hG, resQ, ndO, ndL_length, ndL_take, rO] <;> rfl
          · rw [hg] at hG
            have hX := text_at (k + 8) l' hg (by omega)
            have h15 := (good_run hg).1
            have hw : IntKind.i64.wrap ((l'.length : Int) - 1) = (l'.length : Int) - 1 := wrap_small (by omega) (by omega)
            by_cases htx : textE l' = s
            · simp [R9_0, R9_1, R9_2, R9_3, R9_4, R9_5, R9_6, R9_7, Tryd.f9, bs_size, bs_neq, h200', e, hG, hX, hw, htx, resQ, ndO, ndL_length, ndL_take, rO] <;> rfl
            · simp [R9_0, R9_1, R9_2, R9_3, R9_4, R9_5, R9_6, R9_7, Tryd.f9, bs_size, bs_neq, h200', e, hG, hX, hw, htx, resQ, ndO, ndL_length, ndL_take, rO] <;> rfl
      · have hat : ¬ t'.at' = s.length := fun hh => hu (by rw [← r4]; exact hTe.2 hh)
        have hnone : parseE s = none := by
          rw [hpa]
          cases u with
          | nil => exact absurd rfl hu
          | cons c u => rfl
        rw [hnone]
        have hat' : ((t'.at' : Int) != (s.length : Int)) = true := by simp; omega
        cases ch
        · have := a rfl
          subst this
          simp [frR, endR, rO, hS] at e
          simp [R9_0, R9_1, R9_2, R9_3, R9_4, R9_5, R9_6, R9_7, Tryd.f9, bs_size, h200', e, hat, hat', resQ, ndO, ndL, rO] <;> rfl
        · simp [frR, endR, rO, ndO, hS] at e
          simp [R9_0, R9_1, R9_2, R9_3, R9_4, R9_5, R9_6, R9_7, Tryd.f9, bs_size, h200', e, hat, hat', resQ, ndO, ndL_length, ndL_take, rO] <;> rfl
    · have hnone : parseE s = none := by
        rw [hpa]
        split
        · rename_i q hq
          rw [if_neg]
          rintro ⟨g, _⟩
          have := o.b q [] hq (by have := (good_run g).1; simpa using this) (good_nOk g)
          cases this
        · rfl
      rw [hnone]
      cases ch
      · have := a rfl
        subst this
        simp [frR, endR, rO, hS] at e
        simp [R9_0, R9_1, R9_2, R9_3, R9_4, R9_5, R9_6, R9_7, Tryd.f9, bs_size, h200', e, resQ, ndO, ndL, rO] <;> rfl
      · simp [frR, endR, rO, ndO, hS] at e
        simp [R9_0, R9_1, R9_2, R9_3, R9_4, R9_5, R9_6, R9_7, Tryd.f9, bs_size, h200', e, resQ, ndO, ndL_length, ndL_take, rO] <;> rfl
  · have h200' : (200 : Int) < (s.length : Int) := by omega
    rw [parse_long (by omega)]
    simp [R9_0, R9_1, R9_2, R9_3, R9_4, R9_5, R9_6, R9_7, Tryd.f9, bs_size, h200', resQ, ndO, ndL]

end Go.Proofs.YteedcjgmgbcndaaDoor.Eng
namespace Go.Proofs.YteedcjgmgbcndaaDoor.Eng
open Go Go.Proofs
set_option maxRecDepth 100000
set_option maxHeartbeats 2000000
set_option linter.unusedSimpArgs false
set_option linter.unusedVariables false
attribute [local simp] finK fin1 hpOf xi renQ isRoot runCode runOps stepX inlOf Eng.step wantedV astep val ofO made loadV storeV find V.cells bin binT binA numT numFs eqCells un1 setAt fieldAddrV fieldV indexAddrV indexV bounds sliceV convV lenV foldV max2V min2V callO bor rdsO wrsO seen_none okD_none loops keepIds resV resultsV St.ev TK.agg refs refsL refsO V.one V.isC Value.oneCell' ren renL renO noTag noTagL noTagR noTagO nodup mapO passV frs psi refsR newD loopNext opsAt idx flatAt rootOf backR newsV appendV copyV clearV strV bytesV bldV bufV selfV bytesOf nilCmp buildV fillF chunk freeL frzW cellSame sameV
attribute [local simp] cT cF cX cWR cOW cK cBL X ints_length ints_get ints_getElem ints_drop ints_take ints_append ints_nil ints_set
attribute [local simp] ints_replicate
attribute [local simp] putV_some putV_none putH_app applyD_nil applyD_cons seen_app gc_ρ gc_H gc_tick st0_ρ st0_H st0_tick retV callRo callV_if borL_nil borL_cons ints_snoc take_self callWr cutH_app findQ afterV exportV_0 exportV_n okD_nil okD_cons sub_seq0 sub_seq1 sub_cond0 sub_cond1 sub_block sub_loop sub_nil young_far young_none hidW_nil mayW_nil keepsF_nil keepsF_cons pairs okI ok_0 ok_1 ok_2
attribute [local simp] T3 T4 T5 T9 T22 T29 T34 T35 T37 T39 T42 T43 T56
attribute [local simp] young_near clo cloF Region.binds Nat.testBit hidW declW mayW List.findIdx?_cons
theorem c_specParseE (k : Nat) (s : List UInt8) (h : s.length ≤ 9223372036854775807) (hk : 60001 ≤ k) : callK C k 4 [.c (.string (bs s))] [] = resQ (parseE s) := by
  obtain ⟨k, rfl⟩ : ∃ m, k = m + 1 := ⟨k - 1, by omega⟩
  rw [callK_fn rfl F4 code4]
  have e := c_l5ParseE k s h (by omega)
  cases hp : parseE s with
  | none =>
    rw [hp] at e
    simp [resQ, ndO, ndL] at e
    simp [R4_0, R4_1, Tryd.f4, e, resQ, ndO, ndL]
  | some q =>
    rw [hp] at e
    simp [resQ, ndO] at e
    simp [R4_0, R4_1, Tryd.f4, e, resQ, ndO]
theorem c_implParseX (k : Nat) (s : List UInt8) (h : s.length ≤ 9223372036854775807) (hk : 60000 ≤ k) : callK C k 5 [.c (.string (bs s))] [] = resE (parseE s) := by
  rw [c_implParseE k s h hk]
  by_cases h450 : s.length ≤ 450
  · rw [if_pos h450]
  · rw [if_neg h450, parse_long (by omega)]
theorem parse_good {s : List UInt8} {q : List (Int × Int)} (h : parseE s = some q) : goodE q = true := by
  unfold parseE at h
  split at h
  · split at h
    · rename_i h2
      cases h
      exact h2.1
    · cases h
  · cases h
theorem ndL_n0 : ndL [] = [] := rfl
theorem l_ParseE (k : Nat) (s : List UInt8) (h : s.length ≤ 9223372036854775807) (hk : 70000 ≤ k) : callK C k 3 [.c (.string (bs s))] [] = some (.c (.bool true), hpOf [] []) := by
  obtain ⟨k, rfl⟩ : ∃ m, k = m + 1 := ⟨k - 1, by omega⟩
  rw [callK_fn rfl F3 code3]
  by_cases h20 : (1048576 : Int) < (s.length : Int)
  · simp [R3_0, R3_1, R3_2, R3_3, R3_4, R3_5, R3_6, R3_7, R3_8, R3_9, R3_10, R3_11, R3_12, R3_13, R3_14, R3_15, R3_16, R3_17, R3_18, R3_19, R3_20, R3_21, R3_22, R3_23, R3_24, Tryd.f3, bs_size, h20]
  · have S := c_specParseE k s h (by omega)
    have I := c_implParseX k s h (by omega)
    cases hp : parseE s with
    | none =>
      rw [hp] at S I
      simp [resQ, resE, ndO, ndL_n0] at S I
      have mn := c_markNodeNil k (by omega)
      have hn := c_heldNodeNil k (by omega)
      have en := c_eqNodeNil k true (by omega)
      simp [R3_0, R3_1, R3_2, R3_3, R3_4, R3_5, R3_6, R3_7, R3_8, R3_9, R3_10, R3_11, R3_12, R3_13, R3_14, R3_15, R3_16, R3_17, R3_18, R3_19, R3_20, R3_21, R3_22, R3_23, R3_24, Tryd.f3, bs_size, undef, h20, S, I, mn, hn, en]
    | some F =>
      rw [hp] at S I
      have hF := (good_run (parse_good hp)).1
      have mF := c_markNodeS k F 1 (by omega) (by omega) (by omega) (by omega)
      have hf : fillN 1 F F.length = mkN 1 F.length := by unfold fillN; rw [List.drop_length, List.append_nil]
      have eF := c_eqNodeS k true true F F (by omega) (by omega)
      have hh := c_heldNodeS k true F.length (by omega) (by omega)
      have ht : (ndL (mkN 1 F.length)).take F.length = ndL (mkN 1 F.length) := List.take_of_length_le (by rw [ndL_length, mkN_len]; exact Nat.le_refl _)
      have lF : ¬ (1 + 2 * (F.length : Int)) < 0 := by omega
      simp [resQ, resE, ndO] at S I mF
      try rw [hf] at mF
      simp [R3_0, R3_1, R3_2, R3_3, R3_4, R3_5, R3_6, R3_7, R3_8, R3_9, R3_10, R3_11, R3_12, R3_13, R3_14, R3_15, R3_16, R3_17, R3_18, R3_19, R3_20, R3_21, R3_22, R3_23, R3_24, Tryd.f3, bs_size, undef, h20, ndO, ndL_length, ndL_take, mkN_len, S, I, mF, eF, hh, ht, hf, lF]
theorem law_ParseExpression (s : ByteArray) (w : s.size ≤ maxLen) : ∃ k, callK C k 3 [.c (.string s)] [] = some (.c (.bool true), hpOf [] []) := by
  obtain ⟨l, rfl⟩ : ∃ l, s = bs l := ⟨s.data.toList, by simp [bs]⟩
  rw [bs_size] at w
  unfold maxLen at w
  exact ⟨_, l_ParseE 70000 l w (Nat.le_refl _)⟩

end Go.Proofs.YteedcjgmgbcndaaDoor.Eng
