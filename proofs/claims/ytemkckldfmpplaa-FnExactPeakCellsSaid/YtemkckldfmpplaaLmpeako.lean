/- A deterministic reading of Go code over plain data: what functions of the program compute. No conditions. -/
import Derived.Test.YtemkckldfmpplaaLmbase
import Derived.Test.YtemkckldfmpplaaLmimpl
import Derived.Test.YtemkckldfmpplaaLmgood
import Derived.Test.YtemkckldfmpplaaLmnbh
import Derived.Test.YtemkckldfmpplaaLmpeakp
import Derived.Test.YtemkckldfmpplaaLmneigh
import Derived.Test.YtemkckldfmpplaaLmfield
import Derived.Test.YtemkckldfmpplaaLmnested
import Derived.Test.YtemkckldfmpplaaLmpeaki
import Derived.Test.YtemkckldfmpplaaLmpeakm
import Derived.Test.YtemkckldfmpplaaEngT
namespace Go.Proofs.Ytemkckldfmpplaa.Eng
open Go Go.Proofs
set_option maxRecDepth 100000
set_option maxHeartbeats 2000000
set_option linter.unusedSimpArgs false
set_option linter.unusedVariables false
attribute [local simp] finK fin1 hpOf xi renQ isRoot runCode runOps stepX inlOf Eng.step wantedV astep val ofO made loadV storeV find V.cells bin binT binA numT numFs eqCells un1 setAt fieldAddrV fieldV indexAddrV indexV bounds sliceV convV lenV foldV max2V min2V callO bor rdsO wrsO seen_none okD_none loops keepIds resV resultsV St.ev TK.agg refs refsL refsO V.one V.isC Value.oneCell' ren renL renO noTag noTagL noTagR noTagO nodup mapO passV frs psi refsR newD loopNext opsAt idx flatAt rootOf backR newsV appendV copyV clearV strV bytesV bldV bufV selfV bytesOf nilCmp buildV fillF chunk
attribute [local simp] cT cF cX cWR cOW cK cBL X ints_length ints_get ints_getElem ints_drop ints_take ints_append ints_nil ints_set
attribute [local simp] ints_replicate
attribute [local simp] putV_some putV_none putH_app applyD_nil applyD_cons seen_app gc_ρ gc_H gc_tick st0_ρ st0_H st0_tick retV callRo callV_if borL_nil borL_cons ints_snoc take_self callWr cutH_app findQ afterV exportV_0 exportV_n okD_nil okD_cons sub_seq0 sub_seq1 sub_cond0 sub_cond1 sub_block sub_loop sub_nil young_far young_none hidW_nil mayW_nil pairs okI ok_0 ok_1 ok_2
attribute [local simp] T3 T4 T22 T24 T26 T29 T44
attribute [local simp] young_near clo cloF Region.binds Nat.testBit hidW declW mayW List.findIdx?_cons
def pkB (l : List Int) (w h : Nat) (r : Int) (i : Nat) : Bool := decide (l.getD i 0 ≠ -9999) && decide (cntL (nbL (cellOf l w) w h ((i % w : Nat) : Int) ((i / w : Nat) : Int) r) (l.getD i 0) = 1)
/-- The cells, as lists, whose value is greater than all others around. -/
def pts (l : List Int) (w h : Nat) (r : Int) (n : Nat) : List (List Int) := ((List.range n).filter (pkB l w h r)).map fun i => [((i % w : Nat) : Int), ((i / w : Nat) : Int)]
theorem pts_succ (l : List Int) (w h : Nat) (r : Int) (n : Nat) : pts l w h r (n + 1) = pts l w h r n ++ (if pkB l w h r n then [[((n % w : Nat) : Int), ((n / w : Nat) : Int)]] else []) := by
  unfold pts
  rw [List.range_succ, List.filter_append, List.map_append]
  congr 1
  cases h : pkB l w h r n <;> simp [h]
/-- What impl's rounds keep. -/
structure PkI (H0 : Hp) (tk0 : Nat) (w h : Nat) (l : List Int) (r : Int) (idb vrb idc vrc : Nat) (i : Nat) (P : List (Nat × Nat × List Int)) (s : St) : Prop where
  q1 : s.ρ 1 = .c (.int .i64 r)
  q2 : s.ρ 2 = .p idb vrb 3 0 0
  Hb : s.H idb = some (vrb, ⟨29, 3, false, [[.c (.int .i64 (w : Int)), .c (.int .i64 (h : Int)), .s idc vrc 1 0 l.length]]⟩)
  Hc : s.H idc = some (vrc, intsO l)
  lb : idb < Bt s.tick
  hb : Bt 1 ≤ idb
  lc : idc < Bt s.tick
  q23 : s.ρ 23 = .s idc vrc 1 0 l.length
  q24 : s.ρ 24 = .c (.int .i64 (l.length : Int))
  q25 : s.ρ 25 = .c (.int .i64 (i : Int))
  N : NS s.H (s.ρ 6) P (Bt s.tick)
  pt : P.map (·.2.2) = pts l w h r i
  old : ∀ id, id < Bt tk0 → s.H id = H0 id
  nw : ∀ p ∈ P, Bt tk0 ≤ p.1
  no : ∀ id vr n, s.ρ 6 = .s id vr 1 0 n → Bt tk0 ≤ id
  le : tk0 ≤ s.tick
theorem FR_lo (r t c : Nat) : Bt t ≤ 16 * (FR r t * 64 + c) := by
  rw [FR_eq]
  unfold Bt
  omega
theorem FR_hi (r t c : Nat) (h : r * 64 + c < 1000000) : 16 * (FR r t * 64 + c) + 8 < Bt (t + 1) := by
  rw [FR_eq]
  unfold Bt
  omega
theorem Bt_mono {a b : Nat} (h : a ≤ b) : Bt a ≤ Bt b := by
  unfold Bt
  omega
def CtI (n : Int) (L : List Int) (id vr : Nat) (s : St) : Prop := s.ρ 8 = .c (.int .i64 n) ∧ s.ρ 11 = .c (.int .i64 0) ∧ (L ≠ [] → s.ρ 42 = .s id vr 1 0 L.length ∧ s.H id = some (vr, intsO L)) ∧ s.ρ 43 = .c (.int .i64 (L.length : Int)) ∧ s.ρ 44 = .c (.int .i64 0)
def CtQ (n : Int) (L : List Int) (s0 s : St) : Prop := s.ρ 11 = .c (.int .i64 (cntL L n : Int)) ∧ SmX s s0 [1, 2, 6, 8, 9, 10, 23, 24, 25] ∧ SmH s s0 ∧ s0.tick ≤ s.tick
theorem young_big (rid : Nat) (ops : List Oper) (j id : Nat) (hr : rid < 1000) (h : Bt 1 ≤ id) : youngOf (some (rid, [])) ops j id = false := by
  have h1 : ¬ id / 16 ≤ rid * 64 + 64 := by
    unfold Bt at h
    omega
  simp [youngOf, h1, hidW]
theorem nb_len {c : Int → Int → Int} {w h x y r : Int} (hw : w ≤ 8) (hh : h ≤ 8) (hx : 0 ≤ w) (hy : 0 ≤ h) : (nbL c w h x y r).length ≤ 100 := by
  have h1 := rowsL_length c (lowE y r) (lowE x r) (topE h y r - lowE y r + 1).toNat (topE w x r - lowE x r + 1).toNat
  unfold nbL
  have a1 : (topE h y r - lowE y r + 1).toNat ≤ 8 := by unfold topE lowE; split <;> split <;> omega
  have a2 : (topE w x r - lowE x r + 1).toNat ≤ 8 := by unfold topE lowE; split <;> split <;> omega
  have := Nat.mul_le_mul a1 a2
  omega
theorem ints_c (a : Int) (l : List Int) : ints (a :: l) = [.c (.int .i64 a)] :: ints l := rfl
theorem ints_n : ints [] = [] := rfl
theorem okR (ty : TypeId) (P : List (Nat × Nat × List Int)) (a b c : Nat) : okObj ⟨ty, 1, false, rowsP P ++ [[V.s a b 1 0 c]]⟩ = true := by
  simp [okObj, rowsP, V.one]
theorem NS.push {H H' : Hp} {v : V} {P : List (Nat × Nat × List Int)} {B B' X O t : Nat} {lq : List Int} (h : NS H v P B) (oid : Nat) (ho : oid ∉ P.map (·.1)) (hk : ∀ id, id < B → id ≠ oid → H' id = H id) (hX : H' X = some (t, intsO lq))
    (hO : H' O = some (t, ⟨22, 1, false, rowsP P ++ [[.s X t 1 0 lq.length]]⟩)) (bX : B ≤ X) (bO : B ≤ O) (hXO : O ≠ X) (lX : X < B') (lO : O < B') (hBB : B ≤ B') : NS H' (.s O t 1 0 (P.length + 1)) (P ++ [(X, t, lq)]) B' := by
  obtain ⟨h1, h2, _⟩ := h
  have hlt : ∀ x ∈ P.map (·.1), x < B := by
    intro x hx
    obtain ⟨p, hp, rfl⟩ := List.mem_map.1 hx
    exact (h1 p hp).2
  refine ⟨fun p hp => ?_, ?_, .inr ⟨by simp, O, t, lO, ?_, by simp, by rw [hO]; simp [rowsP]⟩⟩
  · rcases List.mem_append.1 hp with hp | hp
    · have hne : p.1 ≠ oid := fun e => ho (by rw [← e]; exact List.mem_map_of_mem hp)
      exact ⟨by rw [hk _ (h1 p hp).2 hne]; exact (h1 p hp).1, by have := (h1 p hp).2; omega⟩
    · rw [List.mem_singleton] at hp
      subst hp
      exact ⟨hX, lX⟩
  · rw [List.map_append, List.nodup_append]
    refine ⟨h2, by simp, ?_⟩
    intro a ha b hb
    simp only [List.map_cons, List.map_nil, List.mem_singleton] at hb
    have := hlt a ha
    omega
  · intro hm
    rw [List.map_append, List.mem_append] at hm
    rcases hm with hm | hm
    · have := hlt _ hm
      omega
    · simp only [List.map_cons, List.map_nil, List.mem_singleton] at hm
      exact hXO hm
/-- The round behind its loop. -/
theorem pk_tail (k : Nat) (H0 : Hp) (tk0 : Nat) (w h : Nat) (l : List Int) (r : Int) (idb vrb idc vrc i xa ya : Nat) (P : List (Nat × Nat × List Int)) (L : List Int) (hi : i < l.length) (hW : 0 < w) (hxa : i % w = xa) (hya : i / w = ya) (hL : nbL (cellOf l w) w h (xa : Int) (ya : Int) r = L) (k1 : l.length ≤ 64)
    (st : St) (I : PkI H0 tk0 w h l r idb vrb idc vrc i P st) (s1 : St) (a1 : s1.ρ 11 = .c (.int .i64 (cntL L l[i] : Int))) (b1 : s1.ρ 1 = .c (.int .i64 r)) (b2 : s1.ρ 2 = .p idb vrb 3 0 0) (b6 : s1.ρ 6 = st.ρ 6) (b8 : s1.ρ 8 = .c (.int .i64 l[i])) (b9 : s1.ρ 9 = .c (.int .i64 (xa : Int))) (b10 : s1.ρ 10 = .c (.int .i64 (ya : Int)))
    (b23 : s1.ρ 23 = .s idc vrc 1 0 l.length) (b24 : s1.ρ 24 = .c (.int .i64 (l.length : Int))) (b25 : s1.ρ 25 = .c (.int .i64 (i : Int))) (bt : st.tick + 5 ≤ s1.tick) (bH : ∀ id, id < Bt st.tick → s1.H id = st.H id) (nx : St → Option (Ex × St)) :
    ∃ s, (match (match (match (match (match some (Ex.ex 2, s1) with
                | some (Ex.ex id', st') => if id' = 2 then some (Ex.nrm, st') else some (Ex.ex id', st')
                | r => r) with
              | some (Ex.nrm, st') => runCode C (callK C k) k (K 7) M7_0 2 st'
              | r => r) with
            | some (Ex.ex id', st') => if id' = 1 then some (Ex.nrm, st') else some (Ex.ex id', st')
            | r => r) with
          | some (Ex.nrm, st') => runCode C (callK C k) k (K 7) M7_1 2 st'
          | r => r) with
        | some (Ex.nrm, st') => nx st'
        | r => r) = nx s ∧ ∃ x, PkI H0 tk0 w h l r idb vrb idc vrc (i + 1) x s := by
  obtain ⟨q1, q2, Hb, Hc, lb, hbm, lc, q23, q24, q25, N, pt, old, nw, no, le⟩ := I
  have hwn := wrap_next hi (by omega : l.length ≤ 9000000000000000000)
  have hm : Bt st.tick ≤ Bt s1.tick := Bt_mono (by omega)
  have hps := pts_succ l w h r i
  have hgd : l.getD i 0 = l[i] := by rw [List.getD_eq_getElem?_getD, List.getElem?_eq_getElem hi]; rfl
  have hpk : pkB l w h r i = (decide (l[i] ≠ -9999) && decide (cntL L l[i] = 1)) := by
    unfold pkB
    rw [hgd, hxa, hya, hL]
  rw [hpk, hxa, hya] at hps
  have hPl : P.length ≤ i := by
    have := congrArg List.length pt
    rw [List.length_map] at this
    rw [this]
    unfold pts
    rw [List.length_map]
    exact Nat.le_trans (List.length_filter_le _ _) (by rw [List.length_range]; exact Nat.le_refl _)
  by_cases hpeak : l[i] ≠ -9999 ∧ cntL L l[i] = 1
  · obtain ⟨h1, h2⟩ := hpeak
    rw [if_pos (by simp [h1, h2])] at hps
    have h1b : (l[i] == -9999) = false := by simpa using h1
    have h1c : (l[i] != -9999) = true := by simp [bne, h1b]
    have z1 : (P.length + 1) * 24 ≤ 140737488355328 := by omega
    have z2 : P.length + 1 ≤ 9223372036854775807 := by omega
    have z3 : P.length ≤ 9223372036854775806 := by omega
    have hrl : (rowsP P).length = P.length := by simp [rowsP]
    have hrt : (rowsP P).take P.length = rowsP P := by rw [← hrl]; exact List.take_length
    have N' := N
    obtain ⟨n1, n2, n3⟩ := N
    have x1 := FR_lo 16 (s1.tick + 1) 4
    have x2 := FR_lo 16 (s1.tick + 1) 6
    have x5 := FR_lo 16 (s1.tick + 1) 5
    have y1 := FR_hi 16 (s1.tick + 1) 4 (by omega)
    have y2 := FR_hi 16 (s1.tick + 1) 6 (by omega)
    have m1 : Bt st.tick ≤ Bt (s1.tick + 1) := Bt_mono (by omega)
    have m0 : Bt tk0 ≤ Bt st.tick := Bt_mono le
    have m2 : Bt (s1.tick + 1 + 1) ≤ Bt (s1.tick + 1 + 1 + 1) := Bt_mono (by omega)
    obtain ⟨F, hF⟩ : ∃ F, FR 16 (s1.tick + 1) = F := ⟨_, rfl⟩
    rw [hF] at x1 x2 x5 y1 y2
    have e4 : ¬ 16 * (F * 64 + 3 + 1) = 16 * (F * 64 + 4 + 1) := by omega
    have e5 : ¬ 16 * (F * 64 + 3 + 1) = 16 * (F * 64 + 5 + 1) + 8 := by omega
    have fin : ∀ (oid : Nat) (s : St), oid ∉ P.map (·.1) → oid ≠ idb → oid ≠ idc → (oid < Bt tk0 → False) → s.ρ 1 = s1.ρ 1 → s.ρ 2 = s1.ρ 2 → s.ρ 6 = .s (16 * (F * 64 + 5 + 1) + 8) (s1.tick + 1) 1 0 (P.length + 1) → s.ρ 23 = s1.ρ 23 → s.ρ 24 = s1.ρ 24 → s.ρ 25 = .c (.int .i64 ((i + 1 : Nat) : Int)) →
        (∀ id, id < Bt st.tick → id ≠ oid → s.H id = s1.H id) → s.H (16 * (F * 64 + 3 + 1)) = some (s1.tick + 1, intsO [(xa : Int), (ya : Int)]) → s.H (16 * (F * 64 + 5 + 1) + 8) = some (s1.tick + 1, ⟨22, 1, false, rowsP P ++ [[.s (16 * (F * 64 + 3 + 1)) (s1.tick + 1) 1 0 2]]⟩) → s.tick = s1.tick + 1 + 1 + 1 → PkI H0 tk0 w h l r idb vrb idc vrc (i + 1) (P ++ [(16 * (F * 64 + 3 + 1), s1.tick + 1, [(xa : Int), (ya : Int)])]) s := by
      intro oid s o1 o2 o3 o4 c1 c2 c6 c23 c24 c25 cH cX cO ct
      have hk : ∀ id, id < Bt st.tick → id ≠ oid → s.H id = st.H id := fun id hid hne => (cH id hid hne).trans (bH id hid)
      have hm3 : Bt st.tick ≤ Bt s.tick := Bt_mono (by omega)
      rw [← ct] at m2
      refine ⟨by rw [c1, b1], by rw [c2, b2], by rw [hk _ lb (Ne.symm o2)]; exact Hb, by rw [hk _ lc (Ne.symm o3)]; exact Hc, by omega, hbm, by omega, by rw [c23, b23], by rw [c24, b24], c25, ?_, ?_, fun id hid => ?_, ?_, ?_, by omega⟩
      · rw [c6]
        exact N'.push oid o1 hk cX cO (by omega) (by omega) (by omega) (by omega) (by omega) (by omega)
      · rw [List.map_append, pt, hps]
        rfl
      · have hid2 : id < Bt st.tick := Nat.lt_of_lt_of_le hid m0
        rw [hk id hid2 (fun e => o4 (by rw [← e]; exact hid))]
        exact old id hid
      · intro p hp
        rcases List.mem_append.1 hp with hp | hp
        · exact nw p hp
        · rw [List.mem_singleton] at hp
          subst hp
          show Bt tk0 ≤ 16 * (F * 64 + 3 + 1)
          omega
      · intro id vr n e
        rw [c6] at e
        simp only [V.s.injEq] at e
        omega
    rcases n3 with ⟨rfl, n3 | ⟨id, vr, ia, n3, ib⟩⟩ | ⟨hne, id, vr, ia, ic, n3, ib⟩
    · rw [n3] at b6
      simp [R7_0, R7_1, R7_2, R7_3, R7_4, R7_5, R7_6, R7_7, R7_8, R7_9, R7_10, R7_11, R7_12, R7_13, R7_14, R7_15, R7_16, R7_17, R7_18, Try.f7, lpL7_0, lpL7_1, lpM7_0, lpM7_1, lpM7_2, M7_0, M7_1, M7_2, a1, b1, b2, b6, b8, b9, b10, b25, h1, h1b, h1c, h2, undef, hwn, maxLen, ints_c, ints_n, hF]
      refine ⟨_, rfl, _, fin (idb + idc + 1 + Bt st.tick) _ (by simp) (by omega) (by omega) (by omega) (by simp) (by simp) (by simp) (by simp) (by simp) (by simp) ?_ ?_ ?_ rfl⟩
      · intro id hid _
        have e1 : ¬ id = 16 * (F * 64 + 3 + 1) := by omega
        have e2 : ¬ id = 16 * (F * 64 + 4 + 1) := by omega
        have e3 : ¬ id = 16 * (F * 64 + 5 + 1) + 8 := by omega
        simp [putH_app, e1, e2, e3]
      · simp [putH_app, intsO, ints_c, ints_n, e4, e5]
      · simp [putH_app, rowsP]
    · rw [n3] at b6
      have ib' := (bH id ia).trans ib
      have g1 : ¬ id = 16 * (F * 64 + 3 + 1) := by omega
      have g2 : ¬ id = 16 * (F * 64 + 4 + 1) := by omega
      have g3 : ¬ 16 * (F * 64 + 5 + 1) + 8 = id := by omega
      have g6 : ¬ 16 * (F * 64 + 3 + 1) = id := by omega
      have g4 : id ≠ idb := by intro e; subst e; rw [Hb] at ib; simp at ib
      have g5 : id ≠ idc := by intro e; subst e; rw [Hc] at ib; simp [intsO] at ib
      simp [R7_0, R7_1, R7_2, R7_3, R7_4, R7_5, R7_6, R7_7, R7_8, R7_9, R7_10, R7_11, R7_12, R7_13, R7_14, R7_15, R7_16, R7_17, R7_18, Try.f7, lpL7_0, lpL7_1, lpM7_0, lpM7_1, lpM7_2, M7_0, M7_1, M7_2, a1, b1, b2, b6, b8, b9, b10, b25, h1, h1b, h1c, h2, undef, hwn, maxLen, ints_c, ints_n, hF, ib', g1, g2]
      refine ⟨_, rfl, _, fin id _ (by simp) g4 g5 (fun e => by have := no id vr _ n3; omega) (by simp) (by simp) (by simp) (by simp) (by simp) (by simp) ?_ ?_ ?_ rfl⟩
      · intro id' hid hne'
        have e1 : ¬ id' = 16 * (F * 64 + 3 + 1) := by omega
        have e2 : ¬ id' = 16 * (F * 64 + 4 + 1) := by omega
        have e3 : ¬ id' = 16 * (F * 64 + 5 + 1) + 8 := by omega
        simp [putH_app, e1, e2, e3, hne']
      · simp [putH_app, intsO, ints_c, ints_n, e4, e5, g6]
      · simp [putH_app, rowsP]
    · rw [n3] at b6
      have ib' := (bH id ia).trans ib
      have g1 : ¬ id = 16 * (F * 64 + 3 + 1) := by omega
      have g2 : ¬ id = 16 * (F * 64 + 4 + 1) := by omega
      have g3 : ¬ 16 * (F * 64 + 5 + 1) + 8 = id := by omega
      have g6 : ¬ 16 * (F * 64 + 3 + 1) = id := by omega
      have g4 : id ≠ idb := by intro e; subst e; rw [Hb] at ib; simp at ib
      have g5 : id ≠ idc := by intro e; subst e; rw [Hc] at ib; simp [intsO] at ib
      simp [R7_0, R7_1, R7_2, R7_3, R7_4, R7_5, R7_6, R7_7, R7_8, R7_9, R7_10, R7_11, R7_12, R7_13, R7_14, R7_15, R7_16, R7_17, R7_18, Try.f7, lpL7_0, lpL7_1, lpM7_0, lpM7_1, lpM7_2, M7_0, M7_1, M7_2, a1, b1, b2, b6, b8, b9, b10, b25, h1, h1b, h1c, h2, undef, hwn, maxLen, ints_c, ints_n, hF, ib', g1, g2, hrl, hrt, z1, z2, z3, okR]
      refine ⟨_, rfl, _, fin id _ (by simpa using ic) g4 g5 (fun e => by have := no id vr _ n3; omega) (by simp) (by simp) (by simp) (by simp) (by simp) (by simp) ?_ ?_ ?_ rfl⟩
      · intro id' hid hne'
        have e1 : ¬ id' = 16 * (F * 64 + 3 + 1) := by omega
        have e2 : ¬ id' = 16 * (F * 64 + 4 + 1) := by omega
        have e3 : ¬ id' = 16 * (F * 64 + 5 + 1) + 8 := by omega
        simp [putH_app, e1, e2, e3, hne']
      · simp [putH_app, intsO, ints_c, ints_n, e4, e5, g6]
      · simp [putH_app, rowsP]
  · have hf : (decide (l[i] ≠ -9999) && decide (cntL L l[i] = 1)) = false := by
      simp only [Bool.and_eq_false_iff, decide_eq_false_iff_not]
      by_cases h1 : l[i] ≠ -9999
      · exact .inr (fun h2 => hpeak ⟨h1, h2⟩)
      · exact .inl h1
    rw [hf] at hps
    simp only [Bool.false_eq_true, if_false, List.append_nil] at hps
    have fin : ∀ s : St, s.ρ 1 = s1.ρ 1 → s.ρ 2 = s1.ρ 2 → s.ρ 6 = s1.ρ 6 → s.ρ 23 = s1.ρ 23 → s.ρ 24 = s1.ρ 24 → s.ρ 25 = .c (.int .i64 ((i + 1 : Nat) : Int)) → s.H = s1.H → s1.tick ≤ s.tick → PkI H0 tk0 w h l r idb vrb idc vrc (i + 1) P s := by
      intro s c1 c2 c6 c23 c24 c25 cH ct
      have hm2 : Bt st.tick ≤ Bt s.tick := Bt_mono (by omega)
      refine ⟨by rw [c1, b1], by rw [c2, b2], by rw [cH, bH _ lb]; exact Hb, by rw [cH, bH _ lc]; exact Hc, by omega, hbm, by omega, by rw [c23, b23], by rw [c24, b24], c25, ?_, by rw [pt, hps], fun id hid => ?_, nw, fun id vr n e => no id vr n (by rw [← e, c6, b6]), by omega⟩
      · rw [c6, b6, cH]
        exact N.mono bH hm2
      · rw [cH, bH id (Nat.lt_of_lt_of_le hid (Bt_mono le))]
        exact old id hid
    by_cases h1 : l[i] = -9999
    · simp [R7_0, R7_1, R7_2, R7_3, R7_4, R7_5, R7_6, R7_7, R7_8, R7_9, R7_10, R7_11, R7_12, R7_13, R7_14, R7_15, R7_16, R7_17, R7_18, Try.f7, lpL7_0, lpL7_1, lpM7_0, lpM7_1, lpM7_2, M7_0, M7_1, M7_2, a1, b1, b2, b8, b25, h1, undef, hwn]
      exact ⟨_, rfl, P, fin _ (by simp) (by simp) (by simp) (by simp) (by simp) (by simp) rfl (by dsimp only; omega)⟩
    · have h2 : cntL L l[i] ≠ 1 := fun e => hpeak ⟨h1, e⟩
      have h2i : ¬ (cntL L l[i] : Int) = 1 := by omega
      have h1b : (l[i] == -9999) = false := by simpa using h1
      have h1c : (l[i] != -9999) = true := by simp [bne, h1b]
      have h2b : ((cntL L l[i] : Int) == 1) = false := by simpa using h2i
      simp [R7_0, R7_1, R7_2, R7_3, R7_4, R7_5, R7_6, R7_7, R7_8, R7_9, R7_10, R7_11, R7_12, R7_13, R7_14, R7_15, R7_16, R7_17, R7_18, Try.f7, lpL7_0, lpL7_1, lpM7_0, lpM7_1, lpM7_2, M7_0, M7_1, M7_2, a1, b1, b2, b8, b25, h1, h1b, h1c, h2b, h2, undef, hwn]
      exact ⟨_, rfl, P, fin _ (by simp) (by simp) (by simp) (by simp) (by simp) (by simp) rfl (by dsimp only; omega)⟩
theorem pk_round (k : Nat) (H0 : Hp) (tk0 : Nat) (w h : Nat) (l : List Int) (r : Int) (idb vrb idc vrc i : Nat) (P : List (Nat × Nat × List Int)) (hg : goodB w h l = true) (hr0 : 0 ≤ r) (hr3 : r ≤ 3) (hk : 700 ≤ k) (hi : i < l.length) (st : St) (I : PkI H0 tk0 w h l r idb vrb idc vrc i P st) (nx : St → Option (Ex × St)) :
    ∃ s P', loopNext ((fun st => runCode C (callK C k) k (K 7) L7_0 1 st) (gc [1, 2, 6, 23, 24, 25, 999] st)) nx = nx s ∧ PkI H0 tk0 w h l r idb vrb idc vrc (i + 1) P' s := by
  obtain ⟨s1, n1, cl1, k1⟩ := good_length hg
  obtain ⟨_, _, p1, p2, p3, p4⟩ := shape_area s1
  obtain ⟨q1, q2, Hb, Hc, lb, hbm, lc, q23, q24, q25, N, pt, old, nw, no, le⟩ := I
  have hW : 0 < w := by omega
  have hwn := wrap_next hi (by omega : l.length ≤ 9000000000000000000)
  have hi2 : (i : Int) < (l.length : Int) := by omega
  have hx1 : i % w < w := Nat.mod_lt _ hW
  have hwh : l.length = w * h := by
    have : ((w * h : Nat) : Int) = (w : Int) * (h : Int) := Int.natCast_mul w h
    omega
  have hx2 : i / w < h := Nat.div_lt_of_lt_mul (by omega)
  have t1 : (i : Int).tmod (w : Int) = ((i % w : Nat) : Int) := rfl
  have t2 : (i : Int).tdiv (w : Int) = ((i / w : Nat) : Int) := rfl
  have hy := fun ops j => young_big 7 ops j idb (by omega) hbm
  obtain ⟨xa, hxa⟩ : ∃ a, i % w = a := ⟨_, rfl⟩
  obtain ⟨ya, hya⟩ : ∃ a, i / w = a := ⟨_, rfl⟩
  rw [hxa] at hx1 t1
  rw [hya] at hx2 t2
  have hN := c_neighborhood k true (w : Int) (h : Int) l (xa : Int) (ya : Int) r n1 k1 (by omega) (by omega) (by omega) (by omega) hr0 hr3 (by omega) (by omega) (by omega)
  obtain ⟨L, hL⟩ : ∃ L, nbL (cellOf l w) w h (xa : Int) (ya : Int) r = L := ⟨_, rfl⟩
  rw [hL] at hN
  have hgi : (ints l)[i]? = some [.c (.int .i64 l[i])] := by rw [ints_get]; simp [hi]
  have hW0 : ¬ w = 0 := by omega
  have wy : IntKind.i64.wrap (ya : Int) = (ya : Int) := wrap_small (by omega) (by omega)
  have hLl : L.length ≤ 100 := by rw [← hL]; exact nb_len (by omega) (by omega) (by omega) (by omega)
  have hC := fun id vr => (fun (st0 : St) (h : CtI l[i] L id vr st0) => cnt_loop k L l[i] id vr hLl (by omega) st0 h.1 h.2.1 h.2.2.1 h.2.2.2.1 h.2.2.2.2 : ∀ st0, CtI l[i] L id vr st0 → ∃ s, loopRun (fun st => runCode C (callK C k) k (K 7) L7_1 2 st) [1, 2, 6, 8, 9, 10, 11, 23, 24, 25, 42, 43, 44, 999] k st0 = some (.ex 2, s) ∧ CtQ l[i] L st0 s)
  have hb2 : (gc [1, 2, 6, 23, 24, 25, 999] st).H = st.H := gc_all _ _ (by decide)
  simp [fldV, intsO] at hN Hc
  by_cases hLe : L = []
  · rw [if_pos hLe] at hN
    simp [L7_0, R7_0, R7_1, R7_2, R7_3, R7_4, R7_5, R7_6, R7_7, R7_8, R7_9, R7_10, R7_11, R7_12, R7_13, R7_14, R7_15, R7_16, R7_17, R7_18, Try.f7, lpL7_0, lpL7_1, lpM7_0, lpM7_1, lpM7_2, q1, q2, Hb, Hc, q23, q24, q25, hi2, hgi, t1, t2, hW0, hN, hb2, hy, wy, ints_take]
    generalize hr : loopRun _ _ _ _ = res
    obtain ⟨s1, rfl, a1, a2, a3, a4⟩ := loop_at2 (hC 0 0) hr ⟨by simp, by simp, fun h => absurd hLe h, by simp [hLe], by simp⟩
    have b1 : s1.ρ 1 = .c (.int .i64 r) := by have := a2 1 (by simp); simpa [q1] using this
    have b2 : s1.ρ 2 = .p idb vrb 3 0 0 := by have := a2 2 (by simp); simpa [q2] using this
    have b6 : s1.ρ 6 = st.ρ 6 := by have := a2 6 (by simp); simpa using this
    have b8 : s1.ρ 8 = .c (.int .i64 l[i]) := by have := a2 8 (by simp); simpa using this
    have b9 : s1.ρ 9 = .c (.int .i64 (xa : Int)) := by have := a2 9 (by simp); simpa using this
    have b10 : s1.ρ 10 = .c (.int .i64 (ya : Int)) := by have := a2 10 (by simp); simpa using this
    have b23 : s1.ρ 23 = .s idc vrc 1 0 l.length := by have := a2 23 (by simp); simpa [q23] using this
    have b24 : s1.ρ 24 = .c (.int .i64 (l.length : Int)) := by have := a2 24 (by simp); simpa [q24] using this
    have b25 : s1.ρ 25 = .c (.int .i64 (i : Int)) := by have := a2 25 (by simp); simpa [q25] using this
    have bt : st.tick + 5 ≤ s1.tick := a4
    have bH : ∀ id, id < Bt st.tick → s1.H id = st.H id := fun id hid => a3 id
    exact pk_tail k H0 tk0 w h l r idb vrb idc vrc i xa ya P L hi (by omega) hxa hya hL k1 st ⟨q1, q2, Hb, by simpa [intsO] using Hc, lb, hbm, lc, q23, q24, q25, N, pt, old, nw, no, le⟩ s1 a1 b1 b2 b6 b8 b9 b10 b23 b24 b25 bt bH nx
  · rw [if_neg hLe] at hN
    simp [L7_0, R7_0, R7_1, R7_2, R7_3, R7_4, R7_5, R7_6, R7_7, R7_8, R7_9, R7_10, R7_11, R7_12, R7_13, R7_14, R7_15, R7_16, R7_17, R7_18, Try.f7, lpL7_0, lpL7_1, lpM7_0, lpM7_1, lpM7_2, q1, q2, Hb, Hc, q23, q24, q25, hi2, hgi, t1, t2, hW0, hN, hb2, hy, wy, ints_take]
    generalize hr : loopRun _ _ _ _ = res
    obtain ⟨s1, rfl, a1, a2, a3, a4⟩ := loop_at2 (hC (16 * (FR 9 (st.tick + 1 + 1 + 1 + 1) * 64 + 4 + 1)) (st.tick + 1 + 1 + 1 + 1)) hr ⟨by simp, by simp, fun _ => ⟨by simp, by simp [intsO]⟩, by simp, by simp⟩
    have b1 : s1.ρ 1 = .c (.int .i64 r) := by have := a2 1 (by simp); simpa [q1] using this
    have b2 : s1.ρ 2 = .p idb vrb 3 0 0 := by have := a2 2 (by simp); simpa [q2] using this
    have b6 : s1.ρ 6 = st.ρ 6 := by have := a2 6 (by simp); simpa using this
    have b8 : s1.ρ 8 = .c (.int .i64 l[i]) := by have := a2 8 (by simp); simpa using this
    have b9 : s1.ρ 9 = .c (.int .i64 (xa : Int)) := by have := a2 9 (by simp); simpa using this
    have b10 : s1.ρ 10 = .c (.int .i64 (ya : Int)) := by have := a2 10 (by simp); simpa using this
    have b23 : s1.ρ 23 = .s idc vrc 1 0 l.length := by have := a2 23 (by simp); simpa [q23] using this
    have b24 : s1.ρ 24 = .c (.int .i64 (l.length : Int)) := by have := a2 24 (by simp); simpa [q24] using this
    have b25 : s1.ρ 25 = .c (.int .i64 (i : Int)) := by have := a2 25 (by simp); simpa [q25] using this
    have bt : st.tick + 5 ≤ s1.tick := a4
    have hX := FR_lo 9 (st.tick + 1 + 1 + 1 + 1) 5
    have hm4 := Bt_mono (show st.tick ≤ st.tick + 1 + 1 + 1 + 1 by omega)
    have bH : ∀ id, id < Bt st.tick → s1.H id = st.H id := by
      intro id hid
      have := a3 id
      have hne : ¬ id = 16 * (FR 9 (st.tick + 1 + 1 + 1 + 1) * 64 + 4 + 1) := by omega
      simpa [hne, hb2] using this
    exact pk_tail k H0 tk0 w h l r idb vrb idc vrc i xa ya P L hi (by omega) hxa hya hL k1 st ⟨q1, q2, Hb, by simpa [intsO] using Hc, lb, hbm, lc, q23, q24, q25, N, pt, old, nw, no, le⟩ s1 a1 b1 b2 b6 b8 b9 b10 b23 b24 b25 bt bH nx

end Go.Proofs.Ytemkckldfmpplaa.Eng
