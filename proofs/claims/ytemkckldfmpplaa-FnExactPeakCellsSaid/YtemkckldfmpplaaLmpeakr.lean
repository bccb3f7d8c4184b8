/- A deterministic reading of Go code over plain data: what functions of the program compute. No conditions. -/
import Derived.Test.YtemkckldfmpplaaLmbase
import Derived.Test.YtemkckldfmpplaaLmimpl
import Derived.Test.YtemkckldfmpplaaLmgood
import Derived.Test.YtemkckldfmpplaaLmnbh
import Derived.Test.YtemkckldfmpplaaLmrepeat
import Derived.Test.YtemkckldfmpplaaLmfieldby
import Derived.Test.YtemkckldfmpplaaLmminmax
import Derived.Test.YtemkckldfmpplaaLml6values
import Derived.Test.YtemkckldfmpplaaLml6main
import Derived.Test.YtemkckldfmpplaaLmpeakp
import Derived.Test.YtemkckldfmpplaaLmneigh
import Derived.Test.YtemkckldfmpplaaLmfield
import Derived.Test.YtemkckldfmpplaaLmnested
import Derived.Test.YtemkckldfmpplaaLmpeaki
import Derived.Test.YtemkckldfmpplaaLmpeakm
import Derived.Test.YtemkckldfmpplaaLmpeako
import Derived.Test.YtemkckldfmpplaaLmpeakq
import Derived.Test.YtemkckldfmpplaaEngT
namespace Go.Proofs.Ytemkckldfmpplaa.Eng
open Go Go.Proofs
set_option maxRecDepth 100000
set_option maxHeartbeats 2000000
set_option linter.unusedSimpArgs false
set_option linter.unusedVariables false
attribute [local simp] finK fin1 hpOf xi renQ isRoot runCode runOps stepX inlOf Eng.step wantedV astep val ofO made loadV storeV find V.cells bin binT binA numT numFs eqCells un1 setAt fieldAddrV fieldV indexAddrV indexV bounds sliceV convV lenV foldV max2V min2V callO bor rdsO wrsO seen_none okD_none loops keepIds resV resultsV St.ev TK.agg refs refsL refsO V.one V.isC Value.oneCell' ren renL renO noTag noTagL noTagR noTagO nodup mapO passV frs psi refsR newD loopNext opsAt idx flatAt rootOf backR newsV appendV copyV clearV strV bytesV bldV bufV selfV bytesOf nilCmp buildV fillF chunk
attribute [local simp] cT cF cX cWR cOW cK cBL X ints_length ints_get ints_getElem ints_drop ints_take ints_append ints_nil ints_set
attribute [local simp] ints_replicate
attribute [local simp] putV_some putV_none putH_app applyD_nil applyD_cons seen_app gc_ρ gc_H gc_tick st0_ρ st0_H st0_tick retV callRo callV_if borL_nil borL_cons ints_snoc take_self callWr cutH_app findQ afterV exportV_0 exportV_n okD_nil okD_cons sub_seq0 sub_seq1 sub_cond0 sub_cond1 sub_block sub_loop sub_nil young_far young_none hidW_nil mayW_nil pairs okI ok_0 ok_1 ok_2
attribute [local simp] T3 T4 T22 T24 T26 T29 T44
attribute [local simp] young_near clo cloF Region.binds Nat.testBit hidW declW mayW List.findIdx?_cons
theorem nb_self {c : Int → Int → Int} {w h x y r : Int} (hx : 0 ≤ x) (hx' : x < w) (hy : 0 ≤ y) (hy' : y < h) (hr : 0 ≤ r) (hn : c x y ≠ -9999) : c x y ∈ nbL c w h x y r := by
  obtain ⟨a1, a2, a3, a4, _⟩ := edge_facts hy hy' hr
  obtain ⟨b1, b2, b3, b4, _⟩ := edge_facts hx hx' hr
  unfold nbL rowsL
  rw [List.mem_flatMap]
  refine ⟨(y - lowE y r).toNat, by rw [List.mem_range]; omega, ?_⟩
  unfold rowL
  rw [List.mem_filter]
  refine ⟨?_, by simpa [bne] using hn⟩
  rw [List.mem_map]
  refine ⟨(x - lowE x r).toNat, by rw [List.mem_range]; omega, ?_⟩
  have e1 : lowE x r + ((x - lowE x r).toNat : Int) = x := by omega
  have e2 : lowE y r + ((y - lowE y r).toNat : Int) = y := by omega
  rw [e1, e2]
theorem cell_nat {w h x y : Nat} {l : List Int} (hl : l.length = w * h) (hx : x < w) (hy : y < h) : y * w + x < l.length ∧ (y * w + x) % w = x ∧ (y * w + x) / w = y ∧ l.getD (y * w + x) 0 = cellOf l w x y := by
  have h1 : (y + 1) * w ≤ h * w := Nat.mul_le_mul_right _ hy
  rw [Nat.succ_mul, Nat.mul_comm h w] at h1
  refine ⟨by omega, ?_, ?_, ?_⟩
  · rw [Nat.add_comm, Nat.add_mul_mod_self_right, Nat.mod_eq_of_lt hx]
  · rw [Nat.add_comm, Nat.add_mul_div_right _ _ (by omega), Nat.div_eq_of_lt hx, Nat.zero_add]
  · unfold cellOf
    congr 1
/-- Whether a cell is greater than all others, as spec asks. -/
theorem pkB_spec {w h x y : Nat} {l : List Int} {r : Int} (hl : l.length = w * h) (hx : x < w) (hy : y < h) (hr : 0 ≤ r) {n : Int} {S : List Int} (hn : cellOf l w x y = n) (hS : sortL (nbL (cellOf l w) w h x y r) = S) :
    (n ≠ -9999 → 1 ≤ S.length) ∧ (pkB l w h r (y * w + x) = true ↔ n ≠ -9999 ∧ S.getD (S.length - 1) 0 = n ∧ (S.length = 1 ∨ S.getD (S.length - 2) 0 < n)) := by
  obtain ⟨a1, a2, a3, a4⟩ := cell_nat hl hx hy
  have hc : n ≠ -9999 → n ∈ nbL (cellOf l w) w h x y r := by
    intro h0
    rw [← hn] at h0 ⊢
    exact nb_self (by omega) (by omega) (by omega) (by omega) hr h0
  have hSl := sortL_length (nbL (cellOf l w) w h x y r)
  rw [hS] at hSl
  refine ⟨fun h0 => ?_, ?_⟩
  · have := List.length_pos_of_mem (hc h0)
    omega
  · unfold pkB
    rw [a2, a3, a4, hn]
    simp only [Bool.and_eq_true, decide_eq_true_eq]
    constructor
    · rintro ⟨h1, h2⟩
      have hp := List.length_pos_of_mem (hc h1)
      have := (peak_same (hc h1)).1 h2
      simp only [hS] at this
      rw [hSl]
      refine ⟨h1, ?_, this.2⟩
      rw [List.getD_eq_getElem?_getD, List.getElem?_eq_getElem (by omega)]
      exact this.1.symm
    · rintro ⟨h1, h2, h3⟩
      have hp := List.length_pos_of_mem (hc h1)
      rw [hSl] at h2 h3
      refine ⟨h1, (peak_same (hc h1)).2 ?_⟩
      simp only [hS]
      rw [List.getD_eq_getElem?_getD, List.getElem?_eq_getElem (by omega)] at h2
      exact ⟨h2.symm, h3⟩
/-- What the rounds keep, of the heap. -/
structure PkN (H0 : Hp) (tk0 : Nat) (w h : Nat) (l : List Int) (r : Int) (idb vrb idc vrc : Nat) (n : Nat) (v : V) (P : List (Nat × Nat × List Int)) (H : Hp) (tick : Nat) : Prop where
  Hb : H idb = some (vrb, ⟨29, 3, false, [[.c (.int .i64 (w : Int)), .c (.int .i64 (h : Int)), .s idc vrc 1 0 l.length]]⟩)
  Hc : H idc = some (vrc, intsO l)
  lb : idb < Bt tick
  hb : Bt 1 ≤ idb
  lc : idc < Bt tick
  N : NS H v P (Bt tick)
  pt : P.map (·.2.2) = pts l w h r n
  old : ∀ id, id < Bt tk0 → H id = H0 id
  nw : ∀ p ∈ P, Bt tk0 ≤ p.1
  no : ∀ id vr n, v = .s id vr 1 0 n → Bt tk0 ≤ id
  le : tk0 ≤ tick
theorem PkN.keep {H0 : Hp} {tk0 w h : Nat} {l : List Int} {r : Int} {idb vrb idc vrc n : Nat} {v : V} {P : List (Nat × Nat × List Int)} {H H' : Hp} {tick tick' : Nat} (I : PkN H0 tk0 w h l r idb vrb idc vrc n v P H tick) (hk : ∀ id, id < Bt tick → H' id = H id) (ht : tick ≤ tick') : PkN H0 tk0 w h l r idb vrb idc vrc n v P H' tick' := by
  obtain ⟨Hb, Hc, lb, hbm, lc, N, pt, old, nw, no, le⟩ := I
  have m1 := Bt_mono ht
  have m0 := Bt_mono le
  exact ⟨by rw [hk _ lb]; exact Hb, by rw [hk _ lc]; exact Hc, by omega, hbm, by omega, N.mono hk m1, pt, fun id hid => by rw [hk id (by omega)]; exact old id hid, nw, no, by omega⟩
theorem PkN.skip {H0 : Hp} {tk0 w h : Nat} {l : List Int} {r : Int} {idb vrb idc vrc n : Nat} {v : V} {P : List (Nat × Nat × List Int)} {H : Hp} {tick : Nat} (I : PkN H0 tk0 w h l r idb vrb idc vrc n v P H tick) (hp : pkB l w h r n = false) : PkN H0 tk0 w h l r idb vrb idc vrc (n + 1) v P H tick := by
  obtain ⟨Hb, Hc, lb, hbm, lc, N, pt, old, nw, no, le⟩ := I
  refine ⟨Hb, Hc, lb, hbm, lc, N, ?_, old, nw, no, le⟩
  rw [pts_succ, hp, pt]
  simp
theorem PkN.push {H0 : Hp} {tk0 w h : Nat} {l : List Int} {r : Int} {idb vrb idc vrc n : Nat} {v : V} {P : List (Nat × Nat × List Int)} {H H' : Hp} {tick tick' : Nat} (I : PkN H0 tk0 w h l r idb vrb idc vrc n v P H tick) (hp : pkB l w h r n = true) (xa ya X O t oid : Nat) (hx : n % w = xa) (hy : n / w = ya) (o1 : oid ∉ P.map (·.1)) (o2 : oid ≠ idb) (o3 : oid ≠ idc) (o4 : oid < Bt tk0 → False) (hk : ∀ id, id < Bt tick → id ≠ oid → H' id = H id) (ht : tick ≤ tick') (bX : Bt tick ≤ X) (bO : Bt tick ≤ O) (cX : X < Bt tick') (cO : O < Bt tick') (hne : O ≠ X)
    (hX : H' X = some (t, intsO [(xa : Int), (ya : Int)])) (hO : H' O = some (t, ⟨22, 1, false, rowsP P ++ [[.s X t 1 0 2]]⟩)) : PkN H0 tk0 w h l r idb vrb idc vrc (n + 1) (.s O t 1 0 (P.length + 1)) (P ++ [(X, t, [(xa : Int), (ya : Int)])]) H' tick' := by
  obtain ⟨Hb, Hc, lb, hbm, lc, N, pt, old, nw, no, le⟩ := I
  have m1 := Bt_mono ht
  have m0 := Bt_mono le
  refine ⟨by rw [hk _ lb (Ne.symm o2)]; exact Hb, by rw [hk _ lc (Ne.symm o3)]; exact Hc, by omega, hbm, by omega, N.push oid o1 hk hX hO bX bO hne cX cO m1, ?_, fun id hid => ?_, ?_, ?_, by omega⟩
  · rw [List.map_append, pt, pts_succ, hp, hx, hy]
    rfl
  · rw [hk id (by omega) (fun e => o4 (by omega))]
    exact old id hid
  · intro p hp'
    rcases List.mem_append.1 hp' with hp' | hp'
    · exact nw p hp'
    · rw [List.mem_singleton] at hp'
      subst hp'
      show Bt tk0 ≤ X
      omega
  · intro id vr n e
    simp only [V.s.injEq] at e
    omega
structure PkJ (H0 : Hp) (tk0 w h : Nat) (l : List Int) (r : Int) (idb vrb idc vrc x y : Nat) (P : List (Nat × Nat × List Int)) (s : St) : Prop where
  q1 : s.ρ 1 = .c (.int .i64 r)
  q2 : s.ρ 2 = .p idb vrb 3 0 0
  q7 : s.ρ 7 = .c (.int .i64 (y : Int))
  q8 : s.ρ 8 = .c (.int .i64 (x : Int))
  I : PkN H0 tk0 w h l r idb vrb idc vrc (y * w + x) (s.ρ 6) P s.H s.tick
theorem sp_round (k : Nat) (H0 : Hp) (tk0 w h : Nat) (l : List Int) (r : Int) (idb vrb idc vrc x y : Nat) (P : List (Nat × Nat × List Int)) (hg : goodB w h l = true) (hr0 : 0 ≤ r) (hr3 : r ≤ 3) (hk : 700 ≤ k) (hx : x < w) (hy : y < h) (st : St) (J : PkJ H0 tk0 w h l r idb vrb idc vrc x y P st) (nx : St → Option (Ex × St)) :
    ∃ s P', loopNext ((fun st => runCode C (callK C k) k (K 5) L5_1 2 st) (gc [1, 2, 6, 7, 8, 999] st)) nx = nx s ∧ PkJ H0 tk0 w h l r idb vrb idc vrc (x + 1) y P' s := by
  obtain ⟨s1, n1, cl1, k1⟩ := good_length hg
  obtain ⟨_, _, p1, p2, p3, p4⟩ := shape_area s1
  obtain ⟨q1, q2, q7, q8, I⟩ := J
  have I0 := I
  obtain ⟨Hb, Hc, lb, hbm, lc, N, pt, old, nw, no, le⟩ := I
  have hwh : l.length = w * h := by
    have : ((w * h : Nat) : Int) = (w : Int) * (h : Int) := Int.natCast_mul w h
    omega
  obtain ⟨S, hS⟩ : ∃ S, sortL (nbL (cellOf l w) w h x y r) = S := ⟨_, rfl⟩
  obtain ⟨n, hn⟩ : ∃ n, cellOf l w x y = n := ⟨_, rfl⟩
  have hSl := sortL_length (nbL (cellOf l w) w h x y r)
  rw [hS] at hSl
  have hLl : S.length ≤ 100 := by rw [hSl]; exact nb_len (by omega) (by omega) (by omega) (by omega)
  obtain ⟨P1, P2⟩ := pkB_spec hwh hx hy hr0 hn hS
  have c1 := c_l2At k true (w : Int) (h : Int) l (x : Int) (y : Int) n1 k1 (by omega) (by omega) (by omega) (by omega) (by omega)
  have c2 := c_l6Values k true (w : Int) (h : Int) l (x : Int) (y : Int) r n1 k1 (by omega) (by omega) (by omega) (by omega) hr0 hr3 (by omega) (by omega) (by omega)
  rw [hS, ← hSl] at c2
  rw [hn] at c1
  have hb2 : (gc [1, 2, 6, 7, 8, 999] st).H = st.H := gc_all _ _ (by decide)
  have hx2 : (x : Int) < (w : Int) := by omega
  have wx : IntKind.i64.wrap ((x : Int) + 1) = (x : Int) + 1 := wrap_small (by omega) (by omega)
  simp [fldV, intsO] at c1 c2 Hc
  have X1 := FR_lo 11 (st.tick + 1 + 1) 5
  have m1 : Bt st.tick ≤ Bt (st.tick + 1 + 1) := Bt_mono (by omega)
  obtain ⟨X, hX⟩ : ∃ X, 16 * (FR 11 (st.tick + 1 + 1) * 64 + 4 + 1) = X := ⟨_, rfl⟩
  have hXlo : Bt st.tick ≤ X := by omega
  have hkp : ∀ (o : Option (Nat × Eng.Obj)) id, id < Bt st.tick → putH st.H X o id = st.H id := by
    intro o id hid
    rw [putH_app, if_neg (by omega)]
  have fin : ∀ s : St, pkB l w h r (y * w + x) = false → s.ρ 1 = st.ρ 1 → s.ρ 2 = st.ρ 2 → s.ρ 6 = st.ρ 6 → s.ρ 7 = st.ρ 7 → s.ρ 8 = .c (.int .i64 ((x : Int) + 1)) → (∀ id, id < Bt st.tick → s.H id = st.H id) → st.tick ≤ s.tick → PkJ H0 tk0 w h l r idb vrb idc vrc (x + 1) y P s := by
    intro s hp d1 d2 d6 d7 d8 dH dt
    refine ⟨by rw [d1, q1], by rw [d2, q2], by rw [d7, q7], by rw [d8]; rfl, ?_⟩
    rw [d6]
    exact (I0.keep dH dt).skip hp
  by_cases h0 : n = -9999
  · subst h0
    have hp : pkB l w h r (y * w + x) = false := by
      rw [Bool.eq_false_iff, Ne, P2]
      exact fun e => e.1 rfl
    simp [L5_1, R5_0, R5_1, R5_2, R5_3, R5_4, R5_5, R5_6, R5_7, R5_8, R5_9, R5_10, R5_11, R5_12, R5_13, R5_14, Try.f5, lpL5_0, lpL5_1, lpM5_0, lpM5_1, M5_0, M5_1, q1, q2, q7, q8, Hb, Hc, hb2, c1, c2, hx2, wx, ints_take, undef]
    rw [hX]
    exact ⟨_, rfl, P, fin _ hp (by simp) (by simp) (by simp) (by simp) (by simp) (fun id hid => hkp _ id hid) (by dsimp only; omega)⟩
  · have h0b : (n == -9999) = false := by simpa using h0
    have h0c : (n != -9999) = true := by simp [bne, h0b]
    obtain ⟨m, hm⟩ : ∃ m, S.length = m + 1 := ⟨S.length - 1, by have := P1 h0; omega⟩
    have hm2 : S.length - 1 = m := by omega
    have hm3 : S.length - 2 = m - 1 := by omega
    rw [hm2, hm3] at P2
    obtain ⟨a, ha⟩ : ∃ a, S[m]? = some a := ⟨S[m], by rw [List.getElem?_eq_getElem (by omega)]⟩
    have hga : (ints S)[m]? = some [.c (.int .i64 a)] := by rw [ints_get, ha]; rfl
    rw [List.getD_eq_getElem?_getD, ha, Option.getD_some] at P2
    have wm : IntKind.i64.wrap (m : Int) = (m : Int) := wrap_small (by omega) (by omega)
    rw [hm] at c2
    have w0 : IntKind.i64.wrap 0 = 0 := wrap_small (by omega) (by omega)
    have hlt : (m : Int) < (m : Int) + 1 := by omega
    by_cases h1 : n = a
    · subst h1
      obtain ⟨a1, a2, a3, a4⟩ := cell_nat hwh hx hy
      have hPl : P.length ≤ 64 := by
        have := congrArg List.length pt
        rw [List.length_map] at this
        rw [this]
        unfold pts
        rw [List.length_map]
        exact Nat.le_trans (List.length_filter_le _ _) (by rw [List.length_range]; omega)
      have z1 : (P.length + 1) * 24 ≤ 140737488355328 := by omega
      have z2 : P.length + 1 ≤ 9223372036854775807 := by omega
      have z3 : P.length ≤ 9223372036854775806 := by omega
      have hrl : (rowsP P).length = P.length := by simp [rowsP]
      have hrt : (rowsP P).take P.length = rowsP P := by rw [← hrl]; exact List.take_length
      have x1 := FR_lo 13 (st.tick + 1 + 1 + 1 + 1) 4
      have x2 := FR_lo 13 (st.tick + 1 + 1 + 1 + 1) 6
      have x5 := FR_lo 13 (st.tick + 1 + 1 + 1 + 1) 5
      have y1 := FR_hi 13 (st.tick + 1 + 1 + 1 + 1) 4 (by omega)
      have y2 := FR_hi 13 (st.tick + 1 + 1 + 1 + 1) 6 (by omega)
      have y3 := FR_hi 11 (st.tick + 1 + 1) 5 (by omega)
      have m4 : Bt (st.tick + 1 + 1 + 1) ≤ Bt (st.tick + 1 + 1 + 1 + 1) := Bt_mono (by omega)
      have m5 : Bt (st.tick + 1 + 1 + 1 + 1 + 1) ≤ Bt (st.tick + 1 + 1 + 1 + 1 + 1 + 1) := Bt_mono (by omega)
      have m3 : Bt st.tick ≤ Bt (st.tick + 1 + 1 + 1 + 1) := Bt_mono (by omega)
      have m0 : Bt tk0 ≤ Bt st.tick := Bt_mono le
      obtain ⟨F, hF⟩ : ∃ F, FR 13 (st.tick + 1 + 1 + 1 + 1) = F := ⟨_, rfl⟩
      rw [hF] at x1 x2 x5 y1 y2
      have e4 : ¬ 16 * (F * 64 + 3 + 1) = 16 * (F * 64 + 4 + 1) := by omega
      have e5 : ¬ 16 * (F * 64 + 3 + 1) = 16 * (F * 64 + 5 + 1) + 8 := by omega
      have fin2 : ∀ (oid : Nat) (s : St), pkB l w h r (y * w + x) = true → oid ∉ P.map (·.1) → oid ≠ idb → oid ≠ idc → (oid < Bt tk0 → False) → s.ρ 1 = st.ρ 1 → s.ρ 2 = st.ρ 2 → s.ρ 6 = .s (16 * (F * 64 + 5 + 1) + 8) (st.tick + 1 + 1 + 1 + 1) 1 0 (P.length + 1) → s.ρ 7 = st.ρ 7 → s.ρ 8 = .c (.int .i64 ((x : Int) + 1)) →
          (∀ id, id < Bt st.tick → id ≠ oid → s.H id = st.H id) → s.H (16 * (F * 64 + 3 + 1)) = some (st.tick + 1 + 1 + 1 + 1, intsO [(x : Int), (y : Int)]) → s.H (16 * (F * 64 + 5 + 1) + 8) = some (st.tick + 1 + 1 + 1 + 1, ⟨22, 1, false, rowsP P ++ [[.s (16 * (F * 64 + 3 + 1)) (st.tick + 1 + 1 + 1 + 1) 1 0 2]]⟩) → s.tick = st.tick + 1 + 1 + 1 + 1 + 1 + 1 →
          PkJ H0 tk0 w h l r idb vrb idc vrc (x + 1) y (P ++ [(16 * (F * 64 + 3 + 1), st.tick + 1 + 1 + 1 + 1, [(x : Int), (y : Int)])]) s := by
        intro oid s hp o1 o2 o3 o4 d1 d2 d6 d7 d8 dH dX dO dt
        refine ⟨by rw [d1, q1], by rw [d2, q2], by rw [d7, q7], by rw [d8]; rfl, ?_⟩
        rw [d6]
        rw [← dt] at m5
        exact I0.push hp x y _ _ _ oid a2 a3 o1 o2 o3 o4 dH (by omega) (by omega) (by omega) (by omega) (by omega) (by omega) dX dO
      obtain ⟨n1, n2, n3⟩ := N
      by_cases hm0 : m = 0
      · subst hm0
        have hp : pkB l w h r (y * w + x) = true := P2.2 ⟨h0, rfl, .inl hm⟩
        rcases n3 with ⟨rfl, n3 | ⟨id, vr, ia, n3, ib⟩⟩ | ⟨hne, id, vr, ia, ic, n3, ib⟩
        · simp [L5_1, R5_0, R5_1, R5_2, R5_3, R5_4, R5_5, R5_6, R5_7, R5_8, R5_9, R5_10, R5_11, R5_12, R5_13, R5_14, Try.f5, lpL5_0, lpL5_1, lpM5_0, lpM5_1, M5_0, M5_1, q1, q2, q7, q8, Hb, Hc, hb2, c1, c2, hx2, wx, ints_take, undef, h0, h0b, h0c, hga, wm, hlt, w0, n3, maxLen, ints_c, ints_n, hF]
          refine ⟨_, rfl, _, fin2 (idb + idc + 1 + Bt st.tick) _ hp (by simp) (by omega) (by omega) (by omega) (by simp) (by simp) (by simp) (by simp) (by simp) ?_ ?_ ?_ rfl⟩
          · intro id hid _
            have e0 : ¬ id = 16 * (FR 11 (st.tick + 1 + 1) * 64 + 4 + 1) := by omega
            have e1 : ¬ id = 16 * (F * 64 + 3 + 1) := by omega
            have e2 : ¬ id = 16 * (F * 64 + 4 + 1) := by omega
            have e3 : ¬ id = 16 * (F * 64 + 5 + 1) + 8 := by omega
            simp [putH_app, e0, e1, e2, e3]
          · simp [putH_app, intsO, ints_c, ints_n, e4, e5]
          · simp [putH_app, rowsP]
        · have b0 := 0
          have g0 : ¬ id = 16 * (FR 11 (st.tick + 1 + 1) * 64 + 4 + 1) := by omega
          have g1 : ¬ id = 16 * (F * 64 + 3 + 1) := by omega
          have g2 : ¬ id = 16 * (F * 64 + 4 + 1) := by omega
          have g6 : ¬ 16 * (F * 64 + 3 + 1) = id := by omega
          have g4 : id ≠ idb := by intro e; subst e; rw [Hb] at ib; simp at ib
          have g5 : id ≠ idc := by intro e; subst e; rw [Hc] at ib; simp at ib
          simp [L5_1, R5_0, R5_1, R5_2, R5_3, R5_4, R5_5, R5_6, R5_7, R5_8, R5_9, R5_10, R5_11, R5_12, R5_13, R5_14, Try.f5, lpL5_0, lpL5_1, lpM5_0, lpM5_1, M5_0, M5_1, q1, q2, q7, q8, Hb, Hc, hb2, c1, c2, hx2, wx, ints_take, undef, h0, h0b, h0c, hga, wm, hlt, w0, n3, maxLen, ints_c, ints_n, hF, ib, g0, g1, g2]
          refine ⟨_, rfl, _, fin2 id _ hp (by simp) g4 g5 (fun e => by have := no id vr _ n3; omega) (by simp) (by simp) (by simp) (by simp) (by simp) ?_ ?_ ?_ rfl⟩
          · intro id' hid hne'
            have e0 : ¬ id' = 16 * (FR 11 (st.tick + 1 + 1) * 64 + 4 + 1) := by omega
            have e1 : ¬ id' = 16 * (F * 64 + 3 + 1) := by omega
            have e2 : ¬ id' = 16 * (F * 64 + 4 + 1) := by omega
            have e3 : ¬ id' = 16 * (F * 64 + 5 + 1) + 8 := by omega
            simp [putH_app, e0, e1, e2, e3, hne']
          · simp [putH_app, intsO, ints_c, ints_n, e4, e5, g6]
          · simp [putH_app, rowsP]
        · have b0 := 0
          have g0 : ¬ id = 16 * (FR 11 (st.tick + 1 + 1) * 64 + 4 + 1) := by omega
          have g1 : ¬ id = 16 * (F * 64 + 3 + 1) := by omega
          have g2 : ¬ id = 16 * (F * 64 + 4 + 1) := by omega
          have g6 : ¬ 16 * (F * 64 + 3 + 1) = id := by omega
          have g4 : id ≠ idb := by intro e; subst e; rw [Hb] at ib; simp at ib
          have g5 : id ≠ idc := by intro e; subst e; rw [Hc] at ib; simp at ib
          simp [L5_1, R5_0, R5_1, R5_2, R5_3, R5_4, R5_5, R5_6, R5_7, R5_8, R5_9, R5_10, R5_11, R5_12, R5_13, R5_14, Try.f5, lpL5_0, lpL5_1, lpM5_0, lpM5_1, M5_0, M5_1, q1, q2, q7, q8, Hb, Hc, hb2, c1, c2, hx2, wx, ints_take, undef, h0, h0b, h0c, hga, wm, hlt, w0, n3, maxLen, ints_c, ints_n, hF, ib, g0, g1, g2, hrl, hrt, z1, z2, z3, okR]
          refine ⟨_, rfl, _, fin2 id _ hp (by simpa using ic) g4 g5 (fun e => by have := no id vr _ n3; omega) (by simp) (by simp) (by simp) (by simp) (by simp) ?_ ?_ ?_ rfl⟩
          · intro id' hid hne'
            have e0 : ¬ id' = 16 * (FR 11 (st.tick + 1 + 1) * 64 + 4 + 1) := by omega
            have e1 : ¬ id' = 16 * (F * 64 + 3 + 1) := by omega
            have e2 : ¬ id' = 16 * (F * 64 + 4 + 1) := by omega
            have e3 : ¬ id' = 16 * (F * 64 + 5 + 1) + 8 := by omega
            simp [putH_app, e0, e1, e2, e3, hne']
          · simp [putH_app, intsO, ints_c, ints_n, e4, e5, g6]
          · simp [putH_app, rowsP]
      · obtain ⟨p, rfl⟩ := Nat.exists_eq_succ_of_ne_zero hm0
        simp only [Nat.succ_eq_add_one] at hm hm2 hm3 ha hga wm hlt P2 c2
        have hplt : p < S.length := by omega
        obtain ⟨b, hb⟩ : ∃ b, S[p]? = some b := ⟨S[p], by rw [List.getElem?_eq_getElem hplt]⟩
        have hgb : (ints S)[p]? = some [.c (.int .i64 b)] := by rw [ints_get, hb]; rfl
        have wp : IntKind.i64.wrap (p : Int) = (p : Int) := wrap_small (by omega) (by omega)
        have wp2 : IntKind.i64.wrap ((p : Int) + 1 + 1 - 2) = (p : Int) := by
          rw [show (p : Int) + 1 + 1 - 2 = (p : Int) by omega, wp]
        have hlp : (p : Int) < (p : Int) + 1 + 1 := by omega
        have hnn : (0 : Int) ≤ (p : Int) + 1 := by omega
        have hni : ((p : Int) + 1).toNat = p + 1 := by omega
        have hl1 : ¬ S.length = 1 := by omega
        have hl2 : ¬ (p : Int) + 1 + 1 = 1 := by omega
        have hl2b : ((p : Int) + 1 + 1 == 1) = false := by simpa using hl2
        have hp1 : p + 1 - 1 = p := by omega
        rw [hp1, List.getD_eq_getElem?_getD, hb, Option.getD_some] at P2
        simp only [Int.natCast_add, Int.cast_ofNat_Int] at wm hlt
        by_cases h2 : b < n
        · have hp : pkB l w h r (y * w + x) = true := P2.2 ⟨h0, by simp, .inr h2⟩
          rcases n3 with ⟨rfl, n3 | ⟨id, vr, ia, n3, ib⟩⟩ | ⟨hne, id, vr, ia, ic, n3, ib⟩
          · simp [L5_1, R5_0, R5_1, R5_2, R5_3, R5_4, R5_5, R5_6, R5_7, R5_8, R5_9, R5_10, R5_11, R5_12, R5_13, R5_14, Try.f5, lpL5_0, lpL5_1, lpM5_0, lpM5_1, M5_0, M5_1, q1, q2, q7, q8, Hb, Hc, hb2, c1, c2, hx2, wx, ints_take, undef, h0, h0b, h0c, hga, wm, hlt, wp, wp2, hlp, hnn, hni, hl1, hl2, hl2b, hgb, h2, n3, maxLen, ints_c, ints_n, hF]
            refine ⟨_, rfl, _, fin2 (idb + idc + 1 + Bt st.tick) _ hp (by simp) (by omega) (by omega) (by omega) (by simp) (by simp) (by simp) (by simp) (by simp) ?_ ?_ ?_ rfl⟩
            · intro id hid _
              have e0 : ¬ id = 16 * (FR 11 (st.tick + 1 + 1) * 64 + 4 + 1) := by omega
              have e1 : ¬ id = 16 * (F * 64 + 3 + 1) := by omega
              have e2 : ¬ id = 16 * (F * 64 + 4 + 1) := by omega
              have e3 : ¬ id = 16 * (F * 64 + 5 + 1) + 8 := by omega
              simp [putH_app, e0, e1, e2, e3]
            · simp [putH_app, intsO, ints_c, ints_n, e4, e5]
            · simp [putH_app, rowsP]
          · have b0 := 0
            have g0 : ¬ id = 16 * (FR 11 (st.tick + 1 + 1) * 64 + 4 + 1) := by omega
            have g1 : ¬ id = 16 * (F * 64 + 3 + 1) := by omega
            have g2 : ¬ id = 16 * (F * 64 + 4 + 1) := by omega
            have g6 : ¬ 16 * (F * 64 + 3 + 1) = id := by omega
            have g4 : id ≠ idb := by intro e; subst e; rw [Hb] at ib; simp at ib
            have g5 : id ≠ idc := by intro e; subst e; rw [Hc] at ib; simp at ib
            simp [L5_1, R5_0, R5_1, R5_2, R5_3, R5_4, R5_5, R5_6, R5_7, R5_8, R5_9, R5_10, R5_11, R5_12, R5_13, R5_14, Try.f5, lpL5_0, lpL5_1, lpM5_0, lpM5_1, M5_0, M5_1, q1, q2, q7, q8, Hb, Hc, hb2, c1, c2, hx2, wx, ints_take, undef, h0, h0b, h0c, hga, wm, hlt, wp, wp2, hlp, hnn, hni, hl1, hl2, hl2b, hgb, h2, n3, maxLen, ints_c, ints_n, hF, ib, g0, g1, g2]
            refine ⟨_, rfl, _, fin2 id _ hp (by simp) g4 g5 (fun e => by have := no id vr _ n3; omega) (by simp) (by simp) (by simp) (by simp) (by simp) ?_ ?_ ?_ rfl⟩
            · intro id' hid hne'
              have e0 : ¬ id' = 16 * (FR 11 (st.tick + 1 + 1) * 64 + 4 + 1) := by omega
              have e1 : ¬ id' = 16 * (F * 64 + 3 + 1) := by omega
              have e2 : ¬ id' = 16 * (F * 64 + 4 + 1) := by omega
              have e3 : ¬ id' = 16 * (F * 64 + 5 + 1) + 8 := by omega
              simp [putH_app, e0, e1, e2, e3, hne']
            · simp [putH_app, intsO, ints_c, ints_n, e4, e5, g6]
            · simp [putH_app, rowsP]
          · have b0 := 0
            have g0 : ¬ id = 16 * (FR 11 (st.tick + 1 + 1) * 64 + 4 + 1) := by omega
            have g1 : ¬ id = 16 * (F * 64 + 3 + 1) := by omega
            have g2 : ¬ id = 16 * (F * 64 + 4 + 1) := by omega
            have g6 : ¬ 16 * (F * 64 + 3 + 1) = id := by omega
            have g4 : id ≠ idb := by intro e; subst e; rw [Hb] at ib; simp at ib
            have g5 : id ≠ idc := by intro e; subst e; rw [Hc] at ib; simp at ib
            simp [L5_1, R5_0, R5_1, R5_2, R5_3, R5_4, R5_5, R5_6, R5_7, R5_8, R5_9, R5_10, R5_11, R5_12, R5_13, R5_14, Try.f5, lpL5_0, lpL5_1, lpM5_0, lpM5_1, M5_0, M5_1, q1, q2, q7, q8, Hb, Hc, hb2, c1, c2, hx2, wx, ints_take, undef, h0, h0b, h0c, hga, wm, hlt, wp, wp2, hlp, hnn, hni, hl1, hl2, hl2b, hgb, h2, n3, maxLen, ints_c, ints_n, hF, ib, g0, g1, g2, hrl, hrt, z1, z2, z3, okR]
            refine ⟨_, rfl, _, fin2 id _ hp (by simpa using ic) g4 g5 (fun e => by have := no id vr _ n3; omega) (by simp) (by simp) (by simp) (by simp) (by simp) ?_ ?_ ?_ rfl⟩
            · intro id' hid hne'
              have e0 : ¬ id' = 16 * (FR 11 (st.tick + 1 + 1) * 64 + 4 + 1) := by omega
              have e1 : ¬ id' = 16 * (F * 64 + 3 + 1) := by omega
              have e2 : ¬ id' = 16 * (F * 64 + 4 + 1) := by omega
              have e3 : ¬ id' = 16 * (F * 64 + 5 + 1) + 8 := by omega
              simp [putH_app, e0, e1, e2, e3, hne']
            · simp [putH_app, intsO, ints_c, ints_n, e4, e5, g6]
            · simp [putH_app, rowsP]
        · have hp : pkB l w h r (y * w + x) = false := by
            rw [Bool.eq_false_iff, Ne, P2]
            exact fun e => e.2.2.elim hl1 h2
          simp [L5_1, R5_0, R5_1, R5_2, R5_3, R5_4, R5_5, R5_6, R5_7, R5_8, R5_9, R5_10, R5_11, R5_12, R5_13, R5_14, Try.f5, lpL5_0, lpL5_1, lpM5_0, lpM5_1, M5_0, M5_1, q1, q2, q7, q8, Hb, Hc, hb2, c1, c2, hx2, wx, ints_take, undef, h0, h0b, h0c, hga, wm, hlt, wp, wp2, hlp, hnn, hni, hl1, hl2, hl2b, hgb, h2]
          rw [hX]
          exact ⟨_, rfl, P, fin _ hp (by simp) (by simp) (by simp) (by simp) (by simp) (fun id hid => hkp _ id hid) (by dsimp only; omega)⟩
    · have hp : pkB l w h r (y * w + x) = false := by
        rw [Bool.eq_false_iff, Ne, P2]
        exact fun e => h1 e.2.1.symm
      have h1b : (n == a) = false := by simpa using h1
      simp [L5_1, R5_0, R5_1, R5_2, R5_3, R5_4, R5_5, R5_6, R5_7, R5_8, R5_9, R5_10, R5_11, R5_12, R5_13, R5_14, Try.f5, lpL5_0, lpL5_1, lpM5_0, lpM5_1, M5_0, M5_1, q1, q2, q7, q8, Hb, Hc, hb2, c1, c2, hx2, wx, ints_take, undef, h0, h0b, h0c, hga, wm, hlt, h1, h1b]
      rw [hX]
      exact ⟨_, rfl, P, fin _ hp (by simp) (by simp) (by simp) (by simp) (by simp) (fun id hid => hkp _ id hid) (by dsimp only; omega)⟩

end Go.Proofs.Ytemkckldfmpplaa.Eng
