/- A deterministic reading of Go code over plain data: what functions of the program compute. No conditions. -/
import Derived.Test.YtemkckldfmpplaaLmbase
import Derived.Test.YtemkckldfmpplaaLmimpl
import Derived.Test.YtemkckldfmpplaaLmgood
import Derived.Test.YtemkckldfmpplaaLmnbh
import Derived.Test.YtemkckldfmpplaaLmrepeat
import Derived.Test.YtemkckldfmpplaaLmfieldby
import Derived.Test.YtemkckldfmpplaaLmminmax
import Derived.Test.YtemkckldfmpplaaLml6values
import Derived.Test.YtemkckldfmpplaaLml6main
import Derived.Test.YtemkckldfmpplaaLmpeakp
import Derived.Test.YtemkckldfmpplaaLmneigh
import Derived.Test.YtemkckldfmpplaaLmfield
import Derived.Test.YtemkckldfmpplaaLmnested
import Derived.Test.YtemkckldfmpplaaLmpeaki
import Derived.Test.YtemkckldfmpplaaLmpeakm
import Derived.Test.YtemkckldfmpplaaLmpeako
import Derived.Test.YtemkckldfmpplaaLmpeakq
import Derived.Test.YtemkckldfmpplaaLmpeakr
import Derived.Test.YtemkckldfmpplaaEngT
namespace Go.Proofs.Ytemkckldfmpplaa.Eng
open Go Go.Proofs
set_option maxRecDepth 100000
set_option maxHeartbeats 2000000
set_option linter.unusedSimpArgs false
set_option linter.unusedVariables false
attribute [local simp] finK fin1 hpOf xi renQ isRoot runCode runOps stepX inlOf Eng.step wantedV astep val ofO made loadV storeV find V.cells bin binT binA numT numFs eqCells un1 setAt fieldAddrV fieldV indexAddrV indexV bounds sliceV convV lenV foldV max2V min2V callO bor rdsO wrsO seen_none okD_none loops keepIds resV resultsV St.ev TK.agg refs refsL refsO V.one V.isC Value.oneCell' ren renL renO noTag noTagL noTagR noTagO nodup mapO passV frs psi refsR newD loopNext opsAt idx flatAt rootOf backR newsV appendV copyV clearV strV bytesV bldV bufV selfV bytesOf nilCmp buildV fillF chunk
attribute [local simp] cT cF cX cWR cOW cK cBL X ints_length ints_get ints_getElem ints_drop ints_take ints_append ints_nil ints_set
attribute [local simp] ints_replicate
attribute [local simp] putV_some putV_none putH_app applyD_nil applyD_cons seen_app gc_ρ gc_H gc_tick st0_ρ st0_H st0_tick retV callRo callV_if borL_nil borL_cons ints_snoc take_self callWr cutH_app findQ afterV exportV_0 exportV_n okD_nil okD_cons sub_seq0 sub_seq1 sub_cond0 sub_cond1 sub_block sub_loop sub_nil young_far young_none hidW_nil mayW_nil pairs okI ok_0 ok_1 ok_2
attribute [local simp] T3 T4 T22 T24 T26 T29 T44
attribute [local simp] young_near clo cloF Region.binds Nat.testBit hidW declW mayW List.findIdx?_cons
def SpD (H0 : Hp) (tk0 w h : Nat) (l : List Int) (r : Int) (idb vrb idc vrc y : Nat) (s : St) : Prop := ∃ P, PkJ H0 tk0 w h l r idb vrb idc vrc 0 y P s
def SpM (H0 : Hp) (tk0 w h : Nat) (l : List Int) (r : Int) (idb vrb idc vrc y : Nat) (s : St) : Prop := ∃ P, s.ρ 1 = .c (.int .i64 r) ∧ s.ρ 2 = .p idb vrb 3 0 0 ∧ s.ρ 7 = .c (.int .i64 (y : Int)) ∧ PkN H0 tk0 w h l r idb vrb idc vrc (y * w + w) (s.ρ 6) P s.H s.tick
theorem sp_inner (k : Nat) (H0 : Hp) (tk0 w h : Nat) (l : List Int) (r : Int) (idb vrb idc vrc y : Nat) (hg : goodB w h l = true) (hr0 : 0 ≤ r) (hr3 : r ≤ 3) (hk : 700 ≤ k) (hy : y < h) :
    ∀ st, SpD H0 tk0 w h l r idb vrb idc vrc y st → ∃ s, loopRun (fun st => runCode C (callK C k) k (K 5) L5_1 2 st) [1, 2, 6, 7, 8, 999] k st = some (.ex 2, s) ∧ SpM H0 tk0 w h l r idb vrb idc vrc y s := by
  obtain ⟨s1, n1, cl1, k1⟩ := good_length hg
  obtain ⟨_, _, p1, p2, p3, p4⟩ := shape_area s1
  refine loopHas (body := fun st => runCode C (callK C k) k (K 5) L5_1 2 st) (keep := [1, 2, 6, 7, 8, 999]) (.ex 2) (SpM H0 tk0 w h l r idb vrb idc vrc y)
    (fun x st => ∃ P, PkJ H0 tk0 w h l r idb vrb idc vrc x y P st) w k (by omega) ?_ ?_
  · rintro x st next hx ⟨P, J⟩ hn
    obtain ⟨s, P', e, J'⟩ := sp_round k H0 tk0 w h l r idb vrb idc vrc x y P hg hr0 hr3 hk hx hy st J next
    obtain ⟨s2, e2, r2⟩ := hn s ⟨P', J'⟩
    exact ⟨s2, by rw [e, e2], r2⟩
  · rintro st next ⟨P, J⟩
    obtain ⟨q1, q2, q7, q8, I⟩ := J
    have I0 := I
    obtain ⟨Hb, Hc, lb, hbm, lc, N, pt, old, nw, no, le⟩ := I
    have hb2 : (gc [1, 2, 6, 7, 8, 999] st).H = st.H := gc_all _ _ (by decide)
    simp [L5_1, R5_0, R5_1, R5_2, R5_3, R5_4, R5_5, R5_6, R5_7, R5_8, R5_9, R5_10, R5_11, R5_12, R5_13, R5_14, Try.f5, lpL5_0, lpL5_1, lpM5_0, lpM5_1, M5_0, M5_1, q1, q2, q7, q8, Hb, hb2]
    refine ⟨P, by simp [q1], by simp [q2], by simp [q7], ?_⟩
    simp [hb2]
    exact I0.keep (fun _ _ => rfl) (by omega)
def SpO (H0 : Hp) (tk0 w h : Nat) (l : List Int) (r : Int) (idb vrb idc vrc y : Nat) (s : St) : Prop := ∃ P, s.ρ 1 = .c (.int .i64 r) ∧ s.ρ 2 = .p idb vrb 3 0 0 ∧ s.ρ 7 = .c (.int .i64 (y : Int)) ∧ PkN H0 tk0 w h l r idb vrb idc vrc (y * w) (s.ρ 6) P s.H s.tick
def SpE (H0 : Hp) (tk0 w h : Nat) (l : List Int) (r : Int) (idb vrb idc vrc : Nat) (s : St) : Prop := ∃ P, PkN H0 tk0 w h l r idb vrb idc vrc (h * w) (s.ρ 6) P s.H s.tick
theorem sp_outer (k : Nat) (H0 : Hp) (tk0 w h : Nat) (l : List Int) (r : Int) (idb vrb idc vrc : Nat) (hg : goodB w h l = true) (hr0 : 0 ≤ r) (hr3 : r ≤ 3) (hk : 700 ≤ k) :
    ∀ st, SpO H0 tk0 w h l r idb vrb idc vrc 0 st → ∃ s, loopRun (fun st => runCode C (callK C k) k (K 5) L5_0 1 st) [1, 2, 6, 7, 999] k st = some (.ex 0, s) ∧ SpE H0 tk0 w h l r idb vrb idc vrc s := by
  obtain ⟨s1, n1, cl1, k1⟩ := good_length hg
  obtain ⟨_, _, p1, p2, p3, p4⟩ := shape_area s1
  refine loopHas (body := fun st => runCode C (callK C k) k (K 5) L5_0 1 st) (keep := [1, 2, 6, 7, 999]) (.ex 0) (SpE H0 tk0 w h l r idb vrb idc vrc)
    (fun y st => SpO H0 tk0 w h l r idb vrb idc vrc y st) h k (by omega) ?_ ?_
  · rintro y st next hy ⟨P, q1, q2, q7, I⟩ hn
    have hI := sp_inner k H0 tk0 w h l r idb vrb idc vrc y hg hr0 hr3 hk hy
    have I0 := I
    obtain ⟨Hb, Hc, lb, hbm, lc, N, pt, old, nw, no, le⟩ := I
    have hb2 : (gc [1, 2, 6, 7, 999] st).H = st.H := gc_all _ _ (by decide)
    have hy2 : (y : Int) < (h : Int) := by omega
    have wy : IntKind.i64.wrap ((y : Int) + 1) = (y : Int) + 1 := wrap_small (by omega) (by omega)
    simp [L5_0, R5_0, R5_1, R5_2, R5_3, R5_4, R5_5, R5_6, R5_7, R5_8, R5_9, R5_10, R5_11, R5_12, R5_13, R5_14, Try.f5, lpL5_0, lpL5_1, lpM5_0, lpM5_1, q1, q2, q7, Hb, hb2, hy2]
    generalize hr : loopRun _ _ _ _ = res
    obtain ⟨s2, rfl, P', d1, d2, d7, I'⟩ := loop_at hI hr ⟨P, by simp [q1], by simp [q2], by simp [q7], by simp, by simp; exact I0.keep (fun _ _ => rfl) (by omega)⟩
    simp [R5_0, R5_1, R5_2, R5_3, R5_4, R5_5, R5_6, R5_7, R5_8, R5_9, R5_10, R5_11, R5_12, R5_13, R5_14, Try.f5, lpL5_0, lpL5_1, lpM5_0, lpM5_1, M5_0, M5_1, d7, wy]
    refine hn _ ⟨P', by simp [d1], by simp [d2], by simp, ?_⟩
    simp
    rw [Nat.succ_mul]
    exact I'.keep (fun _ _ => rfl) (by omega)
  · rintro st next ⟨P, q1, q2, q7, I⟩
    have I0 := I
    obtain ⟨Hb, Hc, lb, hbm, lc, N, pt, old, nw, no, le⟩ := I
    have hb2 : (gc [1, 2, 6, 7, 999] st).H = st.H := gc_all _ _ (by decide)
    simp [L5_0, R5_0, R5_1, R5_2, R5_3, R5_4, R5_5, R5_6, R5_7, R5_8, R5_9, R5_10, R5_11, R5_12, R5_13, R5_14, Try.f5, lpL5_0, lpL5_1, lpM5_0, lpM5_1, M5_0, M5_1, q1, q2, q7, Hb, hb2]
    refine ⟨P, ?_⟩
    simp [hb2]
    exact I0.keep (fun _ _ => rfl) (by omega)
theorem i_specPeak (k : Nat) (w h : Nat) (l : List Int) (r : Int) (idc vrc : Nat) (hg : goodB w h l = true) (hr0 : 0 ≤ r) (hr3 : r ≤ 3) (hk : 4000 ≤ k) (H : Hp) (tick : Nat) (ht : 1 ≤ tick) (lc : idc < Bt tick) (Hc : H idc = some (vrc, intsO l)) :
    ∃ v P H' tk', (callK C (k + 1)).inl 5 [.ag [.c (.int .i64 w), .c (.int .i64 h), .s idc vrc 1 0 l.length], .c (.int .i64 r)] H tick = some (.tp [v, .c (.bool true)], H', tk') ∧ PkR H tick w h l r v P H' tk' := by
  have hL := fun idb vrb => sp_outer k H tick w h l r idb vrb idc vrc hg hr0 hr3 (by omega)
  obtain ⟨s1, n1, cl1, k1⟩ := good_length hg
  obtain ⟨_, _, p1, p2, p3, p4⟩ := shape_area s1
  have hwh : l.length = w * h := by
    have : ((w * h : Nat) : Int) = (w : Int) * (h : Int) := Int.natCast_mul w h
    omega
  have hx := FR_lo 0 tick 1
  have hx2 := FR_hi 0 tick 1 (by omega)
  have hz := FR_lo 1 (tick + 1) 1
  have hz2 := FR_hi 1 (tick + 1) 1 (by omega)
  have hm1 := Bt_mono ht
  have hm2 : Bt (tick + 1) ≤ Bt (tick + 1 + 1) := Bt_mono (by omega)
  have hm6 : Bt tick ≤ Bt (tick + 1) := Bt_mono (by omega)
  rw [callI_fn F5 code5]
  have hG := c_l2Good k true (w : Int) (h : Int) l (by omega)
  have hI := fun x a b => c_l1In k x a b (by omega)
  rw [hg] at hG
  simp [fldV] at hG
  simp [intsO] at Hc
  have e1 : ¬ idc = 16 * (FR 0 tick * 64 + 0 + 1) := by omega
  have e2 : ¬ idc = 16 * (FR 0 tick * 64 + 1) := by omega
  have e3 : ¬ idc = 16 * (FR 1 (tick + 1) * 64 + 1) := by omega
  have e4 : ¬ 16 * (FR 0 tick * 64 + 1) = 16 * (FR 1 (tick + 1) * 64 + 1) := by omega
  have e5 : ¬ FR 0 tick * 64 + 1 = FR 1 (tick + 1) * 64 + 1 := by omega
  have e6 : ¬ FR 0 tick * 64 = FR 1 (tick + 1) * 64 := by omega
  have e7 : ¬ FR 0 tick = FR 1 (tick + 1) := by omega
  simp [R5_0, R5_1, R5_2, R5_3, R5_4, R5_5, R5_6, R5_7, R5_8, R5_9, R5_10, R5_11, R5_12, R5_13, R5_14, Try.f5, lpL5_0, lpL5_1, lpM5_0, lpM5_1, e1, e2, e3, e4, e5, e6, e7, hG, hI, hr0, hr3, Hc, ints_take]
  generalize hr : loopRun _ _ _ _ = res
  have hm3 : Bt (tick + 1 + 1) ≤ Bt (tick + 1 + 1 + 1 + 1) := Bt_mono (by omega)
  have I0 : PkN H tick w h l r (16 * (FR 0 tick * 64 + 1)) tick idc vrc 0 (.s (16 * (FR 1 (tick + 1) * 64 + 1)) (tick + 1) 1 0 0) [] (putH (putH H (16 * (FR 0 tick * 64 + 1)) (some (tick, ⟨29, 3, false, [[.c (.int .i64 (w : Int)), .c (.int .i64 (h : Int)), .s idc vrc 1 0 l.length]]⟩))) (16 * (FR 1 (tick + 1) * 64 + 1)) (some (tick + 1, ⟨22, 1, false, []⟩))) (tick + 1 + 1 + 1 + 1) := by
    refine ⟨by simp [putH_app, e4, e7], by simp [putH_app, e2, e3, Hc, intsO], by omega, by omega, by omega, ⟨by simp, by simp, .inl ⟨rfl, .inr ⟨_, _, by omega, rfl, by simp [putH_app]⟩⟩⟩, by simp [pts], ?_, by simp, ?_, by omega⟩
    · intro id hid
      have e8 : ¬ id = 16 * (FR 0 tick * 64 + 1) := by omega
      have e9 : ¬ id = 16 * (FR 1 (tick + 1) * 64 + 1) := by omega
      simp [putH_app, e8, e9]
    · intro id vr n e
      simp only [V.s.injEq] at e
      omega
  obtain ⟨s2, rfl, P, R⟩ := loop_at (hL (16 * (FR 0 tick * 64 + 1)) tick) hr ⟨[], by simp, by simp, by simp, by simpa using I0⟩
  obtain ⟨Hb', Hc', lb, hbm, lc', N, pt, old, nw, no, le⟩ := R
  have hm5 : Bt s2.tick ≤ Bt (s2.tick + 1) := Bt_mono (by omega)
  simp [R5_0, R5_1, R5_2, R5_3, R5_4, R5_5, R5_6, R5_7, R5_8, R5_9, R5_10, R5_11, R5_12, R5_13, R5_14, Try.f5, lpL5_0, lpL5_1, lpM5_0, lpM5_1, M5_0, M5_1, finI]
  exact ⟨_, P, _, _, ⟨rfl, rfl, rfl⟩, N.mono (fun _ _ => rfl) hm5, by rw [pt, hwh, Nat.mul_comm], old, nw, no, by omega⟩
/-- .. and when the field is none, or the radius. -/
theorem i_specPeakN (k : Nat) (w h : Int) (l : List Int) (r : Int) (idc vrc : Nat) (hg : (goodB w h l && (decide (0 ≤ r) && decide (r ≤ 3))) = false) (hk : 4000 ≤ k) (H : Hp) (tick : Nat) (ht : 1 ≤ tick) (lc : idc < Bt tick) (Hc : H idc = some (vrc, intsO l)) :
    ∃ v H' tk', (callK C (k + 1)).inl 5 [.ag [.c (.int .i64 w), .c (.int .i64 h), .s idc vrc 1 0 l.length], .c (.int .i64 r)] H tick = some (.tp [v, .c (.bool false)], H', tk') ∧ NS H' v [] (Bt tk') ∧ (∀ id vr n, v = .s id vr 1 0 n → Bt tick ≤ id) ∧ (∀ id, id < Bt tick → H' id = H id) ∧ tick ≤ tk' := by
  have hx := FR_lo 0 tick 1
  have hx2 := FR_hi 0 tick 1 (by omega)
  have hz := FR_lo 1 (tick + 1) 1
  have hz2 := FR_hi 1 (tick + 1) 1 (by omega)
  have hm6 : Bt tick ≤ Bt (tick + 1) := Bt_mono (by omega)
  have e1 : ¬ idc = 16 * (FR 0 tick * 64 + 0 + 1) := by omega
  have e2 : ¬ idc = 16 * (FR 0 tick * 64 + 1) := by omega
  have e3 : ¬ idc = 16 * (FR 1 (tick + 1) * 64 + 1) := by omega
  have e4 : ¬ 16 * (FR 0 tick * 64 + 1) = 16 * (FR 1 (tick + 1) * 64 + 1) := by omega
  have e7 : ¬ FR 0 tick = FR 1 (tick + 1) := by omega
  rw [callI_fn F5 code5]
  have hG := c_l2Good k true w h l (by omega)
  have hI := fun x a b => c_l1In k x a b (by omega)
  simp [fldV] at hG
  simp [intsO] at Hc
  cases hc : goodB w h l
  · rw [hc] at hG
    simp [R5_0, R5_1, R5_2, R5_3, R5_4, R5_5, R5_6, R5_7, R5_8, R5_9, R5_10, R5_11, R5_12, R5_13, R5_14, Try.f5, lpL5_0, lpL5_1, lpM5_0, lpM5_1, e1, e2, e3, e4, e7, hG, hI, Hc, ints_take, finI, undef]
    refine ⟨_, _, _, ⟨rfl, rfl, rfl⟩, ⟨by simp, by simp, .inl ⟨rfl, .inr ⟨_, _, ?_, rfl, by simp [putH_app]⟩⟩⟩, ?_, ?_, by omega⟩
    · have := Bt_mono (show tick + 1 + 1 ≤ tick + 1 + 1 + 1 + 1 by omega)
      omega
    · intro id vr n e
      simp only [V.s.injEq] at e
      omega
    · intro id hid
      have e8 : ¬ id = 16 * (FR 0 tick * 64 + 1) := by omega
      have e9 : ¬ id = 16 * (FR 1 (tick + 1) * 64 + 1) := by omega
      simp [putH_app, e8, e9]
  · rw [hc] at hG hg
    rw [Bool.true_and] at hg
    simp [R5_0, R5_1, R5_2, R5_3, R5_4, R5_5, R5_6, R5_7, R5_8, R5_9, R5_10, R5_11, R5_12, R5_13, R5_14, Try.f5, lpL5_0, lpL5_1, lpM5_0, lpM5_1, e1, e2, e3, e4, e7, hG, hI, hg, Hc, ints_take, finI, undef]
    refine ⟨_, _, _, ⟨rfl, rfl, rfl⟩, ⟨by simp, by simp, .inl ⟨rfl, .inr ⟨_, _, ?_, rfl, by simp [putH_app]⟩⟩⟩, ?_, ?_, by omega⟩
    · have := Bt_mono (show tick + 1 + 1 ≤ tick + 1 + 1 + 1 + 1 by omega)
      omega
    · intro id vr n e
      simp only [V.s.injEq] at e
      omega
    · intro id hid
      have e8 : ¬ id = 16 * (FR 0 tick * 64 + 1) := by omega
      have e9 : ¬ id = 16 * (FR 1 (tick + 1) * 64 + 1) := by omega
      simp [putH_app, e8, e9]

end Go.Proofs.Ytemkckldfmpplaa.Eng
