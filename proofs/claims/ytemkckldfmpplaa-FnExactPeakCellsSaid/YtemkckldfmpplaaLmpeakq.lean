/- A deterministic reading of Go code over plain data: what functions of the program compute. No conditions. -/
import Derived.Test.YtemkckldfmpplaaLmbase
import Derived.Test.YtemkckldfmpplaaLmimpl
import Derived.Test.YtemkckldfmpplaaLmgood
import Derived.Test.YtemkckldfmpplaaLmnbh
import Derived.Test.YtemkckldfmpplaaLmpeakp
import Derived.Test.YtemkckldfmpplaaLmneigh
import Derived.Test.YtemkckldfmpplaaLmfield
import Derived.Test.YtemkckldfmpplaaLmnested
import Derived.Test.YtemkckldfmpplaaLmpeaki
import Derived.Test.YtemkckldfmpplaaLmpeakm
import Derived.Test.YtemkckldfmpplaaLmpeako
import Derived.Test.YtemkckldfmpplaaEngT
namespace Go.Proofs.Ytemkckldfmpplaa.Eng
open Go Go.Proofs
set_option maxRecDepth 100000
set_option maxHeartbeats 2000000
set_option linter.unusedSimpArgs false
set_option linter.unusedVariables false
attribute [local simp] finK fin1 hpOf xi renQ isRoot runCode runOps stepX inlOf Eng.step wantedV astep val ofO made loadV storeV find V.cells bin binT binA numT numFs eqCells un1 setAt fieldAddrV fieldV indexAddrV indexV bounds sliceV convV lenV foldV max2V min2V callO bor rdsO wrsO seen_none okD_none loops keepIds resV resultsV St.ev TK.agg refs refsL refsO V.one V.isC Value.oneCell' ren renL renO noTag noTagL noTagR noTagO nodup mapO passV frs psi refsR newD loopNext opsAt idx flatAt rootOf backR newsV appendV copyV clearV strV bytesV bldV bufV selfV bytesOf nilCmp buildV fillF chunk
attribute [local simp] cT cF cX cWR cOW cK cBL X ints_length ints_get ints_getElem ints_drop ints_take ints_append ints_nil ints_set
attribute [local simp] ints_replicate
attribute [local simp] putV_some putV_none putH_app applyD_nil applyD_cons seen_app gc_ρ gc_H gc_tick st0_ρ st0_H st0_tick retV callRo callV_if borL_nil borL_cons ints_snoc take_self callWr cutH_app findQ afterV exportV_0 exportV_n okD_nil okD_cons sub_seq0 sub_seq1 sub_cond0 sub_cond1 sub_block sub_loop sub_nil young_far young_none hidW_nil mayW_nil pairs okI ok_0 ok_1 ok_2
attribute [local simp] T3 T4 T22 T24 T26 T29 T44
attribute [local simp] young_near clo cloF Region.binds Nat.testBit hidW declW mayW List.findIdx?_cons
/-- What is there when impl's rounds are done. -/
structure PkR (H0 : Hp) (tk0 w h : Nat) (l : List Int) (r : Int) (v : V) (P : List (Nat × Nat × List Int)) (H : Hp) (tick : Nat) : Prop where
  N : NS H v P (Bt tick)
  pt : P.map (·.2.2) = pts l w h r l.length
  old : ∀ id, id < Bt tk0 → H id = H0 id
  nw : ∀ p ∈ P, Bt tk0 ≤ p.1
  no : ∀ id vr n, v = .s id vr 1 0 n → Bt tk0 ≤ id
  le : tk0 ≤ tick
def PkS (H0 : Hp) (tk0 w h : Nat) (l : List Int) (r : Int) (s : St) : Prop := ∃ P, PkR H0 tk0 w h l r (s.ρ 6) P s.H s.tick
def PkD (H0 : Hp) (tk0 w h : Nat) (l : List Int) (r : Int) (idb vrb idc vrc : Nat) (s : St) : Prop := ∃ P, PkI H0 tk0 w h l r idb vrb idc vrc 0 P s
theorem pk_loop (k : Nat) (H0 : Hp) (tk0 : Nat) (w h : Nat) (l : List Int) (r : Int) (idb vrb idc vrc : Nat) (hg : goodB w h l = true) (hr0 : 0 ≤ r) (hr3 : r ≤ 3) (hk : 700 ≤ k) :
    ∀ st, PkD H0 tk0 w h l r idb vrb idc vrc st → ∃ s, loopRun (fun st => runCode C (callK C k) k (K 7) L7_0 1 st) [1, 2, 6, 23, 24, 25, 999] k st = some (.ex 0, s) ∧ PkS H0 tk0 w h l r s := by
  obtain ⟨s1, n1, cl1, k1⟩ := good_length hg
  refine loopHas (body := fun st => runCode C (callK C k) k (K 7) L7_0 1 st) (keep := [1, 2, 6, 23, 24, 25, 999]) (.ex 0) (PkS H0 tk0 w h l r)
    (fun i st => ∃ P, PkI H0 tk0 w h l r idb vrb idc vrc i P st) l.length k (by omega) ?_ ?_
  · rintro i st next hi ⟨P, I⟩ hn
    obtain ⟨s, P', e, I'⟩ := pk_round k H0 tk0 w h l r idb vrb idc vrc i P hg hr0 hr3 hk hi st I next
    obtain ⟨s2, e2, r2⟩ := hn s ⟨P', I'⟩
    exact ⟨s2, by rw [e, e2], r2⟩
  · rintro st next ⟨P, I⟩
    obtain ⟨q1, q2, Hb, Hc, lb, hbm, lc, q23, q24, q25, N, pt, old, nw, no, le⟩ := I
    have hb2 : (gc [1, 2, 6, 23, 24, 25, 999] st).H = st.H := gc_all _ _ (by decide)
    have hm : Bt st.tick ≤ Bt (st.tick + 1) := Bt_mono (by omega)
    simp [L7_0, R7_0, R7_1, R7_2, R7_3, R7_4, R7_5, R7_6, R7_7, R7_8, R7_9, R7_10, R7_11, R7_12, R7_13, R7_14, R7_15, R7_16, R7_17, R7_18, Try.f7, lpL7_0, lpL7_1, lpM7_0, lpM7_1, lpM7_2, M7_0, M7_1, M7_2, q24, q25]
    refine ⟨P, ?_, pt, ?_, nw, ?_, by dsimp only; omega⟩
    · simp [hb2]
      exact N.mono (fun _ _ => rfl) hm
    · simpa [hb2] using old
    · simpa using no
theorem i_implPeak (k : Nat) (w h : Nat) (l : List Int) (r : Int) (idc vrc : Nat) (hg : goodB w h l = true) (hr0 : 0 ≤ r) (hr3 : r ≤ 3) (hk : 4000 ≤ k) (H : Hp) (tick : Nat) (ht : 1 ≤ tick) (lc : idc < Bt tick) (Hc : H idc = some (vrc, intsO l)) :
    ∃ v P H' tk', (callK C (k + 1)).inl 7 [.ag [.c (.int .i64 w), .c (.int .i64 h), .s idc vrc 1 0 l.length], .c (.int .i64 r)] H tick = some (.tp [v, .c (.bool true)], H', tk') ∧ PkR H tick w h l r v P H' tk' := by
  have hL := fun idb vrb => pk_loop k H tick w h l r idb vrb idc vrc hg hr0 hr3 (by omega)
  obtain ⟨s1, n1, cl1, k1⟩ := good_length hg
  obtain ⟨_, _, p1, p2, p3, p4⟩ := shape_area s1
  have hx := FR_lo 0 tick 1
  have hx2 := FR_hi 0 tick 1 (by omega)
  have hm1 := Bt_mono ht
  have hm2 : Bt (tick + 1) ≤ Bt (tick + 1 + 1) := Bt_mono (by omega)
  rw [callI_fn F7 code7]
  have hG := c_IsValidField k true (w : Int) (h : Int) l (by omega)
  have hI := fun x a b => c_within k x a b (by omega)
  rw [hg] at hG
  simp [fldV] at hG
  simp [intsO] at Hc
  have e1 : ¬ idc = 16 * (FR 0 tick * 64 + 0 + 1) := by omega
  have e2 : ¬ idc = 16 * (FR 0 tick * 64 + 1) := by omega
  simp [R7_0, R7_1, R7_2, R7_3, R7_4, R7_5, R7_6, R7_7, R7_8, R7_9, R7_10, R7_11, R7_12, R7_13, R7_14, R7_15, R7_16, R7_17, R7_18, Try.f7, lpL7_0, lpL7_1, lpM7_0, lpM7_1, lpM7_2, e1, e2, hG, hI, hr0, hr3, Hc, ints_take]
  generalize hr : loopRun _ _ _ _ = res
  have hm3 : Bt tick ≤ Bt (tick + 1 + 1 + 1 + 1) := Bt_mono (by omega)
  have hm4 : Bt (tick + 1) ≤ Bt (tick + 1 + 1 + 1 + 1) := Bt_mono (by omega)
  obtain ⟨s2, rfl, P, R⟩ := loop_at (hL (16 * (FR 0 tick * 64 + 1)) tick) hr ⟨[], by simp, by simp, by simp [putH_app], by simp [putH_app, e2, Hc, intsO], by dsimp only; omega, by omega, by dsimp only; omega, by simp, by simp, by simp, ⟨by simp, by simp, .inl ⟨rfl, .inl (by simp)⟩⟩, by simp [pts], (fun id hid => by have e3 : ¬ id = 16 * (FR 0 tick * 64 + 1) := by { omega }; simp [putH_app, e3]), by simp, by simp, by dsimp only; omega⟩
  obtain ⟨N, pt, old, nw, no, le⟩ := R
  have hm5 : Bt s2.tick ≤ Bt (s2.tick + 1) := Bt_mono (by omega)
  simp [R7_0, R7_1, R7_2, R7_3, R7_4, R7_5, R7_6, R7_7, R7_8, R7_9, R7_10, R7_11, R7_12, R7_13, R7_14, R7_15, R7_16, R7_17, R7_18, Try.f7, lpL7_0, lpL7_1, lpM7_0, lpM7_1, lpM7_2, M7_0, M7_1, M7_2, finI]
  exact ⟨_, P, _, _, ⟨rfl, rfl, rfl⟩, N.mono (fun _ _ => rfl) hm5, pt, old, nw, no, by omega⟩
/-- .. and when the field is none, or the radius. -/
theorem i_implPeakN (k : Nat) (w h : Int) (l : List Int) (r : Int) (idc vrc : Nat) (hg : (goodB w h l && (decide (0 ≤ r) && decide (r ≤ 3))) = false) (hk : 4000 ≤ k) (H : Hp) (tick : Nat) (ht : 1 ≤ tick) (lc : idc < Bt tick) (Hc : H idc = some (vrc, intsO l)) :
    ∃ H' tk', (callK C (k + 1)).inl 7 [.ag [.c (.int .i64 w), .c (.int .i64 h), .s idc vrc 1 0 l.length], .c (.int .i64 r)] H tick = some (.tp [.c (.slice none 0 0), .c (.bool false)], H', tk') ∧ (∀ id, id < Bt tick → H' id = H id) ∧ tick ≤ tk' := by
  have hx := FR_lo 0 tick 1
  have e1 : ¬ idc = 16 * (FR 0 tick * 64 + 0 + 1) := by omega
  have e2 : ¬ idc = 16 * (FR 0 tick * 64 + 1) := by omega
  rw [callI_fn F7 code7]
  have hG := c_IsValidField k true w h l (by omega)
  have hI := fun x a b => c_within k x a b (by omega)
  simp [fldV] at hG
  simp [intsO] at Hc
  cases hc : goodB w h l
  · rw [hc] at hG
    simp [R7_0, R7_1, R7_2, R7_3, R7_4, R7_5, R7_6, R7_7, R7_8, R7_9, R7_10, R7_11, R7_12, R7_13, R7_14, R7_15, R7_16, R7_17, R7_18, Try.f7, lpL7_0, lpL7_1, lpM7_0, lpM7_1, lpM7_2, e1, e2, hG, hI, Hc, ints_take, finI]
    refine ⟨_, _, ⟨rfl, rfl⟩, ?_, by omega⟩
    intro id hid
    have e3 : ¬ id = 16 * (FR 0 tick * 64 + 1) := by omega
    simp [putH_app, e3]
  · rw [hc] at hG hg
    rw [Bool.true_and] at hg
    simp [R7_0, R7_1, R7_2, R7_3, R7_4, R7_5, R7_6, R7_7, R7_8, R7_9, R7_10, R7_11, R7_12, R7_13, R7_14, R7_15, R7_16, R7_17, R7_18, Try.f7, lpL7_0, lpL7_1, lpM7_0, lpM7_1, lpM7_2, e1, e2, hG, hI, hg, Hc, ints_take, finI]
    refine ⟨_, _, ⟨rfl, rfl⟩, ?_, by omega⟩
    intro id hid
    have e3 : ¬ id = 16 * (FR 0 tick * 64 + 1) := by omega
    simp [putH_app, e3]

end Go.Proofs.Ytemkckldfmpplaa.Eng
