/- A deterministic reading of Go code over plain data: what functions of the program compute. No conditions. -/
import Derived.Test.YtalpgpjhloohfaaDoorLmbase
import Derived.Test.YtalpgpjhloohfaaDoorLmimpl
import Derived.Test.YtalpgpjhloohfaaDoorLmgood
import Derived.Test.YtalpgpjhloohfaaDoorLmitoa
import Derived.Test.YtalpgpjhloohfaaDoorLmappendck
import Derived.Test.YtalpgpjhloohfaaDoorLmquantity
import Derived.Test.YtalpgpjhloohfaaDoorLmsplit
import Derived.Test.YtalpgpjhloohfaaDoorLmnumtext
import Derived.Test.YtalpgpjhloohfaaDoorLmjoins
import Derived.Test.YtalpgpjhloohfaaDoorLmjoinf
import Derived.Test.YtalpgpjhloohfaaDoorLmcuts
import Derived.Test.YtalpgpjhloohfaaDoorLmsplitf
import Derived.Test.YtalpgpjhloohfaaDoorLmpfield
import Derived.Test.YtalpgpjhloohfaaDoorLmpfield2
import Derived.Test.YtalpgpjhloohfaaDoorLmfield
import Derived.Test.YtalpgpjhloohfaaDoorLmparsef
import Derived.Test.YtalpgpjhloohfaaDoorLmparsef2
import Derived.Test.YtalpgpjhloohfaaDoorLmparsef3
import Derived.Test.YtalpgpjhloohfaaDoorLmrepeat
import Derived.Test.YtalpgpjhloohfaaDoorLmfieldby
import Derived.Test.YtalpgpjhloohfaaDoorLml2text
import Derived.Test.YtalpgpjhloohfaaDoorLmparses
import Derived.Test.YtalpgpjhloohfaaDoorEngT
import Derived.Lib.IndexLaws
namespace Go.Proofs.YtalpgpjhloohfaaDoor.Eng
open Go Go.Proofs
set_option maxRecDepth 100000
set_option maxHeartbeats 2000000
set_option linter.unusedSimpArgs false
set_option linter.unusedVariables false
attribute [local simp] finK fin1 hpOf xi renQ isRoot runCode runOps Eng.step wantedV astep val ofO made loadV storeV find V.cells bin binT binA numT numFs eqCells un1 setAt fieldAddrV fieldV indexAddrV indexV bounds sliceV convV lenV foldV max2V min2V callO bor rdsO wrsO seen_none okD_none loops keepIds resV resultsV St.ev TK.agg refs refsL refsO V.one V.isC Value.oneCell' ren renL renO noTag noTagL noTagR noTagO nodup mapO passV frs psi refsR newD loopNext opsAt idx flatAt rootOf backR newsV appendV copyV clearV strV bytesOf nilCmp buildV fillF chunk
attribute [local simp] cT cF cX cWR cOW cK X ints_length ints_get ints_getElem ints_drop ints_take ints_append ints_nil ints_set
attribute [local simp] ints_replicate
attribute [local simp] putV_some putV_none putH_app applyD_nil applyD_cons seen_app gc_ρ gc_H gc_tick st0_ρ st0_H st0_tick retV callRo callV_if borL_nil borL_cons ints_snoc take_self callWr cutH_app findQ afterV exportV_0 exportV_n okD_nil okD_cons sub_seq0 sub_seq1 sub_cond0 sub_cond1 sub_block sub_loop sub_nil young_far young_none hidW_nil mayW_nil pairs okI ok_0 ok_1 ok_2
attribute [local simp] T3 T4 T5 T9 T22 T28 T57 T70 T72
attribute [local simp] young_near clo cloF Region.binds Nat.testBit hidW declW mayW List.findIdx?_cons
def PsI (s : List UInt8) (L ws : List (List UInt8)) (n W j tk8 : Nat) (acc : List Int) (i : Nat) (st : St) : Prop := ∃ a, rowP (ws.take i) = some a ∧ PsX s L n W (acc ++ a) st ∧ st.ρ 7 = .c (.int .i64 (j : Int)) ∧ st.ρ 8 = .s 9296 tk8 1 0 ws.length ∧ st.ρ 9 = .c (.int .i64 (i : Int)) ∧ st.H 9296 = some (tk8, strsO ws)
theorem ps_step (k : Nat) (s : List UInt8) (L ws : List (List UInt8)) (n W j tk8 : Nat) (acc : List Int) (i : Nat) (hi : i < ws.length) (hacc : acc.length + ws.length ≤ 10000000) (hwb : ∀ w ∈ ws, w.length ≤ 1000) (hk : 300 ≤ k) (st : St) (next : St → Option (Ex × St)) (hI : PsI s L ws n W j tk8 acc i st) :
    (∃ st', loopNext (runCode C (callK C k) k (K 59) L59_1 2 (gc [0, 2, 4, 5, 6, 7, 8, 9] st)) next = next st' ∧ PsI s L ws n W j tk8 acc (i + 1) st') ∨
    (rowP (ws.take (i + 1)) = none ∧ ∃ s', loopNext (runCode C (callK C k) k (K 59) L59_1 2 (gc [0, 2, 4, 5, 6, 7, 8, 9] st)) next = some (.ret, s') ∧ PfN s') := by
  obtain ⟨a, ha, hP, q7, q8, q9, H8⟩ := hI
  have hal := rowP_len ha
  rw [List.length_take] at hal
  have ht := rowP_take ws i hi
  rw [ha] at ht
  rcases ps_round k s L ws n W j tk8 acc a i hi (by omega) (by omega) hwb hk st next hP (by omega) q7 q8 q9 H8 with ⟨x, hn, st', e, h1, h2, h3, h4, h5⟩ | ⟨hn, s', e, h1⟩
  · left
    rw [hn] at ht
    exact ⟨st', e, a ++ [x], ht, by rw [← List.append_assoc]; exact h1, h2, h3, h4, h5⟩
  · right
    rw [hn] at ht
    exact ⟨ht, s', e, h1⟩
theorem ps_inner (k : Nat) (s : List UInt8) (L ws : List (List UInt8)) (n W j tk8 : Nat) (acc : List Int) (hacc : acc.length + ws.length ≤ 10000000) (hwb : ∀ w ∈ ws, w.length ≤ 1000) (hk : 300 + ws.length ≤ k) :
    (∀ a, rowP ws = some a → ∀ st, PsI s L ws n W j tk8 acc 0 st → ∃ s', loopRun (fun st => runCode C (callK C k) k (K 59) L59_1 2 st) [0, 2, 4, 5, 6, 7, 8, 9] k st = some (.ex 2, s') ∧ (PsX s L n W (acc ++ a) s' ∧ s'.ρ 7 = .c (.int .i64 (j : Int)))) ∧
    (rowP ws = none → ∀ st, PsI s L ws n W j tk8 acc 0 st → ∃ s', loopRun (fun st => runCode C (callK C k) k (K 59) L59_1 2 st) [0, 2, 4, 5, 6, 7, 8, 9] k st = some (.ret, s') ∧ PfN s') := by
  constructor
  · intro a ha
    exact loopHas (body := (fun st => runCode C (callK C k) k (K 59) L59_1 2 st)) (keep := [0, 2, 4, 5, 6, 7, 8, 9]) (.ex 2) (fun st => PsX s L n W (acc ++ a) st ∧ st.ρ 7 = .c (.int .i64 (j : Int))) (PsI s L ws n W j tk8 acc) ws.length k (by omega)
      (by
        intro i st next hi hI hx
        rcases ps_step k s L ws n W j tk8 acc i hi hacc hwb (by omega) st next hI with ⟨st', e, h⟩ | ⟨hn, _⟩
        · rw [e]; exact hx st' h
        · obtain ⟨b, hb⟩ := rowP_pre ha (ws.length - (i + 1)) (i + 1) (by omega)
          rw [hn] at hb; cases hb)
      (by
        rintro st next ⟨a', ha', ⟨q0, q2, q4, q5, q6, H16, H10, H3, v, H4, hG⟩, q7, q8, q9, H8⟩
        rw [List.take_length, ha] at ha'
        obtain rfl := Option.some.inj ha'
        simp [strsO] at H8 H3
        simp [fzO] at H16 H10
        rcases hG with ⟨hb, rfl⟩ | ⟨hb, tk, rfl, hH⟩
        · simp [L59_1, R59_0, R59_1, R59_2, R59_3, R59_4, R59_5, R59_6, R59_7, R59_8, R59_9, R59_10, R59_11, R59_12, R59_13, R59_14, R59_15, R59_16, R59_17, R59_18, R59_19, R59_20, R59_21, R59_22, R59_23, R59_24, R59_25, Tryd.f59, lpL59_0, lpL59_1, lpM59_0, lpM59_1, M59_0, M59_1, q0, q2, q4, q5, q6, q7, q8, q9, H16, H10, H3, H4, H8, strs_length]
          exact ⟨by simp [q0], by simp [q2], by simp [q4], by simp [q5], by simp [q6], by simp [q0, q2, q4, q5, q6, q7, q8, q9, H16, H10, H3, H4, fzO, strsO, H8], by simp [q0, q2, q4, q5, q6, q7, q8, q9, H16, H10, H3, H4, fzO, strsO, H8], by simp [q0, q2, q4, q5, q6, q7, q8, q9, H16, H10, H3, H4, fzO, strsO, H8], _, by simp [q0, q2, q4, q5, q6, q7, q8, q9, H16, H10, H3, H4, fzO, strsO, H8] <;> rfl, .inl ⟨hb, rfl⟩⟩
        · simp [intsO] at hH
          simp [L59_1, R59_0, R59_1, R59_2, R59_3, R59_4, R59_5, R59_6, R59_7, R59_8, R59_9, R59_10, R59_11, R59_12, R59_13, R59_14, R59_15, R59_16, R59_17, R59_18, R59_19, R59_20, R59_21, R59_22, R59_23, R59_24, R59_25, Tryd.f59, lpL59_0, lpL59_1, lpM59_0, lpM59_1, M59_0, M59_1, q0, q2, q4, q5, q6, q7, q8, q9, H16, H10, H3, H4, H8, hH, strs_length]
          exact ⟨by simp [q0], by simp [q2], by simp [q4], by simp [q5], by simp [q6], by simp [q0, q2, q4, q5, q6, q7, q8, q9, H16, H10, H3, H4, fzO, strsO, H8, hH], by simp [q0, q2, q4, q5, q6, q7, q8, q9, H16, H10, H3, H4, fzO, strsO, H8, hH], by simp [q0, q2, q4, q5, q6, q7, q8, q9, H16, H10, H3, H4, fzO, strsO, H8, hH], _, by simp [q0, q2, q4, q5, q6, q7, q8, q9, H16, H10, H3, H4, fzO, strsO, H8, hH] <;> rfl, .inr ⟨hb, _, rfl, by simp [q0, q2, q4, q5, q6, q7, q8, q9, H16, H10, H3, H4, fzO, strsO, H8, hH, intsO]⟩⟩)
  · intro ha
    exact loopHas (body := (fun st => runCode C (callK C k) k (K 59) L59_1 2 st)) (keep := [0, 2, 4, 5, 6, 7, 8, 9]) .ret PfN (PsI s L ws n W j tk8 acc) ws.length k (by omega)
      (by
        intro i st next hi hI hx
        rcases ps_step k s L ws n W j tk8 acc i hi hacc hwb (by omega) st next hI with ⟨st', e, h⟩ | ⟨_, s', e, h⟩
        · rw [e]; exact hx st' h
        · rw [e]; exact ⟨s', rfl, h⟩)
      (by
        rintro st next ⟨a', ha', _⟩
        rw [List.take_length, ha] at ha'
        cases ha')
theorem ps_line (k : Nat) (s : List UInt8) (L : List (List UInt8)) (n W j : Nat) (acc : List Int) (hj : j < L.length) (hjn : j < n) (hL : L.length ≤ 1000) (hnL : n ≤ 1000) (hb : ∀ x ∈ L, x.length ≤ 999) (hacc : acc.length ≤ 5000000) (hk : 3000 ≤ k) (st : St) (next : St → Option (Ex × St)) (hP : PsX s L n W acc st) (q7 : st.ρ 7 = .c (.int .i64 (j : Int))) :
    (∃ W' acc', stS (some (W, acc)) L[j] = some (W', acc') ∧ ∃ st', loopNext (runCode C (callK C k) k (K 59) L59_0 1 (gc [0, 2, 4, 5, 6, 7] st)) next = next st' ∧ PsX s L n W' acc' st' ∧ st'.ρ 7 = .c (.int .i64 ((j + 1 : Nat) : Int))) ∨
    (stS (some (W, acc)) L[j] = none ∧ ∃ s', loopNext (runCode C (callK C k) k (K 59) L59_0 1 (gc [0, 2, 4, 5, 6, 7] st)) next = some (.ret, s') ∧ PfN s') := by
  obtain ⟨q0, q2, q4, q5, q6, H16, H10, H3, v, H4, hG⟩ := hP
  have nget := strs_get L j hj
  have hxl := hb _ (List.getElem_mem hj)
  have hS := c_l1Split k L[j] 32 (by omega) (by omega)
  have hws := word_short L[j] 32
  have hwl := split_short L[j] 32
  have hwn := wrap_next hjn (by omega : n ≤ 9000000000000000000)
  simp only [stS]
  obtain ⟨ws, hw⟩ : ∃ ws, splitL L[j] 32 = ws := ⟨_, rfl⟩
  rw [hw] at hS hws hwl ⊢
  have hin := ps_inner k s L ws n ws.length j (st.tick + 1) acc (by omega) (fun w hw => by have := hws w hw; omega) (by omega)
  simp [strsO] at H3 hS
  simp [fzO] at H16 H10
  rcases hG with ⟨hb, rfl⟩ | ⟨hb, tk, rfl, hH⟩
  · skip
    simp [L59_0, R59_0, R59_1, R59_2, R59_3, R59_4, R59_5, R59_6, R59_7, R59_8, R59_9, R59_10, R59_11, R59_12, R59_13, R59_14, R59_15, R59_16, R59_17, R59_18, R59_19, R59_20, R59_21, R59_22, R59_23, R59_24, R59_25, Tryd.f59, lpL59_0, lpL59_1, lpM59_0, lpM59_1, undef, q0, q2, q4, q5, q6, q7, H16, H10, H3, H4, hj, hjn, nget, strs_at, strs_length, hS]
    generalize hr : loopRun _ _ _ _ = res
    cases hrp : rowP ws with
    | none =>
      right
      obtain ⟨s1, rfl, f1⟩ := loop_at (hin.2 hrp) hr ⟨[], rfl, ⟨by simp [q0], by simp [q2], by simp [q4], by simp [q5], by simp [q6], by simp [q0, q2, q4, q5, q6, q7, H16, H10, H3, H4, fzO, strsO], by simp [q0, q2, q4, q5, q6, q7, H16, H10, H3, H4, fzO, strsO], by simp [q0, q2, q4, q5, q6, q7, H16, H10, H3, H4, fzO, strsO], _, by simp [q0, q2, q4, q5, q6, q7, H16, H10, H3, H4, fzO, strsO] <;> rfl, .inl ⟨by simp [hb], rfl⟩⟩, by simp [q7], by simp, by simp, by simp [q0, q2, q4, q5, q6, q7, H16, H10, H3, H4, fzO, strsO]⟩
      simp
      exact f1
    | some a =>
      left
      obtain ⟨s1, rfl, ⟨p0, p2, p4, p5, p6, P16, P10, P3, v, P4, pG⟩, p7⟩ := loop_at (hin.1 a hrp) hr ⟨[], rfl, ⟨by simp [q0], by simp [q2], by simp [q4], by simp [q5], by simp [q6], by simp [q0, q2, q4, q5, q6, q7, H16, H10, H3, H4, fzO, strsO], by simp [q0, q2, q4, q5, q6, q7, H16, H10, H3, H4, fzO, strsO], by simp [q0, q2, q4, q5, q6, q7, H16, H10, H3, H4, fzO, strsO], _, by simp [q0, q2, q4, q5, q6, q7, H16, H10, H3, H4, fzO, strsO] <;> rfl, .inl ⟨by simp [hb], rfl⟩⟩, by simp [q7], by simp, by simp, by simp [q0, q2, q4, q5, q6, q7, H16, H10, H3, H4, fzO, strsO]⟩
      refine ⟨_, _, rfl, ?_⟩
      simp [R59_0, R59_1, R59_2, R59_3, R59_4, R59_5, R59_6, R59_7, R59_8, R59_9, R59_10, R59_11, R59_12, R59_13, R59_14, R59_15, R59_16, R59_17, R59_18, R59_19, R59_20, R59_21, R59_22, R59_23, R59_24, R59_25, Tryd.f59, lpL59_0, lpL59_1, lpM59_0, lpM59_1, M59_0, M59_1, p0, p2, p4, p5, p6, p7, hwn]
      exact ⟨_, rfl, ⟨by simp [p0], by simp [p2], by simp [p4], by simp [p5], by simp [p6], by simp [P16], by simp [P10], by simp [P3], v, by simp [P4], by simpa using pG⟩, by simp⟩
  · simp [intsO] at hH
    simp [L59_0, R59_0, R59_1, R59_2, R59_3, R59_4, R59_5, R59_6, R59_7, R59_8, R59_9, R59_10, R59_11, R59_12, R59_13, R59_14, R59_15, R59_16, R59_17, R59_18, R59_19, R59_20, R59_21, R59_22, R59_23, R59_24, R59_25, Tryd.f59, lpL59_0, lpL59_1, lpM59_0, lpM59_1, undef, q0, q2, q4, q5, q6, q7, H16, H10, H3, H4, hH, hj, hjn, nget, strs_at, strs_length, hS]
    generalize hr : loopRun _ _ _ _ = res
    cases hrp : rowP ws with
    | none =>
      right
      obtain ⟨s1, rfl, f1⟩ := loop_at (hin.2 hrp) hr ⟨[], rfl, ⟨by simp [q0], by simp [q2], by simp [q4], by simp [q5], by simp [q6], by simp [q0, q2, q4, q5, q6, q7, H16, H10, H3, H4, fzO, strsO, hH], by simp [q0, q2, q4, q5, q6, q7, H16, H10, H3, H4, fzO, strsO, hH], by simp [q0, q2, q4, q5, q6, q7, H16, H10, H3, H4, fzO, strsO, hH], _, by simp [q0, q2, q4, q5, q6, q7, H16, H10, H3, H4, fzO, strsO, hH] <;> rfl, .inr ⟨by simpa using hb, _, by simp <;> rfl, by simp [q0, q2, q4, q5, q6, q7, H16, H10, H3, H4, fzO, strsO, hH, intsO]⟩⟩, by simp [q7], by simp, by simp, by simp [q0, q2, q4, q5, q6, q7, H16, H10, H3, H4, fzO, strsO, hH]⟩
      simp
      exact f1
    | some a =>
      left
      obtain ⟨s1, rfl, ⟨p0, p2, p4, p5, p6, P16, P10, P3, v, P4, pG⟩, p7⟩ := loop_at (hin.1 a hrp) hr ⟨[], rfl, ⟨by simp [q0], by simp [q2], by simp [q4], by simp [q5], by simp [q6], by simp [q0, q2, q4, q5, q6, q7, H16, H10, H3, H4, fzO, strsO, hH], by simp [q0, q2, q4, q5, q6, q7, H16, H10, H3, H4, fzO, strsO, hH], by simp [q0, q2, q4, q5, q6, q7, H16, H10, H3, H4, fzO, strsO, hH], _, by simp [q0, q2, q4, q5, q6, q7, H16, H10, H3, H4, fzO, strsO, hH] <;> rfl, .inr ⟨by simpa using hb, _, by simp <;> rfl, by simp [q0, q2, q4, q5, q6, q7, H16, H10, H3, H4, fzO, strsO, hH, intsO]⟩⟩, by simp [q7], by simp, by simp, by simp [q0, q2, q4, q5, q6, q7, H16, H10, H3, H4, fzO, strsO, hH]⟩
      refine ⟨_, _, rfl, ?_⟩
      simp [R59_0, R59_1, R59_2, R59_3, R59_4, R59_5, R59_6, R59_7, R59_8, R59_9, R59_10, R59_11, R59_12, R59_13, R59_14, R59_15, R59_16, R59_17, R59_18, R59_19, R59_20, R59_21, R59_22, R59_23, R59_24, R59_25, Tryd.f59, lpL59_0, lpL59_1, lpM59_0, lpM59_1, M59_0, M59_1, p0, p2, p4, p5, p6, p7, hwn]
      exact ⟨_, rfl, ⟨by simp [p0], by simp [p2], by simp [p4], by simp [p5], by simp [p6], by simp [P16], by simp [P10], by simp [P3], v, by simp [P4], by simpa using pG⟩, by simp⟩

end Go.Proofs.YtalpgpjhloohfaaDoor.Eng
