/- A deterministic reading of Go code over plain data: what functions of the program compute. No conditions. -/
import Derived.Test.YtalpgpjhloohfaaDoorLmbase
import Derived.Test.YtalpgpjhloohfaaDoorLmimpl
import Derived.Test.YtalpgpjhloohfaaDoorLmgood
import Derived.Test.YtalpgpjhloohfaaDoorLmitoa
import Derived.Test.YtalpgpjhloohfaaDoorLmappendck
import Derived.Test.YtalpgpjhloohfaaDoorLmquantity
import Derived.Test.YtalpgpjhloohfaaDoorLmsplit
import Derived.Test.YtalpgpjhloohfaaDoorLmnumtext
import Derived.Test.YtalpgpjhloohfaaDoorLmjoins
import Derived.Test.YtalpgpjhloohfaaDoorLmjoinf
import Derived.Test.YtalpgpjhloohfaaDoorLmcuts
import Derived.Test.YtalpgpjhloohfaaDoorLmsplitf
import Derived.Test.YtalpgpjhloohfaaDoorLmpfield
import Derived.Test.YtalpgpjhloohfaaDoorLmpfield2
import Derived.Test.YtalpgpjhloohfaaDoorLmfield
import Derived.Test.YtalpgpjhloohfaaDoorLmparsef
import Derived.Test.YtalpgpjhloohfaaDoorLmparsef2
import Derived.Test.YtalpgpjhloohfaaDoorLmparsef3
import Derived.Test.YtalpgpjhloohfaaDoorLmrepeat
import Derived.Test.YtalpgpjhloohfaaDoorLmfieldby
import Derived.Test.YtalpgpjhloohfaaDoorLml2text
import Derived.Test.YtalpgpjhloohfaaDoorEngT
import Derived.Lib.IndexLaws
namespace Go.Proofs.YtalpgpjhloohfaaDoor.Eng
open Go Go.Proofs
set_option maxRecDepth 100000
set_option maxHeartbeats 2000000
set_option linter.unusedSimpArgs false
set_option linter.unusedVariables false
attribute [local simp] finK fin1 hpOf xi renQ isRoot runCode runOps Eng.step wantedV astep val ofO made loadV storeV find V.cells bin binT binA numT numFs eqCells un1 setAt fieldAddrV fieldV indexAddrV indexV bounds sliceV convV lenV foldV max2V min2V callO bor rdsO wrsO seen_none okD_none loops keepIds resV resultsV St.ev TK.agg refs refsL refsO V.one V.isC Value.oneCell' ren renL renO noTag noTagL noTagR noTagO nodup mapO passV frs psi refsR newD loopNext opsAt idx flatAt rootOf backR newsV appendV copyV clearV strV bytesOf nilCmp buildV fillF chunk
attribute [local simp] cT cF cX cWR cOW cK X ints_length ints_get ints_getElem ints_drop ints_take ints_append ints_nil ints_set
attribute [local simp] ints_replicate
attribute [local simp] putV_some putV_none putH_app applyD_nil applyD_cons seen_app gc_ρ gc_H gc_tick st0_ρ st0_H st0_tick retV callRo callV_if borL_nil borL_cons ints_snoc take_self callWr cutH_app findQ afterV exportV_0 exportV_n okD_nil okD_cons sub_seq0 sub_seq1 sub_cond0 sub_cond1 sub_block sub_loop sub_nil young_far young_none hidW_nil mayW_nil pairs okI ok_0 ok_1 ok_2
attribute [local simp] T3 T4 T5 T9 T22 T28 T57 T70 T72
attribute [local simp] young_near clo cloF Region.binds Nat.testBit hidW declW mayW List.findIdx?_cons
/-- The reference's field being read, and what stands around it. -/
structure PsX (s : List UInt8) (L : List (List UInt8)) (n W : Nat) (acc : List Int) (st : St) : Prop where
  q0 : st.ρ 0 = .c (.string (bs s))
  q2 : st.ρ 2 = .p 16 1 3 0 0
  q4 : st.ρ 4 = .p 1056 2 3 0 0
  q5 : st.ρ 5 = .s 2080 3 1 0 L.length
  q6 : st.ρ 6 = .p 3152 4 3 0 0
  H16 : st.H 16 = some (1, fzO)
  H10 : st.H 1056 = some (2, fzO)
  H3 : st.H 2080 = some (3, strsO L)
  H4 : ∃ v, st.H 3152 = some (4, ⟨28, 3, false, [[.c (.int .i64 (W : Int)), .c (.int .i64 (n : Int)), v]]⟩) ∧ GwP 22616 v st.H acc
theorem ps_round (k : Nat) (s : List UInt8) (L ws : List (List UInt8)) (n W j tk8 : Nat) (acc a : List Int) (i : Nat) (hi : i < ws.length) (hacc : acc.length + i ≤ 10000000) (hwl : ws.length ≤ 10000000) (hwb : ∀ w ∈ ws, w.length ≤ 1000) (hk : 300 ≤ k) (st : St) (next : St → Option (Ex × St)) (hP : PsX s L n W (acc ++ a) st) (ha : a.length = i) (q7 : st.ρ 7 = .c (.int .i64 (j : Int))) (q8 : st.ρ 8 = .s 9296 tk8 1 0 ws.length) (q9 : st.ρ 9 = .c (.int .i64 (i : Int))) (H8 : st.H 9296 = some (tk8, strsO ws)) :
    (∃ x, cellP ws[i] = some x ∧ ∃ st', loopNext (runCode C (callK C k) k (K 59) L59_1 2 (gc [0, 2, 4, 5, 6, 7, 8, 9] st)) next = next st' ∧ PsX s L n W (acc ++ a ++ [x]) st' ∧ st'.ρ 7 = .c (.int .i64 (j : Int)) ∧ st'.ρ 8 = .s 9296 tk8 1 0 ws.length ∧ st'.ρ 9 = .c (.int .i64 ((i + 1 : Nat) : Int)) ∧ st'.H 9296 = some (tk8, strsO ws)) ∨
    (cellP ws[i] = none ∧ ∃ s', loopNext (runCode C (callK C k) k (K 59) L59_1 2 (gc [0, 2, 4, 5, 6, 7, 8, 9] st)) next = some (.ret, s') ∧ PfN s') := by
  obtain ⟨q0, q2, q4, q5, q6, H16, H10, H3, v, H4, hG⟩ := hP
  have nget := strs_get ws i hi
  have hpI := c_l1Read k ws[i] (by have := hwb _ (List.getElem_mem hi); omega) (by omega)
  have hwn := wrap_next hi (by omega : ws.length ≤ 9000000000000000000)
  obtain ⟨w, hw⟩ : ∃ w, ws[i] = w := ⟨_, rfl⟩
  rw [hw] at hpI nget ⊢
  obtain ⟨B, hB⟩ : ∃ B, acc ++ a = B := ⟨_, rfl⟩
  have hBl : B.length ≤ 10000000 := by rw [← hB, List.length_append]; omega
  rw [hB] at hG ⊢
  have n1 : (B.length + 1) * 8 ≤ 140737488355328 := by omega
  have n2 : B.length + 1 ≤ maxLen := by unfold maxLen; omega
  simp [strsO] at H8 H3
  simp [fzO] at H16 H10
  by_cases hd : w = [46]
  · have hcp : cellP w = some (-9999) := by unfold cellP; rw [if_pos hd]
    subst hd
    rcases hG with ⟨hb, rfl⟩ | ⟨hb, tk, rfl, hH⟩
    · subst hb
      left
      refine ⟨-9999, hcp, ?_⟩
      simp [L59_1, R59_0, R59_1, R59_2, R59_3, R59_4, R59_5, R59_6, R59_7, R59_8, R59_9, R59_10, R59_11, R59_12, R59_13, R59_14, R59_15, R59_16, R59_17, R59_18, R59_19, R59_20, R59_21, R59_22, R59_23, R59_24, R59_25, Tryd.f59, lpL59_0, lpL59_1, lpM59_0, lpM59_1, M59_0, M59_1, undef, q0, q2, q4, q5, q6, q7, q8, q9, H16, H10, H3, H4, H8, hi, hw, nget, strs_at, strs_length, hpI, lit1, bs_neq, bs_toList, hwn, maxLen]
      refine ⟨_, rfl, ⟨by simp [q0], by simp [q2], by simp [q4], by simp [q5], by simp [q6], by simp [q0, q2, q4, q5, q6, q7, q8, q9, H16, H10, H3, H4, H8, fzO, strsO, intsO, ints], by simp [q0, q2, q4, q5, q6, q7, q8, q9, H16, H10, H3, H4, H8, fzO, strsO, intsO, ints], by simp [q0, q2, q4, q5, q6, q7, q8, q9, H16, H10, H3, H4, H8, fzO, strsO, intsO, ints], _, by simp [q0, q2, q4, q5, q6, q7, q8, q9, H16, H10, H3, H4, H8, fzO, strsO, intsO, ints] <;> rfl, .inr ⟨by simp, _, by simp <;> rfl, ?_⟩⟩, by simp [q7], by simp [q8], by simp, by simp [q0, q2, q4, q5, q6, q7, q8, q9, H16, H10, H3, H4, H8, fzO, strsO, intsO, ints]⟩
      simp [q0, q2, q4, q5, q6, q7, q8, q9, H16, H10, H3, H4, H8, fzO, strsO, intsO, ints]
    · simp [intsO] at hH
      left
      refine ⟨-9999, hcp, ?_⟩
      simp [L59_1, R59_0, R59_1, R59_2, R59_3, R59_4, R59_5, R59_6, R59_7, R59_8, R59_9, R59_10, R59_11, R59_12, R59_13, R59_14, R59_15, R59_16, R59_17, R59_18, R59_19, R59_20, R59_21, R59_22, R59_23, R59_24, R59_25, Tryd.f59, lpL59_0, lpL59_1, lpM59_0, lpM59_1, M59_0, M59_1, undef, q0, q2, q4, q5, q6, q7, q8, q9, H16, H10, H3, H4, H8, hi, hw, nget, strs_at, strs_length, hpI, lit1, bs_neq, bs_toList, hwn, hH, n1, n2, okI]
      refine ⟨_, rfl, ⟨by simp [q0], by simp [q2], by simp [q4], by simp [q5], by simp [q6], by simp [q0, q2, q4, q5, q6, q7, q8, q9, H16, H10, H3, H4, H8, fzO, strsO, intsO, hH], by simp [q0, q2, q4, q5, q6, q7, q8, q9, H16, H10, H3, H4, H8, fzO, strsO, intsO, hH], by simp [q0, q2, q4, q5, q6, q7, q8, q9, H16, H10, H3, H4, H8, fzO, strsO, intsO, hH], _, by simp [q0, q2, q4, q5, q6, q7, q8, q9, H16, H10, H3, H4, H8, fzO, strsO, intsO, hH] <;> rfl, .inr ⟨by simp, _, by simp <;> rfl, ?_⟩⟩, by simp [q7], by simp [q8], by simp, by simp [q0, q2, q4, q5, q6, q7, q8, q9, H16, H10, H3, H4, H8, fzO, strsO, intsO, hH]⟩
      simp [q0, q2, q4, q5, q6, q7, q8, q9, H16, H10, H3, H4, H8, fzO, strsO, intsO, hH]
  · cases hp : pI w with
    | none =>
      have hcp : cellP w = none := by unfold cellP; rw [if_neg hd, hp]
      have e1 : pV w = 0 := by simp [pV, hp]
      have e2 : pB w = false := by simp [pB, hp]
      rw [e1, e2] at hpI
      right
      refine ⟨hcp, ?_⟩
      rcases hG with ⟨hb, rfl⟩ | ⟨hb, tk, rfl, hH⟩
      · subst hb
        simp [L59_1, R59_0, R59_1, R59_2, R59_3, R59_4, R59_5, R59_6, R59_7, R59_8, R59_9, R59_10, R59_11, R59_12, R59_13, R59_14, R59_15, R59_16, R59_17, R59_18, R59_19, R59_20, R59_21, R59_22, R59_23, R59_24, R59_25, Tryd.f59, lpL59_0, lpL59_1, lpM59_0, lpM59_1, M59_0, M59_1, undef, q0, q2, q4, q5, q6, q7, q8, q9, H16, H10, H3, H4, H8, hi, hw, nget, strs_at, strs_length, hpI, lit1, bs_neq, bs_toList, hwn, hd, PfN, fzO]
      · simp [intsO] at hH
        simp [L59_1, R59_0, R59_1, R59_2, R59_3, R59_4, R59_5, R59_6, R59_7, R59_8, R59_9, R59_10, R59_11, R59_12, R59_13, R59_14, R59_15, R59_16, R59_17, R59_18, R59_19, R59_20, R59_21, R59_22, R59_23, R59_24, R59_25, Tryd.f59, lpL59_0, lpL59_1, lpM59_0, lpM59_1, M59_0, M59_1, undef, q0, q2, q4, q5, q6, q7, q8, q9, H16, H10, H3, H4, H8, hi, hw, nget, strs_at, strs_length, hpI, lit1, bs_neq, bs_toList, hwn, hd, hH, PfN, fzO]
    | some x =>
      have e1 : pV w = x := by simp [pV, hp]
      have e2 : pB w = true := by simp [pB, hp]
      rw [e1, e2] at hpI
      by_cases hn : x = -9999
      · have hcp : cellP w = none := by unfold cellP; rw [if_neg hd, hp]; simp [hn]
        subst hn
        right
        refine ⟨hcp, ?_⟩
        rcases hG with ⟨hb, rfl⟩ | ⟨hb, tk, rfl, hH⟩
        · subst hb
          simp [L59_1, R59_0, R59_1, R59_2, R59_3, R59_4, R59_5, R59_6, R59_7, R59_8, R59_9, R59_10, R59_11, R59_12, R59_13, R59_14, R59_15, R59_16, R59_17, R59_18, R59_19, R59_20, R59_21, R59_22, R59_23, R59_24, R59_25, Tryd.f59, lpL59_0, lpL59_1, lpM59_0, lpM59_1, M59_0, M59_1, undef, q0, q2, q4, q5, q6, q7, q8, q9, H16, H10, H3, H4, H8, hi, hw, nget, strs_at, strs_length, hpI, lit1, bs_neq, bs_toList, hwn, hd, PfN, fzO]
        · simp [intsO] at hH
          simp [L59_1, R59_0, R59_1, R59_2, R59_3, R59_4, R59_5, R59_6, R59_7, R59_8, R59_9, R59_10, R59_11, R59_12, R59_13, R59_14, R59_15, R59_16, R59_17, R59_18, R59_19, R59_20, R59_21, R59_22, R59_23, R59_24, R59_25, Tryd.f59, lpL59_0, lpL59_1, lpM59_0, lpM59_1, M59_0, M59_1, undef, q0, q2, q4, q5, q6, q7, q8, q9, H16, H10, H3, H4, H8, hi, hw, nget, strs_at, strs_length, hpI, lit1, bs_neq, bs_toList, hwn, hd, hH, PfN, fzO]
      · have hcp : cellP w = some x := by unfold cellP; rw [if_neg hd, hp]; simp [hn]
        have hnb : (x == -9999) = false := by simpa using hn
        rcases hG with ⟨hb, rfl⟩ | ⟨hb, tk, rfl, hH⟩
        · subst hb
          left
          refine ⟨x, hcp, ?_⟩
          simp [L59_1, R59_0, R59_1, R59_2, R59_3, R59_4, R59_5, R59_6, R59_7, R59_8, R59_9, R59_10, R59_11, R59_12, R59_13, R59_14, R59_15, R59_16, R59_17, R59_18, R59_19, R59_20, R59_21, R59_22, R59_23, R59_24, R59_25, Tryd.f59, lpL59_0, lpL59_1, lpM59_0, lpM59_1, M59_0, M59_1, undef, q0, q2, q4, q5, q6, q7, q8, q9, H16, H10, H3, H4, H8, hi, hw, nget, strs_at, strs_length, hpI, lit1, bs_neq, bs_toList, hwn, hd, hn, hnb, maxLen]
          refine ⟨_, rfl, ⟨by simp [q0], by simp [q2], by simp [q4], by simp [q5], by simp [q6], by simp [q0, q2, q4, q5, q6, q7, q8, q9, H16, H10, H3, H4, H8, fzO, strsO, intsO, ints], by simp [q0, q2, q4, q5, q6, q7, q8, q9, H16, H10, H3, H4, H8, fzO, strsO, intsO, ints], by simp [q0, q2, q4, q5, q6, q7, q8, q9, H16, H10, H3, H4, H8, fzO, strsO, intsO, ints], _, by simp [q0, q2, q4, q5, q6, q7, q8, q9, H16, H10, H3, H4, H8, fzO, strsO, intsO, ints] <;> rfl, .inr ⟨by simp, _, by simp <;> rfl, ?_⟩⟩, by simp [q7], by simp [q8], by simp, by simp [q0, q2, q4, q5, q6, q7, q8, q9, H16, H10, H3, H4, H8, fzO, strsO, intsO, ints]⟩
          simp [q0, q2, q4, q5, q6, q7, q8, q9, H16, H10, H3, H4, H8, fzO, strsO, intsO, ints]
        · simp [intsO] at hH
          left
          refine ⟨x, hcp, ?_⟩
          simp [L59_1, R59_0, R59_1, R59_2, R59_3, R59_4, R59_5, R59_6, R59_7, R59_8, R59_9, R59_10, R59_11, R59_12, R59_13, R59_14, R59_15, R59_16, R59_17, R59_18, R59_19, R59_20, R59_21, R59_22, R59_23, R59_24, R59_25, Tryd.f59, lpL59_0, lpL59_1, lpM59_0, lpM59_1, M59_0, M59_1, undef, q0, q2, q4, q5, q6, q7, q8, q9, H16, H10, H3, H4, H8, hi, hw, nget, strs_at, strs_length, hpI, lit1, bs_neq, bs_toList, hwn, hd, hn, hnb, hH, n1, n2, okI]
          refine ⟨_, rfl, ⟨by simp [q0], by simp [q2], by simp [q4], by simp [q5], by simp [q6], by simp [q0, q2, q4, q5, q6, q7, q8, q9, H16, H10, H3, H4, H8, fzO, strsO, intsO, hH], by simp [q0, q2, q4, q5, q6, q7, q8, q9, H16, H10, H3, H4, H8, fzO, strsO, intsO, hH], by simp [q0, q2, q4, q5, q6, q7, q8, q9, H16, H10, H3, H4, H8, fzO, strsO, intsO, hH], _, by simp [q0, q2, q4, q5, q6, q7, q8, q9, H16, H10, H3, H4, H8, fzO, strsO, intsO, hH] <;> rfl, .inr ⟨by simp, _, by simp <;> rfl, ?_⟩⟩, by simp [q7], by simp [q8], by simp, by simp [q0, q2, q4, q5, q6, q7, q8, q9, H16, H10, H3, H4, H8, fzO, strsO, intsO, hH]⟩
          simp [q0, q2, q4, q5, q6, q7, q8, q9, H16, H10, H3, H4, H8, fzO, strsO, intsO, hH]

end Go.Proofs.YtalpgpjhloohfaaDoor.Eng
