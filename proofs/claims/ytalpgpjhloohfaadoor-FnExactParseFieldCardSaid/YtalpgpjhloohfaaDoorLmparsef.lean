/- A deterministic reading of Go code over plain data: what functions of the program compute. No conditions. -/
import Derived.Test.YtalpgpjhloohfaaDoorLmbase
import Derived.Test.YtalpgpjhloohfaaDoorLmimpl
import Derived.Test.YtalpgpjhloohfaaDoorLmgood
import Derived.Test.YtalpgpjhloohfaaDoorLmitoa
import Derived.Test.YtalpgpjhloohfaaDoorLmappendck
import Derived.Test.YtalpgpjhloohfaaDoorLmquantity
import Derived.Test.YtalpgpjhloohfaaDoorLmsplit
import Derived.Test.YtalpgpjhloohfaaDoorLmnumtext
import Derived.Test.YtalpgpjhloohfaaDoorLmjoins
import Derived.Test.YtalpgpjhloohfaaDoorLmjoinf
import Derived.Test.YtalpgpjhloohfaaDoorLmcuts
import Derived.Test.YtalpgpjhloohfaaDoorLmsplitf
import Derived.Test.YtalpgpjhloohfaaDoorLmpfield
import Derived.Test.YtalpgpjhloohfaaDoorLmpfield2
import Derived.Test.YtalpgpjhloohfaaDoorLmfield
import Derived.Test.YtalpgpjhloohfaaDoorEngT
import Derived.Lib.IndexLaws
namespace Go.Proofs.YtalpgpjhloohfaaDoor.Eng
open Go Go.Proofs
set_option maxRecDepth 100000
set_option maxHeartbeats 2000000
set_option linter.unusedSimpArgs false
set_option linter.unusedVariables false
attribute [local simp] finK fin1 hpOf xi renQ isRoot runCode runOps Eng.step wantedV astep val ofO made loadV storeV find V.cells bin binT binA numT numFs eqCells un1 setAt fieldAddrV fieldV indexAddrV indexV bounds sliceV convV lenV foldV max2V min2V callO bor rdsO wrsO seen_none okD_none loops keepIds resV resultsV St.ev TK.agg refs refsL refsO V.one V.isC Value.oneCell' ren renL renO noTag noTagL noTagR noTagO nodup mapO passV frs psi refsR newD loopNext opsAt idx flatAt rootOf backR newsV appendV copyV clearV strV bytesOf nilCmp buildV fillF chunk
attribute [local simp] cT cF cX cWR cOW cK X ints_length ints_get ints_getElem ints_drop ints_take ints_append ints_nil ints_set
attribute [local simp] ints_replicate
attribute [local simp] putV_some putV_none putH_app applyD_nil applyD_cons seen_app gc_ρ gc_H gc_tick st0_ρ st0_H st0_tick retV callRo callV_if borL_nil borL_cons ints_snoc take_self callWr cutH_app findQ afterV exportV_0 exportV_n okD_nil okD_cons sub_seq0 sub_seq1 sub_cond0 sub_cond1 sub_block sub_loop sub_nil young_far young_none hidW_nil mayW_nil pairs okI ok_0 ok_1 ok_2
attribute [local simp] T3 T4 T5 T9 T22 T28 T57 T70 T72
attribute [local simp] young_near clo cloF Region.binds Nat.testBit hidW declW mayW List.findIdx?_cons
def GwP (id : Nat) (v : V) (H : Hp) (acc : List Int) : Prop := (acc = [] ∧ v = .c (.slice none 0 0)) ∨ (acc ≠ [] ∧ ∃ tk, v = .s id tk 1 0 acc.length ∧ H id = some (tk, intsO acc))
def fzO : Eng.Obj := ⟨28, 3, false, [[.c (.int .i64 0), .c (.int .i64 0), .c (.slice none 0 0)]]⟩
/-- Does a text end with a line's end? -/
def endB (l : List UInt8) : Bool := decide (l.getLast? = some 10)
theorem snoc_of {l : List UInt8} (h : l ≠ []) : ∃ L c, l = L ++ [c] := ⟨l.dropLast, l.getLast h, (List.dropLast_concat_getLast h).symm⟩
theorem c_lHasSuffix (k : Nat) (l : List UInt8) (h20 : l.length ≤ 1048576) (hk : 2 ≤ k) : callK C k 88 [.c (.string (bs l)), .c (.string (bs [10]))] [] = some (.c (.bool (endB l)), hpOf [] []) := by
  obtain ⟨k, rfl⟩ : ∃ m, k = m + 1 := ⟨k - 1, by omega⟩
  rw [callK_fn rfl F88 code88]
  by_cases h : l = []
  · subst h
    simp [R88_0, R88_1, Tryd.f88, bs_size, endB, undef]
  · obtain ⟨L, c, rfl⟩ := snoc_of h
    have g1 : (1 : Int) ≤ (L.length : Int) + 1 := by omega
    have w1 : IntKind.i64.wrap (L.length : Int) = (L.length : Int) := by
      rw [List.length_append] at h20
      exact wrap_small (by omega) (by omega)
    have g2 : (L.length : Int) ≤ (L.length : Int) + 1 := by omega
    have hd : ((L ++ [c]).drop L.length).take 1 = [c] := by rw [List.drop_left]; rfl
    have he : endB (L ++ [c]) = decide (c = 10) := by simp [endB]
    rw [he]
    by_cases hc : c = 10
    · simp [R88_0, R88_1, Tryd.f88, bs_size, bs_extract, bs_neq, bs_toList, undef, g1, w1, g2, hd, hc]
    · simp [R88_0, R88_1, Tryd.f88, bs_size, bs_extract, bs_neq, bs_toList, undef, g1, w1, g2, hd, hc]
theorem c_HasSuffix (k : Nat) (l : List UInt8) (h20 : l.length ≤ 1048576) (hk : 3 ≤ k) : callK C k 60 [.c (.string (bs l)), .c (.string (bs [10]))] [] = some (.c (.bool (endB l)), hpOf [] []) := by
  obtain ⟨k, rfl⟩ : ∃ m, k = m + 1 := ⟨k - 1, by omega⟩
  rw [callK_fn rfl F60 code60]
  have h := c_lHasSuffix k l h20 (by omega)
  simp [R60_0, R60_1, Tryd.f60, h]
theorem c_TrimSuffix (k : Nat) (L : List UInt8) (h20 : L.length + 1 ≤ 1048576) (hk : 4 ≤ k) : callK C k 62 [.c (.string (bs (L ++ [10]))), .c (.string (bs [10]))] [] = some (.c (.string (bs L)), hpOf [] []) := by
  have hl : callK C (k - 1) 90 [.c (.string (bs (L ++ [10]))), .c (.string (bs [10]))] [] = some (.c (.string (bs L)), hpOf [] []) := by
    obtain ⟨k, rfl⟩ : ∃ m, k = m + 2 := ⟨k - 2, by omega⟩
    show callK C (k + 1) _ _ _ = _
    rw [callK_fn rfl F90 code90]
    have h := c_lHasSuffix k (L ++ [10]) (by simp; omega) (by omega)
    have he : endB (L ++ [10]) = true := by simp [endB]
    rw [he] at h
    have w1 : IntKind.i64.wrap (L.length : Int) = (L.length : Int) := wrap_small (by omega) (by omega)
    have g2 : (L.length : Int) ≤ (L.length : Int) + 1 := by omega
    simp [R90_0, R90_1, R90_2, R90_3, Tryd.f90, h, bs_size, bs_extract, w1, g2]
  obtain ⟨k, rfl⟩ : ∃ m, k = m + 1 := ⟨k - 1, by omega⟩
  rw [callK_fn rfl F62 code62]
  have hl : callK C k 90 [.c (.string (bs (L ++ [10]))), .c (.string (bs [10]))] [] = some (.c (.string (bs L)), hpOf [] []) := hl
  simp [R62_0, R62_1, Tryd.f62, hl]
/-- The field being read, and what stands around it. -/
structure PfX (L : List (List UInt8)) (W : Nat) (acc : List Int) (st : St) : Prop where
  q2 : st.ρ 2 = .p 16 1 3 0 0
  q5 : st.ρ 5 = .p 4160 4 3 0 0
  q28 : st.ρ 28 = .s 3120 3 1 0 L.length
  q29 : st.ρ 29 = .c (.int .i64 (L.length : Int))
  H16 : st.H 16 = some (1, fzO)
  H3 : st.H 3120 = some (3, strsO L)
  H4 : ∃ v, st.H 4160 = some (4, ⟨28, 3, false, [[.c (.int .i64 (W : Int)), .c (.int .i64 (L.length : Int)), v]]⟩) ∧ GwP 22616 v st.H acc
/-- The way out where there is no field. -/
def PfN (s : St) : Prop := s.ρ 2 = .p 16 1 3 0 0 ∧ s.ρ 3 = .c (.bool false) ∧ s.H 16 = some (1, fzO)
theorem pf_round (k : Nat) (L ws : List (List UInt8)) (W j tk8 : Nat) (acc a : List Int) (i : Nat) (hi : i < ws.length) (hacc : acc.length + i ≤ 10000000) (hwl : ws.length ≤ 10000000) (hwb : ∀ w ∈ ws, w.length ≤ 1000) (hk : 300 ≤ k) (st : St) (next : St → Option (Ex × St)) (hP : PfX L W (acc ++ a) st) (ha : a.length = i) (q30 : st.ρ 30 = .c (.int .i64 (j : Int))) (q50 : st.ρ 50 = .s 8224 tk8 1 0 ws.length) (q51 : st.ρ 51 = .c (.int .i64 (ws.length : Int))) (q52 : st.ρ 52 = .c (.int .i64 (i : Int))) (H8 : st.H 8224 = some (tk8, strsO ws)) :
    (∃ n, cellP ws[i] = some n ∧ ∃ st', loopNext (runCode C (callK C k) k (K 25) L25_1 2 (gc [2, 5, 28, 29, 30, 50, 51, 52] st)) next = next st' ∧ PfX L W (acc ++ a ++ [n]) st' ∧ st'.ρ 30 = .c (.int .i64 (j : Int)) ∧ st'.ρ 50 = .s 8224 tk8 1 0 ws.length ∧ st'.ρ 51 = .c (.int .i64 (ws.length : Int)) ∧ st'.ρ 52 = .c (.int .i64 ((i + 1 : Nat) : Int)) ∧ st'.H 8224 = some (tk8, strsO ws)) ∨
    (cellP ws[i] = none ∧ ∃ s, loopNext (runCode C (callK C k) k (K 25) L25_1 2 (gc [2, 5, 28, 29, 30, 50, 51, 52] st)) next = some (.ret, s) ∧ PfN s) := by
  obtain ⟨q2, q5, q28, q29, H16, H3, v, H4, hG⟩ := hP
  have nget := strs_get ws i hi
  have hpI := c_implParse k ws[i] (by have := hwb _ (List.getElem_mem hi); omega) (by omega)
  have hwn := wrap_next hi (by omega : ws.length ≤ 9000000000000000000)
  obtain ⟨w, hw⟩ : ∃ w, ws[i] = w := ⟨_, rfl⟩
  rw [hw] at hpI nget ⊢
  obtain ⟨B, hB⟩ : ∃ B, acc ++ a = B := ⟨_, rfl⟩
  have hBl : B.length ≤ 10000000 := by rw [← hB, List.length_append]; omega
  rw [hB] at hG ⊢
  have n1 : (B.length + 1) * 8 ≤ 140737488355328 := by omega
  have n2 : B.length + 1 ≤ maxLen := by unfold maxLen; omega
  simp [strsO] at H8 H3
  simp [fzO] at H16
  by_cases hd : w = [46]
  · have hcp : cellP w = some (-9999) := by unfold cellP; rw [if_pos hd]
    subst hd
    rcases hG with ⟨hb, rfl⟩ | ⟨hb, tk, rfl, hH⟩
    · subst hb
      left
      refine ⟨-9999, hcp, ?_⟩
      simp [L25_1, R25_0, R25_1, R25_2, R25_3, R25_4, R25_5, R25_6, R25_7, R25_8, R25_9, R25_10, R25_11, R25_12, R25_13, R25_14, R25_15, R25_16, R25_17, R25_18, R25_19, R25_20, R25_21, R25_22, R25_23, R25_24, R25_25, R25_26, R25_27, Tryd.f25, lpL25_0, lpL25_1, lpM25_0, lpM25_1, M25_0, M25_1, undef, q2, q5, q28, q29, q30, q50, q51, q52, H16, H3, H4, H8, hi, hw, nget, strs_at, strs_length, hpI, lit1, bs_neq, bs_toList, hwn, maxLen]
      refine ⟨_, rfl, ⟨by simp [q2], by simp [q5], by simp [q28], by simp [q29], by simp [q2, q5, q28, q29, q30, q50, q51, q52, H16, H3, H4, H8, fzO, strsO, intsO, ints], by simp [q2, q5, q28, q29, q30, q50, q51, q52, H16, H3, H4, H8, fzO, strsO, intsO, ints], _, by simp [q2, q5, q28, q29, q30, q50, q51, q52, H16, H3, H4, H8, fzO, strsO, intsO, ints]; rfl, .inr ⟨by simp, _, by simp; rfl, ?_⟩⟩, by simp [q30], by simp [q50], by simp [q51], by simp, by simp [q2, q5, q28, q29, q30, q50, q51, q52, H16, H3, H4, H8, fzO, strsO, intsO, ints]⟩
      simp [q2, q5, q28, q29, q30, q50, q51, q52, H16, H3, H4, H8, fzO, strsO, intsO, ints]
    · simp [intsO] at hH
      left
      refine ⟨-9999, hcp, ?_⟩
      simp [L25_1, R25_0, R25_1, R25_2, R25_3, R25_4, R25_5, R25_6, R25_7, R25_8, R25_9, R25_10, R25_11, R25_12, R25_13, R25_14, R25_15, R25_16, R25_17, R25_18, R25_19, R25_20, R25_21, R25_22, R25_23, R25_24, R25_25, R25_26, R25_27, Tryd.f25, lpL25_0, lpL25_1, lpM25_0, lpM25_1, M25_0, M25_1, undef, q2, q5, q28, q29, q30, q50, q51, q52, H16, H3, H4, H8, hi, hw, nget, strs_at, strs_length, hpI, lit1, bs_neq, bs_toList, hwn, hH, n1, n2, okI]
      refine ⟨_, rfl, ⟨by simp [q2], by simp [q5], by simp [q28], by simp [q29], by simp [q2, q5, q28, q29, q30, q50, q51, q52, H16, H3, H4, H8, fzO, strsO, intsO, hH], by simp [q2, q5, q28, q29, q30, q50, q51, q52, H16, H3, H4, H8, fzO, strsO, intsO, hH], _, by simp [q2, q5, q28, q29, q30, q50, q51, q52, H16, H3, H4, H8, fzO, strsO, intsO, hH]; rfl, .inr ⟨by simp, _, by simp; rfl, ?_⟩⟩, by simp [q30], by simp [q50], by simp [q51], by simp, by simp [q2, q5, q28, q29, q30, q50, q51, q52, H16, H3, H4, H8, fzO, strsO, intsO, hH]⟩
      simp [q2, q5, q28, q29, q30, q50, q51, q52, H16, H3, H4, H8, fzO, strsO, intsO, hH]
  · cases hp : pI w with
    | none =>
      have hcp : cellP w = none := by unfold cellP; rw [if_neg hd, hp]
      have e1 : pV w = 0 := by simp [pV, hp]
      have e2 : pB w = false := by simp [pB, hp]
      rw [e1, e2] at hpI
      right
      refine ⟨hcp, ?_⟩
      rcases hG with ⟨hb, rfl⟩ | ⟨hb, tk, rfl, hH⟩
      · subst hb
        simp [L25_1, R25_0, R25_1, R25_2, R25_3, R25_4, R25_5, R25_6, R25_7, R25_8, R25_9, R25_10, R25_11, R25_12, R25_13, R25_14, R25_15, R25_16, R25_17, R25_18, R25_19, R25_20, R25_21, R25_22, R25_23, R25_24, R25_25, R25_26, R25_27, Tryd.f25, lpL25_0, lpL25_1, lpM25_0, lpM25_1, M25_0, M25_1, undef, q2, q5, q28, q29, q30, q50, q51, q52, H16, H3, H4, H8, hi, hw, nget, strs_at, strs_length, hpI, lit1, bs_neq, bs_toList, hwn, hd, PfN, fzO]
      · simp [intsO] at hH
        simp [L25_1, R25_0, R25_1, R25_2, R25_3, R25_4, R25_5, R25_6, R25_7, R25_8, R25_9, R25_10, R25_11, R25_12, R25_13, R25_14, R25_15, R25_16, R25_17, R25_18, R25_19, R25_20, R25_21, R25_22, R25_23, R25_24, R25_25, R25_26, R25_27, Tryd.f25, lpL25_0, lpL25_1, lpM25_0, lpM25_1, M25_0, M25_1, undef, q2, q5, q28, q29, q30, q50, q51, q52, H16, H3, H4, H8, hi, hw, nget, strs_at, strs_length, hpI, lit1, bs_neq, bs_toList, hwn, hd, hH, PfN, fzO]
    | some n =>
      have e1 : pV w = n := by simp [pV, hp]
      have e2 : pB w = true := by simp [pB, hp]
      rw [e1, e2] at hpI
      by_cases hn : n = -9999
      · have hcp : cellP w = none := by unfold cellP; rw [if_neg hd, hp]; simp [hn]
        subst hn
        right
        refine ⟨hcp, ?_⟩
        rcases hG with ⟨hb, rfl⟩ | ⟨hb, tk, rfl, hH⟩
        · subst hb
          simp [L25_1, R25_0, R25_1, R25_2, R25_3, R25_4, R25_5, R25_6, R25_7, R25_8, R25_9, R25_10, R25_11, R25_12, R25_13, R25_14, R25_15, R25_16, R25_17, R25_18, R25_19, R25_20, R25_21, R25_22, R25_23, R25_24, R25_25, R25_26, R25_27, Tryd.f25, lpL25_0, lpL25_1, lpM25_0, lpM25_1, M25_0, M25_1, undef, q2, q5, q28, q29, q30, q50, q51, q52, H16, H3, H4, H8, hi, hw, nget, strs_at, strs_length, hpI, lit1, bs_neq, bs_toList, hwn, hd, PfN, fzO]
        · simp [intsO] at hH
          simp [L25_1, R25_0, R25_1, R25_2, R25_3, R25_4, R25_5, R25_6, R25_7, R25_8, R25_9, R25_10, R25_11, R25_12, R25_13, R25_14, R25_15, R25_16, R25_17, R25_18, R25_19, R25_20, R25_21, R25_22, R25_23, R25_24, R25_25, R25_26, R25_27, Tryd.f25, lpL25_0, lpL25_1, lpM25_0, lpM25_1, M25_0, M25_1, undef, q2, q5, q28, q29, q30, q50, q51, q52, H16, H3, H4, H8, hi, hw, nget, strs_at, strs_length, hpI, lit1, bs_neq, bs_toList, hwn, hd, hH, PfN, fzO]
      · have hcp : cellP w = some n := by unfold cellP; rw [if_neg hd, hp]; simp [hn]
        have hnb : (n == -9999) = false := by simpa using hn
        rcases hG with ⟨hb, rfl⟩ | ⟨hb, tk, rfl, hH⟩
        · subst hb
          left
          refine ⟨n, hcp, ?_⟩
          simp [L25_1, R25_0, R25_1, R25_2, R25_3, R25_4, R25_5, R25_6, R25_7, R25_8, R25_9, R25_10, R25_11, R25_12, R25_13, R25_14, R25_15, R25_16, R25_17, R25_18, R25_19, R25_20, R25_21, R25_22, R25_23, R25_24, R25_25, R25_26, R25_27, Tryd.f25, lpL25_0, lpL25_1, lpM25_0, lpM25_1, M25_0, M25_1, undef, q2, q5, q28, q29, q30, q50, q51, q52, H16, H3, H4, H8, hi, hw, nget, strs_at, strs_length, hpI, lit1, bs_neq, bs_toList, hwn, hd, hn, hnb, maxLen]
          refine ⟨_, rfl, ⟨by simp [q2], by simp [q5], by simp [q28], by simp [q29], by simp [q2, q5, q28, q29, q30, q50, q51, q52, H16, H3, H4, H8, fzO, strsO, intsO, ints], by simp [q2, q5, q28, q29, q30, q50, q51, q52, H16, H3, H4, H8, fzO, strsO, intsO, ints], _, by simp [q2, q5, q28, q29, q30, q50, q51, q52, H16, H3, H4, H8, fzO, strsO, intsO, ints]; rfl, .inr ⟨by simp, _, by simp; rfl, ?_⟩⟩, by simp [q30], by simp [q50], by simp [q51], by simp, by simp [q2, q5, q28, q29, q30, q50, q51, q52, H16, H3, H4, H8, fzO, strsO, intsO, ints]⟩
          simp [q2, q5, q28, q29, q30, q50, q51, q52, H16, H3, H4, H8, fzO, strsO, intsO, ints]
        · simp [intsO] at hH
          left
          refine ⟨n, hcp, ?_⟩
          simp [L25_1, R25_0, R25_1, R25_2, R25_3, R25_4, R25_5, R25_6, R25_7, R25_8, R25_9, R25_10, R25_11, R25_12, R25_13, R25_14, R25_15, R25_16, R25_17, R25_18, R25_19, R25_20, R25_21, R25_22, R25_23, R25_24, R25_25, R25_26, R25_27, Tryd.f25, lpL25_0, lpL25_1, lpM25_0, lpM25_1, M25_0, M25_1, undef, q2, q5, q28, q29, q30, q50, q51, q52, H16, H3, H4, H8, hi, hw, nget, strs_at, strs_length, hpI, lit1, bs_neq, bs_toList, hwn, hd, hn, hnb, hH, n1, n2, okI]
          refine ⟨_, rfl, ⟨by simp [q2], by simp [q5], by simp [q28], by simp [q29], by simp [q2, q5, q28, q29, q30, q50, q51, q52, H16, H3, H4, H8, fzO, strsO, intsO, hH], by simp [q2, q5, q28, q29, q30, q50, q51, q52, H16, H3, H4, H8, fzO, strsO, intsO, hH], _, by simp [q2, q5, q28, q29, q30, q50, q51, q52, H16, H3, H4, H8, fzO, strsO, intsO, hH]; rfl, .inr ⟨by simp, _, by simp; rfl, ?_⟩⟩, by simp [q30], by simp [q50], by simp [q51], by simp, by simp [q2, q5, q28, q29, q30, q50, q51, q52, H16, H3, H4, H8, fzO, strsO, intsO, hH]⟩
          simp [q2, q5, q28, q29, q30, q50, q51, q52, H16, H3, H4, H8, fzO, strsO, intsO, hH]

end Go.Proofs.YtalpgpjhloohfaaDoor.Eng
