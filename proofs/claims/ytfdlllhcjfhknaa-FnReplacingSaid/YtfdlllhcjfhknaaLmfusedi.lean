/- A deterministic reading of Go code over plain data: what functions of the program compute. No conditions. -/
import Derived.Test.YtfdlllhcjfhknaaLmbase
import Derived.Test.YtfdlllhcjfhknaaLmimpl
import Derived.Test.YtfdlllhcjfhknaaLmnodes
import Derived.Test.YtfdlllhcjfhknaaLmnodep
import Derived.Test.YtfdlllhcjfhknaaLmnodefn
import Derived.Test.YtfdlllhcjfhknaaLmisexpr
import Derived.Test.YtfdlllhcjfhknaaLmisort
import Derived.Test.YtfdlllhcjfhknaaLmpsort
import Derived.Test.YtfdlllhcjfhknaaLmcompact
import Derived.Test.YtfdlllhcjfhknaaEngT
namespace Go.Proofs.Ytfdlllhcjfhknaa.Eng
open Go Go.Proofs
set_option maxRecDepth 100000
set_option maxHeartbeats 2000000
set_option linter.unusedSimpArgs false
set_option linter.unusedVariables false
attribute [local simp] finK fin1 hpOf xi renQ isRoot runCode runOps Eng.step wantedV astep val ofO made loadV storeV find V.cells bin binT binA numT numFs eqCells un1 setAt fieldAddrV fieldV indexAddrV indexV bounds sliceV convV lenV foldV max2V min2V callO bor rdsO wrsO seen_none okD_none loops keepIds resV resultsV St.ev TK.agg refs refsL refsO V.one V.isC Value.oneCell' ren renL renO noTag noTagL noTagR noTagO nodup mapO passV frs psi refsR newD loopNext opsAt idx flatAt rootOf backR newsV appendV copyV clearV strV bytesOf nilCmp buildV fillF chunk
attribute [local simp] cT cF cX cWR cOW cK X ints_length ints_get ints_getElem ints_drop ints_take ints_append ints_nil ints_set
attribute [local simp] ints_replicate
attribute [local simp] putV_some putV_none putH_app applyD_nil applyD_cons seen_app gc_ρ gc_H gc_tick st0_ρ st0_H st0_tick retV callRo callV_if borL_nil borL_cons ints_snoc take_self callWr cutH_app findQ afterV exportV_0 exportV_n okD_nil okD_cons sub_seq0 sub_seq1 sub_cond0 sub_cond1 sub_block sub_loop sub_nil young_far young_none hidW_nil mayW_nil pairs okI ok_0 ok_1 ok_2
attribute [local simp] T3 T4 T5 T9 T22 T24 T29 T36 T73 T75 T86 T89 T103 T104 T106 T108 T109 T114 T134 T136 T157 T161 T168
attribute [local simp] young_near clo cloF Region.binds Nat.testBit hidW declW mayW List.findIdx?_cons
theorem c_isortNil (k : Nat) (hk : 100 ≤ k) : callK C k 196 [.c (.slice none 0 0), .c (.int .i64 0), .c (.int .i64 0)] [] = some (.tp [], hpOf [] []) := by
  obtain ⟨k, rfl⟩ : ∃ m, k = m + 9 := ⟨k - 9, by omega⟩
  rw [callK_fn rfl F196 code196]
  have hL := loopHas (body := fun st => runCode C (callK C (k + 8)) (k + 8) (K 196) L196_0 1 st) (keep := [0, 1, 2, 6]) (.ex 0) (fun st => st.ρ 2 = .c (.int .i64 0))
    (fun i st => st.ρ 2 = .c (.int .i64 0) ∧ st.ρ 6 = .c (.int .i64 1)) 0 (k + 8) (by omega)
    (by rintro i st next hi; omega)
    (by
      rintro st next ⟨q2, q6⟩
      simp [L196_0, R196_0, R196_1, R196_2, R196_3, R196_4, R196_5, R196_6, Try.f196, lpL196_0, lpL196_1, lpM196_0, undef, q2, q6])
  simp [R196_0, R196_1, R196_2, R196_3, R196_4, R196_5, R196_6, Try.f196, lpL196_0, lpL196_1, lpM196_0]
  generalize hr2 : loopRun _ _ _ _ = res
  obtain ⟨s1, rfl, f2⟩ := loop_at hL hr2 ⟨by simp, by simp [show IntKind.i64.wrap 1 = 1 from rfl]⟩
  simp [R196_0, R196_1, R196_2, R196_3, R196_4, R196_5, R196_6, Try.f196, lpL196_0, lpL196_1, lpM196_0, M196_0]
theorem c_pdqNil (k : Nat) (lim : Int) (hk : 300 ≤ k) : callK C k 189 [.c (.slice none 0 0), .c (.int .i64 0), .c (.int .i64 0), .c (.int .i64 lim)] [] = some (.tp [], hpOf [] []) := by
  obtain ⟨k, rfl⟩ : ∃ m, k = m + 9 := ⟨k - 9, by omega⟩
  rw [callK_fn rfl F189 code189]
  have hs := c_isortNil (k + 8) (by omega)
  have hL := loopHas (body := fun st => runCode C (callK C (k + 8)) (k + 8) (K 189) L189_0 1 st) (keep := [0, 1, 2, 3, 8, 9]) .ret (fun st => st.ρ 2 = .c (.int .i64 0))
    (fun i st => st.ρ 0 = .c (.slice none 0 0) ∧ st.ρ 1 = .c (.int .i64 0) ∧ st.ρ 2 = .c (.int .i64 0)) 0 (k + 8) (by omega)
    (by rintro i st next hi; omega)
    (by
      rintro st next ⟨q0, q1, q2⟩
      simp [L189_0, R189_0, R189_1, R189_2, R189_3, R189_4, R189_5, R189_6, R189_7, R189_8, R189_9, R189_10, R189_11, R189_12, R189_13, R189_14, R189_15, R189_16, R189_17, R189_18, R189_19, R189_20, R189_21, R189_22, R189_23, R189_24, R189_25, R189_26, R189_27, R189_28, R189_29, R189_30, Try.f189, lpL189_0, undef, q0, q1, q2, hs, show IntKind.i64.wrap 0 = 0 from rfl])
  simp [R189_0, R189_1, R189_2, R189_3, R189_4, R189_5, R189_6, R189_7, R189_8, R189_9, R189_10, R189_11, R189_12, R189_13, R189_14, R189_15, R189_16, R189_17, R189_18, R189_19, R189_20, R189_21, R189_22, R189_23, R189_24, R189_25, R189_26, R189_27, R189_28, R189_29, R189_30, Try.f189, lpL189_0]
  generalize hr2 : loopRun _ _ _ _ = res
  obtain ⟨s1, rfl, f0⟩ := loop_at hL hr2 ⟨by simp, by simp, by simp⟩
  simp
theorem c_SortNil (k : Nat) (hk : 400 ≤ k) : callK C k 161 [.c (.slice none 0 0)] [] = some (.tp [], hpOf [] []) := by
  obtain ⟨k, rfl⟩ : ∃ m, k = m + 9 := ⟨k - 9, by omega⟩
  rw [callK_fn rfl F161 code161]
  obtain ⟨r, hr⟩ := c_Len (k + 8) 0 (by omega) (by omega)
  have hs := c_pdqNil (k + 8) r (by omega)
  simp at hr
  simp [R161_0, R161_1, Try.f161, hr, hs, show IntKind.u64.wrap 0 = 0 from rfl]
theorem c_CompactNil (k : Nat) (hk : 400 ≤ k) : callK C k 162 [.c (.slice none 0 0)] [] = some (.c (.slice none 0 0), hpOf [] []) := by
  obtain ⟨k, rfl⟩ : ∃ m, k = m + 9 := ⟨k - 9, by omega⟩
  rw [callK_fn rfl F162 code162]
  simp [R162_0, R162_1, R162_2, R162_3, R162_4, R162_5, R162_6, R162_7, R162_8, R162_9, R162_10, R162_11, R162_12, R162_13, R162_14, R162_15, R162_16, Try.f162, lpL162_0, lpL162_1, lpM162_0, lpM162_1, lpM162_2, M162_0, M162_1, M162_2]
/-- The fields of an expression, as they occur. -/
def usL (l : List (Int × Int)) : List Int := (l.filter fun q => decide (q.1 = 1)).map fun q => q.2
theorem usL_take (l : List (Int × Int)) (i : Nat) (h : i < l.length) : usL (l.take (i + 1)) = if l[i].1 = 1 then usL (l.take i) ++ [l[i].2] else usL (l.take i) := by
  unfold usL
  rw [List.take_succ_eq_append_getElem h, List.filter_append, List.map_append]
  by_cases h1 : l[i].1 = 1 <;> simp [h1]
theorem usL_len (l : List (Int × Int)) : (usL l).length ≤ l.length := by
  unfold usL; rw [List.length_map]; exact List.length_filter_le _ _
def UsX (v : V) (H : Hp) (acc : List Int) : Prop := (v = .c (.slice none 0 0) ∧ acc = []) ∨ (acc ≠ [] ∧ ∃ tk, v = .s 8280 tk 1 0 acc.length ∧ H 8280 = some (tk, intsO acc))
theorem c_implFU (k : Nat) (b : Bool) (l : List (Int × Int)) (hk : 1000 ≤ k) (hg : goodE l = true) (h12 : (usL l).length ≤ 12) : callK C k 74 [.sq b true 2 (ndL l)] [] = some (.tp [.c (.slice none 0 0), .c (.bool true)], hpOf [] []) ∧ usL l = [] ∨ ∃ A : List Int, usL l ≠ [] ∧ callK C k 74 [.sq b true 2 (ndL l)] [] = some (.tp [.s 0 2 1 0 (compN (sortN (usL l) ((usL l).length - 1)) (usL l).length).length, .c (.bool true)], hpOf [] [intsO A]) ∧ A.take (compN (sortN (usL l) ((usL l).length - 1)) (usL l).length).length = compN (sortN (usL l) ((usL l).length - 1)) (usL l).length ∧ A.length = (usL l).length := by
  obtain ⟨k, rfl⟩ : ∃ m, k = m + 9 := ⟨k - 9, by omega⟩
  rw [callK_fn rfl F74 code74]
  obtain ⟨h15, _⟩ := good_run hg
  have gd := c_IsExpression (k + 8) b l (by omega)
  rw [hg] at gd
  have hL := loopHas (body := fun st => runCode C (callK C (k + 8)) (k + 8) (K 74) L74_0 1 st) (keep := [4, 10, 11, 12]) (.ex 0) (fun st => UsX (st.ρ 4) st.H (usL l))
    (fun i st => st.ρ 10 = .sq b true 2 (ndL l) ∧ st.ρ 11 = .c (.int .i64 l.length) ∧ st.ρ 12 = .c (.int .i64 (i : Int)) ∧ UsX (st.ρ 4) st.H (usL (l.take i))) l.length (k + 8) (by omega)
    (by
      rintro i st next hi ⟨q0, q1, q5, hc⟩ hx
      have hwn := wrap_next hi (by omega)
      have hln := usL_len (l.take i)
      rw [List.length_take] at hln
      have hft := usL_take l i hi
      obtain ⟨acc, hacc⟩ : ∃ acc, usL (l.take i) = acc := ⟨_, rfl⟩
      rw [hacc] at hc hln hft
      rw [hft] at hx
      by_cases h1 : l[i].1 = 1
      · rw [if_pos h1] at hx
        rcases hc with ⟨hv, ha⟩ | ⟨ha, tk, hv, hH⟩
        · subst ha
          simp [L74_0, R74_0, R74_1, R74_2, R74_3, R74_4, R74_5, R74_6, R74_7, R74_8, R74_9, R74_10, R74_11, Try.f74, lpL74_0, lpM74_0, M74_0, q0, q1, q5, hi, hv, ndL_at, ndE, h1, ndL_length, hwn, maxLen]
          refine hx _ ⟨by simp [q0], by simp [q1], by simp, .inr ⟨by simp, st.tick + 1 + 1 + 1, ?_, ?_⟩⟩
          · simp
          · simp [intsO, ints]
        · have n1 : (acc.length + 1) * 8 ≤ 140737488355328 := by omega
          have n2 : acc.length + 1 ≤ 9223372036854775807 := by omega
          simp [intsO] at hH
          simp [L74_0, R74_0, R74_1, R74_2, R74_3, R74_4, R74_5, R74_6, R74_7, R74_8, R74_9, R74_10, R74_11, Try.f74, lpL74_0, lpM74_0, M74_0, q0, q1, q5, hi, hv, hH, ndL_at, ndE, h1, ndL_length, hwn, maxLen, n1, n2]
          refine hx _ ⟨by simp [q0], by simp [q1], by simp, .inr ⟨by simp, st.tick + 1 + 1 + 1, ?_, ?_⟩⟩
          · simp
          · simp [intsO]
      · rw [if_neg h1] at hx
        have h1b : (l[i].1 == 1) = false := by simpa using h1
        simp [L74_0, R74_0, R74_1, R74_2, R74_3, R74_4, R74_5, R74_6, R74_7, R74_8, R74_9, R74_10, R74_11, Try.f74, lpL74_0, lpM74_0, M74_0, q0, q1, q5, hi, ndL_at, ndE, h1, h1b, ndL_length, hwn]
        rcases hc with ⟨hv, ha⟩ | ⟨ha, tk, hv, hH⟩
        · refine hx _ ⟨by simp [q0], by simp [q1], by simp, .inl ⟨by simp [hv], ha⟩⟩
        · refine hx _ ⟨by simp [q0], by simp [q1], by simp, .inr ⟨ha, tk, by simp [hv], by simp [hv, hH]⟩⟩)
    (by
      rintro st next ⟨q0, q1, q5, hc⟩
      rw [List.take_length] at hc
      simp [L74_0, R74_0, R74_1, R74_2, R74_3, R74_4, R74_5, R74_6, R74_7, R74_8, R74_9, R74_10, R74_11, Try.f74, lpL74_0, lpM74_0, M74_0, q0, q1, q5, ndL_length]
      rcases hc with ⟨hv, ha⟩ | ⟨ha, tk, hv, hH⟩
      · exact .inl ⟨by simp [hv], ha⟩
      · exact .inr ⟨ha, tk, by simp [hv], by simp [hv, hH]⟩)
  obtain ⟨acc, hacc⟩ : ∃ acc, usL l = acc := ⟨_, rfl⟩
  rw [hacc] at h12 hL ⊢
  have hlen := sortN_len acc (acc.length - 1)
  obtain ⟨A, hC, hT, hA⟩ := c_Compact (k + 8) (sortN acc (acc.length - 1)) (by omega) (by omega)
  have hS := c_Sort (k + 8) acc h12 (by omega)
  rw [hlen] at hC hT hA
  have hSN := c_SortNil (k + 8) (by omega)
  have hCN := c_CompactNil (k + 8) (by omega)
  obtain ⟨B, hB⟩ : ∃ B, sortN acc (acc.length - 1) = B := ⟨_, rfl⟩
  rw [hB] at hC hT hS ⊢
  obtain ⟨D, hD⟩ : ∃ D, compN B acc.length = D := ⟨_, rfl⟩
  rw [hD] at hC hT ⊢
  have hle : D.length ≤ acc.length := by rw [← hT, List.length_take]; omega
  simp [R74_0, R74_1, R74_2, R74_3, R74_4, R74_5, R74_6, R74_7, R74_8, R74_9, R74_10, R74_11, Try.f74, lpL74_0, lpM74_0, gd]
  generalize hr2 : loopRun _ _ _ _ = res
  obtain ⟨s1, rfl, hc⟩ := loop_at hL hr2 ⟨by simp, by simp [ndL_length], by simp, .inl ⟨by simp, by simp [usL]⟩⟩
  simp [intsO] at hC hS
  rcases hc with ⟨hv, ha⟩ | ⟨ha, tk, hv, hH⟩
  · left
    simp [R74_0, R74_1, R74_2, R74_3, R74_4, R74_5, R74_6, R74_7, R74_8, R74_9, R74_10, R74_11, Try.f74, lpL74_0, lpM74_0, M74_0, hv, hSN, hCN, ha]
  · right
    refine ⟨ha, A, ?_, hT, hA⟩
    simp [intsO] at hH
    simp [R74_0, R74_1, R74_2, R74_3, R74_4, R74_5, R74_6, R74_7, R74_8, R74_9, R74_10, R74_11, Try.f74, lpL74_0, lpM74_0, M74_0, hv, hH, hS, hC, intsO, hle]

end Go.Proofs.Ytfdlllhcjfhknaa.Eng
