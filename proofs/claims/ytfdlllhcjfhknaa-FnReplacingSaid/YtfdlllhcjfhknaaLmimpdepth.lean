/- A deterministic reading of Go code over plain data: what functions of the program compute. No conditions. -/
import Derived.Test.YtfdlllhcjfhknaaLmbase
import Derived.Test.YtfdlllhcjfhknaaLmimpl
import Derived.Test.YtfdlllhcjfhknaaLmgood
import Derived.Test.YtfdlllhcjfhknaaLmminmax
import Derived.Test.YtfdlllhcjfhknaaLmnodes
import Derived.Test.YtfdlllhcjfhknaaLmnodep
import Derived.Test.YtfdlllhcjfhknaaLmnodefn
import Derived.Test.YtfdlllhcjfhknaaLmisexpr
import Derived.Test.YtfdlllhcjfhknaaLmdepth
import Derived.Test.YtfdlllhcjfhknaaEngT
namespace Go.Proofs.Ytfdlllhcjfhknaa.Eng
open Go Go.Proofs
set_option maxRecDepth 100000
set_option maxHeartbeats 2000000
set_option linter.unusedSimpArgs false
set_option linter.unusedVariables false
attribute [local simp] finK fin1 hpOf xi renQ isRoot runCode runOps Eng.step wantedV astep val ofO made loadV storeV find V.cells bin binT binA numT numFs eqCells un1 setAt fieldAddrV fieldV indexAddrV indexV bounds sliceV convV lenV foldV max2V min2V callO bor rdsO wrsO seen_none okD_none loops keepIds resV resultsV St.ev TK.agg refs refsL refsO V.one V.isC Value.oneCell' ren renL renO noTag noTagL noTagR noTagO nodup mapO passV frs psi refsR newD loopNext opsAt idx flatAt rootOf backR newsV appendV copyV clearV strV bytesOf nilCmp buildV fillF chunk
attribute [local simp] cT cF cX cWR cOW cK X ints_length ints_get ints_getElem ints_drop ints_take ints_append ints_nil ints_set
attribute [local simp] ints_replicate
attribute [local simp] putV_some putV_none putH_app applyD_nil applyD_cons seen_app gc_ρ gc_H gc_tick st0_ρ st0_H st0_tick retV callRo callV_if borL_nil borL_cons ints_snoc take_self callWr cutH_app findQ afterV exportV_0 exportV_n okD_nil okD_cons sub_seq0 sub_seq1 sub_cond0 sub_cond1 sub_block sub_loop sub_nil young_far young_none hidW_nil mayW_nil pairs okI ok_0 ok_1 ok_2
attribute [local simp] T3 T4 T5 T9 T22 T24 T29 T36 T73 T75 T86 T89 T103 T104 T106 T108 T109 T114 T134 T136 T157 T161 T168
/-- The stack: nothing yet, or an object. -/
def Cd (v : V) (H : Hp) (A : List Int) : Prop := (A = [] ∧ v = .c (.slice none 0 0)) ∨ (A ≠ [] ∧ ∃ tk, v = .s 14440 tk 1 0 A.length ∧ H 14440 = some (tk, intsO A))
theorem c_impDepth (k : Nat) (b : Bool) (l : List (Int × Int)) (hk : 200 ≤ k) : callK C k 89 [.sq b true 2 (ndL l)] [] = some (.tp [.c (.int .i64 (depthI l)), .c (.bool (goodE l))], hpOf [] []) := by
  obtain ⟨k, rfl⟩ : ∃ m, k = m + 1 := ⟨k - 1, by omega⟩
  rw [callK_fn rfl F89 code89]
  have hg := c_IsExpression k b l (by omega)
  have hag := fun q => c_arguments k q (by omega)
  cases h : goodE l
  · rw [h] at hg
    simp [R89_0, R89_1, R89_2, R89_3, R89_4, R89_5, R89_6, R89_7, R89_8, R89_9, R89_10, R89_11, R89_12, R89_13, R89_14, R89_15, R89_16, Try.f89, lpL89_0, lpL89_1, lpM89_0, lpM89_1, lpM89_2, M89_0, M89_1, M89_2, hg, depthI, h]
  · rw [h] at hg
    obtain ⟨h15, hr⟩ := good_run h
    have hL := loopHas (body := fun st => runCode C (callK C (k + 0)) (k + 0) (K 89) L89_0 1 st) (keep := [4, 14, 15, 16]) (.ex 0) (fun st => Cd (st.ρ 4) st.H (depL l l.length))
      (fun i st => st.ρ 14 = .sq b true 2 (ndL l) ∧ st.ρ 15 = .c (.int .i64 (l.length : Int)) ∧ st.ρ 16 = .c (.int .i64 (i : Int)) ∧ Cd (st.ρ 4) st.H (depL l i))
      l.length (k + 0) (by omega)
      (by
        rintro i st next hi ⟨q14, q15, q16, hc⟩ hx
        have hgi : 0 ≤ runO l (i + 1) := runO_mono (by omega : 0 ≤ runO l l.length) (l.length - (i + 1)) (i + 1) (by omega)
        obtain ⟨r1, r2, r3, r4⟩ := runO_back hgi
        have hds := dep_step hgi
        have hdl := depL_len r1
        have hdb := fun L (hL : ∀ x ∈ L, x ∈ depL l i) => mxf_bound hL
        have hde := fun x (hx : x ∈ depL l i) => depL_bound hx
        rw [getD_nd hi] at r2 r3 r4 hds
        have r5 := runO_le l i
        have nget := ndL_get l i hi
        have ha := hag l[i]
        rw [argI_eq r2] at ha
        have hwn := wrap_next hi (by omega : l.length ≤ 9000000000000000000)
        obtain ⟨A, hA⟩ : ∃ A, depL l i = A := ⟨_, rfl⟩
        rw [hA] at hc hds hdl hdb hde
        obtain ⟨q, hq⟩ : ∃ q : Nat, A.length - (arI l[i]).toNat = q := ⟨_, rfl⟩
        rw [hq] at hds
        rw [hds] at hx
        have hqA : q ≤ A.length := by omega
        have w1 : IntKind.i64.wrap ((A.length : Int) - arI l[i]) = (q : Int) := by rw [wrap_small (by omega) (by omega)]; omega
        have hqA' : (q : Int) ≤ (A.length : Int) := by omega
        simp [ndE] at ha
        rcases hc with ⟨hn, hv⟩ | ⟨hn, tk, hv, hH⟩
        · subst hn
          have hq0 : q = 0 := by simpa using hqA
          subst hq0
          have w0 : IntKind.i64.wrap (-arI l[i]) = 0 := by simpa using w1
          simp [L89_0, R89_0, R89_1, R89_2, R89_3, R89_4, R89_5, R89_6, R89_7, R89_8, R89_9, R89_10, R89_11, R89_12, R89_13, R89_14, R89_15, R89_16, Try.f89, lpL89_0, lpL89_1, lpM89_0, lpM89_1, lpM89_2, q14, q15, q16, hv, hi, nget, ndL_at, ndE, ha, w0]
          generalize hr2 : loopRun _ _ _ _ = res
          have hL0 := loopHas (body := fun st => runCode C (callK C (k + 0)) (k + 0) (K 89) L89_1 2 st) (keep := [4, 7, 8, 14, 15, 16, 27, 28, 29]) (.ex 2) (fun st => st.ρ 4 = .c (.slice none 0 0) ∧ st.ρ 7 = .c (.int .i64 0) ∧ st.ρ 8 = .c (.int .i64 1) ∧ st.ρ 14 = .sq b true 2 (ndL l) ∧ st.ρ 15 = .c (.int .i64 (l.length : Int)) ∧ st.ρ 16 = .c (.int .i64 (i : Int)))
            (fun _ st => st.ρ 4 = .c (.slice none 0 0) ∧ st.ρ 7 = .c (.int .i64 0) ∧ st.ρ 8 = .c (.int .i64 1) ∧ st.ρ 14 = .sq b true 2 (ndL l) ∧ st.ρ 15 = .c (.int .i64 (l.length : Int)) ∧ st.ρ 16 = .c (.int .i64 (i : Int)) ∧ st.ρ 28 = .c (.int .i64 0) ∧ st.ρ 29 = .c (.int .i64 0))
            0 (k + 0) (by omega) (by rintro j st next hj; omega)
            (by
              rintro st next ⟨p4, p7, p8, p14, p15, p16, p28, p29⟩
              simp [L89_1, R89_0, R89_1, R89_2, R89_3, R89_4, R89_5, R89_6, R89_7, R89_8, R89_9, R89_10, R89_11, R89_12, R89_13, R89_14, R89_15, R89_16, Try.f89, lpL89_0, lpL89_1, lpM89_0, lpM89_1, lpM89_2, M89_0, M89_1, M89_2, p4, p7, p8, p14, p15, p16, p28, p29])
          obtain ⟨s1, rfl, f4, f7, f8, f14, f15, f16⟩ := loop_at hL0 hr2 ⟨by simp [hv], by simp, by simp, by simp [q14], by simp [q15], by simp [q16], by simp, by simp⟩
          simp [R89_0, R89_1, R89_2, R89_3, R89_4, R89_5, R89_6, R89_7, R89_8, R89_9, R89_10, R89_11, R89_12, R89_13, R89_14, R89_15, R89_16, Try.f89, lpL89_0, lpL89_1, lpM89_0, lpM89_1, lpM89_2, M89_0, M89_1, M89_2, f4, f7, f8, f14, f15, f16, maxLen, hwn]
          refine hx _ ⟨by simp [f14], by simp [f15], by simp, .inr ⟨by simp, s1.tick, ?_, ?_⟩⟩ <;> simp [mxf, intsO, ints]
        · have hA1 : 1 ≤ A.length := by cases A with | nil => exact absurd rfl hn | cons x A => simp
          simp [L89_0, R89_0, R89_1, R89_2, R89_3, R89_4, R89_5, R89_6, R89_7, R89_8, R89_9, R89_10, R89_11, R89_12, R89_13, R89_14, R89_15, R89_16, Try.f89, lpL89_0, lpL89_1, lpM89_0, lpM89_1, lpM89_2, q14, q15, q16, hv, hH, intsO, hi, nget, ndL_at, ndE, ha, w1, hqA, hqA']
          generalize hr2 : loopRun _ _ _ _ = res
          have hL1 := loopHas (body := fun st => runCode C (callK C (k + 0)) (k + 0) (K 89) L89_1 2 st) (keep := [4, 7, 8, 14, 15, 16, 27, 28, 29]) (.ex 2) (fun st => st.ρ 4 = .s 14440 tk 1 0 A.length ∧ st.ρ 7 = .c (.int .i64 (q : Int)) ∧ st.ρ 8 = .c (.int .i64 (mxf (A.drop q))) ∧ st.ρ 14 = .sq b true 2 (ndL l) ∧ st.ρ 15 = .c (.int .i64 (l.length : Int)) ∧ st.ρ 16 = .c (.int .i64 (i : Int)) ∧ st.H 14440 = some (tk, intsO A))
            (fun j st => st.ρ 4 = .s 14440 tk 1 0 A.length ∧ st.ρ 7 = .c (.int .i64 (q : Int)) ∧ st.ρ 8 = .c (.int .i64 (mxf ((A.drop q).take j))) ∧ st.ρ 14 = .sq b true 2 (ndL l) ∧ st.ρ 15 = .c (.int .i64 (l.length : Int)) ∧ st.ρ 16 = .c (.int .i64 (i : Int)) ∧ st.ρ 27 = .s 14440 tk 1 q (A.length - q) ∧ st.ρ 28 = .c (.int .i64 ((A.length - q : Nat) : Int)) ∧ st.ρ 29 = .c (.int .i64 (j : Int)) ∧ st.H 14440 = some (tk, intsO A))
            (A.length - q) (k + 0) (by omega)
            (by
              rintro j st next hj ⟨p4, p7, p8, p14, p15, p16, p27, p28, p29, pH⟩ hz
              have hqj : q + j < A.length := by omega
              have hjd : j < (A.drop q).length := by simp; omega
              have hms : mxf ((A.drop q).take (j + 1)) = max (mxf ((A.drop q).take j)) (A[q + j] + 1) := by
                rw [List.take_succ_eq_append_getElem hjd, mxf_snoc, List.getElem_drop]
              have hb1 := hde A[q + j] (List.getElem_mem hqj)
              have ww : IntKind.i64.wrap (A[q + j] + 1) = A[q + j] + 1 := wrap_small (by omega) (by omega)
              have hwj := wrap_next hj (by omega : A.length - q ≤ 9000000000000000000)
              simp [L89_1, R89_0, R89_1, R89_2, R89_3, R89_4, R89_5, R89_6, R89_7, R89_8, R89_9, R89_10, R89_11, R89_12, R89_13, R89_14, R89_15, R89_16, Try.f89, lpL89_0, lpL89_1, lpM89_0, lpM89_1, lpM89_2, M89_0, M89_1, M89_2, p4, p7, p8, p14, p15, p16, p27, p28, p29, pH, intsO, hj, hqj, ww, hwj]
              exact hz _ ⟨by simp [p4], by simp [p7], by simp [hms]; split <;> omega, by simp [p14], by simp [p15], by simp [p16], by simp [p27], by simp [p28], by simp, by simp [pH, p4, p7, p8, p14, p15, p16, p27, p28, p29, intsO]⟩)
            (by
              rintro st next ⟨p4, p7, p8, p14, p15, p16, p27, p28, p29, pH⟩
              have htk : (A.drop q).take (A.length - q) = A.drop q := List.take_of_length_le (by simp)
              rw [htk] at p8
              simp [L89_1, R89_0, R89_1, R89_2, R89_3, R89_4, R89_5, R89_6, R89_7, R89_8, R89_9, R89_10, R89_11, R89_12, R89_13, R89_14, R89_15, R89_16, Try.f89, lpL89_0, lpL89_1, lpM89_0, lpM89_1, lpM89_2, M89_0, M89_1, M89_2, p4, p7, p8, p14, p15, p16, p27, p28, p29, pH])
          obtain ⟨s1, rfl, f4, f7, f8, f14, f15, f16, fH⟩ := loop_at hL1 hr2 ⟨by simp [hv], by simp, by simp [mxf], by simp [q14], by simp [q15], by simp [q16], by simp, by simp, by simp, by simp [hH, hv, q14, q15, q16, intsO]⟩
          have hnb : (q + 1) * 8 ≤ 140737488355328 := by omega
          have hnb' : q + 1 ≤ maxLen := by unfold maxLen; omega
          simp [R89_0, R89_1, R89_2, R89_3, R89_4, R89_5, R89_6, R89_7, R89_8, R89_9, R89_10, R89_11, R89_12, R89_13, R89_14, R89_15, R89_16, Try.f89, lpL89_0, lpL89_1, lpM89_0, lpM89_1, lpM89_2, M89_0, M89_1, M89_2, f4, f7, f8, f14, f15, f16, fH, intsO, hqA, hqA', hnb, hnb', hwn]
          refine hx _ ⟨by simp [f14], by simp [f15], by simp, .inr ⟨by simp, s1.tick, ?_, ?_⟩⟩ <;> simp [intsO, f4, hqA])
      (by
        rintro st next ⟨q14, q15, q16, hc⟩
        rcases hc with ⟨hn, hv⟩ | ⟨hn, tk, hv, hH⟩
        · simp [L89_0, R89_0, R89_1, R89_2, R89_3, R89_4, R89_5, R89_6, R89_7, R89_8, R89_9, R89_10, R89_11, R89_12, R89_13, R89_14, R89_15, R89_16, Try.f89, lpL89_0, lpL89_1, lpM89_0, lpM89_1, lpM89_2, M89_0, M89_1, M89_2, q14, q15, q16, hv]
          exact .inl ⟨hn, rfl⟩
        · simp [L89_0, R89_0, R89_1, R89_2, R89_3, R89_4, R89_5, R89_6, R89_7, R89_8, R89_9, R89_10, R89_11, R89_12, R89_13, R89_14, R89_15, R89_16, Try.f89, lpL89_0, lpL89_1, lpM89_0, lpM89_1, lpM89_2, M89_0, M89_1, M89_2, q14, q15, q16, hv, hH]
          exact .inr ⟨hn, tk, rfl, by simp [hv, hH, intsO]⟩)
    simp [R89_0, R89_1, R89_2, R89_3, R89_4, R89_5, R89_6, R89_7, R89_8, R89_9, R89_10, R89_11, R89_12, R89_13, R89_14, R89_15, R89_16, Try.f89, lpL89_0, lpL89_1, lpM89_0, lpM89_1, lpM89_2, hg]
    generalize hrr : loopRun _ _ _ _ = res
    obtain ⟨s1, rfl, fc⟩ := loop_at hL hrr ⟨by simp, by simp [ndL_length], by simp, .inl ⟨rfl, by simp⟩⟩
    obtain ⟨n, hn⟩ : ∃ n, l.length = n + 1 := by
      cases hl : l.length with
      | zero => rw [hl] at hr; simp [runO] at hr
      | succ n => exact ⟨n, rfl⟩
    obtain ⟨a, d, ha, hs⟩ := stk_top (l := l) n (by rw [← hn]; omega)
    obtain ⟨hv, hd⟩ := depth_top h (by rw [hn]; exact hs)
    rw [hd] at fc
    rcases fc with ⟨fa, _⟩ | ⟨_, tk, f4, fH⟩
    · cases fa
    · simp [R89_0, R89_1, R89_2, R89_3, R89_4, R89_5, R89_6, R89_7, R89_8, R89_9, R89_10, R89_11, R89_12, R89_13, R89_14, R89_15, R89_16, Try.f89, lpL89_0, lpL89_1, lpM89_0, lpM89_1, lpM89_2, M89_0, M89_1, M89_2, f4, fH, intsO, ints, hv]

end Go.Proofs.Ytfdlllhcjfhknaa.Eng
