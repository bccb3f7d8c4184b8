/- A deterministic reading of Go code over plain data: what functions of the program compute. No conditions. -/
import Derived.Test.YtllneakafpldjaaLmbase
import Derived.Test.YtllneakafpldjaaLmimpl
import Derived.Test.YtllneakafpldjaaLmgood
import Derived.Test.YtllneakafpldjaaLmminmax
import Derived.Test.YtllneakafpldjaaLmnodes
import Derived.Test.YtllneakafpldjaaLmnodep
import Derived.Test.YtllneakafpldjaaLmnodefn
import Derived.Test.YtllneakafpldjaaLmisexpr
import Derived.Test.YtllneakafpldjaaLmnodelaw
import Derived.Test.YtllneakafpldjaaLmcombspec
import Derived.Test.YtllneakafpldjaaLmfoldp
import Derived.Test.YtllneakafpldjaaLmfoldc
import Derived.Test.YtllneakafpldjaaLmfoldi
import Derived.Test.YtllneakafpldjaaLmfolds
import Derived.Test.YtllneakafpldjaaLmfumarkn
import Derived.Test.YtllneakafpldjaaEngT
namespace Go.Proofs.Ytllneakafpldjaa.Eng
open Go Go.Proofs
set_option maxRecDepth 100000
set_option maxHeartbeats 2000000
set_option linter.unusedSimpArgs false
set_option linter.unusedVariables false
attribute [local simp] finK fin1 hpOf xi renQ isRoot runCode runOps Eng.step wantedV astep val ofO made loadV storeV find V.cells bin binT binA numT numFs eqCells un1 setAt fieldAddrV fieldV indexAddrV indexV bounds sliceV convV lenV foldV max2V min2V callO bor rdsO wrsO seen_none okD_none loops keepIds resV resultsV St.ev TK.agg refs refsL refsO V.one V.isC Value.oneCell' ren renL renO noTag noTagL noTagR noTagO nodup mapO passV frs psi refsR newD loopNext opsAt idx flatAt rootOf backR newsV appendV copyV clearV strV bytesV bldV bufV selfV bytesOf nilCmp buildV fillF chunk
attribute [local simp] cT cF cX cWR cOW cK cBL X ints_length ints_get ints_getElem ints_drop ints_take ints_append ints_nil ints_set
attribute [local simp] ints_replicate
attribute [local simp] putV_some putV_none putH_app applyD_nil applyD_cons seen_app gc_ρ gc_H gc_tick st0_ρ st0_H st0_tick retV callRo callV_if borL_nil borL_cons ints_snoc take_self callWr cutH_app findQ afterV exportV_0 exportV_n okD_nil okD_cons sub_seq0 sub_seq1 sub_cond0 sub_cond1 sub_block sub_loop sub_nil young_far young_none hidW_nil mayW_nil pairs okI ok_0 ok_1 ok_2
attribute [local simp] T3 T4 T22 T24 T35 T37
attribute [local simp] young_near clo cloF Region.binds Nat.testBit hidW declW mayW List.findIdx?_cons
theorem mkN_at (n : Int) (len i : Nat) (h : i < len) : (ndL (mkN n len))[i]? = some [V.c (.int .i64 (n + 2 * (i : Int))), V.c (.int .i64 (n + 2 * (i : Int) + 1))] := by
  simp [ndL, mkN, ndE, h]
theorem c_heldNodeS (k : Nat) (b : Bool) (n : Nat) (hn : n ≤ 1000) (hk : n + 10 ≤ k) : callK C k 10 [.sq b true 2 (ndL (mkN 1 n)), .c (.int .i64 1)] [] = some (.c (.int .i64 (1 + 2 * (n : Int))), hpOf [] []) := by
  obtain ⟨k, rfl⟩ : ∃ m, k = m + 3 := ⟨k - 3, by omega⟩
  rw [callK_fn rfl F10 code10]
  have hlen : (mkN 1 n).length = n := mkN_len 1 n
  have hL := loopHas (body := fun st => runCode C (callK C (k + 2)) (k + 2) (K 10) L10_0 1 st) (keep := [0, 1, 5]) (.ex 0) (fun st => st.ρ 1 = .c (.int .i64 (1 + 2 * (n : Int))))
    (fun i st => st.ρ 0 = .sq b true 2 (ndL (mkN 1 n)) ∧ st.ρ 1 = .c (.int .i64 (1 + 2 * (i : Int))) ∧ st.ρ 5 = .c (.int .i64 (i : Int)))
    n (k + 2) (by omega)
    (by
      rintro i st next hi ⟨h0, h1, h5⟩ hx
      have hg := mkN_at 1 n i hi
      obtain ⟨_, hg2⟩ := List.getElem?_eq_some_iff.1 hg
      have w1 : IntKind.i64.wrap (1 + 2 * (i : Int) + 1) = 1 + 2 * (i : Int) + 1 := wrap_small (by omega) (by omega)
      have w2 : IntKind.i64.wrap (1 + 2 * (i : Int) + 1 + 1) = 1 + 2 * ((i : Int) + 1) := by rw [wrap_small (by omega) (by omega)]; omega
      simp [L10_0, R10_0, R10_1, R10_2, R10_3, R10_4, R10_5, R10_6, R10_7, R10_8, R10_9, R10_10, Try.f10, lpL10_0, lpM10_0, M10_0, h0, h1, h5, hi, hg, hg2, hlen, ndL_length, w1, w2, wrap_next hi (by omega : n ≤ 9000000000000000000)]
      exact hx _ ⟨by simp [h0], by simp, by simp⟩)
    (by
      rintro st next ⟨h0, h1, h5⟩
      simp [L10_0, R10_0, R10_1, R10_2, R10_3, R10_4, R10_5, R10_6, R10_7, R10_8, R10_9, R10_10, Try.f10, lpL10_0, lpM10_0, M10_0, h0, h1, h5, hlen, ndL_length])
  simp [R10_0, R10_1, R10_2, R10_3, R10_4, R10_5, R10_6, R10_7, R10_8, R10_9, R10_10, Try.f10, lpL10_0, lpM10_0]
  generalize hr2 : loopRun _ _ _ _ = res
  obtain ⟨s1, rfl, f1⟩ := loop_at hL hr2 ⟨by simp, by simp, by simp⟩
  simp [R10_0, R10_1, R10_2, R10_3, R10_4, R10_5, R10_6, R10_7, R10_8, R10_9, R10_10, Try.f10, lpL10_0, lpM10_0, M10_0, f1]
theorem c_heldNodeNil (k : Nat) (hk : 10 ≤ k) : callK C k 10 [.c (.slice none 0 0), .c (.int .i64 1)] [] = some (.c (.int .i64 1), hpOf [] []) := by
  obtain ⟨k, rfl⟩ : ∃ m, k = m + 3 := ⟨k - 3, by omega⟩
  rw [callK_fn rfl F10 code10]
  simp [R10_0, R10_1, R10_2, R10_3, R10_4, R10_5, R10_6, R10_7, R10_8, R10_9, R10_10, Try.f10, lpL10_0, lpM10_0, M10_0, L10_0, loopRun_succ]
theorem c_markNodeNil (k : Nat) (hk : 10 ≤ k) : callK C k 9 [.c (.slice none 0 0), .c (.int .i64 1)] [] = some (.c (.int .i64 1), hpOf [] []) := by
  obtain ⟨k, rfl⟩ : ∃ m, k = m + 3 := ⟨k - 3, by omega⟩
  rw [callK_fn rfl F9 code9]
  simp [R9_0, R9_1, R9_2, R9_3, R9_4, R9_5, R9_6, R9_7, R9_8, Try.f9, lpL9_0, lpM9_0, M9_0, L9_0, loopRun_succ]
theorem c_eqNodeNil (k : Nat) (b : Bool) (hk : 10 ≤ k) : callK C k 8 [.c (.slice none 0 0), .sq b true 2 []] [] = some (.c (.bool true), hpOf [] []) := by
  obtain ⟨k, rfl⟩ : ∃ m, k = m + 3 := ⟨k - 3, by omega⟩
  rw [callK_fn rfl F8 code8]
  simp [R8_0, R8_1, R8_2, R8_3, R8_4, R8_5, R8_6, R8_7, R8_8, Try.f8, lpL8_0, lpM8_0, M8_0, L8_0, loopRun_succ]
theorem fAll_len : ∀ n l, goodE l = true → (fAll n l).length ≤ 15
  | 0, l, hg => by
    simp only [goodE, Bool.and_eq_true, decide_eq_true_eq] at hg
    exact hg.1
  | n + 1, l, hg => by
    unfold fAll
    split
    · simp only [goodE, Bool.and_eq_true, decide_eq_true_eq] at hg
      exact hg.1
    · rename_i i c v hs
      obtain ⟨hi, hv⟩ := srch_facts l.length (Nat.le_refl _) i c v hs
      exact fAll_len n _ (fo_good hg hi hv)
theorem law_Fold (k : Nat) (b : Bool) (l : List (Int × Int)) (hl : l.length ≤ 9223372036854775807) (hk : l.length + 3000 ≤ k) : callK C k 3 [.sq b true 2 (ndL l)] [] = some (.c (.bool true), hpOf [] []) := by
  obtain ⟨k, rfl⟩ : ∃ m, k = m + 1 := ⟨k - 1, by omega⟩
  rw [callK_fn rfl F3 code3]
  have z := c_szNodeS k b l 1048576 (by omega) (by omega) (by omega)
  by_cases h : (1048576 : Int) - (l.length : Int) < 0
  · rw [if_pos h] at z
    simp [R3_0, R3_1, R3_2, R3_3, R3_4, R3_5, R3_6, R3_7, R3_8, R3_9, R3_10, R3_11, R3_12, R3_13, R3_14, R3_15, R3_16, R3_17, R3_18, R3_19, R3_20, R3_21, R3_22, R3_23, R3_24, R3_25, R3_26, R3_27, R3_28, R3_29, R3_30, R3_31, R3_32, R3_33, Try.f3, z]
  · rw [if_neg h] at z
    have t := c_toNodeS k b l (by omega) (by omega)
    have e := c_eqNodeS k true true l l (by omega) (by omega)
    have mk := c_markNodeS k l 1 (by omega) (by omega) (by omega) (by omega)
    simp [ndO] at t mk
    have lm : ¬ (1 + 2 * (l.length : Int)) < 0 := by omega
    cases hg : goodE l
    · have S := c_specFoldNo k true l hg (by omega)
      have I := c_implFoldNo k true l hg (by omega)
      have mn := c_markNodeNil k (by omega)
      have hn := c_heldNodeNil k (by omega)
      have en := c_eqNodeNil k true (by omega)
      simp [ndO, ndL_n] at S
      simp [R3_0, R3_1, R3_2, R3_3, R3_4, R3_5, R3_6, R3_7, R3_8, R3_9, R3_10, R3_11, R3_12, R3_13, R3_14, R3_15, R3_16, R3_17, R3_18, R3_19, R3_20, R3_21, R3_22, R3_23, R3_24, R3_25, R3_26, R3_27, R3_28, R3_29, R3_30, R3_31, R3_32, R3_33, Try.f3, undef, z, h, t, mk, lm, ndO, ndL_length, ndL_take, ndL_n, e, S, I, mn, hn, en]
    · have S := c_specFold k true l hg (by omega)
      have I := c_implFold k true l hg (by omega)
      have hF := fAll_len l.length l hg
      obtain ⟨F, hFF⟩ : ∃ F, fAll l.length l = F := ⟨_, rfl⟩
      rw [hFF] at S I hF
      have mF := c_markNodeS k F 1 (by omega) (by omega) (by omega) (by omega)
      have hf : fillN 1 F F.length = mkN 1 F.length := by unfold fillN; rw [List.drop_length, List.append_nil]
      have eF := c_eqNodeS k true true F F (by omega) (by omega)
      have hh := c_heldNodeS k true F.length (by omega) (by omega)
      have ht : (ndL (mkN 1 F.length)).take F.length = ndL (mkN 1 F.length) := List.take_of_length_le (by rw [ndL_length, mkN_len]; exact Nat.le_refl _)
      have lF : ¬ (1 + 2 * (F.length : Int)) < 0 := by omega
      simp [ndO] at S I mF
      try rw [hf] at mF
      simp [R3_0, R3_1, R3_2, R3_3, R3_4, R3_5, R3_6, R3_7, R3_8, R3_9, R3_10, R3_11, R3_12, R3_13, R3_14, R3_15, R3_16, R3_17, R3_18, R3_19, R3_20, R3_21, R3_22, R3_23, R3_24, R3_25, R3_26, R3_27, R3_28, R3_29, R3_30, R3_31, R3_32, R3_33, Try.f3, undef, z, h, t, mk, lm, ndO, ndL_length, ndL_take, mkN_len, e, S, I, mF, eF, hh, ht, hf, lF]
theorem row_Fold (l : List (Int × Int)) (w : l.length ≤ maxLen) : ∃ k, callK C k 3 [.sq false true 2 (ndL l)] [] = some (.c (.bool true), hpOf [] []) :=
  ⟨l.length + 3000, law_Fold _ false l (by unfold maxLen at w; omega) (by omega)⟩

end Go.Proofs.Ytllneakafpldjaa.Eng
