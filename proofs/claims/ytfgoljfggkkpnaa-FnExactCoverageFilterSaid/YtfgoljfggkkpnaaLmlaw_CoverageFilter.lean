/- A deterministic reading of Go code over plain data: what functions of the program compute. No conditions. -/
import Derived.Test.YtfgoljfggkkpnaaLmbase
import Derived.Test.YtfgoljfggkkpnaaLmfield
import Derived.Test.YtfgoljfggkkpnaaLmnils
import Derived.Test.YtfgoljfggkkpnaaLmimpl
import Derived.Test.YtfgoljfggkkpnaaLmfres
import Derived.Test.YtfgoljfggkkpnaaEngT
namespace Go.Proofs.Ytfgoljfggkkpnaa.Eng
open Go Go.Proofs
set_option maxRecDepth 100000
set_option maxHeartbeats 2000000
set_option linter.unusedSimpArgs false
set_option linter.unusedVariables false
attribute [local simp] finK fin1 hpOf xi renQ isRoot runCode runOps Eng.step wantedV astep val ofO made loadV storeV find V.cells bin binT un1 setAt fieldAddrV fieldV indexAddrV indexV bounds sliceV convV lenV foldV max2V min2V callO bor rdsO wrsO seen_none okD_none loops keepIds resV resultsV St.ev TK.agg refs refsL refsO V.one V.isC Value.oneCell' ren renL renO noTag noTagL noTagR noTagO nodup mapO passV frs psi refsR newD loopNext opsAt idx flatAt rootOf backR newsV appendV copyV buildV fillF chunk
attribute [local simp] cT cF cX cWR cOW cK X WR OW K ints_length ints_get ints_getElem ints_drop ints_take ints_append ints_nil ints_set
attribute [local simp] ints_replicate
attribute [local simp] putV_some putV_none putH_app applyD_nil applyD_cons seen_app gc_ρ gc_H gc_tick st0_ρ st0_H st0_tick retV callRo callV_ro borL_nil borL_cons ints_snoc take_self callV_wr callWr cutH_app findQ afterV exportV_0 exportV_n okD_nil okD_cons sub_seq0 sub_seq1 sub_cond0 sub_cond1 sub_block sub_loop sub_nil young_far young_none okI ok_0 ok_1 ok_2
attribute [local simp] T3 T4 T22 T24 T26 T57 T59 T63 T67 T87 T92
attribute [local simp] young_near clo cloF Region.binds Nat.testBit
theorem w_over1_CoverageFilter (k : Nat) (b1 : Bool) (w1 h1 : Int) (l1 : List Int) (r : Int) (thr : Int) (hl : l1.length ≤ 9223372036854775807)  (ho1 : (1048576 - (l1.length : Int)) < 0) :
    callK C (k + 30) 7 [lfldV b1 w1 h1 l1, .c (.int .i64 r), .c (.int .i64 thr)] [] = some (.c (.bool true), hpOf [] []) := by
  rw [callK_fn rfl F7 code7]
  have z1 := c_szField (k + 29) b1 w1 h1 l1 (1048576) (by omega) (by omega) (by omega)
  rw [if_pos ho1] at z1
  simp [lfldV] at z1
  simp [R7_0, R7_1, R7_2, R7_3, R7_4, R7_5, R7_6, R7_7, R7_8, R7_9, R7_10, R7_11, R7_12, R7_13, R7_14, R7_15, R7_16, R7_17, R7_18, R7_19, R7_20, R7_21, R7_22, R7_23, R7_24, R7_25, R7_26, R7_27, R7_28, R7_29, R7_30, R7_31, R7_32, R7_33, Try.f7, lfldV, z1]
theorem w_no_CoverageFilter (k : Nat) (b1 : Bool) (w1 h1 : Int) (l1 : List Int) (r : Int) (thr : Int) (ho1 : ¬ (1048576 - (l1.length : Int)) < 0) (S : callK C (k + 29) 23 [fldV true w1 h1 l1, .c (.int .i64 r), .c (.int .i64 thr)] [] = some (.tp [nilV, .c (.bool false)], hpOf [] [])) (I : callK C (k + 29) 24 [fldV true w1 h1 l1, .c (.int .i64 r), .c (.int .i64 thr)] [] = some (.tp [nilV, .c (.bool false)], hpOf [] [])) (hk : l1.length + 3000 ≤ k) :
    callK C (k + 30) 7 [lfldV b1 w1 h1 l1, .c (.int .i64 r), .c (.int .i64 thr)] [] = some (.c (.bool true), hpOf [] []) := by
  rw [callK_fn rfl F7 code7]
  have z1 := c_szField (k + 29) b1 w1 h1 l1 (1048576) (by omega) (by omega) (by omega)
  rw [if_neg ho1] at z1
  have t1 := c_toField (k + 29) b1 w1 h1 l1 (by omega) (by omega)
  have e1 := c_eqField (k + 29) true true w1 h1 w1 h1 l1 l1 (by omega) (by omega)
  have m1 := c_markField (k + 29) w1 h1 l1 (1) (by omega) (by omega) (by omega) (by omega)
  have q1 : l1.take l1.length = l1 := List.take_length
  have p1 : ¬ (1 + (l1.length : Int) < 0) := by omega
  have en := c_eqFieldNil (k + 29) (by omega)
  have mn := c_markFieldNil (k + 29) 1 (by omega)
  have dn := c_heldFieldNil (k + 29) 1 (by omega) (by omega)
  simp [lfldV, fldV, nilV, intsO] at z1 t1 e1 m1 en mn dn S I
  simp [R7_0, R7_1, R7_2, R7_3, R7_4, R7_5, R7_6, R7_7, R7_8, R7_9, R7_10, R7_11, R7_12, R7_13, R7_14, R7_15, R7_16, R7_17, R7_18, R7_19, R7_20, R7_21, R7_22, R7_23, R7_24, R7_25, R7_26, R7_27, R7_28, R7_29, R7_30, R7_31, R7_32, R7_33, Try.f7, lfldV, z1, ho1, t1, e1, m1, p1, en, mn, dn, S, I]
theorem w_yes_CoverageFilter (k : Nat) (b1 : Bool) (w1 h1 : Int) (l1 : List Int) (r : Int) (thr : Int) (ho1 : ¬ (1048576 - (l1.length : Int)) < 0) (rW rH : Int) (rL : List Int) (hr : rL.length ≤ 1048576) (S : callK C (k + 29) 23 [fldV true w1 h1 l1, .c (.int .i64 r), .c (.int .i64 thr)] [] = some (.tp [ownV rW rH 0 2 rL.length, .c (.bool true)], hpOf [] [intsO rL])) (I : callK C (k + 29) 24 [fldV true w1 h1 l1, .c (.int .i64 r), .c (.int .i64 thr)] [] = some (.tp [ownV rW rH 0 2 rL.length, .c (.bool true)], hpOf [] [intsO rL])) (hk : l1.length + rL.length + 3000 ≤ k) :
    callK C (k + 30) 7 [lfldV b1 w1 h1 l1, .c (.int .i64 r), .c (.int .i64 thr)] [] = some (.c (.bool true), hpOf [] []) := by
  rw [callK_fn rfl F7 code7]
  have z1 := c_szField (k + 29) b1 w1 h1 l1 (1048576) (by omega) (by omega) (by omega)
  rw [if_neg ho1] at z1
  have t1 := c_toField (k + 29) b1 w1 h1 l1 (by omega) (by omega)
  have e1 := c_eqField (k + 29) true true w1 h1 w1 h1 l1 l1 (by omega) (by omega)
  have m1 := c_markField (k + 29) w1 h1 l1 (1) (by omega) (by omega) (by omega) (by omega)
  have q1 : l1.take l1.length = l1 := List.take_length
  have p1 : ¬ (1 + (l1.length : Int) < 0) := by omega
  have er := c_eqField (k + 29) true true rW rH rW rH rL rL (by omega) (by omega)
  have mr := c_markField (k + 29) rW rH rL 1 (by omega) (by omega) (by omega) (by omega)
  have dr := c_heldField (k + 29) true rW rH (marks 1 rL.length) 1 (by rw [marks_length]; omega) (by omega) (by omega) (by rw [marks_length]; omega)
  rw [marks_length, if_pos rfl] at dr
  have p2 : ¬ (1 + (rL.length : Int) < 0) := by omega
  have q1 : rL.take rL.length = rL := List.take_length
  have q2 : (marks 1 rL.length).take rL.length = marks 1 rL.length := List.take_of_length_le (by rw [marks_length]; exact Nat.le_refl _)
  simp [lfldV, fldV, ownV, intsO] at z1 t1 e1 m1 er mr dr S I
  simp [R7_0, R7_1, R7_2, R7_3, R7_4, R7_5, R7_6, R7_7, R7_8, R7_9, R7_10, R7_11, R7_12, R7_13, R7_14, R7_15, R7_16, R7_17, R7_18, R7_19, R7_20, R7_21, R7_22, R7_23, R7_24, R7_25, R7_26, R7_27, R7_28, R7_29, R7_30, R7_31, R7_32, R7_33, Try.f7, lfldV, z1, ho1, t1, e1, m1, p1, er, mr, dr, p2, q1, q2, S, I, marks_length]
theorem law_CoverageFilter (w1 h1 : Int) (l1 : List Int) (r : Int) (thr : Int) (_ : (Lit.int .i64 w1).wf = true) (_ : (Lit.int .i64 h1).wf = true) (hl1 : l1.length ≤ maxLen) (wf_r : (Lit.int .i64 r).wf = true) (wf_thr : (Lit.int .i64 thr).wf = true) :
    ∃ k, callK C k 7 [lfldV false w1 h1 l1, .c (.int .i64 r), .c (.int .i64 thr)] [] = some (.c (.bool true), hpOf [] []) := by
  refine ⟨l1.length + 1060000 + 30, ?_⟩
  unfold maxLen at hl1
  by_cases ho1 : (1048576 - (l1.length : Int)) < 0
  · exact w_over1_CoverageFilter _ false w1 h1 l1 r thr (by omega)  ho1
  rcases res_CoverageFilter (l1.length + 1060000 + 29) w1 h1 l1 r thr (by omega) with ⟨S, I⟩ | ⟨rW, rH, rL, hr, S, I⟩
  · exact w_no_CoverageFilter _ false w1 h1 l1 r thr ho1 S I (by omega)
  · exact w_yes_CoverageFilter _ false w1 h1 l1 r thr ho1 rW rH rL (by omega) S I (by omega)

end Go.Proofs.Ytfgoljfggkkpnaa.Eng
