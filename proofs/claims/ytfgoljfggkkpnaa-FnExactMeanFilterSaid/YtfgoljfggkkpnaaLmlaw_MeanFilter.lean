/- A deterministic reading of Go code over plain data: what functions of the program compute. No conditions. -/
import Derived.Test.YtfgoljfggkkpnaaLmbase
import Derived.Test.YtfgoljfggkkpnaaLmfield
import Derived.Test.YtfgoljfggkkpnaaLmnils
import Derived.Test.YtfgoljfggkkpnaaLmimpl
import Derived.Test.YtfgoljfggkkpnaaLmfres
import Derived.Test.YtfgoljfggkkpnaaEngT
namespace Go.Proofs.Ytfgoljfggkkpnaa.Eng
open Go Go.Proofs
set_option maxRecDepth 100000
set_option maxHeartbeats 2000000
set_option linter.unusedSimpArgs false
set_option linter.unusedVariables false
attribute [local simp] finK fin1 hpOf xi renQ isRoot runCode runOps Eng.step wantedV astep val ofO made loadV storeV find V.cells bin binT un1 setAt fieldAddrV fieldV indexAddrV indexV bounds sliceV convV lenV foldV max2V min2V callO bor rdsO wrsO seen_none okD_none loops keepIds resV resultsV St.ev TK.agg refs refsL refsO V.one V.isC Value.oneCell' ren renL renO noTag noTagL noTagR noTagO nodup mapO passV frs psi refsR newD loopNext opsAt idx flatAt rootOf backR newsV appendV copyV buildV fillF chunk
attribute [local simp] cT cF cX cWR cOW cK X WR OW K ints_length ints_get ints_getElem ints_drop ints_take ints_append ints_nil ints_set
attribute [local simp] ints_replicate
attribute [local simp] putV_some putV_none putH_app applyD_nil applyD_cons seen_app gc_ρ gc_H gc_tick st0_ρ st0_H st0_tick retV callRo callV_ro borL_nil borL_cons ints_snoc take_self callV_wr callWr cutH_app findQ afterV exportV_0 exportV_n okD_nil okD_cons sub_seq0 sub_seq1 sub_cond0 sub_cond1 sub_block sub_loop sub_nil young_far young_none okI ok_0 ok_1 ok_2
attribute [local simp] T3 T4 T22 T24 T26 T57 T59 T63 T67 T87 T92
attribute [local simp] young_near clo cloF Region.binds Nat.testBit
theorem w_over1_MeanFilter (k : Nat) (b1 : Bool) (w1 h1 : Int) (l1 : List Int) (r : Int) (hl : l1.length ≤ 9223372036854775807)  (ho1 : (1048576 - (l1.length : Int)) < 0) :
    callK C (k + 30) 5 [lfldV b1 w1 h1 l1, .c (.int .i64 r)] [] = some (.c (.bool true), hpOf [] []) := by
  rw [callK_fn rfl F5 code5]
  have z1 := c_szField (k + 29) b1 w1 h1 l1 (1048576) (by omega) (by omega) (by omega)
  rw [if_pos ho1] at z1
  simp [lfldV] at z1
  simp [R5_0, R5_1, R5_2, R5_3, R5_4, R5_5, R5_6, R5_7, R5_8, R5_9, R5_10, R5_11, R5_12, R5_13, R5_14, R5_15, R5_16, R5_17, R5_18, R5_19, R5_20, R5_21, R5_22, R5_23, R5_24, R5_25, R5_26, R5_27, R5_28, R5_29, R5_30, R5_31, R5_32, R5_33, Try.f5, lfldV, z1]
theorem w_no_MeanFilter (k : Nat) (b1 : Bool) (w1 h1 : Int) (l1 : List Int) (r : Int) (ho1 : ¬ (1048576 - (l1.length : Int)) < 0) (S : callK C (k + 29) 19 [fldV true w1 h1 l1, .c (.int .i64 r)] [] = some (.tp [nilV, .c (.bool false)], hpOf [] [])) (I : callK C (k + 29) 20 [fldV true w1 h1 l1, .c (.int .i64 r)] [] = some (.tp [nilV, .c (.bool false)], hpOf [] [])) (hk : l1.length + 3000 ≤ k) :
    callK C (k + 30) 5 [lfldV b1 w1 h1 l1, .c (.int .i64 r)] [] = some (.c (.bool true), hpOf [] []) := by
  rw [callK_fn rfl F5 code5]
  have z1 := c_szField (k + 29) b1 w1 h1 l1 (1048576) (by omega) (by omega) (by omega)
  rw [if_neg ho1] at z1
  have t1 := c_toField (k + 29) b1 w1 h1 l1 (by omega) (by omega)
  have e1 := c_eqField (k + 29) true true w1 h1 w1 h1 l1 l1 (by omega) (by omega)
  have m1 := c_markField (k + 29) w1 h1 l1 (1) (by omega) (by omega) (by omega) (by omega)
  have q1 : l1.take l1.length = l1 := List.take_length
  have p1 : ¬ (1 + (l1.length : Int) < 0) := by omega
  have en := c_eqFieldNil (k + 29) (by omega)
  have mn := c_markFieldNil (k + 29) 1 (by omega)
  have dn := c_heldFieldNil (k + 29) 1 (by omega) (by omega)
  simp [lfldV, fldV, nilV, intsO] at z1 t1 e1 m1 en mn dn S I
  simp [R5_0, R5_1, R5_2, R5_3, R5_4, R5_5, R5_6, R5_7, R5_8, R5_9, R5_10, R5_11, R5_12, R5_13, R5_14, R5_15, R5_16, R5_17, R5_18, R5_19, R5_20, R5_21, R5_22, R5_23, R5_24, R5_25, R5_26, R5_27, R5_28, R5_29, R5_30, R5_31, R5_32, R5_33, Try.f5, lfldV, z1, ho1, t1, e1, m1, p1, en, mn, dn, S, I]
theorem w_yes_MeanFilter (k : Nat) (b1 : Bool) (w1 h1 : Int) (l1 : List Int) (r : Int) (ho1 : ¬ (1048576 - (l1.length : Int)) < 0) (rW rH : Int) (rL : List Int) (hr : rL.length ≤ 1048576) (S : callK C (k + 29) 19 [fldV true w1 h1 l1, .c (.int .i64 r)] [] = some (.tp [ownV rW rH 0 2 rL.length, .c (.bool true)], hpOf [] [intsO rL])) (I : callK C (k + 29) 20 [fldV true w1 h1 l1, .c (.int .i64 r)] [] = some (.tp [ownV rW rH 0 2 rL.length, .c (.bool true)], hpOf [] [intsO rL])) (hk : l1.length + rL.length + 3000 ≤ k) :
    callK C (k + 30) 5 [lfldV b1 w1 h1 l1, .c (.int .i64 r)] [] = some (.c (.bool true), hpOf [] []) := by
  rw [callK_fn rfl F5 code5]
  have z1 := c_szField (k + 29) b1 w1 h1 l1 (1048576) (by omega) (by omega) (by omega)
  rw [if_neg ho1] at z1
  have t1 := c_toField (k + 29) b1 w1 h1 l1 (by omega) (by omega)
  have e1 := c_eqField (k + 29) true true w1 h1 w1 h1 l1 l1 (by omega) (by omega)
  have m1 := c_markField (k + 29) w1 h1 l1 (1) (by omega) (by omega) (by omega) (by omega)
  have q1 : l1.take l1.length = l1 := List.take_length
  have p1 : ¬ (1 + (l1.length : Int) < 0) := by omega
  have er := c_eqField (k + 29) true true rW rH rW rH rL rL (by omega) (by omega)
  have mr := c_markField (k + 29) rW rH rL 1 (by omega) (by omega) (by omega) (by omega)
  have dr := c_heldField (k + 29) true rW rH (marks 1 rL.length) 1 (by rw [marks_length]; omega) (by omega) (by omega) (by rw [marks_length]; omega)
  rw [marks_length, if_pos rfl] at dr
  have p2 : ¬ (1 + (rL.length : Int) < 0) := by omega
  have q1 : rL.take rL.length = rL := List.take_length
  have q2 : (marks 1 rL.length).take rL.length = marks 1 rL.length := List.take_of_length_le (by rw [marks_length]; exact Nat.le_refl _)
  simp [lfldV, fldV, ownV, intsO] at z1 t1 e1 m1 er mr dr S I
  simp [R5_0, R5_1, R5_2, R5_3, R5_4, R5_5, R5_6, R5_7, R5_8, R5_9, R5_10, R5_11, R5_12, R5_13, R5_14, R5_15, R5_16, R5_17, R5_18, R5_19, R5_20, R5_21, R5_22, R5_23, R5_24, R5_25, R5_26, R5_27, R5_28, R5_29, R5_30, R5_31, R5_32, R5_33, Try.f5, lfldV, z1, ho1, t1, e1, m1, p1, er, mr, dr, p2, q1, q2, S, I, marks_length]
theorem law_MeanFilter (w1 h1 : Int) (l1 : List Int) (r : Int) (_ : (Lit.int .i64 w1).wf = true) (_ : (Lit.int .i64 h1).wf = true) (hl1 : l1.length ≤ maxLen) (wf_r : (Lit.int .i64 r).wf = true) :
    ∃ k, callK C k 5 [lfldV false w1 h1 l1, .c (.int .i64 r)] [] = some (.c (.bool true), hpOf [] []) := by
  refine ⟨l1.length + 1060000 + 30, ?_⟩
  unfold maxLen at hl1
  by_cases ho1 : (1048576 - (l1.length : Int)) < 0
  · exact w_over1_MeanFilter _ false w1 h1 l1 r (by omega)  ho1
  rcases res_MeanFilter (l1.length + 1060000 + 29) w1 h1 l1 r (by omega) with ⟨S, I⟩ | ⟨rW, rH, rL, hr, S, I⟩
  · exact w_no_MeanFilter _ false w1 h1 l1 r ho1 S I (by omega)
  · exact w_yes_MeanFilter _ false w1 h1 l1 r ho1 rW rH rL (by omega) S I (by omega)

end Go.Proofs.Ytfgoljfggkkpnaa.Eng
