/- A deterministic reading of Go code over plain data: what functions of the program compute. No conditions. -/
import Derived.Test.YtmbjhcdmnjhnoaaLmbase
import Derived.Test.YtmbjhcdmnjhnoaaLmfield
import Derived.Test.YtmbjhcdmnjhnoaaLmnils
import Derived.Test.YtmbjhcdmnjhnoaaLmimpl
import Derived.Test.YtmbjhcdmnjhnoaaLmspec
import Derived.Test.YtmbjhcdmnjhnoaaLmcombspec
import Derived.Test.YtmbjhcdmnjhnoaaEngT
namespace Go.Proofs.Ytmbjhcdmnjhnoaa.Eng
open Go Go.Proofs
set_option maxRecDepth 100000
set_option maxHeartbeats 2000000
set_option linter.unusedSimpArgs false
set_option linter.unusedVariables false
attribute [local simp] finK fin1 hpOf xi renQ isRoot runCode runOps Eng.step wantedV astep val ofO made loadV storeV find V.cells bin binT un1 setAt fieldAddrV fieldV indexAddrV indexV bounds sliceV convV lenV foldV max2V min2V callO bor rdsO wrsO seen_none okD_none loops keepIds resV resultsV St.ev TK.agg refs refsL refsO V.one V.isC Value.oneCell' ren renL renO noTag noTagL noTagR noTagO nodup mapO passV frs psi refsR newD loopNext opsAt idx flatAt rootOf backR newsV appendV buildV fillF chunk
attribute [local simp] cT cF cX cWR cOW cK X WR OW K ints_length ints_get ints_getElem ints_drop ints_take ints_append ints_nil ints_set
attribute [local simp] ints_replicate
attribute [local simp] putV_some putV_none putH_app applyD_nil applyD_cons seen_app gc_ρ gc_H gc_tick st0_ρ st0_H st0_tick retV callRo callV_ro callV_wr callWr cutH_app findQ afterV exportV_0 exportV_n okD_nil okD_cons sub_seq0 sub_seq1 sub_cond0 sub_cond1 sub_block sub_loop sub_nil young_far young_none okI ok_0 ok_1 ok_2
attribute [local simp] T3 T4 T22 T24 T26 T37 T112 T115
attribute [local simp] young_near clo cloF Region.binds Nat.testBit
theorem w_over1_Combine (k : Nat) (op : Int) (b1 : Bool) (w1 h1 : Int) (l1 : List Int) (b2 : Bool) (w2 h2 : Int) (l2 : List Int) (hl : l1.length ≤ 9223372036854775807)  (ho1 : (1048576 - (l1.length : Int)) < 0) :
    callK C (k + 30) 9 [.c (.int .i64 op), lfldV b1 w1 h1 l1, lfldV b2 w2 h2 l2] [] = some (.c (.bool true), hpOf [] []) := by
  rw [callK_fn rfl F9 code9]
  have z1 := c_szField (k + 29) b1 w1 h1 l1 (1048576) (by omega) (by omega) (by omega)
  rw [if_pos ho1] at z1
  simp [lfldV] at z1
  simp [R9_0, R9_1, R9_2, R9_3, R9_4, R9_5, R9_6, R9_7, R9_8, R9_9, R9_10, R9_11, R9_12, R9_13, R9_14, R9_15, R9_16, R9_17, R9_18, R9_19, R9_20, R9_21, R9_22, R9_23, R9_24, R9_25, R9_26, R9_27, R9_28, R9_29, R9_30, R9_31, R9_32, R9_33, R9_34, R9_35, R9_36, R9_37, R9_38, R9_39, R9_40, Try.f9, lfldV, z1]
theorem w_over2_Combine (k : Nat) (op : Int) (b1 : Bool) (w1 h1 : Int) (l1 : List Int) (b2 : Bool) (w2 h2 : Int) (l2 : List Int) (hl : l2.length ≤ 9223372036854775807) (ho1 : ¬ (1048576 - (l1.length : Int)) < 0) (ho2 : (1048576 - (l1.length : Int) - (l2.length : Int)) < 0) :
    callK C (k + 30) 9 [.c (.int .i64 op), lfldV b1 w1 h1 l1, lfldV b2 w2 h2 l2] [] = some (.c (.bool true), hpOf [] []) := by
  rw [callK_fn rfl F9 code9]
  have z1 := c_szField (k + 29) b1 w1 h1 l1 (1048576) (by omega) (by omega) (by omega)
  rw [if_neg ho1] at z1
  have z2 := c_szField (k + 29) b2 w2 h2 l2 (1048576 - (l1.length : Int)) (by omega) (by omega) (by omega)
  rw [if_pos ho2] at z2
  simp [lfldV] at z1 z2
  simp [R9_0, R9_1, R9_2, R9_3, R9_4, R9_5, R9_6, R9_7, R9_8, R9_9, R9_10, R9_11, R9_12, R9_13, R9_14, R9_15, R9_16, R9_17, R9_18, R9_19, R9_20, R9_21, R9_22, R9_23, R9_24, R9_25, R9_26, R9_27, R9_28, R9_29, R9_30, R9_31, R9_32, R9_33, R9_34, R9_35, R9_36, R9_37, R9_38, R9_39, R9_40, Try.f9, lfldV, z1, z2, ho1]
theorem w_no_Combine (k : Nat) (op : Int) (b1 : Bool) (w1 h1 : Int) (l1 : List Int) (b2 : Bool) (w2 h2 : Int) (l2 : List Int) (ho1 : ¬ (1048576 - (l1.length : Int)) < 0) (ho2 : ¬ (1048576 - (l1.length : Int) - (l2.length : Int)) < 0) (S : callK C (k + 29) 32 [.c (.int .i64 op), fldV true w1 h1 l1, fldV true w2 h2 l2] [] = some (.tp [nilV, .c (.bool false)], hpOf [] [])) (I : callK C (k + 29) 33 [.c (.int .i64 op), fldV true w1 h1 l1, fldV true w2 h2 l2] [] = some (.tp [nilV, .c (.bool false)], hpOf [] [])) (hk : l1.length + l2.length + 3000 ≤ k) :
    callK C (k + 30) 9 [.c (.int .i64 op), lfldV b1 w1 h1 l1, lfldV b2 w2 h2 l2] [] = some (.c (.bool true), hpOf [] []) := by
  rw [callK_fn rfl F9 code9]
  have z1 := c_szField (k + 29) b1 w1 h1 l1 (1048576) (by omega) (by omega) (by omega)
  rw [if_neg ho1] at z1
  have t1 := c_toField (k + 29) b1 w1 h1 l1 (by omega) (by omega)
  have e1 := c_eqField (k + 29) true true w1 h1 w1 h1 l1 l1 (by omega) (by omega)
  have m1 := c_markField (k + 29) w1 h1 l1 (1) (by omega) (by omega) (by omega) (by omega)
  have q1 : l1.take l1.length = l1 := List.take_length
  have z2 := c_szField (k + 29) b2 w2 h2 l2 (1048576 - (l1.length : Int)) (by omega) (by omega) (by omega)
  rw [if_neg ho2] at z2
  have t2 := c_toField (k + 29) b2 w2 h2 l2 (by omega) (by omega)
  have e2 := c_eqField (k + 29) true true w2 h2 w2 h2 l2 l2 (by omega) (by omega)
  have m2 := c_markField (k + 29) w2 h2 l2 (1 + (l1.length : Int)) (by omega) (by omega) (by omega) (by omega)
  have q2 : l2.take l2.length = l2 := List.take_length
  have p1 : ¬ (1 + (l1.length : Int) + (l2.length : Int) < 0) := by omega
  have en := c_eqFieldNil (k + 29) (by omega)
  have mn := c_markFieldNil (k + 29) 1 (by omega)
  have dn := c_heldFieldNil (k + 29) 1 (by omega) (by omega)
  simp [lfldV, fldV, nilV, intsO] at z1 t1 e1 m1 z2 t2 e2 m2 en mn dn S I
  simp [R9_0, R9_1, R9_2, R9_3, R9_4, R9_5, R9_6, R9_7, R9_8, R9_9, R9_10, R9_11, R9_12, R9_13, R9_14, R9_15, R9_16, R9_17, R9_18, R9_19, R9_20, R9_21, R9_22, R9_23, R9_24, R9_25, R9_26, R9_27, R9_28, R9_29, R9_30, R9_31, R9_32, R9_33, R9_34, R9_35, R9_36, R9_37, R9_38, R9_39, R9_40, Try.f9, lfldV, z1, ho1, t1, e1, m1, z2, ho2, t2, e2, m2, p1, en, mn, dn, S, I]
theorem w_yes_Combine (k : Nat) (op : Int) (b1 : Bool) (w1 h1 : Int) (l1 : List Int) (b2 : Bool) (w2 h2 : Int) (l2 : List Int) (ho1 : ¬ (1048576 - (l1.length : Int)) < 0) (ho2 : ¬ (1048576 - (l1.length : Int) - (l2.length : Int)) < 0) (rW rH : Int) (r : List Int) (hr : r.length ≤ 1048576) (S : callK C (k + 29) 32 [.c (.int .i64 op), fldV true w1 h1 l1, fldV true w2 h2 l2] [] = some (.tp [ownV rW rH 0 2 r.length, .c (.bool true)], hpOf [] [intsO r])) (I : callK C (k + 29) 33 [.c (.int .i64 op), fldV true w1 h1 l1, fldV true w2 h2 l2] [] = some (.tp [ownV rW rH 0 2 r.length, .c (.bool true)], hpOf [] [intsO r])) (hk : l1.length + l2.length + r.length + 3000 ≤ k) :
    callK C (k + 30) 9 [.c (.int .i64 op), lfldV b1 w1 h1 l1, lfldV b2 w2 h2 l2] [] = some (.c (.bool true), hpOf [] []) := by
  rw [callK_fn rfl F9 code9]
  have z1 := c_szField (k + 29) b1 w1 h1 l1 (1048576) (by omega) (by omega) (by omega)
  rw [if_neg ho1] at z1
  have t1 := c_toField (k + 29) b1 w1 h1 l1 (by omega) (by omega)
  have e1 := c_eqField (k + 29) true true w1 h1 w1 h1 l1 l1 (by omega) (by omega)
  have m1 := c_markField (k + 29) w1 h1 l1 (1) (by omega) (by omega) (by omega) (by omega)
  have q1 : l1.take l1.length = l1 := List.take_length
  have z2 := c_szField (k + 29) b2 w2 h2 l2 (1048576 - (l1.length : Int)) (by omega) (by omega) (by omega)
  rw [if_neg ho2] at z2
  have t2 := c_toField (k + 29) b2 w2 h2 l2 (by omega) (by omega)
  have e2 := c_eqField (k + 29) true true w2 h2 w2 h2 l2 l2 (by omega) (by omega)
  have m2 := c_markField (k + 29) w2 h2 l2 (1 + (l1.length : Int)) (by omega) (by omega) (by omega) (by omega)
  have q2 : l2.take l2.length = l2 := List.take_length
  have p1 : ¬ (1 + (l1.length : Int) + (l2.length : Int) < 0) := by omega
  have er := c_eqField (k + 29) true true rW rH rW rH r r (by omega) (by omega)
  have mr := c_markField (k + 29) rW rH r 1 (by omega) (by omega) (by omega) (by omega)
  have dr := c_heldField (k + 29) true rW rH (marks 1 r.length) 1 (by rw [marks_length]; omega) (by omega) (by omega) (by rw [marks_length]; omega)
  rw [marks_length, if_pos rfl] at dr
  have p2 : ¬ (1 + (r.length : Int) < 0) := by omega
  have q1 : r.take r.length = r := List.take_length
  have q2 : (marks 1 r.length).take r.length = marks 1 r.length := List.take_of_length_le (by rw [marks_length]; exact Nat.le_refl _)
  simp [lfldV, fldV, ownV, intsO] at z1 t1 e1 m1 z2 t2 e2 m2 er mr dr S I
  simp [R9_0, R9_1, R9_2, R9_3, R9_4, R9_5, R9_6, R9_7, R9_8, R9_9, R9_10, R9_11, R9_12, R9_13, R9_14, R9_15, R9_16, R9_17, R9_18, R9_19, R9_20, R9_21, R9_22, R9_23, R9_24, R9_25, R9_26, R9_27, R9_28, R9_29, R9_30, R9_31, R9_32, R9_33, R9_34, R9_35, R9_36, R9_37, R9_38, R9_39, R9_40, Try.f9, lfldV, z1, ho1, t1, e1, m1, z2, ho2, t2, e2, m2, p1, er, mr, dr, p2, q1, q2, S, I, marks_length]
theorem law_Combine (op : Int) (w1 h1 : Int) (l1 : List Int) (w2 h2 : Int) (l2 : List Int) (wf_op : (Lit.int .i64 op).wf = true) (_ : (Lit.int .i64 w1).wf = true) (_ : (Lit.int .i64 h1).wf = true) (hl1 : l1.length ≤ maxLen) (_ : (Lit.int .i64 w2).wf = true) (_ : (Lit.int .i64 h2).wf = true) (hl2 : l2.length ≤ maxLen) :
    ∃ k, callK C k 9 [.c (.int .i64 op), lfldV false w1 h1 l1, lfldV false w2 h2 l2] [] = some (.c (.bool true), hpOf [] []) := by
  refine ⟨l1.length + l2.length + 1060000 + 30, ?_⟩
  unfold maxLen at hl1 hl2
  by_cases ho1 : (1048576 - (l1.length : Int)) < 0
  · exact w_over1_Combine _ op false w1 h1 l1 false w2 h2 l2 (by omega)  ho1
  by_cases ho2 : (1048576 - (l1.length : Int) - (l2.length : Int)) < 0
  · exact w_over2_Combine _ op false w1 h1 l1 false w2 h2 l2 (by omega) ho1 ho2
  rcases res_Combine (l1.length + l2.length + 1060000 + 29) op w1 h1 l1 w2 h2 l2 (by omega) with ⟨S, I⟩ | ⟨rW, rH, r, hr, S, I⟩
  · exact w_no_Combine _ op false w1 h1 l1 false w2 h2 l2 ho1 ho2 S I (by omega)
  · exact w_yes_Combine _ op false w1 h1 l1 false w2 h2 l2 ho1 ho2 rW rH r (by omega) S I (by omega)

end Go.Proofs.Ytmbjhcdmnjhnoaa.Eng
