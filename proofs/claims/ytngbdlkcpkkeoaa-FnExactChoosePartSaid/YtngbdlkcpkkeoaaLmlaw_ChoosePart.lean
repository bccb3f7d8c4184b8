/- A deterministic reading of Go code over plain data: what functions of the program compute. No conditions. -/
import Derived.Test.YtngbdlkcpkkeoaaLmbase
import Derived.Test.YtngbdlkcpkkeoaaLmfield
import Derived.Test.YtngbdlkcpkkeoaaLmnils
import Derived.Test.YtngbdlkcpkkeoaaLmimpl
import Derived.Test.YtngbdlkcpkkeoaaLmchspec
import Derived.Test.YtngbdlkcpkkeoaaEngT
namespace Go.Proofs.Ytngbdlkcpkkeoaa.Eng
open Go Go.Proofs
set_option maxRecDepth 100000
set_option maxHeartbeats 2000000
set_option linter.unusedSimpArgs false
set_option linter.unusedVariables false
attribute [local simp] finK fin1 hpOf xi renQ isRoot runCode runOps Eng.step wantedV astep val ofO made loadV storeV find V.cells bin binT un1 setAt fieldAddrV fieldV indexAddrV indexV bounds sliceV convV lenV foldV max2V min2V callO bor rdsO wrsO seen_none okD_none loops keepIds resV resultsV St.ev TK.agg refs refsL refsO V.one V.isC Value.oneCell' ren renL renO noTag noTagL noTagR noTagO nodup mapO passV frs psi refsR newD loopNext opsAt idx flatAt rootOf backR newsV appendV copyV buildV fillF chunk
attribute [local simp] cT cF cX cWR cOW cK X WR OW K ints_length ints_get ints_getElem ints_drop ints_take ints_append ints_nil ints_set
attribute [local simp] ints_replicate
attribute [local simp] putV_some putV_none putH_app applyD_nil applyD_cons seen_app gc_ρ gc_H gc_tick st0_ρ st0_H st0_tick retV callRo callV_if borL_nil borL_cons ints_snoc take_self callWr cutH_app findQ afterV exportV_0 exportV_n okD_nil okD_cons sub_seq0 sub_seq1 sub_cond0 sub_cond1 sub_block sub_loop sub_nil young_far young_none okI ok_0 ok_1 ok_2
attribute [local simp] T3 T4 T22 T25 T29 T31 T35 T60 T62 T71 T83
attribute [local simp] young_near clo cloF Region.binds Nat.testBit
theorem w_over1_ChoosePart (k : Nat) (b1 : Bool) (w1 h1 : Int) (l1 : List Int) (b2 : Bool) (w2 h2 : Int) (l2 : List Int) (b3 : Bool) (w3 h3 : Int) (l3 : List Int) (hl : l1.length ≤ 9223372036854775807)  (ho1 : (1048576 - (l1.length : Int)) < 0) :
    callK C (k + 30) 12 [lfldV b1 w1 h1 l1, lfldV b2 w2 h2 l2, lfldV b3 w3 h3 l3] [] = some (.c (.bool true), hpOf [] []) := by
  rw [callK_fn rfl F12 code12]
  have z1 := c_szField (k + 29) b1 w1 h1 l1 (1048576) (by omega) (by omega) (by omega)
  rw [if_pos ho1] at z1
  simp [lfldV] at z1
  simp [R12_0, R12_1, R12_2, R12_3, R12_4, R12_5, R12_6, R12_7, R12_8, R12_9, R12_10, R12_11, R12_12, R12_13, R12_14, R12_15, R12_16, R12_17, R12_18, R12_19, R12_20, R12_21, R12_22, R12_23, R12_24, R12_25, R12_26, R12_27, R12_28, R12_29, R12_30, R12_31, R12_32, R12_33, R12_34, R12_35, R12_36, R12_37, R12_38, R12_39, R12_40, R12_41, R12_42, R12_43, R12_44, R12_45, R12_46, R12_47, Try.f12, lfldV, z1]
theorem w_over2_ChoosePart (k : Nat) (b1 : Bool) (w1 h1 : Int) (l1 : List Int) (b2 : Bool) (w2 h2 : Int) (l2 : List Int) (b3 : Bool) (w3 h3 : Int) (l3 : List Int) (hl : l2.length ≤ 9223372036854775807) (ho1 : ¬ (1048576 - (l1.length : Int)) < 0) (ho2 : (1048576 - (l1.length : Int) - (l2.length : Int)) < 0) :
    callK C (k + 30) 12 [lfldV b1 w1 h1 l1, lfldV b2 w2 h2 l2, lfldV b3 w3 h3 l3] [] = some (.c (.bool true), hpOf [] []) := by
  rw [callK_fn rfl F12 code12]
  have z1 := c_szField (k + 29) b1 w1 h1 l1 (1048576) (by omega) (by omega) (by omega)
  rw [if_neg ho1] at z1
  have z2 := c_szField (k + 29) b2 w2 h2 l2 (1048576 - (l1.length : Int)) (by omega) (by omega) (by omega)
  rw [if_pos ho2] at z2
  simp [lfldV] at z1 z2
  simp [R12_0, R12_1, R12_2, R12_3, R12_4, R12_5, R12_6, R12_7, R12_8, R12_9, R12_10, R12_11, R12_12, R12_13, R12_14, R12_15, R12_16, R12_17, R12_18, R12_19, R12_20, R12_21, R12_22, R12_23, R12_24, R12_25, R12_26, R12_27, R12_28, R12_29, R12_30, R12_31, R12_32, R12_33, R12_34, R12_35, R12_36, R12_37, R12_38, R12_39, R12_40, R12_41, R12_42, R12_43, R12_44, R12_45, R12_46, R12_47, Try.f12, lfldV, z1, z2, ho1]
theorem w_over3_ChoosePart (k : Nat) (b1 : Bool) (w1 h1 : Int) (l1 : List Int) (b2 : Bool) (w2 h2 : Int) (l2 : List Int) (b3 : Bool) (w3 h3 : Int) (l3 : List Int) (hl : l3.length ≤ 9223372036854775807) (ho1 : ¬ (1048576 - (l1.length : Int)) < 0) (ho2 : ¬ (1048576 - (l1.length : Int) - (l2.length : Int)) < 0) (ho3 : (1048576 - (l1.length : Int) - (l2.length : Int) - (l3.length : Int)) < 0) :
    callK C (k + 30) 12 [lfldV b1 w1 h1 l1, lfldV b2 w2 h2 l2, lfldV b3 w3 h3 l3] [] = some (.c (.bool true), hpOf [] []) := by
  rw [callK_fn rfl F12 code12]
  have z1 := c_szField (k + 29) b1 w1 h1 l1 (1048576) (by omega) (by omega) (by omega)
  rw [if_neg ho1] at z1
  have z2 := c_szField (k + 29) b2 w2 h2 l2 (1048576 - (l1.length : Int)) (by omega) (by omega) (by omega)
  rw [if_neg ho2] at z2
  have z3 := c_szField (k + 29) b3 w3 h3 l3 (1048576 - (l1.length : Int) - (l2.length : Int)) (by omega) (by omega) (by omega)
  rw [if_pos ho3] at z3
  simp [lfldV] at z1 z2 z3
  simp [R12_0, R12_1, R12_2, R12_3, R12_4, R12_5, R12_6, R12_7, R12_8, R12_9, R12_10, R12_11, R12_12, R12_13, R12_14, R12_15, R12_16, R12_17, R12_18, R12_19, R12_20, R12_21, R12_22, R12_23, R12_24, R12_25, R12_26, R12_27, R12_28, R12_29, R12_30, R12_31, R12_32, R12_33, R12_34, R12_35, R12_36, R12_37, R12_38, R12_39, R12_40, R12_41, R12_42, R12_43, R12_44, R12_45, R12_46, R12_47, Try.f12, lfldV, z1, z2, z3, ho1, ho2]
theorem w_no_ChoosePart (k : Nat) (b1 : Bool) (w1 h1 : Int) (l1 : List Int) (b2 : Bool) (w2 h2 : Int) (l2 : List Int) (b3 : Bool) (w3 h3 : Int) (l3 : List Int) (ho1 : ¬ (1048576 - (l1.length : Int)) < 0) (ho2 : ¬ (1048576 - (l1.length : Int) - (l2.length : Int)) < 0) (ho3 : ¬ (1048576 - (l1.length : Int) - (l2.length : Int) - (l3.length : Int)) < 0) (S : callK C (k + 29) 43 [fldV true w1 h1 l1, fldV true w2 h2 l2, fldV true w3 h3 l3] [] = some (.tp [nilV, .c (.bool false)], hpOf [] [])) (I : callK C (k + 29) 44 [fldV true w1 h1 l1, fldV true w2 h2 l2, fldV true w3 h3 l3] [] = some (.tp [nilV, .c (.bool false)], hpOf [] [])) (hk : l1.length + l2.length + l3.length + 3000 ≤ k) :
    callK C (k + 30) 12 [lfldV b1 w1 h1 l1, lfldV b2 w2 h2 l2, lfldV b3 w3 h3 l3] [] = some (.c (.bool true), hpOf [] []) := by
  rw [callK_fn rfl F12 code12]
  have z1 := c_szField (k + 29) b1 w1 h1 l1 (1048576) (by omega) (by omega) (by omega)
  rw [if_neg ho1] at z1
  have t1 := c_toField (k + 29) b1 w1 h1 l1 (by omega) (by omega)
  have e1 := c_eqField (k + 29) true true w1 h1 w1 h1 l1 l1 (by omega) (by omega)
  have m1 := c_markField (k + 29) w1 h1 l1 (1) (by omega) (by omega) (by omega) (by omega)
  have q1 : l1.take l1.length = l1 := List.take_length
  have z2 := c_szField (k + 29) b2 w2 h2 l2 (1048576 - (l1.length : Int)) (by omega) (by omega) (by omega)
  rw [if_neg ho2] at z2
  have t2 := c_toField (k + 29) b2 w2 h2 l2 (by omega) (by omega)
  have e2 := c_eqField (k + 29) true true w2 h2 w2 h2 l2 l2 (by omega) (by omega)
  have m2 := c_markField (k + 29) w2 h2 l2 (1 + (l1.length : Int)) (by omega) (by omega) (by omega) (by omega)
  have q2 : l2.take l2.length = l2 := List.take_length
  have z3 := c_szField (k + 29) b3 w3 h3 l3 (1048576 - (l1.length : Int) - (l2.length : Int)) (by omega) (by omega) (by omega)
  rw [if_neg ho3] at z3
  have t3 := c_toField (k + 29) b3 w3 h3 l3 (by omega) (by omega)
  have e3 := c_eqField (k + 29) true true w3 h3 w3 h3 l3 l3 (by omega) (by omega)
  have m3 := c_markField (k + 29) w3 h3 l3 (1 + (l1.length : Int) + (l2.length : Int)) (by omega) (by omega) (by omega) (by omega)
  have q3 : l3.take l3.length = l3 := List.take_length
  have p1 : ¬ (1 + (l1.length : Int) + (l2.length : Int) + (l3.length : Int) < 0) := by omega
  have en := c_eqFieldNil (k + 29) (by omega)
  have mn := c_markFieldNil (k + 29) 1 (by omega)
  have dn := c_heldFieldNil (k + 29) 1 (by omega) (by omega)
  simp [lfldV, fldV, nilV, intsO] at z1 t1 e1 m1 z2 t2 e2 m2 z3 t3 e3 m3 en mn dn S I
  simp [R12_0, R12_1, R12_2, R12_3, R12_4, R12_5, R12_6, R12_7, R12_8, R12_9, R12_10, R12_11, R12_12, R12_13, R12_14, R12_15, R12_16, R12_17, R12_18, R12_19, R12_20, R12_21, R12_22, R12_23, R12_24, R12_25, R12_26, R12_27, R12_28, R12_29, R12_30, R12_31, R12_32, R12_33, R12_34, R12_35, R12_36, R12_37, R12_38, R12_39, R12_40, R12_41, R12_42, R12_43, R12_44, R12_45, R12_46, R12_47, Try.f12, lfldV, z1, ho1, t1, e1, m1, z2, ho2, t2, e2, m2, z3, ho3, t3, e3, m3, p1, en, mn, dn, S, I]
theorem w_yes_ChoosePart (k : Nat) (b1 : Bool) (w1 h1 : Int) (l1 : List Int) (b2 : Bool) (w2 h2 : Int) (l2 : List Int) (b3 : Bool) (w3 h3 : Int) (l3 : List Int) (ho1 : ¬ (1048576 - (l1.length : Int)) < 0) (ho2 : ¬ (1048576 - (l1.length : Int) - (l2.length : Int)) < 0) (ho3 : ¬ (1048576 - (l1.length : Int) - (l2.length : Int) - (l3.length : Int)) < 0) (rW rH : Int) (rL : List Int) (hr : rL.length ≤ 1048576) (S : callK C (k + 29) 43 [fldV true w1 h1 l1, fldV true w2 h2 l2, fldV true w3 h3 l3] [] = some (.tp [ownV rW rH 0 2 rL.length, .c (.bool true)], hpOf [] [intsO rL])) (I : callK C (k + 29) 44 [fldV true w1 h1 l1, fldV true w2 h2 l2, fldV true w3 h3 l3] [] = some (.tp [ownV rW rH 0 2 rL.length, .c (.bool true)], hpOf [] [intsO rL])) (hk : l1.length + l2.length + l3.length + rL.length + 3000 ≤ k) :
    callK C (k + 30) 12 [lfldV b1 w1 h1 l1, lfldV b2 w2 h2 l2, lfldV b3 w3 h3 l3] [] = some (.c (.bool true), hpOf [] []) := by
  rw [callK_fn rfl F12 code12]
  have z1 := c_szField (k + 29) b1 w1 h1 l1 (1048576) (by omega) (by omega) (by omega)
  rw [if_neg ho1] at z1
  have t1 := c_toField (k + 29) b1 w1 h1 l1 (by omega) (by omega)
  have e1 := c_eqField (k + 29) true true w1 h1 w1 h1 l1 l1 (by omega) (by omega)
  have m1 := c_markField (k + 29) w1 h1 l1 (1) (by omega) (by omega) (by omega) (by omega)
  have q1 : l1.take l1.length = l1 := List.take_length
  have z2 := c_szField (k + 29) b2 w2 h2 l2 (1048576 - (l1.length : Int)) (by omega) (by omega) (by omega)
  rw [if_neg ho2] at z2
  have t2 := c_toField (k + 29) b2 w2 h2 l2 (by omega) (by omega)
  have e2 := c_eqField (k + 29) true true w2 h2 w2 h2 l2 l2 (by omega) (by omega)
  have m2 := c_markField (k + 29) w2 h2 l2 (1 + (l1.length : Int)) (by omega) (by omega) (by omega) (by omega)
  have q2 : l2.take l2.length = l2 := List.take_length
  have z3 := c_szField (k + 29) b3 w3 h3 l3 (1048576 - (l1.length : Int) - (l2.length : Int)) (by omega) (by omega) (by omega)
  rw [if_neg ho3] at z3
  have t3 := c_toField (k + 29) b3 w3 h3 l3 (by omega) (by omega)
  have e3 := c_eqField (k + 29) true true w3 h3 w3 h3 l3 l3 (by omega) (by omega)
  have m3 := c_markField (k + 29) w3 h3 l3 (1 + (l1.length : Int) + (l2.length : Int)) (by omega) (by omega) (by omega) (by omega)
  have q3 : l3.take l3.length = l3 := List.take_length
  have p1 : ¬ (1 + (l1.length : Int) + (l2.length : Int) + (l3.length : Int) < 0) := by omega
  have er := c_eqField (k + 29) true true rW rH rW rH rL rL (by omega) (by omega)
  have mr := c_markField (k + 29) rW rH rL 1 (by omega) (by omega) (by omega) (by omega)
  have dr := c_heldField (k + 29) true rW rH (marks 1 rL.length) 1 (by rw [marks_length]; omega) (by omega) (by omega) (by rw [marks_length]; omega)
  rw [marks_length, if_pos rfl] at dr
  have p2 : ¬ (1 + (rL.length : Int) < 0) := by omega
  have q1 : rL.take rL.length = rL := List.take_length
  have q2 : (marks 1 rL.length).take rL.length = marks 1 rL.length := List.take_of_length_le (by rw [marks_length]; exact Nat.le_refl _)
  simp [lfldV, fldV, ownV, intsO] at z1 t1 e1 m1 z2 t2 e2 m2 z3 t3 e3 m3 er mr dr S I
  simp [R12_0, R12_1, R12_2, R12_3, R12_4, R12_5, R12_6, R12_7, R12_8, R12_9, R12_10, R12_11, R12_12, R12_13, R12_14, R12_15, R12_16, R12_17, R12_18, R12_19, R12_20, R12_21, R12_22, R12_23, R12_24, R12_25, R12_26, R12_27, R12_28, R12_29, R12_30, R12_31, R12_32, R12_33, R12_34, R12_35, R12_36, R12_37, R12_38, R12_39, R12_40, R12_41, R12_42, R12_43, R12_44, R12_45, R12_46, R12_47, Try.f12, lfldV, z1, ho1, t1, e1, m1, z2, ho2, t2, e2, m2, z3, ho3, t3, e3, m3, p1, er, mr, dr, p2, q1, q2, S, I, marks_length]
theorem law_ChoosePart (w1 h1 : Int) (l1 : List Int) (w2 h2 : Int) (l2 : List Int) (w3 h3 : Int) (l3 : List Int) (_ : (Lit.int .i64 w1).wf = true) (_ : (Lit.int .i64 h1).wf = true) (hl1 : l1.length ≤ maxLen) (_ : (Lit.int .i64 w2).wf = true) (_ : (Lit.int .i64 h2).wf = true) (hl2 : l2.length ≤ maxLen) (_ : (Lit.int .i64 w3).wf = true) (_ : (Lit.int .i64 h3).wf = true) (hl3 : l3.length ≤ maxLen) :
    ∃ k, callK C k 12 [lfldV false w1 h1 l1, lfldV false w2 h2 l2, lfldV false w3 h3 l3] [] = some (.c (.bool true), hpOf [] []) := by
  refine ⟨l1.length + l2.length + l3.length + 1060000 + 30, ?_⟩
  unfold maxLen at hl1 hl2 hl3
  by_cases ho1 : (1048576 - (l1.length : Int)) < 0
  · exact w_over1_ChoosePart _ false w1 h1 l1 false w2 h2 l2 false w3 h3 l3 (by omega)  ho1
  by_cases ho2 : (1048576 - (l1.length : Int) - (l2.length : Int)) < 0
  · exact w_over2_ChoosePart _ false w1 h1 l1 false w2 h2 l2 false w3 h3 l3 (by omega) ho1 ho2
  by_cases ho3 : (1048576 - (l1.length : Int) - (l2.length : Int) - (l3.length : Int)) < 0
  · exact w_over3_ChoosePart _ false w1 h1 l1 false w2 h2 l2 false w3 h3 l3 (by omega) ho1 ho2 ho3
  rcases res_ChoosePart (l1.length + l2.length + l3.length + 1060000 + 29) w1 h1 l1 w2 h2 l2 w3 h3 l3 (by omega) with ⟨S, I⟩ | ⟨rW, rH, rL, hr, S, I⟩
  · exact w_no_ChoosePart _ false w1 h1 l1 false w2 h2 l2 false w3 h3 l3 ho1 ho2 ho3 S I (by omega)
  · exact w_yes_ChoosePart _ false w1 h1 l1 false w2 h2 l2 false w3 h3 l3 ho1 ho2 ho3 rW rH rL (by omega) S I (by omega)

end Go.Proofs.Ytngbdlkcpkkeoaa.Eng
