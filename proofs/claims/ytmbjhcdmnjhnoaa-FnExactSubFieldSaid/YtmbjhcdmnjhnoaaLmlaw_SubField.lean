/- A deterministic reading of Go code over plain data: what functions of the program compute. No conditions. -/
import Derived.Test.YtmbjhcdmnjhnoaaLmbase
import Derived.Test.YtmbjhcdmnjhnoaaLmfield
import Derived.Test.YtmbjhcdmnjhnoaaLmnils
import Derived.Test.YtmbjhcdmnjhnoaaLmimpl
import Derived.Test.YtmbjhcdmnjhnoaaLmspec
import Derived.Test.YtmbjhcdmnjhnoaaLmsubfield
import Derived.Test.YtmbjhcdmnjhnoaaEngT
namespace Go.Proofs.Ytmbjhcdmnjhnoaa.Eng
open Go Go.Proofs
set_option maxRecDepth 100000
set_option maxHeartbeats 2000000
set_option linter.unusedSimpArgs false
set_option linter.unusedVariables false
attribute [local simp] finK fin1 hpOf xi renQ isRoot runCode runOps Eng.step wantedV astep val ofO made loadV storeV find V.cells bin binT un1 setAt fieldAddrV fieldV indexAddrV indexV bounds sliceV convV lenV foldV max2V min2V callO bor rdsO wrsO seen_none okD_none loops keepIds resV resultsV St.ev TK.agg refs refsL refsO V.one V.isC Value.oneCell' ren renL renO noTag noTagL noTagR noTagO nodup mapO passV frs psi refsR newD loopNext opsAt idx flatAt rootOf backR newsV appendV copyV buildV fillF chunk
attribute [local simp] cT cF cX cWR cOW cK X WR OW K ints_length ints_get ints_getElem ints_drop ints_take ints_append ints_nil ints_set
attribute [local simp] ints_replicate
attribute [local simp] putV_some putV_none putH_app applyD_nil applyD_cons seen_app gc_ρ gc_H gc_tick st0_ρ st0_H st0_tick retV callRo callV_ro borL_nil borL_cons ints_snoc take_self callV_wr callWr cutH_app findQ afterV exportV_0 exportV_n okD_nil okD_cons sub_seq0 sub_seq1 sub_cond0 sub_cond1 sub_block sub_loop sub_nil young_far young_none okI ok_0 ok_1 ok_2
attribute [local simp] T3 T4 T22 T24 T26 T37 T81 T112 T115 T123
attribute [local simp] young_near clo cloF Region.binds Nat.testBit
theorem w_over1_SubField (k : Nat) (b1 : Bool) (w1 h1 : Int) (l1 : List Int) (x : Int) (y : Int) (wide : Int) (high : Int) (hl : l1.length ≤ 9223372036854775807)  (ho1 : (1048576 - (l1.length : Int)) < 0) :
    callK C (k + 30) 6 [lfldV b1 w1 h1 l1, .c (.int .i64 x), .c (.int .i64 y), .c (.int .i64 wide), .c (.int .i64 high)] [] = some (.c (.bool true), hpOf [] []) := by
  rw [callK_fn rfl F6 code6]
  have z1 := c_szField (k + 29) b1 w1 h1 l1 (1048576) (by omega) (by omega) (by omega)
  rw [if_pos ho1] at z1
  simp [lfldV] at z1
  simp [R6_0, R6_1, R6_2, R6_3, R6_4, R6_5, R6_6, R6_7, R6_8, R6_9, R6_10, R6_11, R6_12, R6_13, R6_14, R6_15, R6_16, R6_17, R6_18, R6_19, R6_20, R6_21, R6_22, R6_23, R6_24, R6_25, R6_26, R6_27, R6_28, R6_29, R6_30, R6_31, R6_32, R6_33, Try.f6, lfldV, z1]
theorem w_no_SubField (k : Nat) (b1 : Bool) (w1 h1 : Int) (l1 : List Int) (x : Int) (y : Int) (wide : Int) (high : Int) (ho1 : ¬ (1048576 - (l1.length : Int)) < 0) (S : callK C (k + 29) 23 [fldV true w1 h1 l1, .c (.int .i64 x), .c (.int .i64 y), .c (.int .i64 wide), .c (.int .i64 high)] [] = some (.tp [nilV, .c (.bool false)], hpOf [] [])) (I : callK C (k + 29) 24 [fldV true w1 h1 l1, .c (.int .i64 x), .c (.int .i64 y), .c (.int .i64 wide), .c (.int .i64 high)] [] = some (.tp [nilV, .c (.bool false)], hpOf [] [])) (hk : l1.length + 3000 ≤ k) :
    callK C (k + 30) 6 [lfldV b1 w1 h1 l1, .c (.int .i64 x), .c (.int .i64 y), .c (.int .i64 wide), .c (.int .i64 high)] [] = some (.c (.bool true), hpOf [] []) := by
  rw [callK_fn rfl F6 code6]
  have z1 := c_szField (k + 29) b1 w1 h1 l1 (1048576) (by omega) (by omega) (by omega)
  rw [if_neg ho1] at z1
  have t1 := c_toField (k + 29) b1 w1 h1 l1 (by omega) (by omega)
  have e1 := c_eqField (k + 29) true true w1 h1 w1 h1 l1 l1 (by omega) (by omega)
  have m1 := c_markField (k + 29) w1 h1 l1 (1) (by omega) (by omega) (by omega) (by omega)
  have q1 : l1.take l1.length = l1 := List.take_length
  have p1 : ¬ (1 + (l1.length : Int) < 0) := by omega
  have en := c_eqFieldNil (k + 29) (by omega)
  have mn := c_markFieldNil (k + 29) 1 (by omega)
  have dn := c_heldFieldNil (k + 29) 1 (by omega) (by omega)
  simp [lfldV, fldV, nilV, intsO] at z1 t1 e1 m1 en mn dn S I
  simp [R6_0, R6_1, R6_2, R6_3, R6_4, R6_5, R6_6, R6_7, R6_8, R6_9, R6_10, R6_11, R6_12, R6_13, R6_14, R6_15, R6_16, R6_17, R6_18, R6_19, R6_20, R6_21, R6_22, R6_23, R6_24, R6_25, R6_26, R6_27, R6_28, R6_29, R6_30, R6_31, R6_32, R6_33, Try.f6, lfldV, z1, ho1, t1, e1, m1, p1, en, mn, dn, S, I]
theorem w_yes_SubField (k : Nat) (b1 : Bool) (w1 h1 : Int) (l1 : List Int) (x : Int) (y : Int) (wide : Int) (high : Int) (ho1 : ¬ (1048576 - (l1.length : Int)) < 0) (rW rH : Int) (r : List Int) (hr : r.length ≤ 1048576) (S : callK C (k + 29) 23 [fldV true w1 h1 l1, .c (.int .i64 x), .c (.int .i64 y), .c (.int .i64 wide), .c (.int .i64 high)] [] = some (.tp [ownV rW rH 0 2 r.length, .c (.bool true)], hpOf [] [intsO r])) (I : callK C (k + 29) 24 [fldV true w1 h1 l1, .c (.int .i64 x), .c (.int .i64 y), .c (.int .i64 wide), .c (.int .i64 high)] [] = some (.tp [ownV rW rH 0 2 r.length, .c (.bool true)], hpOf [] [intsO r])) (hk : l1.length + r.length + 3000 ≤ k) :
    callK C (k + 30) 6 [lfldV b1 w1 h1 l1, .c (.int .i64 x), .c (.int .i64 y), .c (.int .i64 wide), .c (.int .i64 high)] [] = some (.c (.bool true), hpOf [] []) := by
  rw [callK_fn rfl F6 code6]
  have z1 := c_szField (k + 29) b1 w1 h1 l1 (1048576) (by omega) (by omega) (by omega)
  rw [if_neg ho1] at z1
  have t1 := c_toField (k + 29) b1 w1 h1 l1 (by omega) (by omega)
  have e1 := c_eqField (k + 29) true true w1 h1 w1 h1 l1 l1 (by omega) (by omega)
  have m1 := c_markField (k + 29) w1 h1 l1 (1) (by omega) (by omega) (by omega) (by omega)
  have q1 : l1.take l1.length = l1 := List.take_length
  have p1 : ¬ (1 + (l1.length : Int) < 0) := by omega
  have er := c_eqField (k + 29) true true rW rH rW rH r r (by omega) (by omega)
  have mr := c_markField (k + 29) rW rH r 1 (by omega) (by omega) (by omega) (by omega)
  have dr := c_heldField (k + 29) true rW rH (marks 1 r.length) 1 (by rw [marks_length]; omega) (by omega) (by omega) (by rw [marks_length]; omega)
  rw [marks_length, if_pos rfl] at dr
  have p2 : ¬ (1 + (r.length : Int) < 0) := by omega
  have q1 : r.take r.length = r := List.take_length
  have q2 : (marks 1 r.length).take r.length = marks 1 r.length := List.take_of_length_le (by rw [marks_length]; exact Nat.le_refl _)
  simp [lfldV, fldV, ownV, intsO] at z1 t1 e1 m1 er mr dr S I
  simp [R6_0, R6_1, R6_2, R6_3, R6_4, R6_5, R6_6, R6_7, R6_8, R6_9, R6_10, R6_11, R6_12, R6_13, R6_14, R6_15, R6_16, R6_17, R6_18, R6_19, R6_20, R6_21, R6_22, R6_23, R6_24, R6_25, R6_26, R6_27, R6_28, R6_29, R6_30, R6_31, R6_32, R6_33, Try.f6, lfldV, z1, ho1, t1, e1, m1, p1, er, mr, dr, p2, q1, q2, S, I, marks_length]
theorem law_SubField (w1 h1 : Int) (l1 : List Int) (x : Int) (y : Int) (wide : Int) (high : Int) (_ : (Lit.int .i64 w1).wf = true) (_ : (Lit.int .i64 h1).wf = true) (hl1 : l1.length ≤ maxLen) (wf_x : (Lit.int .i64 x).wf = true) (wf_y : (Lit.int .i64 y).wf = true) (wf_wide : (Lit.int .i64 wide).wf = true) (wf_high : (Lit.int .i64 high).wf = true) :
    ∃ k, callK C k 6 [lfldV false w1 h1 l1, .c (.int .i64 x), .c (.int .i64 y), .c (.int .i64 wide), .c (.int .i64 high)] [] = some (.c (.bool true), hpOf [] []) := by
  refine ⟨l1.length + 1060000 + 30, ?_⟩
  unfold maxLen at hl1
  by_cases ho1 : (1048576 - (l1.length : Int)) < 0
  · exact w_over1_SubField _ false w1 h1 l1 x y wide high (by omega)  ho1
  rcases res_SubField (l1.length + 1060000 + 29) w1 h1 l1 x y wide high (by omega) with ⟨S, I⟩ | ⟨rW, rH, r, hr, S, I⟩
  · exact w_no_SubField _ false w1 h1 l1 x y wide high ho1 S I (by omega)
  · exact w_yes_SubField _ false w1 h1 l1 x y wide high ho1 rW rH r (by omega) S I (by omega)

end Go.Proofs.Ytmbjhcdmnjhnoaa.Eng
