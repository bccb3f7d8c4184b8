/- A deterministic reading of Go code over plain data: what functions of the program compute. No conditions. -/
import Derived.Test.YtalpgpjhloohfaaDoorLmbase
import Derived.Test.YtalpgpjhloohfaaDoorLmfield
import Derived.Test.YtalpgpjhloohfaaDoorLmnils
import Derived.Test.YtalpgpjhloohfaaDoorLmimpl
import Derived.Test.YtalpgpjhloohfaaDoorLmftext
import Derived.Test.YtalpgpjhloohfaaDoorEngT
namespace Go.Proofs.YtalpgpjhloohfaaDoor.Eng
open Go Go.Proofs
set_option maxRecDepth 100000
set_option maxHeartbeats 2000000
set_option linter.unusedSimpArgs false
set_option linter.unusedVariables false
attribute [local simp] finK fin1 hpOf xi renQ isRoot runCode runOps Eng.step wantedV astep val ofO made loadV storeV find V.cells bin binT binA numT numFs eqCells un1 setAt fieldAddrV fieldV indexAddrV indexV bounds sliceV convV lenV foldV max2V min2V callO bor rdsO wrsO seen_none okD_none loops keepIds resV resultsV St.ev TK.agg refs refsL refsO V.one V.isC Value.oneCell' ren renL renO noTag noTagL noTagR noTagO nodup mapO passV frs psi refsR newD loopNext opsAt idx flatAt rootOf backR newsV appendV copyV clearV strV bytesV bldV bufV selfV bytesOf nilCmp buildV fillF chunk
attribute [local simp] cT cF cX cWR cOW cK cBL X ints_length ints_get ints_getElem ints_drop ints_take ints_append ints_nil ints_set
attribute [local simp] ints_replicate
attribute [local simp] putV_some putV_none putH_app applyD_nil applyD_cons seen_app gc_ρ gc_H gc_tick st0_ρ st0_H st0_tick retV callRo callV_if borL_nil borL_cons ints_snoc take_self callWr cutH_app findQ afterV exportV_0 exportV_n okD_nil okD_cons sub_seq0 sub_seq1 sub_cond0 sub_cond1 sub_block sub_loop sub_nil young_far young_none hidW_nil mayW_nil pairs okI ok_0 ok_1 ok_2
attribute [local simp] T3 T4 T9 T22 T24 T28 T55 T70
attribute [local simp] young_near clo cloF Region.binds Nat.testBit
theorem w_over1_FieldText (k : Nat) (b1 : Bool) (w1 h1 : Int) (l1 : List Int) (hl : l1.length ≤ 9223372036854775807)  (ho1 : (1048576 - (l1.length : Int)) < 0) :
    callK C (k + 30) 3 [lfldV b1 w1 h1 l1] [] = some (.c (.bool true), hpOf [] []) := by
  rw [callK_fn rfl F3 code3]
  have z1 := c_szField (k + 29) b1 w1 h1 l1 (1048576) (by omega) (by omega) (by omega)
  rw [if_pos ho1] at z1
  simp [lfldV] at z1
  simp [R3_0, R3_1, R3_2, R3_3, R3_4, R3_5, R3_6, R3_7, R3_8, R3_9, R3_10, R3_11, R3_12, Tryd.f3, lfldV, z1]
theorem w_yes_FieldText (k : Nat) (b1 : Bool) (w1 h1 : Int) (l1 : List Int) (ho1 : ¬ (1048576 - (l1.length : Int)) < 0) (v : ByteArray) (t : Bool) (S : callK C (k + 29) 8 [fldV true w1 h1 l1] [] = some (.tp [.c (.string v), .c (.bool t)], hpOf [] [])) (I : callK C (k + 29) 10 [fldV true w1 h1 l1] [] = some (.tp [.c (.string v), .c (.bool t)], hpOf [] [])) (hk : l1.length + 3000 ≤ k) :
    callK C (k + 30) 3 [lfldV b1 w1 h1 l1] [] = some (.c (.bool true), hpOf [] []) := by
  rw [callK_fn rfl F3 code3]
  have z1 := c_szField (k + 29) b1 w1 h1 l1 (1048576) (by omega) (by omega) (by omega)
  rw [if_neg ho1] at z1
  have t1 := c_toField (k + 29) b1 w1 h1 l1 (by omega) (by omega)
  have e1 := c_eqField (k + 29) true true w1 h1 w1 h1 l1 l1 (by omega) (by omega)
  simp [lfldV, fldV, intsO] at z1 t1 e1 S I
  cases t <;> simp [R3_0, R3_1, R3_2, R3_3, R3_4, R3_5, R3_6, R3_7, R3_8, R3_9, R3_10, R3_11, R3_12, Tryd.f3, lfldV, z1, ho1, t1, e1, S, I]
theorem law_FieldText (w1 h1 : Int) (l1 : List Int) (_ : (Lit.int .i64 w1).wf = true) (_ : (Lit.int .i64 h1).wf = true) (hl1 : l1.length ≤ maxLen) :
    ∃ k, callK C k 3 [lfldV false w1 h1 l1] [] = some (.c (.bool true), hpOf [] []) := by
  refine ⟨l1.length + 1060000 + 30, ?_⟩
  unfold maxLen at hl1
  by_cases ho1 : (1048576 - (l1.length : Int)) < 0
  · exact w_over1_FieldText _ false w1 h1 l1 (by omega)  ho1
  obtain ⟨v, t, S, I⟩ := res_FieldText (l1.length + 1060000 + 29) w1 h1 l1 (by omega)
  exact w_yes_FieldText _ false w1 h1 l1 ho1 v t S I (by omega)

end Go.Proofs.YtalpgpjhloohfaaDoor.Eng
