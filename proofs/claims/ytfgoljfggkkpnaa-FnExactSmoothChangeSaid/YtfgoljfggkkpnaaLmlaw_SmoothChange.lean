/- A deterministic reading of Go code over plain data: what functions of the program compute. No conditions. -/
import Derived.Test.YtfgoljfggkkpnaaLmbase
import Derived.Test.YtfgoljfggkkpnaaLmfield
import Derived.Test.YtfgoljfggkkpnaaLmnils
import Derived.Test.YtfgoljfggkkpnaaLmimpl
import Derived.Test.YtfgoljfggkkpnaaLmsmooth
import Derived.Test.YtfgoljfggkkpnaaEngT
namespace Go.Proofs.Ytfgoljfggkkpnaa.Eng
open Go Go.Proofs
set_option maxRecDepth 100000
set_option maxHeartbeats 2000000
set_option linter.unusedSimpArgs false
set_option linter.unusedVariables false
attribute [local simp] finK fin1 hpOf xi renQ isRoot runCode runOps Eng.step wantedV astep val ofO made loadV storeV find V.cells bin binT un1 setAt fieldAddrV fieldV indexAddrV indexV bounds sliceV convV lenV foldV max2V min2V callO bor rdsO wrsO seen_none okD_none loops keepIds resV resultsV St.ev TK.agg refs refsL refsO V.one V.isC Value.oneCell' ren renL renO noTag noTagL noTagR noTagO nodup mapO passV frs psi refsR newD loopNext opsAt idx flatAt rootOf backR newsV appendV copyV buildV fillF chunk
attribute [local simp] cT cF cX cWR cOW cK X WR OW K ints_length ints_get ints_getElem ints_drop ints_take ints_append ints_nil ints_set
attribute [local simp] ints_replicate
attribute [local simp] putV_some putV_none putH_app applyD_nil applyD_cons seen_app gc_ρ gc_H gc_tick st0_ρ st0_H st0_tick retV callRo callV_ro borL_nil borL_cons ints_snoc take_self callV_wr callWr cutH_app findQ afterV exportV_0 exportV_n okD_nil okD_cons sub_seq0 sub_seq1 sub_cond0 sub_cond1 sub_block sub_loop sub_nil young_far young_none okI ok_0 ok_1 ok_2
attribute [local simp] T3 T4 T22 T24 T26 T57 T59 T63 T67 T87 T92
attribute [local simp] young_near clo cloF Region.binds Nat.testBit
theorem w_over1_SmoothChange (k : Nat) (b1 : Bool) (w1 h1 : Int) (l1 : List Int) (r : Int) (hl : l1.length ≤ 9223372036854775807)  (ho1 : (1048576 - (l1.length : Int)) < 0) :
    callK C (k + 30) 6 [lfldV b1 w1 h1 l1, .c (.int .i64 r)] [] = some (.c (.bool true), hpOf [] []) := by
  rw [callK_fn rfl F6 code6]
  have z1 := c_szField (k + 29) b1 w1 h1 l1 (1048576) (by omega) (by omega) (by omega)
  rw [if_pos ho1] at z1
  simp [lfldV] at z1
  simp [R6_0, R6_1, R6_2, R6_3, R6_4, R6_5, R6_6, R6_7, R6_8, R6_9, R6_10, R6_11, R6_12, Try.f6, lfldV, z1]
theorem w_yes_SmoothChange (k : Nat) (b1 : Bool) (w1 h1 : Int) (l1 : List Int) (r : Int) (ho1 : ¬ (1048576 - (l1.length : Int)) < 0) (v : Int) (t : Bool) (S : callK C (k + 29) 21 [fldV true w1 h1 l1, .c (.int .i64 r)] [] = some (.tp [.c (.int .i64 v), .c (.bool t)], hpOf [] [])) (I : callK C (k + 29) 22 [fldV true w1 h1 l1, .c (.int .i64 r)] [] = some (.tp [.c (.int .i64 v), .c (.bool t)], hpOf [] [])) (hk : l1.length + 3000 ≤ k) :
    callK C (k + 30) 6 [lfldV b1 w1 h1 l1, .c (.int .i64 r)] [] = some (.c (.bool true), hpOf [] []) := by
  rw [callK_fn rfl F6 code6]
  have z1 := c_szField (k + 29) b1 w1 h1 l1 (1048576) (by omega) (by omega) (by omega)
  rw [if_neg ho1] at z1
  have t1 := c_toField (k + 29) b1 w1 h1 l1 (by omega) (by omega)
  have e1 := c_eqField (k + 29) true true w1 h1 w1 h1 l1 l1 (by omega) (by omega)
  simp [lfldV, fldV, intsO] at z1 t1 e1 S I
  cases t <;> simp [R6_0, R6_1, R6_2, R6_3, R6_4, R6_5, R6_6, R6_7, R6_8, R6_9, R6_10, R6_11, R6_12, Try.f6, lfldV, z1, ho1, t1, e1, S, I]
theorem law_SmoothChange (w1 h1 : Int) (l1 : List Int) (r : Int) (_ : (Lit.int .i64 w1).wf = true) (_ : (Lit.int .i64 h1).wf = true) (hl1 : l1.length ≤ maxLen) (wf_r : (Lit.int .i64 r).wf = true) :
    ∃ k, callK C k 6 [lfldV false w1 h1 l1, .c (.int .i64 r)] [] = some (.c (.bool true), hpOf [] []) := by
  refine ⟨l1.length + 1060000 + 30, ?_⟩
  unfold maxLen at hl1
  by_cases ho1 : (1048576 - (l1.length : Int)) < 0
  · exact w_over1_SmoothChange _ false w1 h1 l1 r (by omega)  ho1
  obtain ⟨v, t, S, I⟩ := res_SmoothChange (l1.length + 1060000 + 29) w1 h1 l1 r (by omega)
  exact w_yes_SmoothChange _ false w1 h1 l1 r ho1 v t S I (by omega)

end Go.Proofs.Ytfgoljfggkkpnaa.Eng
