/- A deterministic reading of Go code over plain data: what functions of the program compute. No conditions. -/
import Derived.Test.YtngbdlkcpkkeoaaLmbase
import Derived.Test.YtngbdlkcpkkeoaaLmimpl
import Derived.Test.YtngbdlkcpkkeoaaLmfield
import Derived.Test.YtngbdlkcpkkeoaaEngT
namespace Go.Proofs.Ytngbdlkcpkkeoaa.Eng
open Go Go.Proofs
set_option maxRecDepth 100000
set_option maxHeartbeats 2000000
set_option linter.unusedSimpArgs false
set_option linter.unusedVariables false
attribute [local simp] finK fin1 hpOf xi renQ isRoot runCode runOps Eng.step wantedV astep val ofO made loadV storeV find V.cells bin binT un1 setAt fieldAddrV fieldV indexAddrV indexV bounds sliceV convV lenV foldV max2V min2V callO bor rdsO wrsO seen_none okD_none loops keepIds resV resultsV St.ev TK.agg refs refsL refsO V.one V.isC Value.oneCell' ren renL renO noTag noTagL noTagR noTagO nodup mapO passV frs psi refsR newD loopNext opsAt idx flatAt rootOf backR newsV appendV copyV buildV fillF chunk
attribute [local simp] cT cF cX cWR cOW cK X WR OW K ints_length ints_get ints_getElem ints_drop ints_take ints_append ints_nil ints_set
attribute [local simp] ints_replicate
attribute [local simp] putV_some putV_none putH_app applyD_nil applyD_cons seen_app gc_ρ gc_H gc_tick st0_ρ st0_H st0_tick retV callRo callV_if borL_nil borL_cons ints_snoc take_self callWr cutH_app findQ afterV exportV_0 exportV_n okD_nil okD_cons sub_seq0 sub_seq1 sub_cond0 sub_cond1 sub_block sub_loop sub_nil young_far young_none okI ok_0 ok_1 ok_2
attribute [local simp] T3 T4 T22 T25 T29 T31 T35 T60 T62 T71 T83
theorem c_eqIntSNil (k : Nat) (hk : 10 ≤ k) : callK C k 58 [.c (.slice none 0 0), .c (.slice none 0 0)] [] = some (.c (.bool true), hpOf [] []) := by
  obtain ⟨k, rfl⟩ : ∃ m, k = m + 10 := ⟨k - 10, by omega⟩
  rw [callK_fn rfl F58 code58]
  simp [R58_0, R58_1, R58_2, R58_3, R58_4, R58_5, R58_6, R58_7, R58_8, Try.f58, lpL58_0, lpM58_0, M58_0, L58_0, loopRun_succ]
theorem c_eqFieldNil (k : Nat) (hk : 20 ≤ k) : callK C k 24 [nilV, nilV] [] = some (.c (.bool true), hpOf [] []) := by
  obtain ⟨k, rfl⟩ : ∃ m, k = m + 20 := ⟨k - 20, by omega⟩
  rw [callK_fn rfl F24 code24]
  have h1 := c_eqIntSNil (k + 19) (by omega)
  simp [R24_0, R24_1, R24_2, R24_3, R24_4, R24_5, R24_6, R24_7, Try.f24, nilV, h1]
theorem c_markIntSNil (k : Nat) (n : Int) (hk : 10 ≤ k) : callK C k 65 [.c (.slice none 0 0), .c (.int .i64 n)] [] = some (.c (.int .i64 n), hpOf [] []) := by
  obtain ⟨k, rfl⟩ : ∃ m, k = m + 10 := ⟨k - 10, by omega⟩
  rw [callK_fn rfl F65 code65]
  simp [R65_0, R65_1, R65_2, R65_3, R65_4, R65_5, R65_6, Try.f65, lpL65_0, lpM65_0, M65_0, L65_0, loopRun_succ]
theorem c_markFieldNil (k : Nat) (n : Int) (hk : 20 ≤ k) : callK C k 27 [nilV, .c (.int .i64 n)] [] = some (.c (.int .i64 n), hpOf [] []) := by
  obtain ⟨k, rfl⟩ : ∃ m, k = m + 20 := ⟨k - 20, by omega⟩
  rw [callK_fn rfl F27 code27]
  have h1 := c_markIntSNil (k + 19) n (by omega)
  simp [R27_0, R27_1, R27_2, Try.f27, nilV, h1]
theorem c_heldIntSNil (k : Nat) (n : Int) (hk : 10 ≤ k) : callK C k 66 [.c (.slice none 0 0), .c (.int .i64 n)] [] = some (.c (.int .i64 n), hpOf [] []) := by
  obtain ⟨k, rfl⟩ : ∃ m, k = m + 10 := ⟨k - 10, by omega⟩
  rw [callK_fn rfl F66 code66]
  simp [R66_0, R66_1, R66_2, R66_3, R66_4, R66_5, R66_6, R66_7, Try.f66, lpL66_0, lpM66_0, M66_0, L66_0, loopRun_succ]
theorem c_heldFieldNil (k : Nat) (n : Int) (hn : 0 ≤ n) (hk : 20 ≤ k) : callK C k 28 [nilV, .c (.int .i64 n)] [] = some (.c (.int .i64 n), hpOf [] []) := by
  obtain ⟨k, rfl⟩ : ∃ m, k = m + 20 := ⟨k - 20, by omega⟩
  rw [callK_fn rfl F28 code28]
  have h1 := c_heldIntSNil (k + 19) n (by omega)
  have : ¬ n < 0 := by omega
  simp [R28_0, R28_1, R28_2, R28_3, R28_4, Try.f28, nilV, h1, this]

end Go.Proofs.Ytngbdlkcpkkeoaa.Eng
