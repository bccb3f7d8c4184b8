/- A deterministic reading of Go code over plain data: what functions of the program compute. No conditions. -/
import Derived.Test.YtfgoljfggkkpnaaLmbase
import Derived.Test.YtfgoljfggkkpnaaLmimpl
import Derived.Test.YtfgoljfggkkpnaaLmfield
import Derived.Test.YtfgoljfggkkpnaaEngT
namespace Go.Proofs.Ytfgoljfggkkpnaa.Eng
open Go Go.Proofs
set_option maxRecDepth 100000
set_option maxHeartbeats 2000000
set_option linter.unusedSimpArgs false
set_option linter.unusedVariables false
attribute [local simp] finK fin1 hpOf xi renQ isRoot runCode runOps Eng.step wantedV astep val ofO made loadV storeV find V.cells bin binT un1 setAt fieldAddrV fieldV indexAddrV indexV bounds sliceV convV lenV foldV max2V min2V callO bor rdsO wrsO seen_none okD_none loops keepIds resV resultsV St.ev TK.agg refs refsL refsO V.one V.isC Value.oneCell' ren renL renO noTag noTagL noTagR noTagO nodup mapO passV frs psi refsR newD loopNext opsAt idx flatAt rootOf backR newsV appendV copyV buildV fillF chunk
attribute [local simp] cT cF cX cWR cOW cK X WR OW K ints_length ints_get ints_getElem ints_drop ints_take ints_append ints_nil ints_set
attribute [local simp] ints_replicate
attribute [local simp] putV_some putV_none putH_app applyD_nil applyD_cons seen_app gc_ρ gc_H gc_tick st0_ρ st0_H st0_tick retV callRo callV_ro borL_nil borL_cons ints_snoc take_self callV_wr callWr cutH_app findQ afterV exportV_0 exportV_n okD_nil okD_cons sub_seq0 sub_seq1 sub_cond0 sub_cond1 sub_block sub_loop sub_nil young_far young_none okI ok_0 ok_1 ok_2
attribute [local simp] T3 T4 T22 T24 T26 T57 T59 T63 T67 T87 T92
theorem c_eqIntSNil (k : Nat) (hk : 10 ≤ k) : callK C k 48 [.c (.slice none 0 0), .c (.slice none 0 0)] [] = some (.c (.bool true), hpOf [] []) := by
  obtain ⟨k, rfl⟩ : ∃ m, k = m + 10 := ⟨k - 10, by omega⟩
  rw [callK_fn rfl F48 code48]
  simp [R48_0, R48_1, R48_2, R48_3, R48_4, R48_5, R48_6, R48_7, R48_8, Try.f48, lpL48_0, lpM48_0, M48_0, L48_0, loopRun_succ]
theorem c_eqFieldNil (k : Nat) (hk : 20 ≤ k) : callK C k 14 [nilV, nilV] [] = some (.c (.bool true), hpOf [] []) := by
  obtain ⟨k, rfl⟩ : ∃ m, k = m + 20 := ⟨k - 20, by omega⟩
  rw [callK_fn rfl F14 code14]
  have h1 := c_eqIntSNil (k + 19) (by omega)
  simp [R14_0, R14_1, R14_2, R14_3, R14_4, R14_5, R14_6, R14_7, Try.f14, nilV, h1]
theorem c_markIntSNil (k : Nat) (n : Int) (hk : 10 ≤ k) : callK C k 49 [.c (.slice none 0 0), .c (.int .i64 n)] [] = some (.c (.int .i64 n), hpOf [] []) := by
  obtain ⟨k, rfl⟩ : ∃ m, k = m + 10 := ⟨k - 10, by omega⟩
  rw [callK_fn rfl F49 code49]
  simp [R49_0, R49_1, R49_2, R49_3, R49_4, R49_5, R49_6, Try.f49, lpL49_0, lpM49_0, M49_0, L49_0, loopRun_succ]
theorem c_markFieldNil (k : Nat) (n : Int) (hk : 20 ≤ k) : callK C k 15 [nilV, .c (.int .i64 n)] [] = some (.c (.int .i64 n), hpOf [] []) := by
  obtain ⟨k, rfl⟩ : ∃ m, k = m + 20 := ⟨k - 20, by omega⟩
  rw [callK_fn rfl F15 code15]
  have h1 := c_markIntSNil (k + 19) n (by omega)
  simp [R15_0, R15_1, R15_2, Try.f15, nilV, h1]
theorem c_heldIntSNil (k : Nat) (n : Int) (hk : 10 ≤ k) : callK C k 50 [.c (.slice none 0 0), .c (.int .i64 n)] [] = some (.c (.int .i64 n), hpOf [] []) := by
  obtain ⟨k, rfl⟩ : ∃ m, k = m + 10 := ⟨k - 10, by omega⟩
  rw [callK_fn rfl F50 code50]
  simp [R50_0, R50_1, R50_2, R50_3, R50_4, R50_5, R50_6, R50_7, Try.f50, lpL50_0, lpM50_0, M50_0, L50_0, loopRun_succ]
theorem c_heldFieldNil (k : Nat) (n : Int) (hn : 0 ≤ n) (hk : 20 ≤ k) : callK C k 16 [nilV, .c (.int .i64 n)] [] = some (.c (.int .i64 n), hpOf [] []) := by
  obtain ⟨k, rfl⟩ : ∃ m, k = m + 20 := ⟨k - 20, by omega⟩
  rw [callK_fn rfl F16 code16]
  have h1 := c_heldIntSNil (k + 19) n (by omega)
  have : ¬ n < 0 := by omega
  simp [R16_0, R16_1, R16_2, R16_3, R16_4, Try.f16, nilV, h1, this]

end Go.Proofs.Ytfgoljfggkkpnaa.Eng
