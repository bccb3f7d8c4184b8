/- A deterministic reading of Go code over plain data: what functions of the program compute. No conditions. -/
import Derived.Test.YtmbjhcdmnjhnoaaLmbase
import Derived.Test.YtmbjhcdmnjhnoaaLmimpl
import Derived.Test.YtmbjhcdmnjhnoaaLmfield
import Derived.Test.YtmbjhcdmnjhnoaaEngT
namespace Go.Proofs.Ytmbjhcdmnjhnoaa.Eng
open Go Go.Proofs
set_option maxRecDepth 100000
set_option maxHeartbeats 2000000
set_option linter.unusedSimpArgs false
set_option linter.unusedVariables false
attribute [local simp] finK fin1 hpOf xi renQ isRoot runCode runOps Eng.step wantedV astep val ofO made loadV storeV find V.cells bin binT un1 setAt fieldAddrV fieldV indexAddrV indexV bounds sliceV convV lenV foldV max2V min2V callO bor rdsO wrsO seen_none okD_none loops keepIds resV resultsV St.ev TK.agg refs refsL refsO V.one V.isC Value.oneCell' ren renL renO noTag noTagL noTagR noTagO nodup mapO passV frs psi refsR newD loopNext opsAt idx flatAt rootOf backR newsV appendV copyV buildV fillF chunk
attribute [local simp] cT cF cX cWR cOW cK X WR OW K ints_length ints_get ints_getElem ints_drop ints_take ints_append ints_nil ints_set
attribute [local simp] ints_replicate
attribute [local simp] putV_some putV_none putH_app applyD_nil applyD_cons seen_app gc_ρ gc_H gc_tick st0_ρ st0_H st0_tick retV callRo callV_ro borL_nil borL_cons ints_snoc take_self callV_wr callWr cutH_app findQ afterV exportV_0 exportV_n okD_nil okD_cons sub_seq0 sub_seq1 sub_cond0 sub_cond1 sub_block sub_loop sub_nil young_far young_none okI ok_0 ok_1 ok_2
attribute [local simp] T3 T4 T22 T24 T26 T37 T81 T112 T115 T123
theorem c_eqIntSNil (k : Nat) (hk : 10 ≤ k) : callK C k 62 [.c (.slice none 0 0), .c (.slice none 0 0)] [] = some (.c (.bool true), hpOf [] []) := by
  obtain ⟨k, rfl⟩ : ∃ m, k = m + 10 := ⟨k - 10, by omega⟩
  rw [callK_fn rfl F62 code62]
  simp [R62_0, R62_1, R62_2, R62_3, R62_4, R62_5, R62_6, R62_7, R62_8, Try.f62, L62_0, loopRun_succ]
theorem c_eqFieldNil (k : Nat) (hk : 20 ≤ k) : callK C k 16 [nilV, nilV] [] = some (.c (.bool true), hpOf [] []) := by
  obtain ⟨k, rfl⟩ : ∃ m, k = m + 20 := ⟨k - 20, by omega⟩
  rw [callK_fn rfl F16 code16]
  have h1 := c_eqIntSNil (k + 19) (by omega)
  simp [R16_0, R16_1, R16_2, R16_3, R16_4, R16_5, R16_6, R16_7, Try.f16, nilV, h1]
theorem c_markIntSNil (k : Nat) (n : Int) (hk : 10 ≤ k) : callK C k 63 [.c (.slice none 0 0), .c (.int .i64 n)] [] = some (.c (.int .i64 n), hpOf [] []) := by
  obtain ⟨k, rfl⟩ : ∃ m, k = m + 10 := ⟨k - 10, by omega⟩
  rw [callK_fn rfl F63 code63]
  simp [R63_0, R63_1, R63_2, R63_3, R63_4, R63_5, R63_6, Try.f63, L63_0, loopRun_succ]
theorem c_markFieldNil (k : Nat) (n : Int) (hk : 20 ≤ k) : callK C k 17 [nilV, .c (.int .i64 n)] [] = some (.c (.int .i64 n), hpOf [] []) := by
  obtain ⟨k, rfl⟩ : ∃ m, k = m + 20 := ⟨k - 20, by omega⟩
  rw [callK_fn rfl F17 code17]
  have h1 := c_markIntSNil (k + 19) n (by omega)
  simp [R17_0, R17_1, R17_2, Try.f17, nilV, h1]
theorem c_heldIntSNil (k : Nat) (n : Int) (hk : 10 ≤ k) : callK C k 64 [.c (.slice none 0 0), .c (.int .i64 n)] [] = some (.c (.int .i64 n), hpOf [] []) := by
  obtain ⟨k, rfl⟩ : ∃ m, k = m + 10 := ⟨k - 10, by omega⟩
  rw [callK_fn rfl F64 code64]
  simp [R64_0, R64_1, R64_2, R64_3, R64_4, R64_5, R64_6, R64_7, Try.f64, L64_0, loopRun_succ]
theorem c_heldFieldNil (k : Nat) (n : Int) (hn : 0 ≤ n) (hk : 20 ≤ k) : callK C k 18 [nilV, .c (.int .i64 n)] [] = some (.c (.int .i64 n), hpOf [] []) := by
  obtain ⟨k, rfl⟩ : ∃ m, k = m + 20 := ⟨k - 20, by omega⟩
  rw [callK_fn rfl F18 code18]
  have h1 := c_heldIntSNil (k + 19) n (by omega)
  have : ¬ n < 0 := by omega
  simp [R18_0, R18_1, R18_2, R18_3, R18_4, Try.f18, nilV, h1, this]

end Go.Proofs.Ytmbjhcdmnjhnoaa.Eng
