/- A deterministic reading of Go code over plain data: what functions of the program compute. No conditions. -/
import Derived.Test.YtfdlllhcjfhknaaLmbase
import Derived.Test.YtfdlllhcjfhknaaLmimpl
import Derived.Test.YtfdlllhcjfhknaaLmfield
import Derived.Test.YtfdlllhcjfhknaaEngT
namespace Go.Proofs.Ytfdlllhcjfhknaa.Eng
open Go Go.Proofs
set_option maxRecDepth 100000
set_option maxHeartbeats 2000000
set_option linter.unusedSimpArgs false
set_option linter.unusedVariables false
attribute [local simp] finK fin1 hpOf xi renQ isRoot runCode runOps Eng.step wantedV astep val ofO made loadV storeV find V.cells bin binT binA numT numFs eqCells un1 setAt fieldAddrV fieldV indexAddrV indexV bounds sliceV convV lenV foldV max2V min2V callO bor rdsO wrsO seen_none okD_none loops keepIds resV resultsV St.ev TK.agg refs refsL refsO V.one V.isC Value.oneCell' ren renL renO noTag noTagL noTagR noTagO nodup mapO passV frs psi refsR newD loopNext opsAt idx flatAt rootOf backR newsV appendV copyV clearV strV bytesOf nilCmp buildV fillF chunk
attribute [local simp] cT cF cX cWR cOW cK X ints_length ints_get ints_getElem ints_drop ints_take ints_append ints_nil ints_set
attribute [local simp] ints_replicate
attribute [local simp] putV_some putV_none putH_app applyD_nil applyD_cons seen_app gc_ρ gc_H gc_tick st0_ρ st0_H st0_tick retV callRo callV_if borL_nil borL_cons ints_snoc take_self callWr cutH_app findQ afterV exportV_0 exportV_n okD_nil okD_cons sub_seq0 sub_seq1 sub_cond0 sub_cond1 sub_block sub_loop sub_nil young_far young_none hidW_nil mayW_nil pairs okI ok_0 ok_1 ok_2
attribute [local simp] T3 T4 T5 T9 T22 T24 T29 T36 T73 T75 T86 T89 T103 T104 T106 T108 T109 T114 T134 T136 T157 T161 T168
theorem c_eqIntSNil (k : Nat) (hk : 10 ≤ k) : callK C k 75 [.c (.slice none 0 0), .c (.slice none 0 0)] [] = some (.c (.bool true), hpOf [] []) := by
  obtain ⟨k, rfl⟩ : ∃ m, k = m + 10 := ⟨k - 10, by omega⟩
  rw [callK_fn rfl F75 code75]
  simp [R75_0, R75_1, R75_2, R75_3, R75_4, R75_5, R75_6, R75_7, R75_8, Try.f75, lpL75_0, lpM75_0, M75_0, L75_0, loopRun_succ]
theorem c_eqFieldNil (k : Nat) (hk : 20 ≤ k) : callK C k 17 [nilV, nilV] [] = some (.c (.bool true), hpOf [] []) := by
  obtain ⟨k, rfl⟩ : ∃ m, k = m + 20 := ⟨k - 20, by omega⟩
  rw [callK_fn rfl F17 code17]
  have h1 := c_eqIntSNil (k + 19) (by omega)
  simp [R17_0, R17_1, R17_2, R17_3, R17_4, R17_5, R17_6, R17_7, Try.f17, nilV, h1]
theorem c_markIntSNil (k : Nat) (n : Int) (hk : 10 ≤ k) : callK C k 76 [.c (.slice none 0 0), .c (.int .i64 n)] [] = some (.c (.int .i64 n), hpOf [] []) := by
  obtain ⟨k, rfl⟩ : ∃ m, k = m + 10 := ⟨k - 10, by omega⟩
  rw [callK_fn rfl F76 code76]
  simp [R76_0, R76_1, R76_2, R76_3, R76_4, R76_5, R76_6, Try.f76, lpL76_0, lpM76_0, M76_0, L76_0, loopRun_succ]
theorem c_markFieldNil (k : Nat) (n : Int) (hk : 20 ≤ k) : callK C k 18 [nilV, .c (.int .i64 n)] [] = some (.c (.int .i64 n), hpOf [] []) := by
  obtain ⟨k, rfl⟩ : ∃ m, k = m + 20 := ⟨k - 20, by omega⟩
  rw [callK_fn rfl F18 code18]
  have h1 := c_markIntSNil (k + 19) n (by omega)
  simp [R18_0, R18_1, R18_2, Try.f18, nilV, h1]
theorem c_heldIntSNil (k : Nat) (n : Int) (hk : 10 ≤ k) : callK C k 77 [.c (.slice none 0 0), .c (.int .i64 n)] [] = some (.c (.int .i64 n), hpOf [] []) := by
  obtain ⟨k, rfl⟩ : ∃ m, k = m + 10 := ⟨k - 10, by omega⟩
  rw [callK_fn rfl F77 code77]
  simp [R77_0, R77_1, R77_2, R77_3, R77_4, R77_5, R77_6, R77_7, Try.f77, lpL77_0, lpM77_0, M77_0, L77_0, loopRun_succ]
theorem c_heldFieldNil (k : Nat) (n : Int) (hn : 0 ≤ n) (hk : 20 ≤ k) : callK C k 84 [nilV, .c (.int .i64 n)] [] = some (.c (.int .i64 n), hpOf [] []) := by
  obtain ⟨k, rfl⟩ : ∃ m, k = m + 20 := ⟨k - 20, by omega⟩
  rw [callK_fn rfl F84 code84]
  have h1 := c_heldIntSNil (k + 19) n (by omega)
  have : ¬ n < 0 := by omega
  simp [R84_0, R84_1, R84_2, R84_3, R84_4, Try.f84, nilV, h1, this]

end Go.Proofs.Ytfdlllhcjfhknaa.Eng
