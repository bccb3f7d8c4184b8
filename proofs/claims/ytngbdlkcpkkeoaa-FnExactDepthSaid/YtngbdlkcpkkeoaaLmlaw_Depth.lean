/- A deterministic reading of Go code over plain data: what functions of the program compute. No conditions. -/
import Derived.Test.YtngbdlkcpkkeoaaLmbase
import Derived.Test.YtngbdlkcpkkeoaaLmnodes
import Derived.Test.YtngbdlkcpkkeoaaLmnodep
import Derived.Test.YtngbdlkcpkkeoaaLmnodefn
import Derived.Test.YtngbdlkcpkkeoaaLmisexpr
import Derived.Test.YtngbdlkcpkkeoaaLmdepth
import Derived.Test.YtngbdlkcpkkeoaaLmimpdepth
import Derived.Test.YtngbdlkcpkkeoaaLmnodelaw
import Derived.Test.YtngbdlkcpkkeoaaEngT
namespace Go.Proofs.Ytngbdlkcpkkeoaa.Eng
open Go Go.Proofs
set_option maxRecDepth 100000
set_option maxHeartbeats 2000000
set_option linter.unusedSimpArgs false
set_option linter.unusedVariables false
attribute [local simp] finK fin1 hpOf xi renQ isRoot runCode runOps Eng.step wantedV astep val ofO made loadV storeV find V.cells bin binT un1 setAt fieldAddrV fieldV indexAddrV indexV bounds sliceV convV lenV foldV max2V min2V callO bor rdsO wrsO seen_none okD_none loops keepIds resV resultsV St.ev TK.agg refs refsL refsO V.one V.isC Value.oneCell' ren renL renO noTag noTagL noTagR noTagO nodup mapO passV frs psi refsR newD loopNext opsAt idx flatAt rootOf backR newsV appendV copyV buildV fillF chunk
attribute [local simp] cT cF cX cWR cOW cK X WR OW K ints_length ints_get ints_getElem ints_drop ints_take ints_append ints_nil ints_set
attribute [local simp] ints_replicate
attribute [local simp] putV_some putV_none putH_app applyD_nil applyD_cons seen_app gc_ρ gc_H gc_tick st0_ρ st0_H st0_tick retV callRo callV_if borL_nil borL_cons ints_snoc take_self callWr cutH_app findQ afterV exportV_0 exportV_n okD_nil okD_cons sub_seq0 sub_seq1 sub_cond0 sub_cond1 sub_block sub_loop sub_nil young_far young_none okI ok_0 ok_1 ok_2
attribute [local simp] T3 T4 T22 T25 T29 T31 T35 T60 T62 T71 T83
theorem law_Depth (k : Nat) (b : Bool) (l : List (Int × Int)) (hl : l.length ≤ 9223372036854775807) (hk : l.length + 2000 ≤ k) : callK C k 9 [.sq b true 2 (ndL l)] [] = some (.c (.bool true), hpOf [] []) := by
  obtain ⟨k, rfl⟩ : ∃ m, k = m + 1 := ⟨k - 1, by omega⟩
  rw [callK_fn rfl F9 code9]
  have z := c_szNodeS k b l 1048576 (by omega) (by omega) (by omega)
  by_cases h : (1048576 : Int) - (l.length : Int) < 0
  · rw [if_pos h] at z
    simp [R9_0, R9_1, R9_2, R9_3, R9_4, R9_5, R9_6, R9_7, R9_8, R9_9, R9_10, R9_11, R9_12, Try.f9, z]
  · rw [if_neg h] at z
    have t := c_toNodeS k b l (by omega) (by omega)
    have e := c_eqNodeS k true true l l (by omega) (by omega)
    have S := c_specDepth k true l (by omega)
    have I := c_impDepth k true l (by omega)
    simp [ndO] at t
    simp [R9_0, R9_1, R9_2, R9_3, R9_4, R9_5, R9_6, R9_7, R9_8, R9_9, R9_10, R9_11, R9_12, Try.f9, z, h, t, ndO, ndL_length, ndL_take, e, S, I]
theorem row_Depth (l : List (Int × Int)) (w : l.length ≤ maxLen) : ∃ k, callK C k 9 [.sq false true 2 (ndL l)] [] = some (.c (.bool true), hpOf [] []) :=
  ⟨l.length + 2000, law_Depth _ false l (by unfold maxLen at w; omega) (by omega)⟩

end Go.Proofs.Ytngbdlkcpkkeoaa.Eng
