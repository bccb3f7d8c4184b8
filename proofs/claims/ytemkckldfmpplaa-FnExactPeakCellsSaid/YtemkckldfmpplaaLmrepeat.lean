/- A deterministic reading of Go code over plain data: what functions of the program compute. No conditions. -/
import Derived.Test.YtemkckldfmpplaaLmbase
import Derived.Test.YtemkckldfmpplaaLmimpl
import Derived.Test.YtemkckldfmpplaaEngT
namespace Go.Proofs.Ytemkckldfmpplaa.Eng
open Go Go.Proofs
set_option maxRecDepth 100000
set_option maxHeartbeats 2000000
set_option linter.unusedSimpArgs false
set_option linter.unusedVariables false
attribute [local simp] finK fin1 hpOf xi renQ isRoot runCode runOps stepX inlOf Eng.step wantedV astep val ofO made loadV storeV find V.cells bin binT binA numT numFs eqCells un1 setAt fieldAddrV fieldV indexAddrV indexV bounds sliceV convV lenV foldV max2V min2V callO bor rdsO wrsO seen_none okD_none loops keepIds resV resultsV St.ev TK.agg refs refsL refsO V.one V.isC Value.oneCell' ren renL renO noTag noTagL noTagR noTagO nodup mapO passV frs psi refsR newD loopNext opsAt idx flatAt rootOf backR newsV appendV copyV clearV strV bytesV bldV bufV selfV bytesOf nilCmp buildV fillF chunk
attribute [local simp] cT cF cX cWR cOW cK cBL X ints_length ints_get ints_getElem ints_drop ints_take ints_append ints_nil ints_set
attribute [local simp] ints_replicate
attribute [local simp] putV_some putV_none putH_app applyD_nil applyD_cons seen_app gc_ρ gc_H gc_tick st0_ρ st0_H st0_tick retV callRo callV_if borL_nil borL_cons ints_snoc take_self callWr cutH_app findQ afterV exportV_0 exportV_n okD_nil okD_cons sub_seq0 sub_seq1 sub_cond0 sub_cond1 sub_block sub_loop sub_nil young_far young_none hidW_nil mayW_nil pairs okI ok_0 ok_1 ok_2
attribute [local simp] T3 T4 T22 T24 T26 T29 T44
theorem mul64_facts : ∀ n : Fin 65, IntKind.u64.wrap ((BitVec.ofNat IntKind.u64.bits n.val &&& BitVec.ofNat IntKind.u64.bits 4294967295).toNat : Int) = (n.val : Int) ∧ (n.val : Int).fdiv 4294967296 = 0 ∧ IntKind.u64.wrap (n.val : Int) = (n.val : Int) ∧ IntKind.i64.wrap (n.val : Int) = (n.val : Int) := by decide
def repL (n : Nat) (a : Int) (m : Nat) : List Int := List.replicate m a ++ List.replicate (n - m) 0
theorem repL_length {n m : Nat} (a : Int) (h : m ≤ n) : (repL n a m).length = n := by simp [repL]; omega
theorem repL_take (n : Nat) (a : Int) (m : Nat) : (repL n a m).take m = List.replicate m a := by simp [repL]
theorem repL_next {n m : Nat} (a : Int) (h : m ≤ n) : List.replicate m a ++ (List.replicate (min (n - m) m) a ++ (repL n a m).drop (m + min m (n - m))) = repL n a (m + min m (n - m)) := by
  unfold repL
  rw [List.drop_append, List.drop_eq_nil_of_le (by simp), List.nil_append, List.drop_replicate, List.length_replicate, ← List.append_assoc, List.replicate_append_replicate]
  congr 1
  · congr 1; omega
  · congr 1; omega
theorem repL_all (n : Nat) (a : Int) : repL n a n = List.replicate n a := by simp [repL]

end Go.Proofs.Ytemkckldfmpplaa.Eng
