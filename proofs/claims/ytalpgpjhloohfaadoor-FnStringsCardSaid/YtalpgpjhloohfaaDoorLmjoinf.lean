/- A deterministic reading of Go code over plain data: what functions of the program compute. No conditions. -/
import Derived.Test.YtalpgpjhloohfaaDoorLmbase
import Derived.Test.YtalpgpjhloohfaaDoorLmimpl
import Derived.Test.YtalpgpjhloohfaaDoorLmgood
import Derived.Test.YtalpgpjhloohfaaDoorLmitoa
import Derived.Test.YtalpgpjhloohfaaDoorLmappendck
import Derived.Test.YtalpgpjhloohfaaDoorLmsplit
import Derived.Test.YtalpgpjhloohfaaDoorLmjoins
import Derived.Test.YtalpgpjhloohfaaDoorEngT
import Derived.Lib.IndexLaws
import Derived.Lib.Join
namespace Go.Proofs.YtalpgpjhloohfaaDoor.Eng
open Go Go.Proofs
set_option maxRecDepth 100000
set_option maxHeartbeats 2000000
set_option linter.unusedSimpArgs false
set_option linter.unusedVariables false
attribute [local simp] finK fin1 hpOf xi renQ isRoot runCode runOps Eng.step wantedV astep val ofO made loadV storeV find V.cells bin binT binA numT numFs eqCells un1 setAt fieldAddrV fieldV indexAddrV indexV bounds sliceV convV lenV foldV max2V min2V callO bor rdsO wrsO seen_none okD_none loops keepIds resV resultsV St.ev TK.agg refs refsL refsO V.one V.isC Value.oneCell' ren renL renO noTag noTagL noTagR noTagO nodup mapO passV frs psi refsR newD loopNext opsAt idx flatAt rootOf backR newsV appendV copyV clearV strV bytesV bytesOf nilCmp buildV fillF chunk
attribute [local simp] cT cF cX cWR cOW cK X ints_length ints_get ints_getElem ints_drop ints_take ints_append ints_nil ints_set
attribute [local simp] ints_replicate
attribute [local simp] putV_some putV_none putH_app applyD_nil applyD_cons seen_app gc_ρ gc_H gc_tick st0_ρ st0_H st0_tick retV callRo callV_if borL_nil borL_cons ints_snoc take_self callWr cutH_app findQ afterV exportV_0 exportV_n okD_nil okD_cons sub_seq0 sub_seq1 sub_cond0 sub_cond1 sub_block sub_loop sub_nil young_far young_none hidW_nil mayW_nil pairs okI ok_0 ok_1 ok_2
attribute [local simp] T3 T4 T5 T9 T22 T32 T57 T63 T64 T66 T72
attribute [local simp] young_near clo cloF Region.binds Nat.testBit hidW declW mayW List.findIdx?_cons
def fillQ {α : Type} (l m : List α) (i : Nat) : List α := l.take i ++ m.drop i
theorem fillQ_zero {α : Type} (l m : List α) : fillQ l m 0 = m := by simp [fillQ]
theorem fillQ_all {α : Type} (l m : List α) (h : m.length ≤ l.length) : fillQ l m l.length = l := by simp [fillQ, List.drop_eq_nil_of_le h]
theorem fillQ_length {α : Type} (l m : List α) (i : Nat) (h : m.length = l.length) : (fillQ l m i).length = l.length := by simp [fillQ]; omega
theorem fillQ_set {α : Type} (l m : List α) (i : Nat) (h : m.length = l.length) (hi : i < l.length) : (fillQ l m i).set i l[i] = fillQ l m (i + 1) := by
  unfold fillQ
  rw [List.set_append, if_neg (by simp; omega)]
  have : i - (l.take i).length = 0 := by simp; omega
  rw [this, List.drop_eq_getElem_cons (by omega : i < m.length), List.set_cons_zero, List.take_succ_eq_append_getElem hi, List.append_assoc]
  rfl
theorem strs_get (p : List (List UInt8)) (i : Nat) (h : i < p.length) : (strs p)[i]? = some [.c (.string (bs p[i]))] := by simp [strs, h]
theorem strs_at (p : List (List UInt8)) (i : Nat) (h : i < (strs p).length) : (strs p)[i] = [.c (.string (bs (p[i]'(by simpa [strs] using h))))] := by simp [strs]
theorem strs_set (p : List (List UInt8)) (i : Nat) (x : List UInt8) : (strs p).set i [.c (.string (bs x))] = strs (p.set i x) := by simp [strs, List.map_set]
theorem strs_replicate (n : Nat) : List.replicate n [V.c (.string ByteArray.empty)] = strs (List.replicate n []) := by simp [strs, bs]; exact .inr rfl

end Go.Proofs.YtalpgpjhloohfaaDoor.Eng
