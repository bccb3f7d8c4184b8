/- A deterministic reading of Go code over plain data: what functions of the program compute. No conditions. -/
import Derived.Test.YtalpgpjhloohfaaDoorLmbase
import Derived.Test.YtalpgpjhloohfaaDoorLmimpl
import Derived.Test.YtalpgpjhloohfaaDoorLmgood
import Derived.Test.YtalpgpjhloohfaaDoorLmitoa
import Derived.Test.YtalpgpjhloohfaaDoorEngT
namespace Go.Proofs.YtalpgpjhloohfaaDoor.Eng
open Go Go.Proofs
set_option maxRecDepth 100000
set_option maxHeartbeats 2000000
set_option linter.unusedSimpArgs false
set_option linter.unusedVariables false
attribute [local simp] finK fin1 hpOf xi renQ isRoot runCode runOps Eng.step wantedV astep val ofO made loadV storeV find V.cells bin binT binA numT numFs eqCells un1 setAt fieldAddrV fieldV indexAddrV indexV bounds sliceV convV lenV foldV max2V min2V callO bor rdsO wrsO seen_none okD_none loops keepIds resV resultsV St.ev TK.agg refs refsL refsO V.one V.isC Value.oneCell' ren renL renO noTag noTagL noTagR noTagO nodup mapO passV frs psi refsR newD loopNext opsAt idx flatAt rootOf backR newsV appendV copyV clearV strV bytesV bldV bufV selfV bytesOf nilCmp buildV fillF chunk
attribute [local simp] cT cF cX cWR cOW cK cBL X ints_length ints_get ints_getElem ints_drop ints_take ints_append ints_nil ints_set
attribute [local simp] ints_replicate
attribute [local simp] putV_some putV_none putH_app applyD_nil applyD_cons seen_app gc_ρ gc_H gc_tick st0_ρ st0_H st0_tick retV callRo callV_if borL_nil borL_cons ints_snoc take_self callWr cutH_app findQ afterV exportV_0 exportV_n okD_nil okD_cons sub_seq0 sub_seq1 sub_cond0 sub_cond1 sub_block sub_loop sub_nil young_far young_none hidW_nil mayW_nil pairs okI ok_0 ok_1 ok_2
attribute [local simp] T3 T4 T9 T22 T24 T28 T55 T70
attribute [local simp] young_near clo cloF Region.binds Nat.testBit
def wordL (u : Int) : List UInt8 := if u = 1 then [67] else if u = 2 then [70] else if u = 3 then [75] else if u = 4 then [109, 47, 115] else if u = 5 then [107, 116] else if u = 6 then [107, 109, 47, 104] else if u = 7 then [109, 109] else [105, 110]
def sgnL (x : Int) : List UInt8 := if x < 0 then [45] else []
def quaL (x u : Int) : List UInt8 := sgnL x ++ (Lib.decDigits (x.natAbs / 10) ++ (46 :: (Lib.decDigits (x.natAbs % 10) ++ (32 :: wordL u))))
theorem word_len (u : Int) : (wordL u).length ≤ 4 := by
  unfold wordL
  repeat' split
  all_goals decide
theorem lit0 : (⟨#[]⟩ : ByteArray) = bs [] := rfl
theorem lit1 (a : UInt8) : (⟨#[a]⟩ : ByteArray) = bs [a] := rfl
theorem lit2 (a b : UInt8) : (⟨#[a, b]⟩ : ByteArray) = bs [a, b] := rfl
theorem lit3 (a b c : UInt8) : (⟨#[a, b, c]⟩ : ByteArray) = bs [a, b, c] := rfl
theorem lit4 (a b c d : UInt8) : (⟨#[a, b, c, d]⟩ : ByteArray) = bs [a, b, c, d] := rfl
theorem unit_cases {u : Int} (h : (decide (1 ≤ u) && decide (u ≤ 8)) = true) : u = 1 ∨ u = 2 ∨ u = 3 ∨ u = 4 ∨ u = 5 ∨ u = 6 ∨ u = 7 ∨ u = 8 := by
  simp only [Bool.and_eq_true, decide_eq_true_eq] at h
  omega

end Go.Proofs.YtalpgpjhloohfaaDoor.Eng
