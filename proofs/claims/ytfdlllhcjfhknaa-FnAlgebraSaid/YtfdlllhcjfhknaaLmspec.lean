/- A deterministic reading of Go code over plain data: what functions of the program compute. No conditions. -/
import Derived.Test.YtfdlllhcjfhknaaLmbase
import Derived.Test.YtfdlllhcjfhknaaLmimpl
import Derived.Test.YtfdlllhcjfhknaaLmgood
import Derived.Test.YtfdlllhcjfhknaaEngT
namespace Go.Proofs.Ytfdlllhcjfhknaa.Eng
open Go Go.Proofs
set_option maxRecDepth 100000
set_option maxHeartbeats 2000000
set_option linter.unusedSimpArgs false
set_option linter.unusedVariables false
attribute [local simp] finK fin1 hpOf xi renQ isRoot runCode runOps Eng.step wantedV astep val ofO made loadV storeV find V.cells bin binT un1 setAt fieldAddrV fieldV indexAddrV indexV bounds sliceV convV lenV foldV max2V min2V callO bor rdsO wrsO seen_none okD_none loops keepIds resV resultsV St.ev TK.agg refs refsL refsO V.one V.isC Value.oneCell' ren renL renO noTag noTagL noTagR noTagO nodup mapO passV frs psi refsR newD loopNext opsAt idx flatAt rootOf backR newsV appendV copyV clearV strV bytesOf nilCmp buildV fillF chunk
attribute [local simp] cT cF cX cWR cOW cK X ints_length ints_get ints_getElem ints_drop ints_take ints_append ints_nil ints_set
attribute [local simp] ints_replicate
attribute [local simp] putV_some putV_none putH_app applyD_nil applyD_cons seen_app gc_ρ gc_H gc_tick st0_ρ st0_H st0_tick retV callRo callV_if borL_nil borL_cons ints_snoc take_self callWr cutH_app findQ afterV exportV_0 exportV_n okD_nil okD_cons sub_seq0 sub_seq1 sub_cond0 sub_cond1 sub_block sub_loop sub_nil young_far young_none hidW_nil mayW_nil pairs okI ok_0 ok_1 ok_2
attribute [local simp] T3 T4 T5 T9 T22 T24 T26 T29 T36 T73 T75 T86 T89 T103 T104 T106 T108 T109 T111 T114 T118 T134 T136 T157 T161 T168
theorem c_l1Own (k : Nat) (b : Bool) (l : List Int) (hl : l.length ≤ 1048576) (hk : 1 ≤ k) : callK C k 180 [.sq b true 1 (ints l)] [] = some (.s 0 2 1 0 l.length, hpOf [] [intsO l]) := by
  obtain ⟨k, rfl⟩ : ∃ m, k = m + 1 := ⟨k - 1, by omega⟩
  rw [callK_fn rfl F180 code180]
  have b2 : l.length * 8 ≤ 140737488355328 := by omega
  have b3 : l.length ≤ maxLen := by unfold maxLen; omega
  by_cases h0 : l = []
  · subst h0
    simp [R180_0, R180_1, Try.f180, intsO, ints]
  · simp [R180_0, R180_1, Try.f180, h0, intsO, b2, b3]
theorem c_l2Own (k : Nat) (b : Bool) (w h : Int) (l : List Int) (hl : l.length ≤ 1048576) (hk : 2 ≤ k) : callK C k 142 [fldV b w h l] [] = some (ownV w h 0 2 l.length, hpOf [] [intsO l]) := by
  obtain ⟨k, rfl⟩ : ∃ m, k = m + 2 := ⟨k - 2, by omega⟩
  rw [callK_fn rfl F142 code142]
  have hc := c_l1Own (k + 1) b l hl (by omega)
  simp [R142_0, R142_1, Try.f142, fldV, hc, intsO, ownV]
theorem c_l2Same (k : Nat) (b c : Bool) (w h w' h' : Int) (l m : List Int) (hk : 110 ≤ k) : callK C k 134 [fldV b w h l, fldV c w' h' m] [] = some (.c (.bool (goodB w h l && (goodB w' h' m && (w == w' && h == h')))), hpOf [] []) := by
  obtain ⟨k, rfl⟩ : ∃ m, k = m + 2 := ⟨k - 2, by omega⟩
  rw [callK_fn rfl F134 code134]
  have g1 := c_l2Good (k + 1) b w h l (by omega)
  have g2 := c_l2Good (k + 1) c w' h' m (by omega)
  simp only [fldV] at g1 g2
  cases e1 : goodB w h l
  · simp [R134_0, R134_1, Try.f134, fldV, g1, e1]
  cases e2 : goodB w' h' m
  · simp [R134_0, R134_1, Try.f134, fldV, g1, e1, g2, e2]
  cases e3 : w == w'
  · simp [R134_0, R134_1, Try.f134, fldV, g1, e1, g2, e2, e3]
  · simp [R134_0, R134_1, Try.f134, fldV, g1, e1, g2, e2, e3]

end Go.Proofs.Ytfdlllhcjfhknaa.Eng
