/- A deterministic reading of Go code over plain data: what functions of the program compute. No conditions. -/
import Derived.Test.YtmbjhcdmnjhnoaaLmbase
import Derived.Test.YtmbjhcdmnjhnoaaLmimpl
import Derived.Test.YtmbjhcdmnjhnoaaLmfield
import Derived.Test.YtmbjhcdmnjhnoaaLmnils
import Derived.Test.YtmbjhcdmnjhnoaaLmgood
import Derived.Test.YtmbjhcdmnjhnoaaLmspec
import Derived.Test.YtmbjhcdmnjhnoaaLmcombined
import Derived.Test.YtmbjhcdmnjhnoaaLmmaskfrom
import Derived.Test.YtmbjhcdmnjhnoaaLmspecmask
import Derived.Test.YtmbjhcdmnjhnoaaEngT
namespace Go.Proofs.Ytmbjhcdmnjhnoaa.Eng
open Go Go.Proofs
set_option maxRecDepth 100000
set_option maxHeartbeats 2000000
set_option linter.unusedSimpArgs false
set_option linter.unusedVariables false
attribute [local simp] finK fin1 hpOf xi renQ isRoot runCode runOps Eng.step wantedV astep val ofO made loadV storeV find V.cells bin binT un1 setAt fieldAddrV fieldV indexAddrV indexV bounds sliceV convV lenV foldV max2V min2V callO bor rdsO wrsO seen_none okD_none loops keepIds resV resultsV St.ev TK.agg refs refsL refsO V.one V.isC Value.oneCell' ren renL renO noTag noTagL noTagR noTagO nodup mapO passV frs psi refsR newD loopNext opsAt idx flatAt rootOf backR newsV appendV buildV fillF chunk
attribute [local simp] cT cF cX cWR cOW cK X WR OW K ints_length ints_get ints_getElem ints_drop ints_take ints_append ints_nil ints_set
attribute [local simp] ints_replicate
attribute [local simp] putV_some putV_none putH_app applyD_nil applyD_cons seen_app gc_ρ gc_H gc_tick st0_ρ st0_H st0_tick retV callRo callV_ro callV_wr callWr cutH_app findQ afterV exportV_0 exportV_n okD_nil okD_cons sub_seq0 sub_seq1 sub_cond0 sub_cond1 sub_block sub_loop sub_nil young_far young_none okI ok_0 ok_1 ok_2
attribute [local simp] T3 T4 T22 T24 T26 T112
attribute [local simp] young_near clo cloF Region.binds Nat.testBit
theorem wm_over1 (k : Nat) (b c : Bool) (w h w' h' : Int) (l m : List Int) (hl : l.length ≤ 9223372036854775807) (ho : (1048576 : Int) - l.length < 0) (hk : 1000 ≤ k) :
    callK C k 5 [lfldV b w h l, lfldV c w' h' m] [] = some (.c (.bool true), hpOf [] []) := by
  obtain ⟨k, rfl⟩ : ∃ m, k = m + 30 := ⟨k - 30, by omega⟩
  rw [callK_fn rfl F5 code5]
  have h1 := c_szField (k + 29) b w h l 1048576 (by omega) (by omega) (by omega)
  rw [if_pos ho] at h1
  simp [lfldV] at h1
  simp [R5_0, R5_1, R5_2, R5_3, R5_4, R5_5, R5_6, R5_7, R5_8, R5_9, R5_10, R5_11, R5_12, R5_13, R5_14, R5_15, R5_16, R5_17, R5_18, R5_19, R5_20, R5_21, R5_22, R5_23, R5_24, R5_25, R5_26, R5_27, R5_28, R5_29, R5_30, R5_31, R5_32, R5_33, R5_34, R5_35, R5_36, R5_37, R5_38, R5_39, R5_40, Try.f5, lfldV, h1]
theorem wm_over2 (k : Nat) (b c : Bool) (w h w' h' : Int) (l m : List Int) (hl : m.length ≤ 9223372036854775807) (ho : ¬ (1048576 : Int) - l.length < 0) (ho' : (1048576 : Int) - l.length - m.length < 0) (hk : 1000 ≤ k) :
    callK C k 5 [lfldV b w h l, lfldV c w' h' m] [] = some (.c (.bool true), hpOf [] []) := by
  obtain ⟨k, rfl⟩ : ∃ m, k = m + 30 := ⟨k - 30, by omega⟩
  rw [callK_fn rfl F5 code5]
  have h1 := c_szField (k + 29) b w h l 1048576 (by omega) (by omega) (by omega)
  rw [if_neg ho] at h1
  have h2 := c_szField (k + 29) c w' h' m (1048576 - l.length) (by omega) (by omega) (by omega)
  rw [if_pos ho'] at h2
  simp [lfldV] at h1 h2
  have h3 : ¬ (1048576 : Int) < l.length := by omega
  simp [R5_0, R5_1, R5_2, R5_3, R5_4, R5_5, R5_6, R5_7, R5_8, R5_9, R5_10, R5_11, R5_12, R5_13, R5_14, R5_15, R5_16, R5_17, R5_18, R5_19, R5_20, R5_21, R5_22, R5_23, R5_24, R5_25, R5_26, R5_27, R5_28, R5_29, R5_30, R5_31, R5_32, R5_33, R5_34, R5_35, R5_36, R5_37, R5_38, R5_39, R5_40, Try.f5, lfldV, h1, h2, ho]
theorem wm_no (k : Nat) (b c : Bool) (w h w' h' : Int) (l m : List Int) (ho : ¬ (1048576 : Int) - l.length < 0) (ho' : ¬ (1048576 : Int) - l.length - m.length < 0)
    (hg : (goodB w h l && (goodB w' h' m && (w == w' && h == h'))) = false) (hk : l.length + m.length + 1000 ≤ k) :
    callK C k 5 [lfldV b w h l, lfldV c w' h' m] [] = some (.c (.bool true), hpOf [] []) := by
  obtain ⟨k, rfl⟩ : ∃ m, k = m + 30 := ⟨k - 30, by omega⟩
  rw [callK_fn rfl F5 code5]
  have hg' : (goodB w h l && (goodB w' h' m && (w' == w && h' == h))) = false := by rw [← hg, Bool.beq_comm (a := w), Bool.beq_comm (a := h)]
  have h1 := c_szField (k + 29) b w h l 1048576 (by omega) (by omega) (by omega)
  rw [if_neg ho] at h1
  have h2 := c_szField (k + 29) c w' h' m (1048576 - l.length) (by omega) (by omega) (by omega)
  rw [if_neg ho'] at h2
  have h3 : ¬ (1048576 : Int) < l.length := by omega
  have h4 : ¬ (1048576 : Int) - l.length < m.length := by omega
  have t1 := c_toField (k + 29) b w h l (by omega) (by omega)
  have t2 := c_toField (k + 29) c w' h' m (by omega) (by omega)
  have s1 := c_specMaskNo (k + 29) true true w h w' h' l m (by omega) hg
  have i1 := c_implMaskNo (k + 29) true true w h w' h' l m (by omega) hg'
  have e1 := c_eqFieldNil (k + 29) (by omega)
  have e2 := c_eqField (k + 29) true true w h w h l l (by omega) (by omega)
  have e3 := c_eqField (k + 29) true true w' h' w' h' m m (by omega) (by omega)
  have m1 := c_markField (k + 29) w h l 1 (by omega) (by omega) (by omega) (by omega)
  have m2 := c_markField (k + 29) w' h' m (1 + l.length) (by omega) (by omega) (by omega) (by omega)
  have m3 := c_markFieldNil (k + 29) 1 (by omega)
  have d1 := c_heldFieldNil (k + 29) 1 (by omega) (by omega)
  have p1 : ¬ (1 + (l.length : Int) + m.length < 0) := by omega
  simp [lfldV, fldV, nilV, intsO] at h1 h2 t1 t2 s1 i1 e1 e2 e3 m1 m2 m3 d1
  simp [R5_0, R5_1, R5_2, R5_3, R5_4, R5_5, R5_6, R5_7, R5_8, R5_9, R5_10, R5_11, R5_12, R5_13, R5_14, R5_15, R5_16, R5_17, R5_18, R5_19, R5_20, R5_21, R5_22, R5_23, R5_24, R5_25, R5_26, R5_27, R5_28, R5_29, R5_30, R5_31, R5_32, R5_33, R5_34, R5_35, R5_36, R5_37, R5_38, R5_39, R5_40, Try.f5, lfldV, h1, h2, ho, ho', t1, t2, s1, i1, e1, e2, e3, m1, m2, m3, d1, p1]

end Go.Proofs.Ytmbjhcdmnjhnoaa.Eng
