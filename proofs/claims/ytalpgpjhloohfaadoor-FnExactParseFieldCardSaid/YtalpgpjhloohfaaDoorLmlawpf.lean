/- A deterministic reading of Go code over plain data: what functions of the program compute. No conditions. -/
import Derived.Test.YtalpgpjhloohfaaDoorLmbase
import Derived.Test.YtalpgpjhloohfaaDoorLmimpl
import Derived.Test.YtalpgpjhloohfaaDoorLmgood
import Derived.Test.YtalpgpjhloohfaaDoorLmnils
import Derived.Test.YtalpgpjhloohfaaDoorLmitoa
import Derived.Test.YtalpgpjhloohfaaDoorLmappendck
import Derived.Test.YtalpgpjhloohfaaDoorLmquantity
import Derived.Test.YtalpgpjhloohfaaDoorLmsplit
import Derived.Test.YtalpgpjhloohfaaDoorLmnumtext
import Derived.Test.YtalpgpjhloohfaaDoorLmjoins
import Derived.Test.YtalpgpjhloohfaaDoorLmjoinf
import Derived.Test.YtalpgpjhloohfaaDoorLmcuts
import Derived.Test.YtalpgpjhloohfaaDoorLmsplitf
import Derived.Test.YtalpgpjhloohfaaDoorLmpfield
import Derived.Test.YtalpgpjhloohfaaDoorLmpfield2
import Derived.Test.YtalpgpjhloohfaaDoorLmfield
import Derived.Test.YtalpgpjhloohfaaDoorLmparsef
import Derived.Test.YtalpgpjhloohfaaDoorLmparsef2
import Derived.Test.YtalpgpjhloohfaaDoorLmparsef3
import Derived.Test.YtalpgpjhloohfaaDoorLmrepeat
import Derived.Test.YtalpgpjhloohfaaDoorLmfieldby
import Derived.Test.YtalpgpjhloohfaaDoorLml2text
import Derived.Test.YtalpgpjhloohfaaDoorLmparses
import Derived.Test.YtalpgpjhloohfaaDoorLmparses2
import Derived.Test.YtalpgpjhloohfaaDoorLmparses3
import Derived.Test.YtalpgpjhloohfaaDoorEngT
import Derived.Lib.IndexLaws
namespace Go.Proofs.YtalpgpjhloohfaaDoor.Eng
open Go Go.Proofs
set_option maxRecDepth 100000
set_option maxHeartbeats 2000000
set_option linter.unusedSimpArgs false
set_option linter.unusedVariables false
attribute [local simp] finK fin1 hpOf xi renQ isRoot runCode runOps Eng.step wantedV astep val ofO made loadV storeV find V.cells bin binT binA numT numFs eqCells un1 setAt fieldAddrV fieldV indexAddrV indexV bounds sliceV convV lenV foldV max2V min2V callO bor rdsO wrsO seen_none okD_none loops keepIds resV resultsV St.ev TK.agg refs refsL refsO V.one V.isC Value.oneCell' ren renL renO noTag noTagL noTagR noTagO nodup mapO passV frs psi refsR newD loopNext opsAt idx flatAt rootOf backR newsV appendV copyV clearV strV bytesOf nilCmp buildV fillF chunk
attribute [local simp] cT cF cX cWR cOW cK X ints_length ints_get ints_getElem ints_drop ints_take ints_append ints_nil ints_set
attribute [local simp] ints_replicate
attribute [local simp] putV_some putV_none putH_app applyD_nil applyD_cons seen_app gc_ρ gc_H gc_tick st0_ρ st0_H st0_tick retV callRo callV_if borL_nil borL_cons ints_snoc take_self callWr cutH_app findQ afterV exportV_0 exportV_n okD_nil okD_cons sub_seq0 sub_seq1 sub_cond0 sub_cond1 sub_block sub_loop sub_nil young_far young_none hidW_nil mayW_nil pairs okI ok_0 ok_1 ok_2
attribute [local simp] T3 T4 T5 T9 T22 T28 T57 T70 T72
attribute [local simp] young_near clo cloF Region.binds Nat.testBit hidW declW mayW List.findIdx?_cons
theorem acc_cells {s : List UInt8} {w n : Nat} {c : List Int} (h : accI s = some (w, n, c)) : c.length ≤ 64 := by
  unfold accI at h
  split at h
  case isFalse => cases h
  split at h
  case h_2 => cases h
  split at h
  case isFalse => cases h
  rename_i hg
  simp only [Option.some.injEq, Prod.mk.injEq] at h
  obtain ⟨rfl, rfl, rfl⟩ := h
  exact (good_length hg).2.2.2
theorem law_PF (s : List UInt8) (hl : s.length ≤ 9223372036854775807) : ∃ k, callK C k 5 [.c (.string (bs s))] [] = some (.c (.bool true), hpOf [] []) := by
  refine ⟨2000000, ?_⟩
  obtain ⟨k, hk⟩ : ∃ k, 2000000 = k := ⟨_, rfl⟩
  rw [hk]
  obtain ⟨k, rfl⟩ : ∃ m, k = m + 1 := ⟨k - 1, by omega⟩
  rw [callK_fn rfl F5 code5]
  by_cases h1 : 1048576 < s.length
  · have h1' : (1048576 : Int) < (s.length : Int) := by omega
    simp [R5_0, R5_1, R5_2, R5_3, R5_4, R5_5, R5_6, R5_7, R5_8, R5_9, R5_10, R5_11, R5_12, R5_13, R5_14, R5_15, R5_16, R5_17, R5_18, R5_19, R5_20, R5_21, R5_22, R5_23, R5_24, Tryd.f5, bs_size, h1, h1']
  · have h1' : ¬ (1048576 : Int) < (s.length : Int) := by omega
    have I := c_implPF k s (by omega) (by omega)
    have S := c_specParse k s (by omega) (by omega)
    rw [← acc_same] at S
    cases ha : accI s with
    | none =>
      rw [ha] at I S
      simp only [pfRes] at I S
      have en := c_eqFieldNil k (by omega)
      have mn := c_markFieldNil k 1 (by omega)
      have dn := c_heldFieldNil k 1 (by omega) (by omega)
      simp [nilV] at en mn dn
      simp [R5_0, R5_1, R5_2, R5_3, R5_4, R5_5, R5_6, R5_7, R5_8, R5_9, R5_10, R5_11, R5_12, R5_13, R5_14, R5_15, R5_16, R5_17, R5_18, R5_19, R5_20, R5_21, R5_22, R5_23, R5_24, Tryd.f5, undef, bs_size, h1, h1', I, S, en, mn, dn]
    | some q =>
      obtain ⟨w, n, rL⟩ := q
      have hr := acc_cells ha
      rw [ha] at I S
      simp only [pfRes] at I S
      have er := c_eqField k true true (w : Int) (n : Int) (w : Int) (n : Int) rL rL (by omega) (by omega)
      have mr := c_markField k (w : Int) (n : Int) rL 1 (by omega) (by omega) (by omega) (by omega)
      have dr := c_heldField k true (w : Int) (n : Int) (marks 1 rL.length) 1 (by rw [marks_length]; omega) (by omega) (by omega) (by rw [marks_length]; omega)
      rw [marks_length, if_pos rfl] at dr
      have p2 : ¬ (1 + (rL.length : Int) < 0) := by omega
      have q1 : rL.take rL.length = rL := List.take_length
      have q2 : (marks 1 rL.length).take rL.length = marks 1 rL.length := List.take_of_length_le (by rw [marks_length]; exact Nat.le_refl _)
      simp [fldV, ownV, intsO] at er mr dr S I
      simp [R5_0, R5_1, R5_2, R5_3, R5_4, R5_5, R5_6, R5_7, R5_8, R5_9, R5_10, R5_11, R5_12, R5_13, R5_14, R5_15, R5_16, R5_17, R5_18, R5_19, R5_20, R5_21, R5_22, R5_23, R5_24, Tryd.f5, undef, bs_size, h1, h1', er, mr, dr, p2, q1, q2, S, I, marks_length]
theorem law_ParseField (s : ByteArray) (w : s.size ≤ maxLen) : ∃ k, callK C k 5 [.c (.string s)] [] = some (.c (.bool true), hpOf [] []) := by
  obtain ⟨l, rfl⟩ := bs_of s
  rw [bs_size] at w
  unfold maxLen at w
  exact law_PF l w

end Go.Proofs.YtalpgpjhloohfaaDoor.Eng
