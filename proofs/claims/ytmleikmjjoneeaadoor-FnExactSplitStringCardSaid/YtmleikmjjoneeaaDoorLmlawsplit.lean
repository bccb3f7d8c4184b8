/- A deterministic reading of Go code over plain data: what functions of the program compute. No conditions. -/
import Derived.Test.YtmleikmjjoneeaaDoorLmbase
import Derived.Test.YtmleikmjjoneeaaDoorLmimpl
import Derived.Test.YtmleikmjjoneeaaDoorLmgood
import Derived.Test.YtmleikmjjoneeaaDoorLmitoa
import Derived.Test.YtmleikmjjoneeaaDoorLmappendck
import Derived.Test.YtmleikmjjoneeaaDoorLmsplit
import Derived.Test.YtmleikmjjoneeaaDoorLmjoins
import Derived.Test.YtmleikmjjoneeaaDoorLmjoinf
import Derived.Test.YtmleikmjjoneeaaDoorLmcuts
import Derived.Test.YtmleikmjjoneeaaDoorLmsplitf
import Derived.Test.YtmleikmjjoneeaaDoorEngT
import Derived.Lib.IndexLaws
namespace Go.Proofs.YtmleikmjjoneeaaDoor.Eng
open Go Go.Proofs
set_option maxRecDepth 100000
set_option maxHeartbeats 2000000
set_option linter.unusedSimpArgs false
set_option linter.unusedVariables false
attribute [local simp] finK fin1 hpOf xi renQ isRoot runCode runOps Eng.step wantedV astep val ofO made loadV storeV find V.cells bin binT binA numT numFs eqCells un1 setAt fieldAddrV fieldV indexAddrV indexV bounds sliceV convV lenV foldV max2V min2V callO bor rdsO wrsO seen_none okD_none loops keepIds resV resultsV St.ev TK.agg refs refsL refsO V.one V.isC Value.oneCell' ren renL renO noTag noTagL noTagR noTagO nodup mapO passV frs psi refsR newD loopNext opsAt idx flatAt rootOf backR newsV appendV copyV clearV strV bytesOf nilCmp buildV fillF chunk
attribute [local simp] cT cF cX cWR cOW cK X ints_length ints_get ints_getElem ints_drop ints_take ints_append ints_nil ints_set
attribute [local simp] ints_replicate
attribute [local simp] putV_some putV_none putH_app applyD_nil applyD_cons seen_app gc_ρ gc_H gc_tick st0_ρ st0_H st0_tick retV callRo callV_if borL_nil borL_cons ints_snoc take_self callWr cutH_app findQ afterV exportV_0 exportV_n okD_nil okD_cons sub_seq0 sub_seq1 sub_cond0 sub_cond1 sub_block sub_loop sub_nil young_far young_none hidW_nil mayW_nil pairs okI ok_0 ok_1 ok_2
attribute [local simp] T3 T4 T5 T9 T22 T28 T39 T40 T42
attribute [local simp] young_near clo cloF Region.binds Nat.testBit hidW declW mayW List.findIdx?_cons
theorem c_markStringSNil (k : Nat) (hk : 10 ≤ k) : callK C k 8 [.c (.slice none 0 0), .c (.int .i64 1)] [] = some (.c (.int .i64 1), hpOf [] []) := by
  obtain ⟨k, rfl⟩ : ∃ m, k = m + 3 := ⟨k - 3, by omega⟩
  rw [callK_fn rfl F8 code8]
  simp [R8_0, R8_1, R8_2, R8_3, R8_4, R8_5, R8_6, Tryd.f8, lpL8_0, lpM8_0, M8_0, L8_0, loopRun_succ]
theorem c_heldStringSNil (k : Nat) (hk : 10 ≤ k) : callK C k 9 [.c (.slice none 0 0), .c (.int .i64 1)] [] = some (.c (.int .i64 1), hpOf [] []) := by
  obtain ⟨k, rfl⟩ : ∃ m, k = m + 3 := ⟨k - 3, by omega⟩
  rw [callK_fn rfl F9 code9]
  simp [R9_0, R9_1, R9_2, R9_3, R9_4, R9_5, R9_6, R9_7, Tryd.f9, lpL9_0, lpM9_0, M9_0, L9_0, loopRun_succ]
theorem c_eqStringSNil (k : Nat) (b : Bool) (hk : 10 ≤ k) : callK C k 7 [.c (.slice none 0 0), .sq b true 1 []] [] = some (.c (.bool true), hpOf [] []) := by
  obtain ⟨k, rfl⟩ : ∃ m, k = m + 3 := ⟨k - 3, by omega⟩
  rw [callK_fn rfl F7 code7]
  simp [R7_0, R7_1, R7_2, R7_3, R7_4, R7_5, R7_6, R7_7, R7_8, Tryd.f7, lpL7_0, lpM7_0, M7_0, L7_0, loopRun_succ]
theorem splitL_short (l : List UInt8) (b : UInt8) : (splitL l b).length ≤ l.length + 1 := by
  have := (spS_le l b l.length).2
  unfold splitL
  simp
  exact this
theorem law_Split (l t : List UInt8) (hl : l.length ≤ 9223372036854775807) (ht : t.length ≤ 9223372036854775807) : ∃ k, callK C k 3 [.c (.string (bs l)), .c (.string (bs t))] [] = some (.c (.bool true), hpOf [] []) := by
  refine ⟨2000000, ?_⟩
  obtain ⟨k, hk⟩ : ∃ k, 2000000 = k := ⟨_, rfl⟩
  rw [hk]
  obtain ⟨k, rfl⟩ : ∃ m, k = m + 1 := ⟨k - 1, by omega⟩
  rw [callK_fn rfl F3 code3]
  by_cases h1 : 1048576 < l.length
  · have h1' : (1048576 : Int) < (l.length : Int) := by omega
    simp [R3_0, R3_1, R3_2, R3_3, R3_4, R3_5, R3_6, R3_7, R3_8, R3_9, R3_10, R3_11, R3_12, R3_13, R3_14, R3_15, R3_16, R3_17, R3_18, R3_19, R3_20, R3_21, R3_22, R3_23, R3_24, R3_25, R3_26, Tryd.f3, bs_size, h1, h1']
  · have h1' : ¬ (1048576 : Int) < (l.length : Int) := by omega
    by_cases h2 : 1048576 < t.length
    · have h2' : (1048576 : Int) < (t.length : Int) := by omega
      simp [R3_0, R3_1, R3_2, R3_3, R3_4, R3_5, R3_6, R3_7, R3_8, R3_9, R3_10, R3_11, R3_12, R3_13, R3_14, R3_15, R3_16, R3_17, R3_18, R3_19, R3_20, R3_21, R3_22, R3_23, R3_24, R3_25, R3_26, Tryd.f3, bs_size, h1, h1', h2, h2']
    · have h2' : ¬ (1048576 : Int) < (t.length : Int) := by omega
      by_cases hg : l.length ≤ 4000 ∧ t.length = 1
      · obtain ⟨g1, g2⟩ := hg
        obtain ⟨b, rfl⟩ : ∃ b, t = [b] := by
          cases t with
          | nil => simp at g2
          | cons b r =>
            have hr : r = [] := List.length_eq_zero_iff.1 (by simpa using g2)
            exact ⟨b, by rw [hr]⟩
        have I := c_implSplit k l b g1 (by omega)
        have S := c_specSplit k l b g1 (by omega)
        have hs := splitL_short l b
        obtain ⟨p, hp⟩ : ∃ p, splitL l b = p := ⟨_, rfl⟩
        rw [hp] at I S hs
        have E := c_eqStringS k true true p (by omega) (by omega)
        have M := c_markStringS k p (by omega) (by omega)
        have H := c_heldStringS k true p.length (by omega) (by omega)
        have ml := mkL_len 1 p.length
        have mt : (mkL 1 p.length).take p.length = mkL 1 p.length := by
          have := List.take_length (l := mkL 1 p.length)
          rwa [ml] at this
        have n0 : ¬ (1 : Int) + (p.length : Int) < 0 := by omega
        simp [strsO] at I S M
        simp [R3_0, R3_1, R3_2, R3_3, R3_4, R3_5, R3_6, R3_7, R3_8, R3_9, R3_10, R3_11, R3_12, R3_13, R3_14, R3_15, R3_16, R3_17, R3_18, R3_19, R3_20, R3_21, R3_22, R3_23, R3_24, R3_25, R3_26, Tryd.f3, undef, bs_size, h1, h1', h2, h2', I, S, E, M, H, ml, mt, n0, strs_length, strs_take]
      · have I := c_implSplitN k l t hg (by omega)
        have S := c_specSplitN k l t hg (by omega)
        have E := c_eqStringSNil k true (by omega)
        have M := c_markStringSNil k (by omega)
        have H := c_heldStringSNil k (by omega)
        simp [strsO, strs_nil] at S
        simp [R3_0, R3_1, R3_2, R3_3, R3_4, R3_5, R3_6, R3_7, R3_8, R3_9, R3_10, R3_11, R3_12, R3_13, R3_14, R3_15, R3_16, R3_17, R3_18, R3_19, R3_20, R3_21, R3_22, R3_23, R3_24, R3_25, R3_26, Tryd.f3, undef, bs_size, h1, h1', h2, h2', I, S, E, M, H, strs_nil]
theorem law_SplitString (s t : ByteArray) (w : s.size ≤ maxLen) (wt : t.size ≤ maxLen) : ∃ k, callK C k 3 [.c (.string s), .c (.string t)] [] = some (.c (.bool true), hpOf [] []) := by
  obtain ⟨l, rfl⟩ := bs_of s
  obtain ⟨q, rfl⟩ := bs_of t
  rw [bs_size] at w wt
  unfold maxLen at w wt
  exact law_Split l q w wt

end Go.Proofs.YtmleikmjjoneeaaDoor.Eng
