/- A deterministic reading of Go code over plain data: what functions of the program compute. No conditions. -/
import Derived.Test.YtmleikmjjoneeaaLmbase
import Derived.Test.YtmleikmjjoneeaaLmimpl
import Derived.Test.YtmleikmjjoneeaaLmgood
import Derived.Test.YtmleikmjjoneeaaLmitoa
import Derived.Test.YtmleikmjjoneeaaLmappendck
import Derived.Test.YtmleikmjjoneeaaLmsplit
import Derived.Test.YtmleikmjjoneeaaLmjoins
import Derived.Test.YtmleikmjjoneeaaLmjoinf
import Derived.Test.YtmleikmjjoneeaaLmjoinw
import Derived.Test.YtmleikmjjoneeaaEngT
import Derived.Lib.IndexLaws
import Derived.Lib.Join
namespace Go.Proofs.Ytmleikmjjoneeaa.Eng
open Go Go.Proofs
set_option maxRecDepth 100000
set_option maxHeartbeats 2000000
set_option linter.unusedSimpArgs false
set_option linter.unusedVariables false
attribute [local simp] finK fin1 hpOf xi renQ isRoot runCode runOps Eng.step wantedV astep val ofO made loadV storeV find V.cells bin binT binA numT numFs eqCells un1 setAt fieldAddrV fieldV indexAddrV indexV bounds sliceV convV lenV foldV max2V min2V callO bor rdsO wrsO seen_none okD_none loops keepIds resV resultsV St.ev TK.agg refs refsL refsO V.one V.isC Value.oneCell' ren renL renO noTag noTagL noTagR noTagO nodup mapO passV frs psi refsR newD loopNext opsAt idx flatAt rootOf backR newsV appendV copyV clearV strV bytesOf nilCmp buildV fillF chunk
attribute [local simp] cT cF cX cWR cOW cK X ints_length ints_get ints_getElem ints_drop ints_take ints_append ints_nil ints_set
attribute [local simp] ints_replicate
attribute [local simp] putV_some putV_none putH_app applyD_nil applyD_cons seen_app gc_ρ gc_H gc_tick st0_ρ st0_H st0_tick retV callRo callV_if borL_nil borL_cons ints_snoc take_self callWr cutH_app findQ afterV exportV_0 exportV_n okD_nil okD_cons sub_seq0 sub_seq1 sub_cond0 sub_cond1 sub_block sub_loop sub_nil young_far young_none hidW_nil mayW_nil pairs okI ok_0 ok_1 ok_2
attribute [local simp] T3 T4 T5 T9 T22
attribute [local simp] young_near clo cloF Region.binds Nat.testBit hidW declW mayW List.findIdx?_cons
theorem strs_of (p : List ByteArray) : (p.map fun s => [V.c (.string s)]) = strs (p.map (·.data.toList)) := by
  unfold strs
  rw [List.map_map]
  refine List.map_congr_left fun s _ => ?_
  cases s
  simp [bs]
theorem law_JoinB (p : List (List UInt8)) (t : List UInt8) (w : p.length ≤ 9223372036854775807) (ws : ∀ x ∈ p, x.length ≤ 9223372036854775807) (wt : t.length ≤ 9223372036854775807) : ∃ k, callK C k 3 [.sq false true 1 (strs p), .c (.string (bs t))] [] = some (.c (.bool true), hpOf [] []) := by
  refine ⟨p.length + 2000000, ?_⟩
  obtain ⟨k, hk⟩ : ∃ k, p.length + 2000000 = k := ⟨_, rfl⟩
  rw [hk]
  obtain ⟨k, rfl⟩ : ∃ m, k = m + 1 := ⟨k - 1, by omega⟩
  rw [callK_fn rfl F3 code3]
  by_cases h20 : 1048576 < t.length
  · have h20' : (1048576 : Int) < (t.length : Int) := by omega
    simp [R3_0, R3_1, R3_2, R3_3, R3_4, R3_5, R3_6, R3_7, R3_8, R3_9, R3_10, R3_11, R3_12, R3_13, R3_14, Try.f3, bs_size, h20, h20']
  · have h20' : ¬ (1048576 : Int) < (t.length : Int) := by omega
    have Z := c_szStringS k false p w ws (by omega)
    by_cases hg : p.length + lenS p ≤ 1048576
    · rw [if_pos hg] at Z
      have hz : ¬ (1048576 : Int) - (p.length : Int) - (lenS p : Int) < 0 := by omega
      have T := c_toStringS k false p (by omega) (by omega)
      have E := c_eqStringS k true true p (by omega) (by omega)
      simp [strsO] at T
      by_cases h1 : t.length = 1
      · obtain ⟨b, rfl⟩ : ∃ b, t = [b] := by
          cases t with
          | nil => simp at h1
          | cons b r =>
            have hr : r = [] := List.length_eq_zero_iff.1 (by simpa using h1)
            exact ⟨b, by rw [hr]⟩
        have I := c_implJoin k true p b hg (by omega)
        have S := c_specJoin k true p b hg (by omega)
        obtain ⟨J, hJ⟩ : ∃ J, (if joinOk p b = true then joinB p b else []) = J := ⟨_, rfl⟩
        rw [hJ] at I S
        cases hj : joinOk p b
        all_goals
          rw [hj] at I S
          simp [R3_0, R3_1, R3_2, R3_3, R3_4, R3_5, R3_6, R3_7, R3_8, R3_9, R3_10, R3_11, R3_12, R3_13, R3_14, Try.f3, undef, bs_size, h20, h20', Z, hz, T, I, S, E, strs_length, strs_take]
      · have I := c_implJoinN k true p t h1 (by omega)
        have S := c_specJoinN k true p t h1 (by omega)
        simp [R3_0, R3_1, R3_2, R3_3, R3_4, R3_5, R3_6, R3_7, R3_8, R3_9, R3_10, R3_11, R3_12, R3_13, R3_14, Try.f3, undef, bs_size, h20, h20', Z, hz, T, I, S, E, strs_length, strs_take]
    · rw [if_neg hg] at Z
      simp [R3_0, R3_1, R3_2, R3_3, R3_4, R3_5, R3_6, R3_7, R3_8, R3_9, R3_10, R3_11, R3_12, R3_13, R3_14, Try.f3, bs_size, h20, h20', Z]
theorem law_JoinStrings (p : List ByteArray) (t : ByteArray) (w : p.length ≤ maxLen) (ws : ∀ s ∈ p, s.size ≤ maxLen) (wt : t.size ≤ maxLen) : ∃ k, callK C k 3 [.sq false true 1 (p.map fun s => [.c (.string s)]), .c (.string t)] [] = some (.c (.bool true), hpOf [] []) := by
  rw [strs_of]
  obtain ⟨q, rfl⟩ := bs_of t
  rw [bs_size] at wt
  unfold maxLen at w ws wt
  refine law_JoinB _ q (by rw [List.length_map]; exact w) (fun x hx => ?_) wt
  obtain ⟨s, hs, rfl⟩ := List.mem_map.1 hx
  have h := ws s hs
  rw [Array.length_toList]
  exact h

end Go.Proofs.Ytmleikmjjoneeaa.Eng
