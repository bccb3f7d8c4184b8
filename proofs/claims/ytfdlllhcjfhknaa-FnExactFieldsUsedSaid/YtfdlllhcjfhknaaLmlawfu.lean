/- A deterministic reading of Go code over plain data: what functions of the program compute. No conditions. -/
import Derived.Test.YtfdlllhcjfhknaaLmbase
import Derived.Test.YtfdlllhcjfhknaaLmimpl
import Derived.Test.YtfdlllhcjfhknaaLmgood
import Derived.Test.YtfdlllhcjfhknaaLmfield
import Derived.Test.YtfdlllhcjfhknaaLmnils
import Derived.Test.YtfdlllhcjfhknaaLmnodes
import Derived.Test.YtfdlllhcjfhknaaLmnodep
import Derived.Test.YtfdlllhcjfhknaaLmnodefn
import Derived.Test.YtfdlllhcjfhknaaLmisexpr
import Derived.Test.YtfdlllhcjfhknaaLmnodelaw
import Derived.Test.YtfdlllhcjfhknaaLmput
import Derived.Test.YtfdlllhcjfhknaaLmfused
import Derived.Test.YtfdlllhcjfhknaaLmisort
import Derived.Test.YtfdlllhcjfhknaaLmpsort
import Derived.Test.YtfdlllhcjfhknaaLmcompact
import Derived.Test.YtfdlllhcjfhknaaLmfusedi
import Derived.Test.YtfdlllhcjfhknaaLmfuplain
import Derived.Test.YtfdlllhcjfhknaaLmfuplain2
import Derived.Test.YtfdlllhcjfhknaaLmfuplain3
import Derived.Test.YtfdlllhcjfhknaaLmfuplain4
import Derived.Test.YtfdlllhcjfhknaaLmfubound
import Derived.Test.YtfdlllhcjfhknaaLmfumark
import Derived.Test.YtfdlllhcjfhknaaLmfumarkn
import Derived.Test.YtfdlllhcjfhknaaEngT
namespace Go.Proofs.Ytfdlllhcjfhknaa.Eng
open Go Go.Proofs
set_option maxRecDepth 100000
set_option maxHeartbeats 2000000
set_option linter.unusedSimpArgs false
set_option linter.unusedVariables false
attribute [local simp] finK fin1 hpOf xi renQ isRoot runCode runOps Eng.step wantedV astep val ofO made loadV storeV find V.cells bin binT un1 setAt fieldAddrV fieldV indexAddrV indexV bounds sliceV convV lenV foldV max2V min2V callO bor rdsO wrsO seen_none okD_none loops keepIds resV resultsV St.ev TK.agg refs refsL refsO V.one V.isC Value.oneCell' ren renL renO noTag noTagL noTagR noTagO nodup mapO passV frs psi refsR newD loopNext opsAt idx flatAt rootOf backR newsV appendV copyV clearV strV bytesOf nilCmp buildV fillF chunk
attribute [local simp] cT cF cX cWR cOW cK X ints_length ints_get ints_getElem ints_drop ints_take ints_append ints_nil ints_set
attribute [local simp] ints_replicate
attribute [local simp] putV_some putV_none putH_app applyD_nil applyD_cons seen_app gc_ρ gc_H gc_tick st0_ρ st0_H st0_tick retV callRo callV_if borL_nil borL_cons ints_snoc take_self callWr cutH_app findQ afterV exportV_0 exportV_n okD_nil okD_cons sub_seq0 sub_seq1 sub_cond0 sub_cond1 sub_block sub_loop sub_nil young_far young_none hidW_nil mayW_nil pairs okI ok_0 ok_1 ok_2
attribute [local simp] T3 T4 T5 T9 T22 T24 T29 T36 T73 T75 T86 T89 T103 T104 T106 T108 T109 T114 T134 T136 T157 T161 T168
attribute [local simp] young_near clo cloF Region.binds Nat.testBit hidW declW mayW List.findIdx?_cons
theorem c_eqNilEmpty (k : Nat) (b : Bool) (hk : 20 ≤ k) : callK C k 75 [.c (.slice none 0 0), .sq b true 1 []] [] = some (.c (.bool true), hpOf [] []) := by
  obtain ⟨k, rfl⟩ : ∃ m, k = m + 10 := ⟨k - 10, by omega⟩
  rw [callK_fn rfl F75 code75]
  simp [R75_0, R75_1, R75_2, R75_3, R75_4, R75_5, R75_6, R75_7, R75_8, Try.f75, lpL75_0, lpM75_0, M75_0, L75_0, loopRun_succ]
theorem c_implFUn (k : Nat) (b : Bool) (l : List (Int × Int)) (hk : 1000 ≤ k) (hg : goodE l = false) : callK C k 74 [.sq b true 2 (ndL l)] [] = some (.tp [.c (.slice none 0 0), .c (.bool false)], hpOf [] []) := by
  obtain ⟨k, rfl⟩ : ∃ m, k = m + 9 := ⟨k - 9, by omega⟩
  rw [callK_fn rfl F74 code74]
  have gd := c_IsExpression (k + 8) b l (by omega)
  rw [hg] at gd
  simp [R74_0, R74_1, R74_2, R74_3, R74_4, R74_5, R74_6, R74_7, R74_8, R74_9, R74_10, R74_11, Try.f74, lpL74_0, lpM74_0, M74_0, gd]
theorem law_FieldsUsed (k : Nat) (b : Bool) (l : List (Int × Int)) (hl : l.length ≤ 9223372036854775807) (hk : l.length + 3000 ≤ k) : callK C k 9 [.sq b true 2 (ndL l)] [] = some (.c (.bool true), hpOf [] []) := by
  obtain ⟨k, rfl⟩ : ∃ m, k = m + 1 := ⟨k - 1, by omega⟩
  rw [callK_fn rfl F9 code9]
  have z := c_szNodeS k b l 1048576 (by omega) (by omega) (by omega)
  by_cases h : (1048576 : Int) - (l.length : Int) < 0
  · rw [if_pos h] at z
    simp [R9_0, R9_1, R9_2, R9_3, R9_4, R9_5, R9_6, R9_7, R9_8, R9_9, R9_10, R9_11, R9_12, R9_13, R9_14, R9_15, R9_16, R9_17, R9_18, R9_19, R9_20, R9_21, R9_22, R9_23, R9_24, R9_25, R9_26, R9_27, R9_28, R9_29, R9_30, R9_31, R9_32, R9_33, Try.f9, z]
  · rw [if_neg h] at z
    have t := c_toNodeS k b l (by omega) (by omega)
    have e := c_eqNodeS k true true l l (by omega) (by omega)
    have mk := c_markNodeS k l 1 (by omega) (by omega) (by omega) (by omega)
    simp [ndO] at t mk
    have mn := c_markIntSNil k 1 (by omega)
    have hn := c_heldIntSNil k 1 (by omega)
    have en := c_eqNilEmpty k true (by omega)
    have lm : ¬ (1 + 2 * (l.length : Int)) < 0 := by omega
    cases hg : goodE l
    · have S := c_specFUn k true l (by omega) hg
      have I := c_implFUn k true l (by omega) hg
      simp [intsO] at S
      simp [R9_0, R9_1, R9_2, R9_3, R9_4, R9_5, R9_6, R9_7, R9_8, R9_9, R9_10, R9_11, R9_12, R9_13, R9_14, R9_15, R9_16, R9_17, R9_18, R9_19, R9_20, R9_21, R9_22, R9_23, R9_24, R9_25, R9_26, R9_27, R9_28, R9_29, R9_30, R9_31, R9_32, R9_33, Try.f9, undef, z, h, t, mk, lm, ndO, ndL_length, ndL_take, e, S, I, mn, hn, en]
    · have S := c_specFU k true l (by omega) hg
      rcases c_implFU k true l (by omega) hg (us_12 hg) with ⟨I, hu⟩ | ⟨A, hu, I, hT, hA⟩
      · have hf : fuL l = [] := by rw [← fu_same l, hu]; rfl
        rw [hf] at S
        simp [intsO] at S
        simp [R9_0, R9_1, R9_2, R9_3, R9_4, R9_5, R9_6, R9_7, R9_8, R9_9, R9_10, R9_11, R9_12, R9_13, R9_14, R9_15, R9_16, R9_17, R9_18, R9_19, R9_20, R9_21, R9_22, R9_23, R9_24, R9_25, R9_26, R9_27, R9_28, R9_29, R9_30, R9_31, R9_32, R9_33, Try.f9, undef, z, h, t, mk, lm, ndO, ndL_length, ndL_take, e, S, I, mn, hn, en]
      · rw [fu_same l] at I hT
        have h12 := us_12 hg
        obtain ⟨D, hD⟩ : ∃ D, fuL l = D := ⟨_, rfl⟩
        rw [hD] at S I hT
        have hle : D.length ≤ A.length := by rw [← hT, List.length_take]; omega
        have mi := c_markIntP k A D.length 1 hle (by omega) (by omega) (by omega) (by omega)
        have eq := c_eqIntS k true true D D (by omega) (by omega)
        have hh := c_heldIntS k true (marks 1 D.length) 1 (by rw [marks_length]; omega) (by omega) (by omega) (by rw [marks_length]; omega)
        rw [if_pos (by rw [marks_length])] at hh
        rw [marks_length] at hh
        have ht2 : (fillP 1 A D.length).take D.length = marks 1 D.length := by
          unfold fillP
          rw [List.take_append_of_le_length (by rw [marks_length]; exact Nat.le_refl _), List.take_of_length_le (by rw [marks_length]; exact Nat.le_refl _)]
        have lD : ¬ (1 + (D.length : Int)) < 0 := by omega
        have hfl : D.length ≤ (fillP 1 A D.length).length := by unfold fillP; rw [List.length_append, marks_length]; omega
        have htD : D.take D.length = D := List.take_length
        simp [intsO] at S I mi
        simp [R9_0, R9_1, R9_2, R9_3, R9_4, R9_5, R9_6, R9_7, R9_8, R9_9, R9_10, R9_11, R9_12, R9_13, R9_14, R9_15, R9_16, R9_17, R9_18, R9_19, R9_20, R9_21, R9_22, R9_23, R9_24, R9_25, R9_26, R9_27, R9_28, R9_29, R9_30, R9_31, R9_32, R9_33, Try.f9, undef, z, h, t, mk, lm, ndO, ndL_length, ndL_take, e, S, I, mi, eq, hh, hT, ht2, lD, hle, hfl, htD]
theorem row_FieldsUsed (l : List (Int × Int)) (w : l.length ≤ maxLen) : ∃ k, callK C k 9 [.sq false true 2 (ndL l)] [] = some (.c (.bool true), hpOf [] []) :=
  ⟨l.length + 3000, law_FieldsUsed _ false l (by unfold maxLen at w; omega) (by omega)⟩

end Go.Proofs.Ytfdlllhcjfhknaa.Eng
