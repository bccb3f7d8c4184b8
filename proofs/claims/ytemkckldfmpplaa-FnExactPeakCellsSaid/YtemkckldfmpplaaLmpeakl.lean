/- A deterministic reading of Go code over plain data: what functions of the program compute. No conditions. -/
import Derived.Test.YtemkckldfmpplaaLmbase
import Derived.Test.YtemkckldfmpplaaLmimpl
import Derived.Test.YtemkckldfmpplaaLmgood
import Derived.Test.YtemkckldfmpplaaLmnbh
import Derived.Test.YtemkckldfmpplaaLmrepeat
import Derived.Test.YtemkckldfmpplaaLmfieldby
import Derived.Test.YtemkckldfmpplaaLmminmax
import Derived.Test.YtemkckldfmpplaaLml6values
import Derived.Test.YtemkckldfmpplaaLml6main
import Derived.Test.YtemkckldfmpplaaLmpeakp
import Derived.Test.YtemkckldfmpplaaLmneigh
import Derived.Test.YtemkckldfmpplaaLmfield
import Derived.Test.YtemkckldfmpplaaLmnested
import Derived.Test.YtemkckldfmpplaaLmpeaki
import Derived.Test.YtemkckldfmpplaaLmpeakm
import Derived.Test.YtemkckldfmpplaaLmpeako
import Derived.Test.YtemkckldfmpplaaLmpeakq
import Derived.Test.YtemkckldfmpplaaLmpeakr
import Derived.Test.YtemkckldfmpplaaLmpeaks
import Derived.Test.YtemkckldfmpplaaLmpeakt
import Derived.Test.YtemkckldfmpplaaEngT
namespace Go.Proofs.Ytemkckldfmpplaa.Eng
open Go Go.Proofs
set_option maxRecDepth 100000
set_option maxHeartbeats 2000000
set_option linter.unusedSimpArgs false
set_option linter.unusedVariables false
attribute [local simp] finK fin1 hpOf xi renQ isRoot runCode runOps stepX inlOf Eng.step wantedV astep val ofO made loadV storeV find V.cells bin binT binA numT numFs eqCells un1 setAt fieldAddrV fieldV indexAddrV indexV bounds sliceV convV lenV foldV max2V min2V callO bor rdsO wrsO seen_none okD_none loops keepIds resV resultsV St.ev TK.agg refs refsL refsO V.one V.isC Value.oneCell' ren renL renO noTag noTagL noTagR noTagO nodup mapO passV frs psi refsR newD loopNext opsAt idx flatAt rootOf backR newsV appendV copyV clearV strV bytesV bldV bufV selfV bytesOf nilCmp buildV fillF chunk
attribute [local simp] cT cF cX cWR cOW cK cBL X ints_length ints_get ints_getElem ints_drop ints_take ints_append ints_nil ints_set
attribute [local simp] ints_replicate
attribute [local simp] putV_some putV_none putH_app applyD_nil applyD_cons seen_app gc_ρ gc_H gc_tick st0_ρ st0_H st0_tick retV callRo callV_if borL_nil borL_cons ints_snoc take_self callWr cutH_app findQ afterV exportV_0 exportV_n okD_nil okD_cons sub_seq0 sub_seq1 sub_cond0 sub_cond1 sub_block sub_loop sub_nil young_far young_none hidW_nil mayW_nil pairs okI ok_0 ok_1 ok_2
attribute [local simp] T3 T4 T22 T24 T26 T29 T44
attribute [local simp] young_near clo cloF Region.binds Nat.testBit hidW declW mayW List.findIdx?_cons
noncomputable def pcJ : Code := (.seq (.seq (.region 25 R3_25 false) (.cond (.tmp 92) (.seq (.region 26 R3_26 false) .ret) .skip)) (.seq (.region 27 R3_27 false) (.seq (.region 28 R3_28 false) (.seq (.seq (.region 29 R3_29 false) (.cond (.tmp 97) (.seq (.region 30 R3_30 false) .ret) .skip)) (.seq (.seq (.region 31 R3_31 false) (.cond (.tmp 100) (.seq (.region 32 R3_32 false) .ret) .skip)) (.seq (.region 33 R3_33 false) .ret))))))
noncomputable def pcI : Code := (.seq (.region 24 R3_24 false) (.seq (.seq (.region 25 R3_25 false) (.cond (.tmp 92) (.seq (.region 26 R3_26 false) .ret) .skip)) (.seq (.region 27 R3_27 false) (.seq (.region 28 R3_28 false) (.seq (.seq (.region 29 R3_29 false) (.cond (.tmp 97) (.seq (.region 30 R3_30 false) .ret) .skip)) (.seq (.seq (.region 31 R3_31 false) (.cond (.tmp 100) (.seq (.region 32 R3_32 false) .ret) .skip)) (.seq (.region 33 R3_33 false) .ret)))))))
noncomputable def pcH : Code := (.seq (.region 18 R3_18 false) (.seq (.region 19 R3_19 false) (.seq (.seq (.region 20 R3_20 false) (.cond (.tmp 73) (.seq (.region 21 R3_21 false) .ret) .skip)) (.seq (.seq (.region 22 R3_22 false) (.cond (.tmp 76) (.seq (.region 23 R3_23 false) .ret) .skip)) (.seq (.region 24 R3_24 false) (.seq (.seq (.region 25 R3_25 false) (.cond (.tmp 92) (.seq (.region 26 R3_26 false) .ret) .skip)) (.seq (.region 27 R3_27 false) (.seq (.region 28 R3_28 false) (.seq (.seq (.region 29 R3_29 false) (.cond (.tmp 97) (.seq (.region 30 R3_30 false) .ret) .skip)) (.seq (.seq (.region 31 R3_31 false) (.cond (.tmp 100) (.seq (.region 32 R3_32 false) .ret) .skip)) (.seq (.region 33 R3_33 false) .ret)))))))))))
noncomputable def pcG : Code := (.seq (.region 17 R3_17 false) (.seq (.region 18 R3_18 false) (.seq (.region 19 R3_19 false) (.seq (.seq (.region 20 R3_20 false) (.cond (.tmp 73) (.seq (.region 21 R3_21 false) .ret) .skip)) (.seq (.seq (.region 22 R3_22 false) (.cond (.tmp 76) (.seq (.region 23 R3_23 false) .ret) .skip)) (.seq (.region 24 R3_24 false) (.seq (.seq (.region 25 R3_25 false) (.cond (.tmp 92) (.seq (.region 26 R3_26 false) .ret) .skip)) (.seq (.region 27 R3_27 false) (.seq (.region 28 R3_28 false) (.seq (.seq (.region 29 R3_29 false) (.cond (.tmp 97) (.seq (.region 30 R3_30 false) .ret) .skip)) (.seq (.seq (.region 31 R3_31 false) (.cond (.tmp 100) (.seq (.region 32 R3_32 false) .ret) .skip)) (.seq (.region 33 R3_33 false) .ret))))))))))))
noncomputable def pcF : Code := (.seq (.seq (.region 14 R3_14 false) (.cond (.tmp 65) (.seq (.region 15 R3_15 false) .ret) .skip)) (.seq (.region 16 R3_16 false) (.seq (.region 17 R3_17 false) (.seq (.region 18 R3_18 false) (.seq (.region 19 R3_19 false) (.seq (.seq (.region 20 R3_20 false) (.cond (.tmp 73) (.seq (.region 21 R3_21 false) .ret) .skip)) (.seq (.seq (.region 22 R3_22 false) (.cond (.tmp 76) (.seq (.region 23 R3_23 false) .ret) .skip)) (.seq (.region 24 R3_24 false) (.seq (.seq (.region 25 R3_25 false) (.cond (.tmp 92) (.seq (.region 26 R3_26 false) .ret) .skip)) (.seq (.region 27 R3_27 false) (.seq (.region 28 R3_28 false) (.seq (.seq (.region 29 R3_29 false) (.cond (.tmp 97) (.seq (.region 30 R3_30 false) .ret) .skip)) (.seq (.seq (.region 31 R3_31 false) (.cond (.tmp 100) (.seq (.region 32 R3_32 false) .ret) .skip)) (.seq (.region 33 R3_33 false) .ret))))))))))))))
noncomputable def pcE : Code := (.seq (.seq (.region 10 R3_10 true) (.cond (.tmp 49) (.seq (.region 11 R3_11 false) .ret) .skip)) (.seq (.region 12 R3_12 false) (.seq (.region 13 R3_13 false) (.seq (.seq (.region 14 R3_14 false) (.cond (.tmp 65) (.seq (.region 15 R3_15 false) .ret) .skip)) (.seq (.region 16 R3_16 false) (.seq (.region 17 R3_17 false) (.seq (.region 18 R3_18 false) (.seq (.region 19 R3_19 false) (.seq (.seq (.region 20 R3_20 false) (.cond (.tmp 73) (.seq (.region 21 R3_21 false) .ret) .skip)) (.seq (.seq (.region 22 R3_22 false) (.cond (.tmp 76) (.seq (.region 23 R3_23 false) .ret) .skip)) (.seq (.region 24 R3_24 false) (.seq (.seq (.region 25 R3_25 false) (.cond (.tmp 92) (.seq (.region 26 R3_26 false) .ret) .skip)) (.seq (.region 27 R3_27 false) (.seq (.region 28 R3_28 false) (.seq (.seq (.region 29 R3_29 false) (.cond (.tmp 97) (.seq (.region 30 R3_30 false) .ret) .skip)) (.seq (.seq (.region 31 R3_31 false) (.cond (.tmp 100) (.seq (.region 32 R3_32 false) .ret) .skip)) (.seq (.region 33 R3_33 false) .ret)))))))))))))))))
noncomputable def pcD : Code := (.seq (.seq (.region 8 R3_8 false) (.cond (.tmp 44) (.seq (.region 9 R3_9 false) .ret) .skip)) (.seq (.seq (.region 10 R3_10 true) (.cond (.tmp 49) (.seq (.region 11 R3_11 false) .ret) .skip)) (.seq (.region 12 R3_12 false) (.seq (.region 13 R3_13 false) (.seq (.seq (.region 14 R3_14 false) (.cond (.tmp 65) (.seq (.region 15 R3_15 false) .ret) .skip)) (.seq (.region 16 R3_16 false) (.seq (.region 17 R3_17 false) (.seq (.region 18 R3_18 false) (.seq (.region 19 R3_19 false) (.seq (.seq (.region 20 R3_20 false) (.cond (.tmp 73) (.seq (.region 21 R3_21 false) .ret) .skip)) (.seq (.seq (.region 22 R3_22 false) (.cond (.tmp 76) (.seq (.region 23 R3_23 false) .ret) .skip)) (.seq (.region 24 R3_24 false) (.seq (.seq (.region 25 R3_25 false) (.cond (.tmp 92) (.seq (.region 26 R3_26 false) .ret) .skip)) (.seq (.region 27 R3_27 false) (.seq (.region 28 R3_28 false) (.seq (.seq (.region 29 R3_29 false) (.cond (.tmp 97) (.seq (.region 30 R3_30 false) .ret) .skip)) (.seq (.seq (.region 31 R3_31 false) (.cond (.tmp 100) (.seq (.region 32 R3_32 false) .ret) .skip)) (.seq (.region 33 R3_33 false) .ret))))))))))))))))))
noncomputable def pcC : Code := (.seq (.region 7 R3_7 false) (.seq (.seq (.region 8 R3_8 false) (.cond (.tmp 44) (.seq (.region 9 R3_9 false) .ret) .skip)) (.seq (.seq (.region 10 R3_10 true) (.cond (.tmp 49) (.seq (.region 11 R3_11 false) .ret) .skip)) (.seq (.region 12 R3_12 false) (.seq (.region 13 R3_13 false) (.seq (.seq (.region 14 R3_14 false) (.cond (.tmp 65) (.seq (.region 15 R3_15 false) .ret) .skip)) (.seq (.region 16 R3_16 false) (.seq (.region 17 R3_17 false) (.seq (.region 18 R3_18 false) (.seq (.region 19 R3_19 false) (.seq (.seq (.region 20 R3_20 false) (.cond (.tmp 73) (.seq (.region 21 R3_21 false) .ret) .skip)) (.seq (.seq (.region 22 R3_22 false) (.cond (.tmp 76) (.seq (.region 23 R3_23 false) .ret) .skip)) (.seq (.region 24 R3_24 false) (.seq (.seq (.region 25 R3_25 false) (.cond (.tmp 92) (.seq (.region 26 R3_26 false) .ret) .skip)) (.seq (.region 27 R3_27 false) (.seq (.region 28 R3_28 false) (.seq (.seq (.region 29 R3_29 false) (.cond (.tmp 97) (.seq (.region 30 R3_30 false) .ret) .skip)) (.seq (.seq (.region 31 R3_31 false) (.cond (.tmp 100) (.seq (.region 32 R3_32 false) .ret) .skip)) (.seq (.region 33 R3_33 false) .ret)))))))))))))))))))
noncomputable def pcB : Code := (.seq (.region 6 R3_6 false) (.seq (.region 7 R3_7 false) (.seq (.seq (.region 8 R3_8 false) (.cond (.tmp 44) (.seq (.region 9 R3_9 false) .ret) .skip)) (.seq (.seq (.region 10 R3_10 true) (.cond (.tmp 49) (.seq (.region 11 R3_11 false) .ret) .skip)) (.seq (.region 12 R3_12 false) (.seq (.region 13 R3_13 false) (.seq (.seq (.region 14 R3_14 false) (.cond (.tmp 65) (.seq (.region 15 R3_15 false) .ret) .skip)) (.seq (.region 16 R3_16 false) (.seq (.region 17 R3_17 false) (.seq (.region 18 R3_18 false) (.seq (.region 19 R3_19 false) (.seq (.seq (.region 20 R3_20 false) (.cond (.tmp 73) (.seq (.region 21 R3_21 false) .ret) .skip)) (.seq (.seq (.region 22 R3_22 false) (.cond (.tmp 76) (.seq (.region 23 R3_23 false) .ret) .skip)) (.seq (.region 24 R3_24 false) (.seq (.seq (.region 25 R3_25 false) (.cond (.tmp 92) (.seq (.region 26 R3_26 false) .ret) .skip)) (.seq (.region 27 R3_27 false) (.seq (.region 28 R3_28 false) (.seq (.seq (.region 29 R3_29 false) (.cond (.tmp 97) (.seq (.region 30 R3_30 false) .ret) .skip)) (.seq (.seq (.region 31 R3_31 false) (.cond (.tmp 100) (.seq (.region 32 R3_32 false) .ret) .skip)) (.seq (.region 33 R3_33 false) .ret))))))))))))))))))))
noncomputable def pcA : Code := (.seq (.region 5 R3_5 false) (.seq (.region 6 R3_6 false) (.seq (.region 7 R3_7 false) (.seq (.seq (.region 8 R3_8 false) (.cond (.tmp 44) (.seq (.region 9 R3_9 false) .ret) .skip)) (.seq (.seq (.region 10 R3_10 true) (.cond (.tmp 49) (.seq (.region 11 R3_11 false) .ret) .skip)) (.seq (.region 12 R3_12 false) (.seq (.region 13 R3_13 false) (.seq (.seq (.region 14 R3_14 false) (.cond (.tmp 65) (.seq (.region 15 R3_15 false) .ret) .skip)) (.seq (.region 16 R3_16 false) (.seq (.region 17 R3_17 false) (.seq (.region 18 R3_18 false) (.seq (.region 19 R3_19 false) (.seq (.seq (.region 20 R3_20 false) (.cond (.tmp 73) (.seq (.region 21 R3_21 false) .ret) .skip)) (.seq (.seq (.region 22 R3_22 false) (.cond (.tmp 76) (.seq (.region 23 R3_23 false) .ret) .skip)) (.seq (.region 24 R3_24 false) (.seq (.seq (.region 25 R3_25 false) (.cond (.tmp 92) (.seq (.region 26 R3_26 false) .ret) .skip)) (.seq (.region 27 R3_27 false) (.seq (.region 28 R3_28 false) (.seq (.seq (.region 29 R3_29 false) (.cond (.tmp 97) (.seq (.region 30 R3_30 false) .ret) .skip)) (.seq (.seq (.region 31 R3_31 false) (.cond (.tmp 100) (.seq (.region 32 R3_32 false) .ret) .skip)) (.seq (.region 33 R3_33 false) .ret)))))))))))))))))))))
theorem pcJ_is : (.seq (.seq (.region 25 R3_25 false) (.cond (.tmp 92) (.seq (.region 26 R3_26 false) .ret) .skip)) (.seq (.region 27 R3_27 false) (.seq (.region 28 R3_28 false) (.seq (.seq (.region 29 R3_29 false) (.cond (.tmp 97) (.seq (.region 30 R3_30 false) .ret) .skip)) (.seq (.seq (.region 31 R3_31 false) (.cond (.tmp 100) (.seq (.region 32 R3_32 false) .ret) .skip)) (.seq (.region 33 R3_33 false) .ret)))))) = pcJ := rfl
theorem pcI_is : (.seq (.region 24 R3_24 false) (.seq (.seq (.region 25 R3_25 false) (.cond (.tmp 92) (.seq (.region 26 R3_26 false) .ret) .skip)) (.seq (.region 27 R3_27 false) (.seq (.region 28 R3_28 false) (.seq (.seq (.region 29 R3_29 false) (.cond (.tmp 97) (.seq (.region 30 R3_30 false) .ret) .skip)) (.seq (.seq (.region 31 R3_31 false) (.cond (.tmp 100) (.seq (.region 32 R3_32 false) .ret) .skip)) (.seq (.region 33 R3_33 false) .ret))))))) = pcI := rfl
theorem pcH_is : (.seq (.region 18 R3_18 false) (.seq (.region 19 R3_19 false) (.seq (.seq (.region 20 R3_20 false) (.cond (.tmp 73) (.seq (.region 21 R3_21 false) .ret) .skip)) (.seq (.seq (.region 22 R3_22 false) (.cond (.tmp 76) (.seq (.region 23 R3_23 false) .ret) .skip)) (.seq (.region 24 R3_24 false) (.seq (.seq (.region 25 R3_25 false) (.cond (.tmp 92) (.seq (.region 26 R3_26 false) .ret) .skip)) (.seq (.region 27 R3_27 false) (.seq (.region 28 R3_28 false) (.seq (.seq (.region 29 R3_29 false) (.cond (.tmp 97) (.seq (.region 30 R3_30 false) .ret) .skip)) (.seq (.seq (.region 31 R3_31 false) (.cond (.tmp 100) (.seq (.region 32 R3_32 false) .ret) .skip)) (.seq (.region 33 R3_33 false) .ret))))))))))) = pcH := rfl
theorem pcG_is : (.seq (.region 17 R3_17 false) (.seq (.region 18 R3_18 false) (.seq (.region 19 R3_19 false) (.seq (.seq (.region 20 R3_20 false) (.cond (.tmp 73) (.seq (.region 21 R3_21 false) .ret) .skip)) (.seq (.seq (.region 22 R3_22 false) (.cond (.tmp 76) (.seq (.region 23 R3_23 false) .ret) .skip)) (.seq (.region 24 R3_24 false) (.seq (.seq (.region 25 R3_25 false) (.cond (.tmp 92) (.seq (.region 26 R3_26 false) .ret) .skip)) (.seq (.region 27 R3_27 false) (.seq (.region 28 R3_28 false) (.seq (.seq (.region 29 R3_29 false) (.cond (.tmp 97) (.seq (.region 30 R3_30 false) .ret) .skip)) (.seq (.seq (.region 31 R3_31 false) (.cond (.tmp 100) (.seq (.region 32 R3_32 false) .ret) .skip)) (.seq (.region 33 R3_33 false) .ret)))))))))))) = pcG := rfl
theorem pcF_is : (.seq (.seq (.region 14 R3_14 false) (.cond (.tmp 65) (.seq (.region 15 R3_15 false) .ret) .skip)) (.seq (.region 16 R3_16 false) (.seq (.region 17 R3_17 false) (.seq (.region 18 R3_18 false) (.seq (.region 19 R3_19 false) (.seq (.seq (.region 20 R3_20 false) (.cond (.tmp 73) (.seq (.region 21 R3_21 false) .ret) .skip)) (.seq (.seq (.region 22 R3_22 false) (.cond (.tmp 76) (.seq (.region 23 R3_23 false) .ret) .skip)) (.seq (.region 24 R3_24 false) (.seq (.seq (.region 25 R3_25 false) (.cond (.tmp 92) (.seq (.region 26 R3_26 false) .ret) .skip)) (.seq (.region 27 R3_27 false) (.seq (.region 28 R3_28 false) (.seq (.seq (.region 29 R3_29 false) (.cond (.tmp 97) (.seq (.region 30 R3_30 false) .ret) .skip)) (.seq (.seq (.region 31 R3_31 false) (.cond (.tmp 100) (.seq (.region 32 R3_32 false) .ret) .skip)) (.seq (.region 33 R3_33 false) .ret)))))))))))))) = pcF := rfl
theorem pcE_is : (.seq (.seq (.region 10 R3_10 true) (.cond (.tmp 49) (.seq (.region 11 R3_11 false) .ret) .skip)) (.seq (.region 12 R3_12 false) (.seq (.region 13 R3_13 false) (.seq (.seq (.region 14 R3_14 false) (.cond (.tmp 65) (.seq (.region 15 R3_15 false) .ret) .skip)) (.seq (.region 16 R3_16 false) (.seq (.region 17 R3_17 false) (.seq (.region 18 R3_18 false) (.seq (.region 19 R3_19 false) (.seq (.seq (.region 20 R3_20 false) (.cond (.tmp 73) (.seq (.region 21 R3_21 false) .ret) .skip)) (.seq (.seq (.region 22 R3_22 false) (.cond (.tmp 76) (.seq (.region 23 R3_23 false) .ret) .skip)) (.seq (.region 24 R3_24 false) (.seq (.seq (.region 25 R3_25 false) (.cond (.tmp 92) (.seq (.region 26 R3_26 false) .ret) .skip)) (.seq (.region 27 R3_27 false) (.seq (.region 28 R3_28 false) (.seq (.seq (.region 29 R3_29 false) (.cond (.tmp 97) (.seq (.region 30 R3_30 false) .ret) .skip)) (.seq (.seq (.region 31 R3_31 false) (.cond (.tmp 100) (.seq (.region 32 R3_32 false) .ret) .skip)) (.seq (.region 33 R3_33 false) .ret))))))))))))))))) = pcE := rfl
theorem pcD_is : (.seq (.seq (.region 8 R3_8 false) (.cond (.tmp 44) (.seq (.region 9 R3_9 false) .ret) .skip)) (.seq (.seq (.region 10 R3_10 true) (.cond (.tmp 49) (.seq (.region 11 R3_11 false) .ret) .skip)) (.seq (.region 12 R3_12 false) (.seq (.region 13 R3_13 false) (.seq (.seq (.region 14 R3_14 false) (.cond (.tmp 65) (.seq (.region 15 R3_15 false) .ret) .skip)) (.seq (.region 16 R3_16 false) (.seq (.region 17 R3_17 false) (.seq (.region 18 R3_18 false) (.seq (.region 19 R3_19 false) (.seq (.seq (.region 20 R3_20 false) (.cond (.tmp 73) (.seq (.region 21 R3_21 false) .ret) .skip)) (.seq (.seq (.region 22 R3_22 false) (.cond (.tmp 76) (.seq (.region 23 R3_23 false) .ret) .skip)) (.seq (.region 24 R3_24 false) (.seq (.seq (.region 25 R3_25 false) (.cond (.tmp 92) (.seq (.region 26 R3_26 false) .ret) .skip)) (.seq (.region 27 R3_27 false) (.seq (.region 28 R3_28 false) (.seq (.seq (.region 29 R3_29 false) (.cond (.tmp 97) (.seq (.region 30 R3_30 false) .ret) .skip)) (.seq (.seq (.region 31 R3_31 false) (.cond (.tmp 100) (.seq (.region 32 R3_32 false) .ret) .skip)) (.seq (.region 33 R3_33 false) .ret)))))))))))))))))) = pcD := rfl
theorem pcC_is : (.seq (.region 7 R3_7 false) (.seq (.seq (.region 8 R3_8 false) (.cond (.tmp 44) (.seq (.region 9 R3_9 false) .ret) .skip)) (.seq (.seq (.region 10 R3_10 true) (.cond (.tmp 49) (.seq (.region 11 R3_11 false) .ret) .skip)) (.seq (.region 12 R3_12 false) (.seq (.region 13 R3_13 false) (.seq (.seq (.region 14 R3_14 false) (.cond (.tmp 65) (.seq (.region 15 R3_15 false) .ret) .skip)) (.seq (.region 16 R3_16 false) (.seq (.region 17 R3_17 false) (.seq (.region 18 R3_18 false) (.seq (.region 19 R3_19 false) (.seq (.seq (.region 20 R3_20 false) (.cond (.tmp 73) (.seq (.region 21 R3_21 false) .ret) .skip)) (.seq (.seq (.region 22 R3_22 false) (.cond (.tmp 76) (.seq (.region 23 R3_23 false) .ret) .skip)) (.seq (.region 24 R3_24 false) (.seq (.seq (.region 25 R3_25 false) (.cond (.tmp 92) (.seq (.region 26 R3_26 false) .ret) .skip)) (.seq (.region 27 R3_27 false) (.seq (.region 28 R3_28 false) (.seq (.seq (.region 29 R3_29 false) (.cond (.tmp 97) (.seq (.region 30 R3_30 false) .ret) .skip)) (.seq (.seq (.region 31 R3_31 false) (.cond (.tmp 100) (.seq (.region 32 R3_32 false) .ret) .skip)) (.seq (.region 33 R3_33 false) .ret))))))))))))))))))) = pcC := rfl
theorem pcB_is : (.seq (.region 6 R3_6 false) (.seq (.region 7 R3_7 false) (.seq (.seq (.region 8 R3_8 false) (.cond (.tmp 44) (.seq (.region 9 R3_9 false) .ret) .skip)) (.seq (.seq (.region 10 R3_10 true) (.cond (.tmp 49) (.seq (.region 11 R3_11 false) .ret) .skip)) (.seq (.region 12 R3_12 false) (.seq (.region 13 R3_13 false) (.seq (.seq (.region 14 R3_14 false) (.cond (.tmp 65) (.seq (.region 15 R3_15 false) .ret) .skip)) (.seq (.region 16 R3_16 false) (.seq (.region 17 R3_17 false) (.seq (.region 18 R3_18 false) (.seq (.region 19 R3_19 false) (.seq (.seq (.region 20 R3_20 false) (.cond (.tmp 73) (.seq (.region 21 R3_21 false) .ret) .skip)) (.seq (.seq (.region 22 R3_22 false) (.cond (.tmp 76) (.seq (.region 23 R3_23 false) .ret) .skip)) (.seq (.region 24 R3_24 false) (.seq (.seq (.region 25 R3_25 false) (.cond (.tmp 92) (.seq (.region 26 R3_26 false) .ret) .skip)) (.seq (.region 27 R3_27 false) (.seq (.region 28 R3_28 false) (.seq (.seq (.region 29 R3_29 false) (.cond (.tmp 97) (.seq (.region 30 R3_30 false) .ret) .skip)) (.seq (.seq (.region 31 R3_31 false) (.cond (.tmp 100) (.seq (.region 32 R3_32 false) .ret) .skip)) (.seq (.region 33 R3_33 false) .ret)))))))))))))))))))) = pcB := rfl
theorem pcA_is : (.seq (.region 5 R3_5 false) (.seq (.region 6 R3_6 false) (.seq (.region 7 R3_7 false) (.seq (.seq (.region 8 R3_8 false) (.cond (.tmp 44) (.seq (.region 9 R3_9 false) .ret) .skip)) (.seq (.seq (.region 10 R3_10 true) (.cond (.tmp 49) (.seq (.region 11 R3_11 false) .ret) .skip)) (.seq (.region 12 R3_12 false) (.seq (.region 13 R3_13 false) (.seq (.seq (.region 14 R3_14 false) (.cond (.tmp 65) (.seq (.region 15 R3_15 false) .ret) .skip)) (.seq (.region 16 R3_16 false) (.seq (.region 17 R3_17 false) (.seq (.region 18 R3_18 false) (.seq (.region 19 R3_19 false) (.seq (.seq (.region 20 R3_20 false) (.cond (.tmp 73) (.seq (.region 21 R3_21 false) .ret) .skip)) (.seq (.seq (.region 22 R3_22 false) (.cond (.tmp 76) (.seq (.region 23 R3_23 false) .ret) .skip)) (.seq (.region 24 R3_24 false) (.seq (.seq (.region 25 R3_25 false) (.cond (.tmp 92) (.seq (.region 26 R3_26 false) .ret) .skip)) (.seq (.region 27 R3_27 false) (.seq (.region 28 R3_28 false) (.seq (.seq (.region 29 R3_29 false) (.cond (.tmp 97) (.seq (.region 30 R3_30 false) .ret) .skip)) (.seq (.seq (.region 31 R3_31 false) (.cond (.tmp 100) (.seq (.region 32 R3_32 false) .ret) .skip)) (.seq (.region 33 R3_33 false) .ret))))))))))))))))))))) = pcA := rfl
theorem bor_c (H : Hp) (n : Nat) (v : Value) : Eng.bor H (n + 1) (.c v) = some (.c v) := by simp [Eng.bor]
/-- The law answers true. -/
def Yes (k : Nat) (c : Code) (st : St) : Prop := ∃ s, runCode C (callK C k) k (K 3) c 0 st = some (.ret, s) ∧ s.ρ 4 = .c (.bool true)
theorem pcJ_ok (k : Nat) (L : List (List Int)) (hL : L.length ≤ 64) (hs : ∀ l ∈ L, l.length ≤ 10) (t : Bool) (hk : 3000 ≤ k) (st : St) (x0 x1 x2 : V) (q7 : st.ρ 7 = .c (.bool t)) (q15 : st.ρ 15 = .c (.bool t)) (q12 : st.ρ 12 = .c (.int .i64 (1 + (sumS L : Int))))
    (b0 : Eng.bor st.H 4 (st.ρ 6) = some x0) (b1 : Eng.bor st.H 4 (st.ρ 9) = some x1) (b2 : Eng.bor st.H 4 (st.ρ 14) = some x2) (i0 : isSS x0 L) (i1 : isSS x1 (mkSS 1 L)) (i2 : isSS x2 L) : Yes k pcJ st := by
  have E := eqSS k x2 x0 L i2 i0 (by omega) (fun l hl => by have := hs l hl; omega) hk
  have Hd := heldSS k x1 L i1 (by omega) (fun l hl => by have := hs l hl; omega) hk
  have hn : ¬ (1 + (sumS L : Int)) < 0 := by omega
  unfold Yes pcJ
  simp [-Eng.bor, R3_0, R3_1, R3_2, R3_3, R3_4, R3_5, R3_6, R3_7, R3_8, R3_9, R3_10, R3_11, R3_12, R3_13, R3_14, R3_15, R3_16, R3_17, R3_18, R3_19, R3_20, R3_21, R3_22, R3_23, R3_24, R3_25, R3_26, R3_27, R3_28, R3_29, R3_30, R3_31, R3_32, R3_33, Try.f3, q7, q15, q12, b0, b1, b2, E, Hd, hn, bor_c, undef]
structure LwI (b : Bool) (w h : Int) (l : List Int) (r : Int) (st : St) : Prop where
  q1 : st.ρ 1 = .c (.int .i64 r)
  q2 : st.ρ 2 = .p 16 1 3 0 0
  Ha : st.H 16 = some (1, ⟨24, 3, false, [[.c (.int .i64 w), .c (.int .i64 h), .sq b true 1 (ints l)]]⟩)
  ht : 1 ≤ st.tick
theorem pcI_ok (k : Nat) (b : Bool) (w h : Int) (l : List Int) (r : Int) (hl : l.length ≤ 1048576) (hk : l.length + 5000 ≤ k) (st : St) (I : LwI b w h l r st) (P0 P1 : List (Nat × Nat × List Int)) (B0 B1 : Nat) (q7 : st.ρ 7 = .c (.bool (okPk w h l r))) (q12 : st.ρ 12 = .c (.int .i64 (1 + (sumS (ptsZ w h l r) : Int))))
    (O0 : Ow st.H (st.ρ 6) P0 (Bt 1) B0) (O1 : Ow st.H (st.ρ 9) P1 (Bt 1) B1) (l0 : P0.map (·.2.2) = ptsZ w h l r) (l1 : P1.map (·.2.2) = mkSS 1 (ptsZ w h l r)) (h0 : B0 ≤ Bt st.tick) (h1 : B1 ≤ Bt st.tick) : Yes k pcI st := by
  obtain ⟨q1, q2, Ha, ht⟩ := I
  have T := c_toField k b w h l (by omega) (by omega)
  have M := fun idc vrc => implAny k w h l r idc vrc (by omega)
  obtain ⟨z1, z2⟩ := ptsZ_len w h l r
  simp [lfldV, intsO] at T
  unfold Yes pcI
  rw [pcJ_is]
  simp [R3_0, R3_1, R3_2, R3_3, R3_4, R3_5, R3_6, R3_7, R3_8, R3_9, R3_10, R3_11, R3_12, R3_13, R3_14, R3_15, R3_16, R3_17, R3_18, R3_19, R3_20, R3_21, R3_22, R3_23, R3_24, R3_25, R3_26, R3_27, R3_28, R3_29, R3_30, R3_31, R3_32, R3_33, Try.f3, q1, q2, Ha, T]
  generalize hr : (callK C k).inl 7 _ _ _ = res
  have hb := Bt_mono ht
  have hb1 : 100000 ≤ Bt 1 := by decide
  have hb2 : Bt st.tick ≤ Bt (st.tick + 1) := Bt_mono (by omega)
  obtain ⟨v, H', tk', rfl, P, Ov, lp, old, le⟩ := inl_at (M 24608 st.tick) hr ⟨by omega, by omega, by simp [putH_app, intsO]⟩
  have O0' : Ow H' (st.ρ 6) P0 (Bt 1) B0 := O0.keep fun id a b => by
    rw [old id (by omega), putH_app, if_neg (by omega)]
  have O1' : Ow H' (st.ρ 9) P1 (Bt 1) B1 := O1.keep fun id a b => by
    rw [old id (by omega), putH_app, if_neg (by omega)]
  obtain ⟨x0, e0, i0⟩ := O0'.bor
  obtain ⟨x1, e1, i1⟩ := O1'.bor
  obtain ⟨x2, e2, i2⟩ := Ov.bor
  rw [l0] at i0
  rw [l1] at i1
  rw [lp] at i2
  simp
  exact pcJ_ok k (ptsZ w h l r) z1 z2 (okPk w h l r) (by omega) _ x0 x1 x2 (by simp [q7]) (by simp) (by simp [q12]) (by simpa using e0) (by simpa using e1) (by simpa using e2) i0 i1 i2
theorem Ow.low {H : Hp} {v : V} {P : List (Nat × Nat × List Int)} {lo lo' hi : Nat} (h : Ow H v P lo hi) (hl : lo' ≤ lo) : Ow H v P lo' hi :=
  ⟨h.N, fun p hp => Nat.le_trans hl (h.nw p hp), fun id vr n e => Nat.le_trans hl (h.no id vr n e)⟩
theorem pcH_ok (k : Nat) (b : Bool) (w h : Int) (l : List Int) (r : Int) (hl : l.length ≤ 1048576) (hk : l.length + 5000 ≤ k) (st : St) (I : LwI b w h l r st) (P0 P1 : List (Nat × Nat × List Int)) (B0 B1 : Nat) (q7 : st.ρ 7 = .c (.bool (okPk w h l r))) (q12 : st.ρ 12 = .c (.int .i64 (1 + (sumS (ptsZ w h l r) : Int))))
    (O0 : Ow st.H (st.ρ 6) P0 (Bt 1) B0) (O1 : Ow st.H (st.ρ 9) P1 (Bt 1) B1) (l0 : P0.map (·.2.2) = ptsZ w h l r) (l1 : P1.map (·.2.2) = mkSS 1 (ptsZ w h l r)) (h0 : B0 ≤ Bt st.tick) (h1 : B1 ≤ Bt st.tick) : Yes k pcH st := by
  obtain ⟨x1, e1, i1⟩ := O1.bor
  rw [l1] at i1
  obtain ⟨z1, z2⟩ := ptsZ_len w h l r
  have Hd := heldSS k x1 (ptsZ w h l r) i1 (by omega) (fun l hl => by have := z2 l hl; omega) (by omega)
  have hn : ¬ (1 + (sumS (ptsZ w h l r) : Int)) < 0 := by omega
  obtain ⟨q1, q2, Ha, ht⟩ := I
  unfold Yes pcH
  rw [pcI_is]
  simp [-Eng.bor, R3_0, R3_1, R3_2, R3_3, R3_4, R3_5, R3_6, R3_7, R3_8, R3_9, R3_10, R3_11, R3_12, R3_13, R3_14, R3_15, R3_16, R3_17, R3_18, R3_19, R3_20, R3_21, R3_22, R3_23, R3_24, R3_25, R3_26, R3_27, R3_28, R3_29, R3_30, R3_31, R3_32, R3_33, Try.f3, q12, e1, Hd, hn, bor_c]
  have hm : Bt st.tick ≤ Bt (st.tick + 1 + 1 + 1 + 1) := Bt_mono (by omega)
  exact pcI_ok k b w h l r hl hk _ ⟨by simp [q1], by simp [q2], by simp [Ha], by simp⟩ P0 P1 B0 B1 (by simp [q7]) (by simp [q12]) (by simpa using O0) (by simpa using O1) l0 l1 (by simp; omega) (by simp; omega)
theorem pcG_ok (k : Nat) (b : Bool) (w h : Int) (l : List Int) (r : Int) (hl : l.length ≤ 1048576) (hk : l.length + 5000 ≤ k) (st : St) (I : LwI b w h l r st) (P0 P1 : List (Nat × Nat × List Int)) (B0 B1 : Nat) (q7 : st.ρ 7 = .c (.bool (okPk w h l r))) (q12 : st.ρ 12 = .c (.int .i64 1))
    (O0 : Ow st.H (st.ρ 6) P0 (Bt 1) B0) (O1 : Ow st.H (st.ρ 9) P1 B0 B1) (l0 : P0.map (·.2.2) = ptsZ w h l r) (l1 : P1.map (·.2.2) = ptsZ w h l r) (h01 : Bt 1 ≤ B0) (h0 : B0 ≤ Bt st.tick) (h1 : B1 ≤ Bt st.tick) : Yes k pcG st := by
  obtain ⟨q1, q2, Ha, ht⟩ := I
  obtain ⟨z1, z2⟩ := ptsZ_len w h l r
  have hlen : P1.length ≤ 100 := by
    have := congrArg List.length l1
    rw [List.length_map] at this
    omega
  have hs : ∀ p ∈ P1, p.2.2.length ≤ 10 := fun p hp => z2 _ (by rw [← l1]; exact List.mem_map_of_mem hp)
  obtain ⟨k', rfl⟩ : ∃ m, k = m + 1 := ⟨k - 1, by omega⟩
  obtain ⟨H', tk', e, N', le, hE⟩ := i_mark k' P1 hlen hs (by omega) (st.ρ 9) B1 st.H (st.tick + 1) O1.N
  have hb1 : 100000 ≤ Bt 1 := by decide
  have hm : Bt st.tick ≤ Bt (tk' + 1) := Bt_mono (by omega)
  have hnot : ∀ id, id < B0 → id ∉ P1.map (·.1) := by
    intro id hid hm
    obtain ⟨p, hp, rfl⟩ := List.mem_map.1 hm
    have := O1.nw p hp
    omega
  unfold Yes pcG
  rw [pcH_is]
  simp [R3_0, R3_1, R3_2, R3_3, R3_4, R3_5, R3_6, R3_7, R3_8, R3_9, R3_10, R3_11, R3_12, R3_13, R3_14, R3_15, R3_16, R3_17, R3_18, R3_19, R3_20, R3_21, R3_22, R3_23, R3_24, R3_25, R3_26, R3_27, R3_28, R3_29, R3_30, R3_31, R3_32, R3_33, Try.f3, q12, e]
  refine pcH_ok (k' + 1) b w h l r hl hk _ ⟨by simp [q1], by simp [q2], ?_, by simp⟩ P0 (markP 1 P1) B0 B1 (by simp [q7]) ?_ ?_ ?_ l0 ?_ ?_ ?_
  · simp
    rw [hE 16 (hnot _ (by omega)), Ha]
  · simp [l1]
  · simpa using O0.keep fun id a b => hE id (hnot id b)
  · simp
    refine ⟨N', fun p hp => ?_, fun id vr n e => by have := O1.no id vr n e; omega⟩
    have : p.1 ∈ P1.map (·.1) := by rw [← markP_ids 1 P1]; exact List.mem_map_of_mem hp
    obtain ⟨q, hq, e⟩ := List.mem_map.1 this
    have := O1.nw q hq
    omega
  · rw [markP_lists, l1]
  · simp; omega
  · simp; omega
theorem pcF_ok (k : Nat) (b : Bool) (w h : Int) (l : List Int) (r : Int) (hl : l.length ≤ 1048576) (hk : l.length + 5000 ≤ k) (st : St) (I : LwI b w h l r st) (P0 P1 : List (Nat × Nat × List Int)) (B0 B1 : Nat) (q7 : st.ρ 7 = .c (.bool (okPk w h l r))) (q10 : st.ρ 10 = .c (.bool (okPk w h l r))) (q11 : st.ρ 11 = .c (.int .i64 (1 + (l.length : Int))))
    (O0 : Ow st.H (st.ρ 6) P0 (Bt 1) B0) (O1 : Ow st.H (st.ρ 9) P1 B0 B1) (l0 : P0.map (·.2.2) = ptsZ w h l r) (l1 : P1.map (·.2.2) = ptsZ w h l r) (h01 : Bt 1 ≤ B0) (h0 : B0 ≤ Bt st.tick) (h1 : B1 ≤ Bt st.tick) : Yes k pcF st := by
  obtain ⟨q1, q2, Ha, ht⟩ := I
  obtain ⟨z1, z2⟩ := ptsZ_len w h l r
  obtain ⟨x0, e0, i0⟩ := O0.bor
  obtain ⟨x1, e1, i1⟩ := O1.bor
  rw [l0] at i0
  rw [l1] at i1
  have E := eqSS k x1 x0 _ i1 i0 (by omega) (fun l hl => by have := z2 l hl; omega) (by omega)
  have hn : ¬ (1 + (l.length : Int)) < 0 := by omega
  have hm : Bt st.tick ≤ Bt (st.tick + 1 + 1) := Bt_mono (by omega)
  unfold Yes pcF
  rw [pcG_is]
  simp [-Eng.bor, R3_0, R3_1, R3_2, R3_3, R3_4, R3_5, R3_6, R3_7, R3_8, R3_9, R3_10, R3_11, R3_12, R3_13, R3_14, R3_15, R3_16, R3_17, R3_18, R3_19, R3_20, R3_21, R3_22, R3_23, R3_24, R3_25, R3_26, R3_27, R3_28, R3_29, R3_30, R3_31, R3_32, R3_33, Try.f3, q7, q10, q11, hn, e0, e1, E]
  exact pcG_ok k b w h l r hl hk _ ⟨by simp [q1], by simp [q2], by simp [Ha], by simp⟩ P0 P1 B0 B1 (by simp [q7]) (by simp) (by simpa using O0) (by simpa using O1) l0 l1 h01 (by simp; omega) (by simp; omega)
theorem pcE_ok (k : Nat) (b : Bool) (w h : Int) (l : List Int) (r : Int) (hl : l.length ≤ 1048576) (hk : l.length + 5000 ≤ k) (st : St) (I : LwI b w h l r st) (P0 P1 : List (Nat × Nat × List Int)) (B0 B1 : Nat) (q7 : st.ρ 7 = .c (.bool (okPk w h l r))) (q10 : st.ρ 10 = .c (.bool (okPk w h l r)))
    (vr : Nat) (q8 : st.ρ 8 = .p 6192 vr 3 0 0) (Hs : st.H 6192 = some (vr, ⟨29, 3, false, [[.c (.int .i64 w), .c (.int .i64 h), .s 6176 vr 1 0 l.length]]⟩)) (Hc : st.H 6176 = some (vr, intsO l)) (He : st.H 10288 = none)
    (O0 : Ow st.H (st.ρ 6) P0 (Bt 1) B0) (O1 : Ow st.H (st.ρ 9) P1 B0 B1) (l0 : P0.map (·.2.2) = ptsZ w h l r) (l1 : P1.map (·.2.2) = ptsZ w h l r) (h01 : Bt 1 ≤ B0) (h0 : B0 ≤ Bt st.tick) (h1 : B1 ≤ Bt st.tick) : Yes k pcE st := by
  obtain ⟨q1, q2, Ha, ht⟩ := I
  have T := c_toField k b w h l (by omega) (by omega)
  have E := c_eqField k true true w h w h l l (by omega) (by omega)
  have M := c_markField k w h l 1 (by omega) (by omega) (by omega) (by omega)
  simp [lfldV, fldV, intsO] at T E M Hc
  have hm : Bt st.tick ≤ Bt (st.tick + 1 + 1 + 1) := Bt_mono (by omega)
  have hb1 : 100000 ≤ Bt 1 := by decide
  unfold Yes pcE
  rw [pcF_is]
  simp [R3_0, R3_1, R3_2, R3_3, R3_4, R3_5, R3_6, R3_7, R3_8, R3_9, R3_10, R3_11, R3_12, R3_13, R3_14, R3_15, R3_16, R3_17, R3_18, R3_19, R3_20, R3_21, R3_22, R3_23, R3_24, R3_25, R3_26, R3_27, R3_28, R3_29, R3_30, R3_31, R3_32, R3_33, Try.f3, q2, q8, Hs, Hc, He, Ha, T, E, M]
  exact pcF_ok k b w h l r hl hk _ ⟨by simp [q1], by simp [q2], by simp [putH_app, Ha], by simp⟩ P0 P1 B0 B1 (by simp [q7]) (by simp [q10]) (by simp)
    (by simpa using O0.keep fun id a b => by rw [putH_app, if_neg (by omega), putH_app, if_neg (by omega)]) (by simpa using O1.keep fun id a b => by rw [putH_app, if_neg (by omega), putH_app, if_neg (by omega)]) l0 l1 h01 (by simp; omega) (by simp; omega)
theorem pcD_ok (k : Nat) (b : Bool) (w h : Int) (l : List Int) (r : Int) (hl : l.length ≤ 1048576) (hk : l.length + 5000 ≤ k) (st : St) (I : LwI b w h l r st) (P0 P1 : List (Nat × Nat × List Int)) (B0 B1 : Nat) (q7 : st.ρ 7 = .c (.bool (okPk w h l r))) (q10 : st.ρ 10 = .c (.bool (okPk w h l r)))
    (vr : Nat) (q8 : st.ρ 8 = .p 6192 vr 3 0 0) (Hs : st.H 6192 = some (vr, ⟨29, 3, false, [[.c (.int .i64 w), .c (.int .i64 h), .s 6176 vr 1 0 l.length]]⟩)) (Hc : st.H 6176 = some (vr, intsO l)) (He : st.H 10288 = none)
    (O0 : Ow st.H (st.ρ 6) P0 (Bt 1) B0) (O1 : Ow st.H (st.ρ 9) P1 B0 B1) (l0 : P0.map (·.2.2) = ptsZ w h l r) (l1 : P1.map (·.2.2) = ptsZ w h l r) (h01 : Bt 1 ≤ B0) (h0 : B0 ≤ Bt st.tick) (h1 : B1 ≤ Bt st.tick) : Yes k pcD st := by
  obtain ⟨q1, q2, Ha, ht⟩ := I
  obtain ⟨z1, z2⟩ := ptsZ_len w h l r
  obtain ⟨x0, e0, i0⟩ := O0.bor
  obtain ⟨x1, e1, i1⟩ := O1.bor
  rw [l0] at i0
  rw [l1] at i1
  have E := eqSS k x1 x0 _ i1 i0 (by omega) (fun l hl => by have := z2 l hl; omega) (by omega)
  have hm : Bt st.tick ≤ Bt (st.tick + 1) := Bt_mono (by omega)
  unfold Yes pcD
  rw [pcE_is]
  simp [-Eng.bor, R3_0, R3_1, R3_2, R3_3, R3_4, R3_5, R3_6, R3_7, R3_8, R3_9, R3_10, R3_11, R3_12, R3_13, R3_14, R3_15, R3_16, R3_17, R3_18, R3_19, R3_20, R3_21, R3_22, R3_23, R3_24, R3_25, R3_26, R3_27, R3_28, R3_29, R3_30, R3_31, R3_32, R3_33, Try.f3, q7, q10, e0, e1, E]
  exact pcE_ok k b w h l r hl hk _ ⟨by simp [q1], by simp [q2], by simp [Ha], by simp⟩ P0 P1 B0 B1 (by simp [q7]) (by simp [q10]) vr (by simp [q8]) (by simp [Hs]) (by simp [Hc]) (by simp [He]) (by simpa using O0) (by simpa using O1) l0 l1 h01 (by simp; omega) (by simp; omega)
theorem pcC_ok (k : Nat) (b : Bool) (w h : Int) (l : List Int) (r : Int) (hl : l.length ≤ 1048576) (hk : l.length + 5000 ≤ k) (st : St) (I : LwI b w h l r st) (P0 : List (Nat × Nat × List Int)) (q7 : st.ρ 7 = .c (.bool (okPk w h l r)))
    (vr : Nat) (q8 : st.ρ 8 = .p 6192 vr 3 0 0) (Hs : st.H 6192 = some (vr, ⟨29, 3, false, [[.c (.int .i64 w), .c (.int .i64 h), .s 6176 vr 1 0 l.length]]⟩)) (Hc : st.H 6176 = some (vr, intsO l)) (He : st.H 10288 = none)
    (B0 : Nat) (h01 : Bt 1 ≤ B0) (h0 : B0 ≤ Bt st.tick) (O0 : Ow st.H (st.ρ 6) P0 (Bt 1) B0) (l0 : P0.map (·.2.2) = ptsZ w h l r) : Yes k pcC st := by
  obtain ⟨q1, q2, Ha, ht⟩ := I
  have hb := Bt_mono ht
  have hb1 : 100000 ≤ Bt 1 := by decide
  have hb2 : Bt st.tick ≤ Bt (st.tick + 1) := Bt_mono (by omega)
  have M := fun idc vrc => implAny k w h l r idc vrc (by omega)
  unfold Yes pcC
  rw [pcD_is]
  simp [R3_0, R3_1, R3_2, R3_3, R3_4, R3_5, R3_6, R3_7, R3_8, R3_9, R3_10, R3_11, R3_12, R3_13, R3_14, R3_15, R3_16, R3_17, R3_18, R3_19, R3_20, R3_21, R3_22, R3_23, R3_24, R3_25, R3_26, R3_27, R3_28, R3_29, R3_30, R3_31, R3_32, R3_33, Try.f3, q1, q8, Hs]
  generalize hr : (callK C k).inl 7 _ _ _ = res
  obtain ⟨v, H', tk', rfl, P, Ov, lp, old, le⟩ := inl_at (M 6176 vr) hr ⟨by omega, by omega, Hc⟩
  simp
  have hm : Bt st.tick ≤ Bt (tk' + 1) := Bt_mono (by omega)
  have hm2 : Bt tk' ≤ Bt (tk' + 1) := Bt_mono (by omega)
  refine pcD_ok k b w h l r hl hk _ ⟨by simp [q1], by simp [q2], by simp [old 16 (by omega), Ha], by simp⟩ P0 P B0 (Bt tk') (by simp [q7]) (by simp) vr (by simp [q8]) (by simp [old 6192 (by omega), Hs]) (by simp [old 6176 (by omega), Hc]) (by simp [old 10288 (by omega), He]) ?_ ?_ l0 lp h01 ?_ ?_
  · simpa using O0.keep fun id a b => old id (by omega)
  · simpa using Ov.low (by omega)
  · simp; omega
  · simp; exact hm2
theorem pcB_ok (k : Nat) (b : Bool) (w h : Int) (l : List Int) (r : Int) (hl : l.length ≤ 1048576) (hk : l.length + 5000 ≤ k) (st : St) (I : LwI b w h l r st) (P0 : List (Nat × Nat × List Int)) (q7 : st.ρ 7 = .c (.bool (okPk w h l r))) (He : st.H 10288 = none)
    (B0 : Nat) (h01 : Bt 1 ≤ B0) (h0 : B0 ≤ Bt st.tick) (O0 : Ow st.H (st.ρ 6) P0 (Bt 1) B0) (l0 : P0.map (·.2.2) = ptsZ w h l r) : Yes k pcB st := by
  obtain ⟨q1, q2, Ha, ht⟩ := I
  have hb1 : 100000 ≤ Bt 1 := by decide
  have hm : Bt st.tick ≤ Bt (st.tick + 1) := Bt_mono (by omega)
  have T := c_toField k b w h l (by omega) (by omega)
  simp [lfldV, intsO] at T
  unfold Yes pcB
  rw [pcC_is]
  simp [R3_0, R3_1, R3_2, R3_3, R3_4, R3_5, R3_6, R3_7, R3_8, R3_9, R3_10, R3_11, R3_12, R3_13, R3_14, R3_15, R3_16, R3_17, R3_18, R3_19, R3_20, R3_21, R3_22, R3_23, R3_24, R3_25, R3_26, R3_27, R3_28, R3_29, R3_30, R3_31, R3_32, R3_33, Try.f3, q2, Ha, T]
  refine pcC_ok k b w h l r hl hk _ ⟨by simp [q1], by simp [q2], by simp [putH_app, Ha], by simp⟩ P0 (by simp [q7]) st.tick (by simp) (by simp [putH_app]) (by simp [putH_app, intsO]) (by simp [putH_app, He]) B0 h01 (by simp; omega) ?_ l0
  simpa using O0.keep fun id a b => by simp [putH_app, show ¬ id = 6176 by omega, show ¬ id = 6192 by omega]
theorem pcA_ok (k : Nat) (b : Bool) (w h : Int) (l : List Int) (r : Int) (hl : l.length ≤ 1048576) (hk : l.length + 5000 ≤ k) (st : St) (I : LwI b w h l r st) (He : st.H 10288 = none) : Yes k pcA st := by
  obtain ⟨q1, q2, Ha, ht⟩ := I
  have hb := Bt_mono ht
  have hb1 : 100000 ≤ Bt 1 := by decide
  have hb2 : Bt st.tick ≤ Bt (st.tick + 1) := Bt_mono (by omega)
  have T := c_toField k b w h l (by omega) (by omega)
  simp [lfldV, intsO] at T
  have M := fun idc vrc => specAny k w h l r idc vrc (by omega)
  unfold Yes pcA
  rw [pcB_is]
  simp [R3_0, R3_1, R3_2, R3_3, R3_4, R3_5, R3_6, R3_7, R3_8, R3_9, R3_10, R3_11, R3_12, R3_13, R3_14, R3_15, R3_16, R3_17, R3_18, R3_19, R3_20, R3_21, R3_22, R3_23, R3_24, R3_25, R3_26, R3_27, R3_28, R3_29, R3_30, R3_31, R3_32, R3_33, Try.f3, q1, q2, Ha, T]
  generalize hr : (callK C k).inl 5 _ _ _ = res
  obtain ⟨v, H', tk', rfl, P, Ov, lp, old, le⟩ := inl_at (M 5152 st.tick) hr ⟨by omega, by omega, by simp [putH_app, intsO]⟩
  simp
  have hm2 : Bt tk' ≤ Bt (tk' + 1) := Bt_mono (by omega)
  have hm3 : Bt (st.tick + 1) ≤ Bt tk' := Bt_mono (by omega)
  exact pcB_ok k b w h l r hl hk _ ⟨by simp [q1], by simp [q2], by simp [old 16 (by omega), putH_app, Ha], by simp⟩ P (by simp) (by simp [old 10288 (by omega), putH_app, He]) (Bt tk') (by omega) (by simp; exact hm2) (by simpa using Ov.low (by omega)) lp
theorem l_PeakCells (k : Nat) (b : Bool) (w h : Int) (l : List Int) (r : Int) (hl : l.length ≤ 9223372036854775807) (hk : l.length + 6000 ≤ k) : callK C k 3 [lfldV b w h l, .c (.int .i64 r)] [] = some (.c (.bool true), hpOf [] []) := by
  obtain ⟨k, rfl⟩ : ∃ m, k = m + 30 := ⟨k - 30, by omega⟩
  rw [callK_fn rfl F3 code3]
  have h1 := c_szField (k + 29) b w h l 1048576 (by omega) (by omega) (by omega)
  by_cases ho : (1048576 : Int) - l.length < 0
  · rw [if_pos ho] at h1
    simp [lfldV] at h1
    simp [R3_0, R3_1, R3_2, R3_3, R3_4, R3_5, R3_6, R3_7, R3_8, R3_9, R3_10, R3_11, R3_12, R3_13, R3_14, R3_15, R3_16, R3_17, R3_18, R3_19, R3_20, R3_21, R3_22, R3_23, R3_24, R3_25, R3_26, R3_27, R3_28, R3_29, R3_30, R3_31, R3_32, R3_33, Try.f3, lfldV, h1]
  · rw [if_neg ho] at h1
    simp [lfldV] at h1
    rw [pcA_is]
    have h3 : ¬ (1048576 : Int) < l.length := by omega
    simp [R3_0, R3_1, R3_2, R3_3, R3_4, R3_5, R3_6, R3_7, R3_8, R3_9, R3_10, R3_11, R3_12, R3_13, R3_14, R3_15, R3_16, R3_17, R3_18, R3_19, R3_20, R3_21, R3_22, R3_23, R3_24, R3_25, R3_26, R3_27, R3_28, R3_29, R3_30, R3_31, R3_32, R3_33, Try.f3, lfldV, h1, ho, h3]
    generalize hr : runCode _ _ _ _ pcA _ _ = res
    have hL : ∀ st, (LwI b w h l r st ∧ st.H 10288 = none) → ∃ s, runCode C (callK C (k + 29)) (k + 29) (K 3) pcA 0 st = some (.ret, s) ∧ s.ρ 4 = .c (.bool true) := fun st hI => pcA_ok (k + 29) b w h l r (by omega) (by omega) st hI.1 hI.2
    obtain ⟨s1, rfl, f⟩ := loop_at hL hr ⟨⟨by simp [st0], by simp, by simp [putH_app], by simp⟩, by simp [putH_app, st0]⟩
    simp [f]
theorem law_PeakCells (w1 h1 : Int) (l1 : List Int) (r : Int) (_ : (Lit.int .i64 w1).wf = true) (_ : (Lit.int .i64 h1).wf = true) (hl1 : l1.length ≤ maxLen) (_ : (Lit.int .i64 r).wf = true) :
    ∃ k, callK C k 3 [.ag [.c (.int .i64 w1), .c (.int .i64 h1), .sq true true 1 (ints l1)], .c (.int .i64 r)] [] = some (.c (.bool true), hpOf [] []) :=
  ⟨_, l_PeakCells (l1.length + 6000) true w1 h1 l1 r (by unfold maxLen at hl1; omega) (by omega)⟩

end Go.Proofs.Ytemkckldfmpplaa.Eng
