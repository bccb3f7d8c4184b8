/- A deterministic reading of Go code over plain data: what functions of the program compute. No conditions. -/
import Derived.Test.YtalpgpjhloohfaaDoorLmbase
import Derived.Test.YtalpgpjhloohfaaDoorLmimpl
import Derived.Test.YtalpgpjhloohfaaDoorLmgood
import Derived.Test.YtalpgpjhloohfaaDoorLmitoa
import Derived.Test.YtalpgpjhloohfaaDoorLmappendck
import Derived.Test.YtalpgpjhloohfaaDoorLmsplit
import Derived.Test.YtalpgpjhloohfaaDoorEngT
import Derived.Lib.IndexLaws
namespace Go.Proofs.YtalpgpjhloohfaaDoor.Eng
open Go Go.Proofs
set_option maxRecDepth 100000
set_option maxHeartbeats 2000000
set_option linter.unusedSimpArgs false
set_option linter.unusedVariables false
attribute [local simp] finK fin1 hpOf xi renQ isRoot runCode runOps Eng.step wantedV astep val ofO made loadV storeV find V.cells bin binT binA numT numFs eqCells un1 setAt fieldAddrV fieldV indexAddrV indexV bounds sliceV convV lenV foldV max2V min2V callO bor rdsO wrsO seen_none okD_none loops keepIds resV resultsV St.ev TK.agg refs refsL refsO V.one V.isC Value.oneCell' ren renL renO noTag noTagL noTagR noTagO nodup mapO passV frs psi refsR newD loopNext opsAt idx flatAt rootOf backR newsV appendV copyV clearV strV bytesV bytesOf nilCmp buildV fillF chunk
attribute [local simp] cT cF cX cWR cOW cK X ints_length ints_get ints_getElem ints_drop ints_take ints_append ints_nil ints_set
attribute [local simp] ints_replicate
attribute [local simp] putV_some putV_none putH_app applyD_nil applyD_cons seen_app gc_ρ gc_H gc_tick st0_ρ st0_H st0_tick retV callRo callV_if borL_nil borL_cons ints_snoc take_self callWr cutH_app findQ afterV exportV_0 exportV_n okD_nil okD_cons sub_seq0 sub_seq1 sub_cond0 sub_cond1 sub_block sub_loop sub_nil young_far young_none hidW_nil mayW_nil pairs okI ok_0 ok_1 ok_2
attribute [local simp] T3 T4 T5 T9 T22 T32 T57 T63 T64 T66 T72
attribute [local simp] young_near clo cloF Region.binds Nat.testBit
theorem c_lIndex (k : Nat) (l : List UInt8) (c : UInt8) (hk : 1 ≤ k) : callK C k 102 [.c (.string (bs l)), .c (.string (bs [c]))] [] = some (.c (.int .i64 (Lib.indexByte l c)), hpOf [] []) := by
  obtain ⟨k, rfl⟩ : ∃ m, k = m + 1 := ⟨k - 1, by omega⟩
  simp only [callK]
  have hx : C.ext 102 = some ext102 := rfl
  rw [hx]
  simp [ext102, bs_data]
theorem c_lCut (k : Nat) (l : List UInt8) (h20 : l.length ≤ 1048576) (hk : 5 ≤ k) : ∃ r : List UInt8, callK C k 86 [.c (.string (bs l)), .c (.string (bs [35]))] [] = some (.tp [.c (.string (bs (headL l 35))), .c (.string (bs r)), .c (.bool (hasB1 l))], hpOf [] []) := by
  obtain ⟨k, rfl⟩ : ∃ m, k = m + 1 := ⟨k - 1, by omega⟩
  rw [callK_fn rfl F86 code86]
  have h1 := c_lIndex k l 35 (by omega)
  by_cases hn : Lib.indexByte l 35 = -1
  · rw [hn] at h1
    exact ⟨[], by simp [R86_0, R86_1, R86_2, R86_3, R86_4, Tryd.f86, h1, lit0, headL, hn, hasB1]⟩
  · have hge := Lib.indexByte_ge l 35
    obtain ⟨o, ho⟩ : ∃ o : Nat, Lib.indexByte l 35 = o := ⟨(Lib.indexByte l 35).toNat, by omega⟩
    obtain ⟨h2, _⟩ := Lib.indexByte_some ho
    have hol : o < l.length := (List.getElem?_eq_some_iff.1 h2).1
    rw [ho] at h1
    have w1 : IntKind.i64.wrap ((o : Int) + 1) = (o : Int) + 1 := wrap_small (by omega) (by omega)
    have g1 : (o : Int) ≤ (l.length : Int) := by omega
    have g2 : (o : Int) + 1 ≤ (l.length : Int) := by omega
    have g3 : (0 : Int) ≤ (o : Int) + 1 := by omega
    have g4 : ((o : Int) + 1).toNat = o + 1 := by omega
    have g5 : o ≤ l.length := by omega
    have g6 : o + 1 ≤ l.length := by omega
    have hm : ¬ (o : Int) = -1 := by omega
    exact ⟨(l.drop (o + 1)).take (l.length - (o + 1)), by simp [R86_0, R86_1, R86_2, R86_3, R86_4, Tryd.f86, h1, lit0, headL, ho, hm, hasB1, w1, g1, g2, g3, g4, g5, g6, hol, bs_size, bs_extract]⟩
theorem c_Cut (k : Nat) (l : List UInt8) (h20 : l.length ≤ 1048576) (hk : 6 ≤ k) : ∃ r : List UInt8, callK C k 58 [.c (.string (bs l)), .c (.string (bs [35]))] [] = some (.tp [.c (.string (bs (headL l 35))), .c (.string (bs r)), .c (.bool (hasB1 l))], hpOf [] []) := by
  obtain ⟨k, rfl⟩ : ∃ m, k = m + 1 := ⟨k - 1, by omega⟩
  rw [callK_fn rfl F58 code58]
  obtain ⟨r, h⟩ := c_lCut k l h20 (by omega)
  exact ⟨r, by simp [R58_0, R58_1, Tryd.f58, h]⟩
theorem head_no (l : List UInt8) : hasB1 (headL l 35) = false := by
  unfold hasB1
  have hge := Lib.indexByte_ge (headL l 35) 35
  by_cases hn : Lib.indexByte (headL l 35) 35 = -1
  · rw [hn]; rfl
  · exfalso
    obtain ⟨j, hj⟩ : ∃ j : Nat, Lib.indexByte (headL l 35) 35 = j := ⟨(Lib.indexByte (headL l 35) 35).toNat, by omega⟩
    obtain ⟨h1, _⟩ := Lib.indexByte_some hj
    unfold headL at h1
    by_cases hl : Lib.indexByte l 35 = -1
    · rw [if_pos hl] at h1
      exact Lib.indexByte_none hl j h1
    · rw [if_neg hl] at h1
      have hge' := Lib.indexByte_ge l 35
      obtain ⟨o, ho⟩ : ∃ o : Nat, Lib.indexByte l 35 = o := ⟨(Lib.indexByte l 35).toNat, by omega⟩
      rw [ho] at h1
      obtain ⟨_, h2⟩ := Lib.indexByte_some ho
      simp only [Int.toNat_natCast, List.getElem?_take] at h1
      split at h1
      · rename_i hlt
        exact h2 j hlt h1
      · cases h1
theorem head_len (l : List UInt8) : (headL l 35).length ≤ l.length := by
  unfold headL
  split
  · exact Nat.le_refl _
  · rw [List.length_take]; omega
theorem seal_has {t l : List UInt8} (h : sealL t = l) : hasB1 l = true := by
  unfold hasB1
  have hge := Lib.indexByte_ge l 35
  by_cases hn : Lib.indexByte l 35 = -1
  · exfalso
    refine Lib.indexByte_none hn t.length ?_
    rw [← h]
    unfold sealL
    rw [List.getElem?_append_right (Nat.le_refl _)]
    simp
  · simp; omega
def verB (l : List UInt8) : Bool := decide (l.length ≤ 4000) && decide (sealL (headL l 35) = l)
theorem ver_same (l : List UInt8) : verB l = (hasB1 l && (appB (headL l 35) && decide (sealL (headL l 35) = l))) := by
  rw [Bool.eq_iff_iff]
  simp only [verB, appB, head_no, Bool.not_false, Bool.true_and, Bool.and_eq_true, decide_eq_true_eq]
  constructor
  · rintro ⟨h1, h2⟩
    have := head_len l
    exact ⟨seal_has h2, ⟨by omega, by rw [h2]; exact h1⟩, h2⟩
  · rintro ⟨_, ⟨_, h3⟩, h4⟩
    rw [h4] at h3
    exact ⟨h3, h4⟩
theorem c_implVer (k : Nat) (l : List UInt8) (h20 : l.length ≤ 1048576) (hk : l.length + 300 ≤ k) : callK C k 22 [.c (.string (bs l))] [] = some (.tp [.c (.string (bs (if verB l = true then headL l 35 else []))), .c (.bool (verB l))], hpOf [] []) := by
  obtain ⟨k, rfl⟩ : ∃ m, k = m + 1 := ⟨k - 1, by omega⟩
  rw [callK_fn rfl F22 code22]
  obtain ⟨r, h1⟩ := c_Cut k l h20 (by omega)
  have hhl := head_len l
  have h2 := c_implApp k (headL l 35) (by omega) (by omega)
  rw [ver_same]
  obtain ⟨t, ht⟩ : ∃ t, headL l 35 = t := ⟨_, rfl⟩
  rw [ht] at h1 h2 ⊢
  cases g1 : hasB1 l
  · rw [g1] at h1
    simp [R22_0, R22_1, R22_2, R22_3, R22_4, R22_5, Tryd.f22, h1, h2, lit0, lit1]
  · rw [g1] at h1
    cases g2 : appB t
    · rw [g2] at h2
      simp at h2
      simp [R22_0, R22_1, R22_2, R22_3, R22_4, R22_5, Tryd.f22, h1, h2, lit0, lit1]
    · rw [g2] at h2
      simp at h2
      by_cases g3 : sealL t = l
      · simp [R22_0, R22_1, R22_2, R22_3, R22_4, R22_5, Tryd.f22, h1, h2, lit0, lit1, bs_neq, g3]
      · simp [R22_0, R22_1, R22_2, R22_3, R22_4, R22_5, Tryd.f22, h1, h2, lit0, lit1, bs_neq, g3]

end Go.Proofs.YtalpgpjhloohfaaDoor.Eng
