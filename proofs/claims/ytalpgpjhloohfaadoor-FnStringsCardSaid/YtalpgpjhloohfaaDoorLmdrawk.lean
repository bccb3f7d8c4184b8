/- A deterministic reading of Go code over plain data: what functions of the program compute. No conditions. -/
import Derived.Test.YtalpgpjhloohfaaDoorLmbase
import Derived.Test.YtalpgpjhloohfaaDoorLmimpl
import Derived.Test.YtalpgpjhloohfaaDoorLmgood
import Derived.Test.YtalpgpjhloohfaaDoorLmitoa
import Derived.Test.YtalpgpjhloohfaaDoorLmappendck
import Derived.Test.YtalpgpjhloohfaaDoorLmsplit
import Derived.Test.YtalpgpjhloohfaaDoorLmjoins
import Derived.Test.YtalpgpjhloohfaaDoorLmjoinf
import Derived.Test.YtalpgpjhloohfaaDoorLmdraws
import Derived.Test.YtalpgpjhloohfaaDoorLmdrawj
import Derived.Test.YtalpgpjhloohfaaDoorEngT
import Derived.Lib.IndexLaws
import Derived.Lib.ItoaLen
import Derived.Lib.Join
namespace Go.Proofs.YtalpgpjhloohfaaDoor.Eng
open Go Go.Proofs
set_option maxRecDepth 100000
set_option maxHeartbeats 2000000
set_option linter.unusedSimpArgs false
set_option linter.unusedVariables false
attribute [local simp] finK fin1 hpOf xi renQ isRoot runCode runOps Eng.step wantedV astep val ofO made loadV storeV find V.cells bin binT binA numT numFs eqCells un1 setAt fieldAddrV fieldV indexAddrV indexV bounds sliceV convV lenV foldV max2V min2V callO bor rdsO wrsO seen_none okD_none loops keepIds resV resultsV St.ev TK.agg refs refsL refsO V.one V.isC Value.oneCell' ren renL renO noTag noTagL noTagR noTagO nodup mapO passV frs psi refsR newD loopNext opsAt idx flatAt rootOf backR newsV appendV copyV clearV strV bytesV bytesOf nilCmp buildV fillF chunk
attribute [local simp] cT cF cX cWR cOW cK X ints_length ints_get ints_getElem ints_drop ints_take ints_append ints_nil ints_set
attribute [local simp] ints_replicate
attribute [local simp] putV_some putV_none putH_app applyD_nil applyD_cons seen_app gc_ρ gc_H gc_tick st0_ρ st0_H st0_tick retV callRo callV_if borL_nil borL_cons ints_snoc take_self callWr cutH_app findQ afterV exportV_0 exportV_n okD_nil okD_cons sub_seq0 sub_seq1 sub_cond0 sub_cond1 sub_block sub_loop sub_nil young_far young_none hidW_nil mayW_nil pairs okI ok_0 ok_1 ok_2
attribute [local simp] T3 T4 T5 T9 T22 T32 T57 T63 T64 T66 T72
attribute [local simp] young_near clo cloF Region.binds Nat.testBit hidW declW mayW List.findIdx?_cons
theorem c_DrawFormatInt (k : Nat) (code : List Int) (hb : ∀ x ∈ code, 0 ≤ x ∧ x ≤ 255) (hl : code.length ≤ maxLen) (hk : 100 ≤ k) : ∃ n : Int, callK C k 13 [.sq false true 1 (u8s code)] [] = some (.c (.int .i64 n), hpOf [] []) := by
  obtain ⟨k, rfl⟩ : ∃ m, k = m + 9 := ⟨k - 9, by omega⟩
  rw [callK_fn rfl F13 code13]
  obtain ⟨r, c1, e1, r1a, r1b, p1⟩ := c_pick (k + 8) ⟨code, 0, 0⟩ 0 1000 ⟨hb, hl, Nat.le_refl _⟩ (by omega) (by omega) (by omega)
  have w1 : IntKind.i64.wrap (r - 500) = r - 500 := wrap_small (by omega) (by omega)
  obtain ⟨i, hi, c2, e2, p2⟩ := c_among (k + 8) c1 _ true [0, 1, -1, 10, 999999, -999999, 1000000, -1000000, r - 500] p1 (by omega) (by simp) (by simp) (by omega)
  obtain ⟨n, hn⟩ : ∃ n, ([0, 1, -1, 10, 999999, -999999, 1000000, -1000000, r - 500] : List Int)[i] = n := ⟨_, rfl⟩
  rw [hn] at e2
  refine ⟨n, ?_⟩
  simp [curO, curE] at e1
  simp [curO, curE, ints_cons, ints_0] at e2
  simp [R13_0, R13_1, R13_2, Tryd.f13, e1, e2, w1, ok_cons, ints_cons, ints_0]
theorem c_DrawParseInt (k : Nat) (code : List Int) (hb : ∀ x ∈ code, 0 ≤ x ∧ x ≤ 255) (hl : code.length ≤ maxLen) (hk : 100 ≤ k) : ∃ l : List UInt8, callK C k 16 [.sq false true 1 (u8s code)] [] = some (.c (.string (bs l)), hpOf [] []) ∧ l.length ≤ 100 := by
  obtain ⟨k, rfl⟩ : ∃ m, k = m + 9 := ⟨k - 9, by omega⟩
  rw [callK_fn rfl F16 code16]
  obtain ⟨b1, c1, e1, p1⟩ := c_one (k + 8) ⟨code, 0, 0⟩ 0 2 ⟨hb, hl, Nat.le_refl _⟩ (by omega) (by omega) (by omega)
  simp [curO, curE] at e1
  have hz : ∀ l : List UInt8, bs l = ⟨l.toArray⟩ := fun l => rfl
  cases b1
  · obtain ⟨r, c2, e2, r1a, r1b, p2⟩ := c_pick (k + 8) c1 _ 2000 p1 (by omega) (by omega) (by omega)
    have w1 : IntKind.i64.wrap (r - 1000) = r - 1000 := wrap_small (by omega) (by omega)
    have h3 := c_l1Num (k + 8) (r - 1000) (by omega) (by omega) (by omega)
    refine ⟨Lib.itoa (r - 1000), ?_, by have := Lib.itoa_length_le (r - 1000) (by omega) (by omega); omega⟩
    simp [curO, curE] at e2
    simp [R16_0, R16_1, R16_2, R16_3, R16_4, Tryd.f16, e1, e2, w1, h3]
  · have hall : ∀ x ∈ ([[], [45], [45, 48], [48, 48], [48, 49], [45, 45, 49], [49, 120], [57, 57, 57, 57, 57, 57], [49, 48, 48, 48, 48, 48, 48], [45, 57, 57, 57, 57, 57, 57], [49, 56, 52, 52, 54, 55, 52, 52, 48, 55, 51, 55, 48, 57, 53, 53, 49, 54, 49, 55]] : List (List UInt8)), x.length ≤ 100 := by decide
    obtain ⟨i, hi, c2, e2, p2⟩ := c_of (k + 8) c1 _ true [[], [45], [45, 48], [48, 48], [48, 49], [45, 45, 49], [49, 120], [57, 57, 57, 57, 57, 57], [49, 48, 48, 48, 48, 48, 48], [45, 57, 57, 57, 57, 57, 57], [49, 56, 52, 52, 54, 55, 52, 52, 48, 55, 51, 55, 48, 57, 53, 53, 49, 54, 49, 55]] p1 (by omega) (by simp) (by simp) (by omega)
    have hlen := hall _ (List.getElem_mem hi)
    obtain ⟨t, ht⟩ : ∃ t, ([[], [45], [45, 48], [48, 48], [48, 49], [45, 45, 49], [49, 120], [57, 57, 57, 57, 57, 57], [49, 48, 48, 48, 48, 48, 48], [45, 57, 57, 57, 57, 57, 57], [49, 56, 52, 52, 54, 55, 52, 52, 48, 55, 51, 55, 48, 57, 53, 53, 49, 54, 49, 55]] : List (List UInt8))[i] = t := ⟨_, rfl⟩
    rw [ht] at hlen e2
    refine ⟨t, ?_, hlen⟩
    simp [curO, curE, strs, hz] at e2
    simp [R16_0, R16_1, R16_2, R16_3, R16_4, Tryd.f16, e1, e2, hz, ok_cons]
theorem c_DrawAppendChecksum (k : Nat) (code : List Int) (hb : ∀ x ∈ code, 0 ≤ x ∧ x ≤ 255) (hl : code.length ≤ maxLen) (hk : 100 ≤ k) : ∃ l : List UInt8, callK C k 19 [.sq false true 1 (u8s code)] [] = some (.c (.string (bs l)), hpOf [] []) ∧ l.length ≤ 5000 := by
  obtain ⟨k, rfl⟩ : ∃ m, k = m + 9 := ⟨k - 9, by omega⟩
  rw [callK_fn rfl F19 code19]
  obtain ⟨b1, c1, e1, p1⟩ := c_one (k + 8) ⟨code, 0, 0⟩ 0 20 ⟨hb, hl, Nat.le_refl _⟩ (by omega) (by omega) (by omega)
  simp [curO, curE] at e1
  cases b1
  · obtain ⟨t, c2, e2, l2, p2⟩ := c_any1 (k + 8) c1 _ p1 (by omega) (by omega)
    refine ⟨t, ?_, by omega⟩
    simp [curO, curE] at e2
    simp [R19_0, R19_1, R19_2, R19_3, R19_4, Tryd.f19, e1, e2]
  · obtain ⟨r3, c3, e3, r3a, r3b, p3⟩ := c_pick (k + 8) c1 _ 10 p1 (by omega) (by omega) (by omega)
    obtain ⟨n3, rfl⟩ : ∃ n : Nat, r3 = n := ⟨r3.toNat, by omega⟩
    have w1 : IntKind.i64.wrap (3990 + (n3 : Int)) = ((3990 + n3 : Nat) : Int) := by rw [wrap_small (by omega) (by omega)]; omega
    obtain ⟨M, hM⟩ : ∃ M, 3990 + n3 = M := ⟨_, rfl⟩
    rw [hM] at w1
    have b1 : (0 : Int) ≤ (M : Int) := by omega
    have b2 : (M : Int) ≤ 17592186044416 := by omega
    have b3 : (M : Int) ≤ 140737488355328 := by omega
    have hz : bs (List.replicate M 0) = ⟨Array.replicate M (0 : UInt8)⟩ := by simp [bs]
    refine ⟨List.replicate M 0, ?_, by simp; omega⟩
    rw [hz]
    simp [curO, curE] at e3
    simp [R19_0, R19_1, R19_2, R19_3, R19_4, Tryd.f19, e1, e3, w1, b1, b2, b3, okZ, bytesOf_zeros]

end Go.Proofs.YtalpgpjhloohfaaDoor.Eng
