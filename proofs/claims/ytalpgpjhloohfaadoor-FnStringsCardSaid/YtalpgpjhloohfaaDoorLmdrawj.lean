/- A deterministic reading of Go code over plain data: what functions of the program compute. No conditions. -/
import Derived.Test.YtalpgpjhloohfaaDoorLmbase
import Derived.Test.YtalpgpjhloohfaaDoorLmimpl
import Derived.Test.YtalpgpjhloohfaaDoorLmgood
import Derived.Test.YtalpgpjhloohfaaDoorLmitoa
import Derived.Test.YtalpgpjhloohfaaDoorLmappendck
import Derived.Test.YtalpgpjhloohfaaDoorLmsplit
import Derived.Test.YtalpgpjhloohfaaDoorLmjoins
import Derived.Test.YtalpgpjhloohfaaDoorLmjoinf
import Derived.Test.YtalpgpjhloohfaaDoorLmdraws
import Derived.Test.YtalpgpjhloohfaaDoorEngT
import Derived.Lib.IndexLaws
import Derived.Lib.Join
namespace Go.Proofs.YtalpgpjhloohfaaDoor.Eng
open Go Go.Proofs
set_option maxRecDepth 100000
set_option maxHeartbeats 2000000
set_option linter.unusedSimpArgs false
set_option linter.unusedVariables false
attribute [local simp] finK fin1 hpOf xi renQ isRoot runCode runOps Eng.step wantedV astep val ofO made loadV storeV find V.cells bin binT binA numT numFs eqCells un1 setAt fieldAddrV fieldV indexAddrV indexV bounds sliceV convV lenV foldV max2V min2V callO bor rdsO wrsO seen_none okD_none loops keepIds resV resultsV St.ev TK.agg refs refsL refsO V.one V.isC Value.oneCell' ren renL renO noTag noTagL noTagR noTagO nodup mapO passV frs psi refsR newD loopNext opsAt idx flatAt rootOf backR newsV appendV copyV clearV strV bytesV bytesOf nilCmp buildV fillF chunk
attribute [local simp] cT cF cX cWR cOW cK X ints_length ints_get ints_getElem ints_drop ints_take ints_append ints_nil ints_set
attribute [local simp] ints_replicate
attribute [local simp] putV_some putV_none putH_app applyD_nil applyD_cons seen_app gc_ρ gc_H gc_tick st0_ρ st0_H st0_tick retV callRo callV_if borL_nil borL_cons ints_snoc take_self callWr cutH_app findQ afterV exportV_0 exportV_n okD_nil okD_cons sub_seq0 sub_seq1 sub_cond0 sub_cond1 sub_block sub_loop sub_nil young_far young_none hidW_nil mayW_nil pairs okI ok_0 ok_1 ok_2
attribute [local simp] T3 T4 T5 T9 T22 T32 T57 T63 T64 T66 T72
attribute [local simp] young_near clo cloF Region.binds Nat.testBit hidW declW mayW List.findIdx?_cons
theorem lvJ {c : Cur} {q m : Nat} (h : c.P q) (hq : q ≤ m) : c.P m := ⟨h.by8, h.len, by have := h.le; omega⟩
theorem c_of (k : Nat) (c : Cur) (m : Nat) (b : Bool) (p : List (List UInt8)) (h : c.P m) (hm : m ≤ 1000000000) (h0 : 0 < p.length) (hl : p.length ≤ 1000000000) (hk : 3 ≤ k) : ∃ (i : Nat) (hi : i < p.length) (c' : Cur), callK C k 50 [.p 0 0 3 0 0, .sq b true 1 (strs p)] [curO c] = some (.c (.string (bs p[i])), hpOf [some (curO c')] []) ∧ c'.P (m + 2) := by
  obtain ⟨k, rfl⟩ : ∃ m, k = m + 1 := ⟨k - 1, by omega⟩
  rw [callK_fn rfl F50 code50]
  obtain ⟨r1, c1, e1, r1a, r1b, p1⟩ := c_pick k c m p.length h (by omega) (by omega) (by omega)
  have hlt : r1 < p.length := by omega
  obtain ⟨i, rfl⟩ : ∃ i : Nat, r1 = i := ⟨r1.toNat, by omega⟩
  have hi : i < p.length := by omega
  have nget := strs_get p i hi
  simp [curO, curE] at e1
  refine ⟨i, hi, c1, ?_, p1⟩
  simp [R50_0, R50_1, Tryd.f50, curO, curE, e1, hi, strs_length, strs_at, nget]
theorem c_any1 (k : Nat) (c : Cur) (m : Nat) (h : c.P m) (hm : m ≤ 1000000000) (hk : 20 ≤ k) : ∃ (t : List UInt8) (c' : Cur), callK C k 53 [.p 0 0 3 0 0] [curO c] = some (.c (.string (bs t)), hpOf [some (curO c')] []) ∧ t.length ≤ 100 ∧ c'.P (m + 2) := by
  obtain ⟨k, rfl⟩ : ∃ m, k = m + 1 := ⟨k - 1, by omega⟩
  rw [callK_fn rfl F53 code53]
  obtain ⟨i, hi, c1, e1, p1⟩ := c_of k c m true [[], [97], [97, 44, 98], [115, 111, 109, 101, 32, 119, 111, 114, 100, 115], [120, 35, 121], [45, 49, 50], [0, 255], [44, 44], [48]] h hm (by simp) (by simp) (by omega)
  have hall : ∀ x ∈ ([[], [97], [97, 44, 98], [115, 111, 109, 101, 32, 119, 111, 114, 100, 115], [120, 35, 121], [45, 49, 50], [0, 255], [44, 44], [48]] : List (List UInt8)), x.length ≤ 100 := by decide
  have hlen := hall _ (List.getElem_mem hi)
  obtain ⟨t, ht⟩ : ∃ t, ([[], [97], [97, 44, 98], [115, 111, 109, 101, 32, 119, 111, 114, 100, 115], [120, 35, 121], [45, 49, 50], [0, 255], [44, 44], [48]] : List (List UInt8))[i] = t := ⟨_, rfl⟩
  rw [ht] at hlen e1
  refine ⟨t, c1, ?_, hlen, p1⟩
  simp [curO, curE, strs] at e1
  have hz : ∀ l : List UInt8, bs l = ⟨l.toArray⟩ := fun l => rfl
  simp [hz] at e1
  simp [R53_0, R53_1, Tryd.f53, curO, curE, e1, hz, ok_cons]
theorem bytesOf_zeros : ∀ n : Nat, bytesOf (List.replicate n (V.c (.int .u8 0))) = some (List.replicate n 0)
  | 0 => rfl
  | n + 1 => by
    rw [List.replicate_succ, List.replicate_succ]
    simp [bytesOf, bytesOf_zeros n]
theorem okZ (ty : TypeId) (n : Nat) : okObj ⟨ty, 1, true, List.replicate n [V.c (.int .u8 0)]⟩ = true := by simp [okObj, V.one, V.isC, Value.oneCell']
theorem lenS_snoc (p : List (List UInt8)) (x : List UInt8) : lenS (p ++ [x]) = lenS p + x.length := by simp [lenS]
/-- The list that is drawn, and the cursor. -/
def DjX (m i : Nat) (st : St) : Prop := ∃ (c : Cur) (p : List (List UInt8)) (id tk : Nat), c.P (m + 2 * i) ∧ p.length = i ∧ lenS p ≤ 100 * i ∧ (id = 2064 ∨ id = 7256) ∧ st.ρ 5 = .s id tk 1 0 p.length ∧ st.H id = some (tk, strsO p) ∧ st.ρ 4 = .p 1072 2 3 0 0 ∧ st.H 1072 = some (2, curO c)

end Go.Proofs.YtalpgpjhloohfaaDoor.Eng
