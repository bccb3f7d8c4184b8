/- A deterministic reading of Go code over plain data: what functions of the program compute. No conditions. -/
import Derived.Test.YtalpgpjhloohfaaDoorLmbase
import Derived.Test.YtalpgpjhloohfaaDoorLmimpl
import Derived.Test.YtalpgpjhloohfaaDoorLmgood
import Derived.Test.YtalpgpjhloohfaaDoorLmitoa
import Derived.Test.YtalpgpjhloohfaaDoorLmappendck
import Derived.Test.YtalpgpjhloohfaaDoorLmsplit
import Derived.Test.YtalpgpjhloohfaaDoorEngT
import Derived.Lib.IndexLaws
import Derived.Lib.Join
namespace Go.Proofs.YtalpgpjhloohfaaDoor.Eng
open Go Go.Proofs
set_option maxRecDepth 100000
set_option maxHeartbeats 2000000
set_option linter.unusedSimpArgs false
set_option linter.unusedVariables false
attribute [local simp] finK fin1 hpOf xi renQ isRoot runCode runOps Eng.step wantedV astep val ofO made loadV storeV find V.cells bin binT binA numT numFs eqCells un1 setAt fieldAddrV fieldV indexAddrV indexV bounds sliceV convV lenV foldV max2V min2V callO bor rdsO wrsO seen_none okD_none loops keepIds resV resultsV St.ev TK.agg refs refsL refsO V.one V.isC Value.oneCell' ren renL renO noTag noTagL noTagR noTagO nodup mapO passV frs psi refsR newD loopNext opsAt idx flatAt rootOf backR newsV appendV copyV clearV strV bytesV bldV bufV selfV bytesOf nilCmp buildV fillF chunk
attribute [local simp] cT cF cX cWR cOW cK cBL X ints_length ints_get ints_getElem ints_drop ints_take ints_append ints_nil ints_set
attribute [local simp] ints_replicate
attribute [local simp] putV_some putV_none putH_app applyD_nil applyD_cons seen_app gc_ρ gc_H gc_tick st0_ρ st0_H st0_tick retV callRo callV_if borL_nil borL_cons ints_snoc take_self callWr cutH_app findQ afterV exportV_0 exportV_n okD_nil okD_cons sub_seq0 sub_seq1 sub_cond0 sub_cond1 sub_block sub_loop sub_nil young_far young_none hidW_nil mayW_nil pairs okI ok_0 ok_1 ok_2
attribute [local simp] T3 T4 T9 T22 T24 T28 T55 T70
attribute [local simp] young_near clo cloF Region.binds Nat.testBit hidW declW mayW List.findIdx?_cons
/-- A byte stands in a text. -/
def stB (l : List UInt8) (b : UInt8) : Bool := decide (0 ≤ Lib.indexByte l b)
theorem st_mem (l : List UInt8) (b : UInt8) : stB l b = decide (b ∈ l) := by
  unfold stB
  by_cases hn : Lib.indexByte l b = -1
  · have hno := Lib.indexByte_none hn
    have : b ∉ l := fun h => by
      obtain ⟨i, hi, e⟩ := List.getElem_of_mem h
      exact hno i (by rw [List.getElem?_eq_getElem hi, e])
    simp [hn, this]
  · have hge := Lib.indexByte_ge l b
    obtain ⟨o, ho⟩ : ∃ o : Nat, Lib.indexByte l b = o := ⟨(Lib.indexByte l b).toNat, by omega⟩
    obtain ⟨h1, _⟩ := Lib.indexByte_some ho
    have : b ∈ l := List.mem_of_getElem? h1
    have h0 : 0 ≤ Lib.indexByte l b := by omega
    simp [h0, this]
/-- The lengths of texts, added up. -/
def lenS (p : List (List UInt8)) : Nat := (p.map (·.length)).sum
theorem lenS_take (p : List (List UInt8)) (i : Nat) (h : i < p.length) : lenS (p.take (i + 1)) = lenS (p.take i) + p[i].length := by
  unfold lenS
  rw [List.take_succ_eq_append_getElem h, List.map_append, List.sum_append]
  simp
theorem lenS_take_le (p : List (List UInt8)) : ∀ i, i ≤ p.length → lenS (p.take i) ≤ lenS p := by
  intro i
  induction p generalizing i with
  | nil => intro _; simp [lenS]
  | cons x r ih =>
    intro h
    cases i with
    | zero => simp [lenS]
    | succ i =>
      have := ih i (by simpa using h)
      simp only [lenS, List.take_succ_cons, List.map_cons, List.sum_cons] at this ⊢
      omega
theorem lenS_get (p : List (List UInt8)) (i : Nat) (h : i < p.length) : p[i].length ≤ lenS p := by
  have h1 := lenS_take p i h
  have h2 := lenS_take_le p (i + 1) h
  omega
/-- What joining gives, with one byte between the texts. -/
def joinB (p : List (List UInt8)) (b : UInt8) : List UInt8 := Lib.join p [b]
theorem joinB_len (p : List (List UInt8)) (b : UInt8) (h : p ≠ []) : (joinB p b).length = lenS p + (p.length - 1) := by
  cases p with
  | nil => exact absurd rfl h
  | cons x r =>
    unfold joinB
    rw [Lib.join_cons, List.length_append, Lib.joinTail_length]
    simp only [lenS, Lib.lens, List.map_cons, List.sum_cons, List.length_cons, List.length_nil]
    omega
theorem joinB_take (p : List (List UInt8)) (b : UInt8) (i : Nat) (h : i < p.length) : joinB (p.take (i + 1)) b = if i = 0 then p[i] else joinB (p.take i) b ++ [b] ++ p[i] := by
  cases p with
  | nil => simp at h
  | cons x r =>
    cases i with
    | zero => simp [joinB, Lib.join_one]
    | succ i =>
      have hi : i < r.length := by simpa using h
      simp only [List.take_succ_cons, List.getElem_cons_succ]
      rw [if_neg (by omega)]
      unfold joinB
      rw [Lib.join_cons, Lib.join_cons, Lib.joinTail_take_succ _ _ i r[i] (List.getElem?_eq_getElem hi)]
      simp
def joinOk (p : List (List UInt8)) (b : UInt8) : Bool := !p.isEmpty && p.all (fun x => !decide (b ∈ x)) && decide (lenS p + (p.length - 1) ≤ 4000)

end Go.Proofs.YtalpgpjhloohfaaDoor.Eng
