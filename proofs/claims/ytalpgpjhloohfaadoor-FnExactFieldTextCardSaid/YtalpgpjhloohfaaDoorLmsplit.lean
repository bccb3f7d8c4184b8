/- A deterministic reading of Go code over plain data: what functions of the program compute. No conditions. -/
import Derived.Test.YtalpgpjhloohfaaDoorLmbase
import Derived.Test.YtalpgpjhloohfaaDoorLmimpl
import Derived.Test.YtalpgpjhloohfaaDoorLmgood
import Derived.Test.YtalpgpjhloohfaaDoorLmitoa
import Derived.Test.YtalpgpjhloohfaaDoorLmappendck
import Derived.Test.YtalpgpjhloohfaaDoorEngT
import Derived.Lib.IndexLaws
import Derived.Lib.Bytes
namespace Go.Proofs.YtalpgpjhloohfaaDoor.Eng
open Go Go.Proofs
set_option maxRecDepth 100000
set_option maxHeartbeats 2000000
set_option linter.unusedSimpArgs false
set_option linter.unusedVariables false
attribute [local simp] finK fin1 hpOf xi renQ isRoot runCode runOps Eng.step wantedV astep val ofO made loadV storeV find V.cells bin binT binA numT numFs eqCells un1 setAt fieldAddrV fieldV indexAddrV indexV bounds sliceV convV lenV foldV max2V min2V callO bor rdsO wrsO seen_none okD_none loops keepIds resV resultsV St.ev TK.agg refs refsL refsO V.one V.isC Value.oneCell' ren renL renO noTag noTagL noTagR noTagO nodup mapO passV frs psi refsR newD loopNext opsAt idx flatAt rootOf backR newsV appendV copyV clearV strV bytesV bldV bufV selfV bytesOf nilCmp buildV fillF chunk
attribute [local simp] cT cF cX cWR cOW cK cBL X ints_length ints_get ints_getElem ints_drop ints_take ints_append ints_nil ints_set
attribute [local simp] ints_replicate
attribute [local simp] putV_some putV_none putH_app applyD_nil applyD_cons seen_app gc_ρ gc_H gc_tick st0_ρ st0_H st0_tick retV callRo callV_if borL_nil borL_cons ints_snoc take_self callWr cutH_app findQ afterV exportV_0 exportV_n okD_nil okD_cons sub_seq0 sub_seq1 sub_cond0 sub_cond1 sub_block sub_loop sub_nil young_far young_none hidW_nil mayW_nil pairs okI ok_0 ok_1 ok_2
attribute [local simp] T3 T4 T9 T22 T24 T28 T55 T70
theorem bs_toList (l : List UInt8) : (bs l).toList = l := by rw [Lib.toList_data, bs_data]
theorem bs_neq (l m : List UInt8) : ((bs l).toList == (bs m).toList) = decide (l = m) := by
  rw [bs_toList, bs_toList]
  by_cases h : l = m <;> simp [h]
theorem bs_extract (l : List UInt8) (a b : Nat) : (bs l).extract a b = bs ((l.drop a).take (b - a)) := by
  apply ByteArray.ext
  simp [bs, ByteArray.data_extract]
def spS (l : List UInt8) (b : UInt8) : Nat → List (List UInt8) × Nat
  | 0 => ([], 0)
  | i + 1 => if l[i]? = some b then ((spS l b i).1 ++ [(l.drop (spS l b i).2).take (i - (spS l b i).2)], i + 1) else spS l b i
def splitL (l : List UInt8) (b : UInt8) : List (List UInt8) := (spS l b l.length).1 ++ [l.drop (spS l b l.length).2]
theorem spS_le (l : List UInt8) (b : UInt8) : ∀ i, (spS l b i).2 ≤ i ∧ (spS l b i).1.length ≤ i
  | 0 => by simp [spS]
  | i + 1 => by
    have := spS_le l b i
    unfold spS
    split
    · simp; omega
    · omega
theorem spS_yes {l : List UInt8} {b : UInt8} {i : Nat} (h : l[i]? = some b) : spS l b (i + 1) = ((spS l b i).1 ++ [(l.drop (spS l b i).2).take (i - (spS l b i).2)], i + 1) := by simp [spS, h]
theorem spS_no {l : List UInt8} {b : UInt8} {i : Nat} (h : ¬ l[i]? = some b) : spS l b (i + 1) = spS l b i := by simp [spS, h]
/-- What stands ahead of the first byte b. -/
def headL (l : List UInt8) (b : UInt8) : List UInt8 := if Lib.indexByte l b = -1 then l else l.take (Lib.indexByte l b).toNat
theorem spS_none {l : List UInt8} {b : UInt8} (o : Nat) (h : ∀ k, k < o → l[k]? ≠ some b) : ∀ i, i ≤ o → spS l b i = ([], 0)
  | 0, _ => rfl
  | i + 1, hi => by rw [spS_no (h i (by omega)), spS_none o h i (by omega)]
theorem spS_some {l : List UInt8} {b : UInt8} {o : Nat} (h0 : l[o]? = some b) (h : ∀ k, k < o → l[k]? ≠ some b) : ∀ d, ∃ r, (spS l b (o + 1 + d)).1 = l.take o :: r
  | 0 => by
    refine ⟨[], ?_⟩
    rw [Nat.add_zero, spS_yes h0, spS_none o h o (Nat.le_refl _)]
    simp
  | d + 1 => by
    obtain ⟨r, hr⟩ := spS_some h0 h d
    by_cases hx : l[o + 1 + d]? = some b
    · rw [← Nat.add_assoc, spS_yes hx]
      exact ⟨r ++ [(l.drop (spS l b (o + 1 + d)).2).take (o + 1 + d - (spS l b (o + 1 + d)).2)], by rw [hr]; rfl⟩
    · rw [← Nat.add_assoc, spS_no hx]
      exact ⟨r, hr⟩
theorem split_head (l : List UInt8) (b : UInt8) : ∃ r, splitL l b = headL l b :: r := by
  unfold splitL headL
  by_cases hn : Lib.indexByte l b = -1
  · have hno := Lib.indexByte_none hn
    rw [spS_none l.length (fun k _ => hno k) l.length (Nat.le_refl _), if_pos hn]
    exact ⟨[], by simp⟩
  · have hge := Lib.indexByte_ge l b
    obtain ⟨o, ho⟩ : ∃ o : Nat, Lib.indexByte l b = o := ⟨(Lib.indexByte l b).toNat, by omega⟩
    obtain ⟨h1, h2⟩ := Lib.indexByte_some ho
    have hol : o < l.length := (List.getElem?_eq_some_iff.1 h1).1
    obtain ⟨r, hr⟩ := spS_some h1 h2 (l.length - (o + 1))
    rw [show o + 1 + (l.length - (o + 1)) = l.length by omega] at hr
    rw [if_neg hn, hr, ho]
    exact ⟨r ++ [l.drop (spS l b l.length).2], by simp⟩
def strs (p : List (List UInt8)) : List (List V) := p.map fun x => [.c (.string (bs x))]
def strsO (p : List (List UInt8)) : Eng.Obj := ⟨9, 1, true, strs p⟩
theorem strs_snoc (p : List (List UInt8)) (x : List UInt8) : strs p ++ [[V.c (.string (bs x))]] = strs (p ++ [x]) := by simp [strs]
theorem strs_length (p : List (List UInt8)) : (strs p).length = p.length := by simp [strs]
theorem strs_take (p : List (List UInt8)) (n : Nat) : (strs p).take n = strs (p.take n) := by simp [strs]
theorem strs_nil : strs [] = [] := rfl
theorem okS (ty : TypeId) (p : List (List UInt8)) : okObj ⟨ty, 1, true, strs p⟩ = true := by simp [okObj, strs, V.one, V.isC, Value.oneCell']
theorem strs_one (x : List UInt8) : [[V.c (.string (bs x))]] = strs [x] := rfl
/-- A list of texts that grows. -/
def Cs (v : V) (H : Hp) (p : List (List UInt8)) : Prop := (p = [] ∧ v = .s 1040 2 1 0 0 ∧ H 1040 = some (2, strsO [])) ∨ (p ≠ [] ∧ ∃ tk, v = .s 7288 tk 1 0 p.length ∧ H 7288 = some (tk, strsO p))

end Go.Proofs.YtalpgpjhloohfaaDoor.Eng
