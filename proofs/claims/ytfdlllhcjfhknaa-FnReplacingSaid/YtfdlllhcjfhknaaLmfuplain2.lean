/- A deterministic reading of Go code over plain data: what functions of the program compute. No conditions. -/
import Derived.Test.YtfdlllhcjfhknaaLmbase
import Derived.Test.YtfdlllhcjfhknaaLmimpl
import Derived.Test.YtfdlllhcjfhknaaLmnodes
import Derived.Test.YtfdlllhcjfhknaaLmnodep
import Derived.Test.YtfdlllhcjfhknaaLmnodefn
import Derived.Test.YtfdlllhcjfhknaaLmisexpr
import Derived.Test.YtfdlllhcjfhknaaLmput
import Derived.Test.YtfdlllhcjfhknaaLmfused
import Derived.Test.YtfdlllhcjfhknaaLmfuplain
import Derived.Test.YtfdlllhcjfhknaaLmisort
import Derived.Test.YtfdlllhcjfhknaaLmpsort
import Derived.Test.YtfdlllhcjfhknaaLmcompact
import Derived.Test.YtfdlllhcjfhknaaLmfusedi
import Derived.Test.YtfdlllhcjfhknaaEngT
namespace Go.Proofs.Ytfdlllhcjfhknaa.Eng
open Go Go.Proofs
set_option maxRecDepth 100000
set_option maxHeartbeats 2000000
set_option linter.unusedSimpArgs false
set_option linter.unusedVariables false
attribute [local simp] finK fin1 hpOf xi renQ isRoot runCode runOps Eng.step wantedV astep val ofO made loadV storeV find V.cells bin binT binA numT numFs eqCells un1 setAt fieldAddrV fieldV indexAddrV indexV bounds sliceV convV lenV foldV max2V min2V callO bor rdsO wrsO seen_none okD_none loops keepIds resV resultsV St.ev TK.agg refs refsL refsO V.one V.isC Value.oneCell' ren renL renO noTag noTagL noTagR noTagO nodup mapO passV frs psi refsR newD loopNext opsAt idx flatAt rootOf backR newsV appendV copyV clearV strV bytesOf nilCmp buildV fillF chunk
attribute [local simp] cT cF cX cWR cOW cK X ints_length ints_get ints_getElem ints_drop ints_take ints_append ints_nil ints_set
attribute [local simp] ints_replicate
attribute [local simp] putV_some putV_none putH_app applyD_nil applyD_cons seen_app gc_ρ gc_H gc_tick st0_ρ st0_H st0_tick retV callRo callV_if borL_nil borL_cons ints_snoc take_self callWr cutH_app findQ afterV exportV_0 exportV_n okD_nil okD_cons sub_seq0 sub_seq1 sub_cond0 sub_cond1 sub_block sub_loop sub_nil young_far young_none hidW_nil mayW_nil pairs okI ok_0 ok_1 ok_2
attribute [local simp] T3 T4 T5 T9 T22 T24 T29 T36 T73 T75 T86 T89 T103 T104 T106 T108 T109 T114 T134 T136 T157 T161 T168
theorem fold_asc : ∀ (l : List (Int × Int)) (acc : List Int), acc.Pairwise (· < ·) → (l.foldl (fun acc q => if q.1 = 1 then putL acc q.2 else acc) acc).Pairwise (· < ·)
  | [], _, h => h
  | q :: l, acc, h => by
    rw [List.foldl_cons]
    refine fold_asc l _ ?_
    split
    · exact putL_asc acc q.2 h
    · exact h
theorem fold_mem : ∀ (l : List (Int × Int)) (acc : List Int) (x : Int), x ∈ l.foldl (fun acc q => if q.1 = 1 then putL acc q.2 else acc) acc ↔ x ∈ acc ∨ x ∈ usL l
  | [], acc, x => by simp [usL]
  | q :: l, acc, x => by
    rw [List.foldl_cons, fold_mem l]
    by_cases h : q.1 = 1
    · rw [if_pos h, putL_mem]
      have e : usL (q :: l) = q.2 :: usL l := by simp [usL, h]
      rw [e, List.mem_cons, or_assoc]
    · rw [if_neg h]
      have e : usL (q :: l) = usL l := by simp [usL, h]
      rw [e]
theorem fuL_asc (l : List (Int × Int)) : (fuL l).Pairwise (· < ·) := fold_asc l [] List.Pairwise.nil
theorem fuL_mem (l : List (Int × Int)) (x : Int) : x ∈ fuL l ↔ x ∈ usL l := by
  unfold fuL
  rw [fold_mem]
  simp
theorem swp_perm (L : List Int) (j : Nat) (h : j + 1 < L.length) (x : Int) : x ∈ swp L j ↔ x ∈ L := by
  have h0 : j < L.length := by omega
  have a1 : L.getD j 0 = L[j] := getD_at h0
  have a2 : L.getD (j + 1) 0 = L[j + 1] := getD_at h
  unfold swp
  rw [a1, a2]
  have key : ∀ i, ((L.set (j + 1) L[j]).set j L[j + 1])[i]? = if i = j then some L[j + 1] else if i = j + 1 then some L[j] else L[i]? := by
    intro i
    rw [List.getElem?_set, List.getElem?_set]
    by_cases hi : j = i
    · subst hi; simp [h0]
    · have hi' : ¬ i = j := fun e => hi e.symm
      by_cases h2 : j + 1 = i
      · subst h2; simp [h]
      · have h2' : ¬ i = j + 1 := fun e => h2 e.symm
        simp [hi, hi', h2, h2']
  constructor
  · intro hx
    obtain ⟨i, hi⟩ := List.mem_iff_getElem?.1 hx
    rw [key] at hi
    split at hi
    · cases hi; exact List.getElem_mem _
    · split at hi
      · cases hi; exact List.getElem_mem _
      · exact List.mem_of_getElem? hi
  · intro hx
    obtain ⟨i, hi⟩ := List.mem_iff_getElem?.1 hx
    by_cases e1 : i = j
    · subst e1
      refine List.mem_iff_getElem?.2 ⟨i + 1, ?_⟩
      rw [key, if_neg (by omega), if_pos rfl, ← hi, List.getElem?_eq_getElem h0]
    · by_cases e2 : i = j + 1
      · subst e2
        refine List.mem_iff_getElem?.2 ⟨j, ?_⟩
        rw [key, if_pos rfl, ← hi, List.getElem?_eq_getElem h]
      · refine List.mem_iff_getElem?.2 ⟨i, ?_⟩
        rw [key, if_neg e1, if_neg e2, hi]

end Go.Proofs.Ytfdlllhcjfhknaa.Eng
