/- A deterministic reading of Go code over plain data: what functions of the program compute. No conditions. -/
import Derived.Test.YtfdlllhcjfhknaaLmbase
import Derived.Test.YtfdlllhcjfhknaaLmimpl
import Derived.Test.YtfdlllhcjfhknaaLmnodes
import Derived.Test.YtfdlllhcjfhknaaLmnodep
import Derived.Test.YtfdlllhcjfhknaaLmnodefn
import Derived.Test.YtfdlllhcjfhknaaLmisexpr
import Derived.Test.YtfdlllhcjfhknaaLmput
import Derived.Test.YtfdlllhcjfhknaaLmfused
import Derived.Test.YtfdlllhcjfhknaaLmfuplain
import Derived.Test.YtfdlllhcjfhknaaLmisort
import Derived.Test.YtfdlllhcjfhknaaLmpsort
import Derived.Test.YtfdlllhcjfhknaaLmcompact
import Derived.Test.YtfdlllhcjfhknaaLmfusedi
import Derived.Test.YtfdlllhcjfhknaaLmfuplain2
import Derived.Test.YtfdlllhcjfhknaaEngT
namespace Go.Proofs.Ytfdlllhcjfhknaa.Eng
open Go Go.Proofs
set_option maxRecDepth 100000
set_option maxHeartbeats 2000000
set_option linter.unusedSimpArgs false
set_option linter.unusedVariables false
attribute [local simp] finK fin1 hpOf xi renQ isRoot runCode runOps Eng.step wantedV astep val ofO made loadV storeV find V.cells bin binT un1 setAt fieldAddrV fieldV indexAddrV indexV bounds sliceV convV lenV foldV max2V min2V callO bor rdsO wrsO seen_none okD_none loops keepIds resV resultsV St.ev TK.agg refs refsL refsO V.one V.isC Value.oneCell' ren renL renO noTag noTagL noTagR noTagO nodup mapO passV frs psi refsR newD loopNext opsAt idx flatAt rootOf backR newsV appendV copyV clearV strV bytesOf nilCmp buildV fillF chunk
attribute [local simp] cT cF cX cWR cOW cK X ints_length ints_get ints_getElem ints_drop ints_take ints_append ints_nil ints_set
attribute [local simp] ints_replicate
attribute [local simp] putV_some putV_none putH_app applyD_nil applyD_cons seen_app gc_ρ gc_H gc_tick st0_ρ st0_H st0_tick retV callRo callV_if borL_nil borL_cons ints_snoc take_self callWr cutH_app findQ afterV exportV_0 exportV_n okD_nil okD_cons sub_seq0 sub_seq1 sub_cond0 sub_cond1 sub_block sub_loop sub_nil young_far young_none hidW_nil mayW_nil pairs okI ok_0 ok_1 ok_2
attribute [local simp] T3 T4 T5 T9 T22 T24 T29 T36 T73 T75 T86 T89 T103 T104 T106 T108 T109 T114 T134 T136 T157 T161 T168
theorem swp_getD (L : List Int) (j : Nat) (h : j + 1 < L.length) (i : Nat) : (swp L j).getD i 0 = if i = j then L.getD (j + 1) 0 else if i = j + 1 then L.getD j 0 else L.getD i 0 := by
  unfold swp
  simp only [List.getD, List.getElem?_set]
  by_cases hi : j = i
  · subst hi; simp [show j < L.length by omega]
  · have hi' : ¬ i = j := fun e => hi e.symm
    by_cases h2 : j + 1 = i
    · subst h2; simp [h]
    · have h2' : ¬ i = j + 1 := fun e => h2 e.symm
      simp [hi, hi', h2, h2']
def UpTo (L : List Int) (m : Nat) : Prop := ∀ i, i + 1 ≤ m → L.getD i 0 ≤ L.getD (i + 1) 0
def Hole (L : List Int) (j m : Nat) : Prop := (∀ i, i + 1 < j → L.getD i 0 ≤ L.getD (i + 1) 0) ∧ (∀ i, j ≤ i → i + 1 ≤ m → L.getD i 0 ≤ L.getD (i + 1) 0) ∧ (1 ≤ j → j + 1 ≤ m → L.getD (j - 1) 0 ≤ L.getD (j + 1) 0)
theorem sink_up (m : Nat) : ∀ (j : Nat) (L : List Int), Hole L j m → j ≤ m → m < L.length → UpTo (sink L j) m
  | 0, L, ⟨_, h2, _⟩, _, _ => fun i hi => h2 i (by omega) hi
  | j + 1, L, ⟨h1, h2, h3⟩, hj, hm => by
    rw [show sink L (j + 1) = if L.getD (j + 1) 0 < L.getD j 0 then sink (swp L j) j else L from rfl]
    by_cases hlt : L.getD (j + 1) 0 < L.getD j 0
    · rw [if_pos hlt]
      have g := swp_getD L j (by omega)
      refine sink_up m j (swp L j) ⟨fun i hi => ?_, fun i hi hi2 => ?_, fun hj1 hj2 => ?_⟩ (by omega) (by rw [swp_len]; exact hm)
      · rw [g, g, if_neg (by omega), if_neg (by omega), if_neg (by omega), if_neg (by omega)]
        exact h1 i (by omega)
      · by_cases e1 : i = j
        · subst e1
          rw [g, g, if_pos rfl, if_neg (by omega), if_pos rfl]
          omega
        · by_cases e2 : i = j + 1
          · subst e2
            rw [g, g, if_neg (by omega), if_pos rfl, if_neg (by omega), if_neg (by omega)]
            exact h3 (by omega) (by omega)
          · rw [g, g, if_neg (by omega), if_neg (by omega), if_neg (by omega), if_neg (by omega)]
            exact h2 i (by omega) hi2
      · rw [g, g, if_neg (by omega), if_neg (by omega), if_neg (by omega), if_pos rfl]
        have := h1 (j - 1) (by omega)
        rwa [show j - 1 + 1 = j by omega] at this
    · rw [if_neg hlt]
      intro i hi
      by_cases e1 : i < j
      · exact h1 i (by omega)
      · by_cases e2 : i = j
        · subst e2; omega
        · exact h2 i (by omega) hi
theorem sortN_up (l : List Int) : ∀ m, m < l.length → UpTo (sortN l m) m
  | 0, _ => fun i hi => by omega
  | m + 1, h => by
    have ih := sortN_up l m (by omega)
    refine sink_up (m + 1) (m + 1) (sortN l m) ⟨fun i hi => ih i (by omega), fun i h1 h2 => by omega, fun _ h2 => by omega⟩ (Nat.le_refl _) (by rw [sortN_len]; exact h)

end Go.Proofs.Ytfdlllhcjfhknaa.Eng
