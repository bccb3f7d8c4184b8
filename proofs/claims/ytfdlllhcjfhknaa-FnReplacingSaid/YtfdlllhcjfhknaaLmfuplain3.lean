/- A deterministic reading of Go code over plain data: what functions of the program compute. No conditions. -/
import Derived.Test.YtfdlllhcjfhknaaLmbase
import Derived.Test.YtfdlllhcjfhknaaLmimpl
import Derived.Test.YtfdlllhcjfhknaaLmnodes
import Derived.Test.YtfdlllhcjfhknaaLmnodep
import Derived.Test.YtfdlllhcjfhknaaLmnodefn
import Derived.Test.YtfdlllhcjfhknaaLmisexpr
import Derived.Test.YtfdlllhcjfhknaaLmput
import Derived.Test.YtfdlllhcjfhknaaLmfused
import Derived.Test.YtfdlllhcjfhknaaLmfuplain
import Derived.Test.YtfdlllhcjfhknaaLmisort
import Derived.Test.YtfdlllhcjfhknaaLmpsort
import Derived.Test.YtfdlllhcjfhknaaLmcompact
import Derived.Test.YtfdlllhcjfhknaaLmfusedi
import Derived.Test.YtfdlllhcjfhknaaLmfuplain2
import Derived.Test.YtfdlllhcjfhknaaEngT
namespace Go.Proofs.Ytfdlllhcjfhknaa.Eng
open Go Go.Proofs
set_option maxRecDepth 100000
set_option maxHeartbeats 2000000
set_option linter.unusedSimpArgs false
set_option linter.unusedVariables false
attribute [local simp] finK fin1 hpOf xi renQ isRoot runCode runOps Eng.step wantedV astep val ofO made loadV storeV find V.cells bin binT binA numT numFs eqCells un1 setAt fieldAddrV fieldV indexAddrV indexV bounds sliceV convV lenV foldV max2V min2V callO bor rdsO wrsO seen_none okD_none loops keepIds resV resultsV St.ev TK.agg refs refsL refsO V.one V.isC Value.oneCell' ren renL renO noTag noTagL noTagR noTagO nodup mapO passV frs psi refsR newD loopNext opsAt idx flatAt rootOf backR newsV appendV copyV clearV strV bytesOf nilCmp buildV fillF chunk
attribute [local simp] cT cF cX cWR cOW cK X ints_length ints_get ints_getElem ints_drop ints_take ints_append ints_nil ints_set
attribute [local simp] ints_replicate
attribute [local simp] putV_some putV_none putH_app applyD_nil applyD_cons seen_app gc_ρ gc_H gc_tick st0_ρ st0_H st0_tick retV callRo callV_if borL_nil borL_cons ints_snoc take_self callWr cutH_app findQ afterV exportV_0 exportV_n okD_nil okD_cons sub_seq0 sub_seq1 sub_cond0 sub_cond1 sub_block sub_loop sub_nil young_far young_none hidW_nil mayW_nil pairs okI ok_0 ok_1 ok_2
attribute [local simp] T3 T4 T5 T9 T22 T24 T29 T36 T73 T75 T86 T89 T103 T104 T106 T108 T109 T114 T134 T136 T157 T161 T168
theorem swp_getD (L : List Int) (j : Nat) (h : j + 1 < L.length) (i : Nat) : (swp L j).getD i 0 = if i = j then L.getD (j + 1) 0 else if i = j + 1 then L.getD j 0 else L.getD i 0 := by
  unfold swp
  simp only [List.getD, List.getElem?_set]
  by_cases hi : j = i
  · subst hi; simp [show j < L.length by omega]
  · have hi' : ¬ i = j := fun e => hi e.symm
    by_cases h2 : j + 1 = i
    · subst h2; simp [h]
    · have h2' : ¬ i = j + 1 := fun e => h2 e.symm
      simp [hi, hi', h2, h2']
def UpTo (L : List Int) (m : Nat) : Prop := ∀ i, i + 1 ≤ m → L.getD i 0 ≤ L.getD (i + 1) 0
def Hole (L : List Int) (j m : Nat) : Prop := (∀ i, i + 1 < j → L.getD i 0 ≤ L.getD (i + 1) 0) ∧ (∀ i, j ≤ i → i + 1 ≤ m → L.getD i 0 ≤ L.getD (i + 1) 0) ∧ (1 ≤ j → j + 1 ≤ m → L.getD (j - 1) 0 ≤ L.getD (j + 1) 0)
theorem sink_up (m : Nat) : ∀ (j : Nat) (L : List Int), Hole L j m → j ≤ m → m < L.length → UpTo (sink L j) m
  | 0, L, ⟨_, h2, _⟩, _, _ => fun i hi => h2 i (by omega) hi
  | j + 1, L, ⟨h1, h2, h3⟩, hj, hm => by
    rw [show sink L (j + 1) = if L.getD (j + 1) 0 < L.getD j 0 then sink (swp L j) j else L from rfl]
    by_cases hlt : L.getD (j + 1) 0 < L.getD j 0
    · rw [if_pos hlt]
      have g := swp_getD L j (by omega)
      refine sink_up m j (swp L j) ⟨fun i hi => ?_, fun i hi hi2 => ?_, fun hj1 hj2 => ?_⟩ (by omega) (by rw [swp_len]; exact hm)
      · rw [g, g, if_neg (by omega), if_neg (by omega), if_neg (by omega), if_neg (by omega)]
        exact h1 i (by omega)
      · by_cases e1 : i = j
        · subst e1
          rw [g, g, if_pos rfl, if_neg (by omega), if_pos rfl]
          omega
        · by_cases e2 : i = j + 1
          · subst e2
            rw [g, g, if_neg (by omega), if_pos rfl, if_neg (by omega), if_neg (by omega)]
            exact h3 (by omega) (by omega)
          · rw [g, g, if_neg (by omega), if_neg (by omega), if_neg (by omega), if_neg (by omega)]
            exact h2 i (by omega) hi2
      · rw [g, g, if_neg (by omega), if_neg (by omega), if_neg (by omega), if_pos rfl]
        have := h1 (j - 1) (by omega)
        rwa [show j - 1 + 1 = j by omega] at this
    · rw [if_neg hlt]
      intro i hi
      by_cases e1 : i < j
      · exact h1 i (by omega)
      · by_cases e2 : i = j
        · subst e2; omega
        · exact h2 i (by omega) hi
theorem sortN_up (l : List Int) : ∀ m, m < l.length → UpTo (sortN l m) m
  | 0, _ => fun i hi => by omega
  | m + 1, h => by
    have ih := sortN_up l m (by omega)
    refine sink_up (m + 1) (m + 1) (sortN l m) ⟨fun i hi => ih i (by omega), fun i h1 h2 => by omega, fun _ h2 => by omega⟩ (Nat.le_refl _) (by rw [sortN_len]; exact h)
theorem sink_mem : ∀ (j : Nat) (L : List Int), j < L.length → ∀ x, x ∈ sink L j ↔ x ∈ L
  | 0, _, _, _ => Iff.rfl
  | j + 1, L, h, x => by
    rw [show sink L (j + 1) = if L.getD (j + 1) 0 < L.getD j 0 then sink (swp L j) j else L from rfl]
    split
    · rw [sink_mem j (swp L j) (by rw [swp_len]; omega), swp_perm L j h]
    · exact Iff.rfl
theorem sortN_mem (l : List Int) : ∀ m, m < l.length → ∀ x, x ∈ sortN l m ↔ x ∈ l
  | 0, _, _ => Iff.rfl
  | m + 1, h, x => by
    show x ∈ sink (sortN l m) (m + 1) ↔ _
    rw [sink_mem (m + 1) _ (by rw [sortN_len]; exact h), sortN_mem l m (by omega)]
theorem comp_facts (l : List Int) (hs : UpTo l (l.length - 1)) : ∀ a, a + 1 ≤ l.length → (compN l (a + 1)).Pairwise (· < ·) ∧ (∀ x ∈ compN l (a + 1), x ≤ l.getD a 0) ∧ ∀ x, x ∈ compN l (a + 1) ↔ x ∈ l.take (a + 1)
  | 0, h => by
    cases l with
    | nil => simp at h
    | cons b r => simp [compN]
  | a + 1, h => by
    obtain ⟨h1, h2, h3⟩ := comp_facts l hs a (by omega)
    have hu := hs a (by omega)
    have ha : a + 1 < l.length := by omega
    have e1 : l.getD (a + 1) 0 = l[a + 1] := getD_at ha
    have e0 : l.getD a 0 = l[a] := getD_at (by omega)
    have ht : l.take (a + 2) = l.take (a + 1) ++ [l[a + 1]] := List.take_succ_eq_append_getElem ha
    rw [compN_step]
    by_cases he : l.getD (a + 1) 0 = l.getD a 0
    · rw [if_pos he]
      refine ⟨h1, fun x hx => by rw [he]; exact h2 x hx, fun x => ?_⟩
      rw [h3, ht, List.mem_append, List.mem_singleton]
      constructor
      · exact .inl
      · rintro (hx | hx)
        · exact hx
        · rw [hx, ← e1, he, e0]
          exact List.mem_take_iff_getElem.2 ⟨a, by omega, rfl⟩
    · rw [if_neg he]
      refine ⟨?_, fun x hx => ?_, fun x => ?_⟩
      · rw [List.pairwise_append]
        refine ⟨h1, by simp, fun x hx y hy => ?_⟩
        have := h2 x hx
        have hy := List.mem_singleton.1 hy
        omega
      · rcases List.mem_append.1 hx with hx | hx
        · have := h2 x hx; omega
        · have hx := List.mem_singleton.1 hx
          omega
      · rw [ht, List.mem_append, List.mem_append, h3, e1]
theorem fu_same (l : List (Int × Int)) : compN (sortN (usL l) ((usL l).length - 1)) (usL l).length = fuL l := by
  by_cases h : usL l = []
  · rw [h]
    have : fuL l = [] := by
      cases hf : fuL l with
      | nil => rfl
      | cons a r => have := (fuL_mem l a).1 (by rw [hf]; simp); rw [h] at this; simp at this
    rw [this]
    rfl
  · have hp : 0 < (usL l).length := List.length_pos_iff.2 h
    have hlen := sortN_len (usL l) ((usL l).length - 1)
    have hup := sortN_up (usL l) ((usL l).length - 1) (by omega)
    have hmem := sortN_mem (usL l) ((usL l).length - 1) (by omega)
    obtain ⟨B, hB⟩ : ∃ B, sortN (usL l) ((usL l).length - 1) = B := ⟨_, rfl⟩
    rw [hB] at hlen hup hmem ⊢
    rw [← hlen] at hup ⊢
    obtain ⟨f1, f2, f3⟩ := comp_facts B hup (B.length - 1) (by omega)
    rw [show B.length - 1 + 1 = B.length by omega, List.take_length] at f3
    rw [show B.length - 1 + 1 = B.length by omega] at f1
    refine asc_ext _ _ f1 (fuL_asc l) fun x => ?_
    rw [f3, hmem, fuL_mem]

end Go.Proofs.Ytfdlllhcjfhknaa.Eng
