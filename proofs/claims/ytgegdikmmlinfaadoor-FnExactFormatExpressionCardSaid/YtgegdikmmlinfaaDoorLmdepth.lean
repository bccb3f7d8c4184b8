/- A deterministic reading of Go code over plain data: what functions of the program compute. No conditions. -/
import Derived.Test.YtgegdikmmlinfaaDoorLmbase
import Derived.Test.YtgegdikmmlinfaaDoorLmimpl
import Derived.Test.YtgegdikmmlinfaaDoorLmgood
import Derived.Test.YtgegdikmmlinfaaDoorLmminmax
import Derived.Test.YtgegdikmmlinfaaDoorLmnodes
import Derived.Test.YtgegdikmmlinfaaDoorLmnodep
import Derived.Test.YtgegdikmmlinfaaDoorLmnodefn
import Derived.Test.YtgegdikmmlinfaaDoorLmisexpr
import Derived.Test.YtgegdikmmlinfaaDoorEngT
namespace Go.Proofs.YtgegdikmmlinfaaDoor.Eng
open Go Go.Proofs
set_option maxRecDepth 100000
set_option maxHeartbeats 2000000
set_option linter.unusedSimpArgs false
set_option linter.unusedVariables false
attribute [local simp] finK fin1 hpOf xi renQ isRoot runCode runOps Eng.step wantedV astep val ofO made loadV storeV find V.cells bin binT binA numT numFs eqCells un1 setAt fieldAddrV fieldV indexAddrV indexV bounds sliceV convV lenV foldV max2V min2V callO bor rdsO wrsO seen_none okD_none loops keepIds resV resultsV St.ev TK.agg refs refsL refsO V.one V.isC Value.oneCell' ren renL renO noTag noTagL noTagR noTagO nodup mapO passV frs psi refsR newD loopNext opsAt idx flatAt rootOf backR newsV appendV copyV clearV strV bytesOf nilCmp buildV fillF chunk
attribute [local simp] cT cF cX cWR cOW cK X ints_length ints_get ints_getElem ints_drop ints_take ints_append ints_nil ints_set
attribute [local simp] ints_replicate
attribute [local simp] putV_some putV_none putH_app applyD_nil applyD_cons seen_app gc_ρ gc_H gc_tick st0_ρ st0_H st0_tick retV callRo callV_if borL_nil borL_cons ints_snoc take_self callWr cutH_app findQ afterV exportV_0 exportV_n okD_nil okD_cons sub_seq0 sub_seq1 sub_cond0 sub_cond1 sub_block sub_loop sub_nil young_far young_none hidW_nil mayW_nil pairs okI ok_0 ok_1 ok_2
attribute [local simp] T3 T4 T9 T22 T26 T33 T35 T42 T43
theorem c_l5Start (b : Bool) (l : List (Int × Int)) (h15 : l.length ≤ 15) : ∀ (i : Nat), i < l.length → 0 ≤ runO l (i + 1) → ∀ k, i + 10 ≤ k → ∀ a d s, stk l (i + 1) = (a, d) :: s →
    callK C k 17 [.sq b true 2 (ndL l), .c (.int .i64 (i : Int))] [] = some (.c (.int .i64 (a : Int)), hpOf [] []) := by
  intro i
  induction i using Nat.strongRecOn with
  | _ i ih =>
    intro hi h k hk a d s hs
    obtain ⟨k, rfl⟩ : ∃ m, k = m + 1 := ⟨k - 1, by omega⟩
    rw [callK_fn rfl F17 code17]
    obtain ⟨h1, h2, h3, h4⟩ := runO_back h
    have ha := c_l5Arity k (l[i]) (by omega)
    have hg := getD_nd hi
    have hn := ndL_get l i hi
    have hw : IntKind.i64.wrap ((i : Int) - 1) = (i : Int) - 1 := wrap_small (by omega) (by omega)
    simp [ndE] at ha
    rcases ar_cases (l.getD i (0, 0)) with e | e | e | e <;> (have e' := e; rw [hg] at e'; rw [e'] at ha)
    · rw [stk_0 e] at hs
      injection hs with hs1 hs2
      injection hs1 with hs1 hs3
      subst hs1
      simp [R17_0, R17_1, R17_2, R17_3, R17_4, R17_5, R17_6, Tryd.f17, ndL_length, hi, hn, ndL_at, ndE, ha]
    · obtain ⟨j, rfl⟩ : ∃ j, i = j + 1 := by
        cases i with
        | zero => rw [e] at h3; exact absurd h3 (by simp [runO])
        | succ j => exact ⟨j, rfl⟩
      have hj0 : (0 : Int) ≤ (j : Int) + 1 := by omega
      obtain ⟨a', d', ha', hs'⟩ := stk_top j h1
      rw [stk_1 e hs'] at hs
      injection hs with hs1 hs2
      injection hs1 with hs1 hs3
      subst hs1
      have hrec := ih j (by omega) (by omega) h1 k (by omega) a' d' _ hs'
      have hw' : IntKind.i64.wrap (j : Int) = (j : Int) := wrap_small (by omega) (by omega)
      try simp at hn
      try simp at ha
      try simp at hi
      simp [R17_0, R17_1, R17_2, R17_3, R17_4, R17_5, R17_6, Tryd.f17, ndL_length, hi, hn, ndL_at, ndE, ha, hj0, hw', hrec]
    · obtain ⟨j, rfl⟩ : ∃ j, i = j + 1 := by
        cases i with
        | zero => rw [e] at h3; exact absurd h3 (by simp [runO])
        | succ j => exact ⟨j, rfl⟩
      have hj0 : (0 : Int) ≤ (j : Int) + 1 := by omega
      obtain ⟨a2, d2, ha2, hs'⟩ := stk_top j h1
      have hl := stk_len (j + 1) h1
      have ha0 : 0 ≤ runO l a2 := runO_mono h1 (j + 1 - a2) a2 (by omega)
      have hla := stk_len a2 ha0
      rw [hs'] at hl
      simp only [List.length_cons] at hl
      obtain ⟨c, rfl⟩ : ∃ c, a2 = c + 1 := by
        cases a2 with
        | zero => simp only [stk, List.length_nil] at hl; omega
        | succ c => exact ⟨c, rfl⟩
      obtain ⟨a1, d1, ha1, hs1⟩ := stk_top c ha0
      rw [stk_2 e (by rw [hs', hs1])] at hs
      injection hs with hs2 hs3
      injection hs2 with hs2 hs4
      subst hs2
      have hrec1 := ih j (by omega) (by omega) h1 k (by omega) (c + 1) d2 _ hs'
      have hrec2 := ih c (by omega) (by omega) ha0 k (by omega) a1 d1 _ hs1
      have hw' : IntKind.i64.wrap (j : Int) = (j : Int) := wrap_small (by omega) (by omega)
      have hw2 : IntKind.i64.wrap (c : Int) = (c : Int) := wrap_small (by omega) (by omega)
      try simp at hn
      try simp at ha
      try simp at hi
      try simp at hrec1
      simp [R17_0, R17_1, R17_2, R17_3, R17_4, R17_5, R17_6, Tryd.f17, ndL_length, hi, hn, ndL_at, ndE, ha, hj0, hw', hw2, hrec1, hrec2]
    · omega

end Go.Proofs.YtgegdikmmlinfaaDoor.Eng
