/- A deterministic reading of Go code over plain data: what functions of the program compute. No conditions. -/
import Derived.Test.YtalpgpjhloohfaaDoorLmbase
import Derived.Test.YtalpgpjhloohfaaDoorEngT
namespace Go.Proofs.YtalpgpjhloohfaaDoor.Eng
open Go Go.Proofs
set_option maxRecDepth 100000
set_option maxHeartbeats 2000000
set_option linter.unusedSimpArgs false
set_option linter.unusedVariables false
attribute [local simp] finK fin1 hpOf xi renQ isRoot runCode runOps Eng.step wantedV astep val ofO made loadV storeV find V.cells bin binT binA numT numFs eqCells un1 setAt fieldAddrV fieldV indexAddrV indexV bounds sliceV convV lenV foldV max2V min2V callO bor rdsO wrsO seen_none okD_none loops keepIds resV resultsV St.ev TK.agg refs refsL refsO V.one V.isC Value.oneCell' ren renL renO noTag noTagL noTagR noTagO nodup mapO passV frs psi refsR newD loopNext opsAt idx flatAt rootOf backR newsV appendV copyV clearV strV bytesV bldV bufV selfV bytesOf nilCmp buildV fillF chunk
attribute [local simp] cT cF cX cWR cOW cK cBL X ints_length ints_get ints_getElem ints_drop ints_take ints_append ints_nil ints_set
attribute [local simp] ints_replicate
attribute [local simp] putV_some putV_none putH_app applyD_nil applyD_cons seen_app gc_ρ gc_H gc_tick st0_ρ st0_H st0_tick retV callRo callV_if borL_nil borL_cons ints_snoc take_self callWr cutH_app findQ afterV exportV_0 exportV_n okD_nil okD_cons sub_seq0 sub_seq1 sub_cond0 sub_cond1 sub_block sub_loop sub_nil young_far young_none hidW_nil mayW_nil pairs okI ok_0 ok_1 ok_2
attribute [local simp] T3 T4 T9 T22 T24 T28 T55 T70
theorem c_l1In (k : Nat) (x a b : Int) (hk : 1 ≤ k) : callK C k 47 [.c (.int .i64 x), .c (.int .i64 a), .c (.int .i64 b)] [] = some (.c (.bool (decide (a ≤ x) && decide (x ≤ b))), hpOf [] []) := by
  obtain ⟨k, rfl⟩ : ∃ m, k = m + 1 := ⟨k - 1, by omega⟩
  rw [callK_fn rfl F47 code47]
  by_cases h : a ≤ x <;> simp [R47_0, R47_1, Tryd.f47, h]
theorem c_l2Value (k : Nat) (x : Int) (hk : 2 ≤ k) : callK C k 70 [.c (.int .i64 x)] [] = some (.c (.bool (cellB x)), hpOf [] []) := by
  obtain ⟨k, rfl⟩ : ∃ m, k = m + 2 := ⟨k - 2, by omega⟩
  rw [callK_fn rfl F70 code70]
  cases h : x == -9999 <;> simp [R70_0, R70_1, Tryd.f70, h, cellB, c_l1In]
theorem c_l2Shape (k : Nat) (x y : Int) (hk : 2 ≤ k) : callK C k 77 [.c (.int .i64 x), .c (.int .i64 y)] [] = some (.c (.bool (shapeB x y)), hpOf [] []) := by
  obtain ⟨k, rfl⟩ : ∃ m, k = m + 2 := ⟨k - 2, by omega⟩
  rw [callK_fn rfl F77 code77]
  unfold shapeB
  cases h : (decide (1 ≤ x) && decide (x ≤ 8)) <;> simp [R77_0, R77_1, Tryd.f77, h, c_l1In]
theorem c_l2Good (k : Nat) (b : Bool) (w h : Int) (l : List Int) (hk : 100 ≤ k) : callK C k 37 [fldV b w h l] [] = some (.c (.bool (goodB w h l)), hpOf [] []) := by
  obtain ⟨k, rfl⟩ : ∃ m, k = m + 3 := ⟨k - 3, by omega⟩
  rw [callK_fn rfl F37 code37]
  cases h1 : shapeB w h
  · simp [R37_0, R37_1, R37_2, R37_3, R37_4, R37_5, R37_6, R37_7, R37_8, Tryd.f37, lpL37_0, lpM37_0, M37_0, c_l2Shape, fldV, goodB, h1]
  obtain ⟨hp0, hp, _⟩ := shape_area h1
  have hw : IntKind.i64.wrap (w * h) = w * h := wrap_small (by omega) (by omega)
  by_cases h2 : (l.length : Int) = w * h
  · simp only [fldV, goodB, h1, h2]
    have hc := fun x => c_l2Value (k + 2) x (by omega)
    cases hall : l.all cellB
    · obtain ⟨out, ho⟩ := loopOut (body := fun st => runCode C (callK C (k + 2)) (k + 2) (K 37) L37_0 1 st) (keep := [1, 3]) .ret (fun st => st.ρ 2 = .c (.bool false))
        (fun i st => st.ρ 1 = .p 16 1 3 0 0 ∧ st.H 16 = some (1, ⟨28, 3, false, [[.c (.int .i64 w), .c (.int .i64 h), .sq b true 1 (ints l)]]⟩) ∧ st.ρ 3 = .c (.int .i64 (i : Int)) ∧ (l.take i).all cellB = true)
        l.length (k + 2) (by omega)
        (by
          rintro i st next hi ⟨h1, hH, h3, ht⟩ hn
          cases hx : cellB l[i]
          · simp [L37_0, R37_0, R37_1, R37_2, R37_3, R37_4, R37_5, R37_6, R37_7, R37_8, Tryd.f37, lpL37_0, lpM37_0, M37_0, h1, hH, h3, hi, hc, hx]
          · have ht' : (l.take (i + 1)).all cellB = true := by rw [List.take_succ_eq_append_getElem hi, List.all_append, ht]; simp [hx]
            simp [L37_0, R37_0, R37_1, R37_2, R37_3, R37_4, R37_5, R37_6, R37_7, R37_8, Tryd.f37, lpL37_0, lpM37_0, M37_0, h1, hH, h3, hi, hc, hx, wrap_next hi (by omega : l.length ≤ 9000000000000000000)]
            exact hn _ (by simp [h1, hH]; simpa using ht'))
        (by
          rintro st next ⟨h1, hH, h3, ht⟩
          rw [List.take_of_length_le (Nat.le_refl _), hall] at ht
          cases ht)
      simp at ho
      simp [R37_0, R37_1, R37_2, R37_3, R37_4, R37_5, R37_6, R37_7, R37_8, Tryd.f37, lpL37_0, lpM37_0, M37_0, c_l2Shape, h1, hw, h2, ho]
    · obtain ⟨out, ho⟩ := loopOut (body := fun st => runCode C (callK C (k + 2)) (k + 2) (K 37) L37_0 1 st) (keep := [1, 3]) (.ex 0) (fun st => st.tick = st.tick)
        (fun i st => st.ρ 1 = .p 16 1 3 0 0 ∧ st.H 16 = some (1, ⟨28, 3, false, [[.c (.int .i64 w), .c (.int .i64 h), .sq b true 1 (ints l)]]⟩) ∧ st.ρ 3 = .c (.int .i64 (i : Int)))
        l.length (k + 2) (by omega)
        (by
          rintro i st next hi ⟨h1, hH, h3⟩ hn
          have hx : cellB l[i] = true := List.all_eq_true.1 hall _ (List.getElem_mem hi)
          simp [L37_0, R37_0, R37_1, R37_2, R37_3, R37_4, R37_5, R37_6, R37_7, R37_8, Tryd.f37, lpL37_0, lpM37_0, M37_0, h1, hH, h3, hi, hc, hx, wrap_next hi (by omega : l.length ≤ 9000000000000000000)]
          simp only [and_true] at hn
          exact hn _ (by simp [h1, hH]))
        (by
          rintro st next ⟨h1, hH, h3⟩
          simp [L37_0, R37_0, R37_1, R37_2, R37_3, R37_4, R37_5, R37_6, R37_7, R37_8, Tryd.f37, lpL37_0, lpM37_0, M37_0, h1, hH, h3])
      simp at ho
      simp [R37_0, R37_1, R37_2, R37_3, R37_4, R37_5, R37_6, R37_7, R37_8, Tryd.f37, lpL37_0, lpM37_0, M37_0, c_l2Shape, h1, hw, h2, ho]
  · have h2' : ((l.length : Int) == w * h) = false := by simpa using h2
    simp [R37_0, R37_1, R37_2, R37_3, R37_4, R37_5, R37_6, R37_7, R37_8, Tryd.f37, lpL37_0, lpM37_0, M37_0, c_l2Shape, fldV, goodB, h1, hw, h2, h2']

end Go.Proofs.YtalpgpjhloohfaaDoor.Eng
