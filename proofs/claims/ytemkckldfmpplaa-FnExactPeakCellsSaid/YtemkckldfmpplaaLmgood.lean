/- A deterministic reading of Go code over plain data: what functions of the program compute. No conditions. -/
import Derived.Test.YtemkckldfmpplaaLmbase
import Derived.Test.YtemkckldfmpplaaEngT
namespace Go.Proofs.Ytemkckldfmpplaa.Eng
open Go Go.Proofs
set_option maxRecDepth 100000
set_option maxHeartbeats 2000000
set_option linter.unusedSimpArgs false
set_option linter.unusedVariables false
attribute [local simp] finK fin1 hpOf xi renQ isRoot runCode runOps stepX inlOf Eng.step wantedV astep val ofO made loadV storeV find V.cells bin binT binA numT numFs eqCells un1 setAt fieldAddrV fieldV indexAddrV indexV bounds sliceV convV lenV foldV max2V min2V callO bor rdsO wrsO seen_none okD_none loops keepIds resV resultsV St.ev TK.agg refs refsL refsO V.one V.isC Value.oneCell' ren renL renO noTag noTagL noTagR noTagO nodup mapO passV frs psi refsR newD loopNext opsAt idx flatAt rootOf backR newsV appendV copyV clearV strV bytesV bldV bufV selfV bytesOf nilCmp buildV fillF chunk
attribute [local simp] cT cF cX cWR cOW cK cBL X ints_length ints_get ints_getElem ints_drop ints_take ints_append ints_nil ints_set
attribute [local simp] ints_replicate
attribute [local simp] putV_some putV_none putH_app applyD_nil applyD_cons seen_app gc_ρ gc_H gc_tick st0_ρ st0_H st0_tick retV callRo callV_if borL_nil borL_cons ints_snoc take_self callWr cutH_app findQ afterV exportV_0 exportV_n okD_nil okD_cons sub_seq0 sub_seq1 sub_cond0 sub_cond1 sub_block sub_loop sub_nil young_far young_none hidW_nil mayW_nil pairs okI ok_0 ok_1 ok_2
attribute [local simp] T3 T4 T22 T24 T26 T29 T44
theorem c_l1In (k : Nat) (x a b : Int) (hk : 1 ≤ k) : callK C k 15 [.c (.int .i64 x), .c (.int .i64 a), .c (.int .i64 b)] [] = some (.c (.bool (decide (a ≤ x) && decide (x ≤ b))), hpOf [] []) := by
  obtain ⟨k, rfl⟩ : ∃ m, k = m + 1 := ⟨k - 1, by omega⟩
  rw [callK_fn rfl F15 code15]
  by_cases h : a ≤ x <;> simp [R15_0, R15_1, Try.f15, h]
theorem c_l2Value (k : Nat) (x : Int) (hk : 2 ≤ k) : callK C k 26 [.c (.int .i64 x)] [] = some (.c (.bool (cellB x)), hpOf [] []) := by
  obtain ⟨k, rfl⟩ : ∃ m, k = m + 2 := ⟨k - 2, by omega⟩
  rw [callK_fn rfl F26 code26]
  cases h : x == -9999 <;> simp [R26_0, R26_1, Try.f26, h, cellB, c_l1In]
theorem c_l2Shape (k : Nat) (x y : Int) (hk : 2 ≤ k) : callK C k 25 [.c (.int .i64 x), .c (.int .i64 y)] [] = some (.c (.bool (shapeB x y)), hpOf [] []) := by
  obtain ⟨k, rfl⟩ : ∃ m, k = m + 2 := ⟨k - 2, by omega⟩
  rw [callK_fn rfl F25 code25]
  unfold shapeB
  cases h : (decide (1 ≤ x) && decide (x ≤ 8)) <;> simp [R25_0, R25_1, Try.f25, h, c_l1In]
theorem c_l2Good (k : Nat) (b : Bool) (w h : Int) (l : List Int) (hk : 100 ≤ k) : callK C k 14 [fldV b w h l] [] = some (.c (.bool (goodB w h l)), hpOf [] []) := by
  obtain ⟨k, rfl⟩ : ∃ m, k = m + 3 := ⟨k - 3, by omega⟩
  rw [callK_fn rfl F14 code14]
  cases h1 : shapeB w h
  · simp [R14_0, R14_1, R14_2, R14_3, R14_4, R14_5, R14_6, R14_7, R14_8, Try.f14, lpL14_0, lpM14_0, M14_0, c_l2Shape, fldV, goodB, h1]
  obtain ⟨hp0, hp, _⟩ := shape_area h1
  have hw : IntKind.i64.wrap (w * h) = w * h := wrap_small (by omega) (by omega)
  by_cases h2 : (l.length : Int) = w * h
  · simp only [fldV, goodB, h1, h2]
    have hc := fun x => c_l2Value (k + 2) x (by omega)
    cases hall : l.all cellB
    · obtain ⟨out, ho⟩ := loopOut (body := fun st => runCode C (callK C (k + 2)) (k + 2) (K 14) L14_0 1 st) (keep := [1, 3]) .ret (fun st => st.ρ 2 = .c (.bool false))
        (fun i st => st.ρ 1 = .p 16 1 3 0 0 ∧ st.H 16 = some (1, ⟨29, 3, false, [[.c (.int .i64 w), .c (.int .i64 h), .sq b true 1 (ints l)]]⟩) ∧ st.ρ 3 = .c (.int .i64 (i : Int)) ∧ (l.take i).all cellB = true)
        l.length (k + 2) (by omega)
        (by
          rintro i st next hi ⟨h1, hH, h3, ht⟩ hn
          cases hx : cellB l[i]
          · simp [L14_0, R14_0, R14_1, R14_2, R14_3, R14_4, R14_5, R14_6, R14_7, R14_8, Try.f14, lpL14_0, lpM14_0, M14_0, h1, hH, h3, hi, hc, hx]
          · have ht' : (l.take (i + 1)).all cellB = true := by rw [List.take_succ_eq_append_getElem hi, List.all_append, ht]; simp [hx]
            simp [L14_0, R14_0, R14_1, R14_2, R14_3, R14_4, R14_5, R14_6, R14_7, R14_8, Try.f14, lpL14_0, lpM14_0, M14_0, h1, hH, h3, hi, hc, hx, wrap_next hi (by omega : l.length ≤ 9000000000000000000)]
            exact hn _ (by simp [h1, hH]; simpa using ht'))
        (by
          rintro st next ⟨h1, hH, h3, ht⟩
          rw [List.take_of_length_le (Nat.le_refl _), hall] at ht
          cases ht)
      simp at ho
      simp [R14_0, R14_1, R14_2, R14_3, R14_4, R14_5, R14_6, R14_7, R14_8, Try.f14, lpL14_0, lpM14_0, M14_0, c_l2Shape, h1, hw, h2, ho]
    · obtain ⟨out, ho⟩ := loopOut (body := fun st => runCode C (callK C (k + 2)) (k + 2) (K 14) L14_0 1 st) (keep := [1, 3]) (.ex 0) (fun st => st.tick = st.tick)
        (fun i st => st.ρ 1 = .p 16 1 3 0 0 ∧ st.H 16 = some (1, ⟨29, 3, false, [[.c (.int .i64 w), .c (.int .i64 h), .sq b true 1 (ints l)]]⟩) ∧ st.ρ 3 = .c (.int .i64 (i : Int)))
        l.length (k + 2) (by omega)
        (by
          rintro i st next hi ⟨h1, hH, h3⟩ hn
          have hx : cellB l[i] = true := List.all_eq_true.1 hall _ (List.getElem_mem hi)
          simp [L14_0, R14_0, R14_1, R14_2, R14_3, R14_4, R14_5, R14_6, R14_7, R14_8, Try.f14, lpL14_0, lpM14_0, M14_0, h1, hH, h3, hi, hc, hx, wrap_next hi (by omega : l.length ≤ 9000000000000000000)]
          simp only [and_true] at hn
          exact hn _ (by simp [h1, hH]))
        (by
          rintro st next ⟨h1, hH, h3⟩
          simp [L14_0, R14_0, R14_1, R14_2, R14_3, R14_4, R14_5, R14_6, R14_7, R14_8, Try.f14, lpL14_0, lpM14_0, M14_0, h1, hH, h3])
      simp at ho
      simp [R14_0, R14_1, R14_2, R14_3, R14_4, R14_5, R14_6, R14_7, R14_8, Try.f14, lpL14_0, lpM14_0, M14_0, c_l2Shape, h1, hw, h2, ho]
  · have h2' : ((l.length : Int) == w * h) = false := by simpa using h2
    simp [R14_0, R14_1, R14_2, R14_3, R14_4, R14_5, R14_6, R14_7, R14_8, Try.f14, lpL14_0, lpM14_0, M14_0, c_l2Shape, fldV, goodB, h1, hw, h2, h2']

end Go.Proofs.Ytemkckldfmpplaa.Eng
