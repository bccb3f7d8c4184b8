/- A deterministic reading of Go code over plain data: what functions of the program compute. No conditions. -/
import Derived.Test.YtemkckldfmpplaaLmbase
import Derived.Test.YtemkckldfmpplaaEngT
namespace Go.Proofs.Ytemkckldfmpplaa.Eng
open Go Go.Proofs
set_option maxRecDepth 100000
set_option maxHeartbeats 2000000
set_option linter.unusedSimpArgs false
set_option linter.unusedVariables false
attribute [local simp] finK fin1 hpOf xi renQ isRoot runCode runOps stepX inlOf Eng.step wantedV astep val ofO made loadV storeV find V.cells bin binT binA numT numFs eqCells un1 setAt fieldAddrV fieldV indexAddrV indexV bounds sliceV convV lenV foldV max2V min2V callO bor rdsO wrsO seen_none okD_none loops keepIds resV resultsV St.ev TK.agg refs refsL refsO V.one V.isC Value.oneCell' ren renL renO noTag noTagL noTagR noTagO nodup mapO passV frs psi refsR newD loopNext opsAt idx flatAt rootOf backR newsV appendV copyV clearV strV bytesV bldV bufV selfV bytesOf nilCmp buildV fillF chunk
attribute [local simp] cT cF cX cWR cOW cK cBL X ints_length ints_get ints_getElem ints_drop ints_take ints_append ints_nil ints_set
attribute [local simp] ints_replicate
attribute [local simp] putV_some putV_none putH_app applyD_nil applyD_cons seen_app gc_ρ gc_H gc_tick st0_ρ st0_H st0_tick retV callRo callV_if borL_nil borL_cons ints_snoc take_self callWr cutH_app findQ afterV exportV_0 exportV_n okD_nil okD_cons sub_seq0 sub_seq1 sub_cond0 sub_cond1 sub_block sub_loop sub_nil young_far young_none hidW_nil mayW_nil pairs okI ok_0 ok_1 ok_2
attribute [local simp] T3 T4 T22 T24 T26 T29 T44
theorem c_within (k : Nat) (x a b : Int) (hk : 1 ≤ k) : callK C k 20 [.c (.int .i64 x), .c (.int .i64 a), .c (.int .i64 b)] [] = some (.c (.bool (decide (a ≤ x) && decide (x ≤ b))), hpOf [] []) := by
  obtain ⟨k, rfl⟩ : ∃ m, k = m + 1 := ⟨k - 1, by omega⟩
  rw [callK_fn rfl F20 code20]
  by_cases h : a ≤ x <;> simp [R20_0, R20_1, Try.f20, h]
theorem c_isCell (k : Nat) (x : Int) (hk : 2 ≤ k) : callK C k 31 [.c (.int .i64 x)] [] = some (.c (.bool (cellB x)), hpOf [] []) := by
  obtain ⟨k, rfl⟩ : ∃ m, k = m + 2 := ⟨k - 2, by omega⟩
  rw [callK_fn rfl F31 code31]
  cases h : x == -9999 <;> simp [R31_0, R31_1, Try.f31, h, cellB, c_within]
theorem c_isCell1 (k : Nat) (x : Int) (hk : 3 ≤ k) : callK C k 30 [.c (.int .i64 x)] [] = some (.c (.bool (!cellB x)), hpOf [] []) := by
  obtain ⟨k, rfl⟩ : ∃ m, k = m + 3 := ⟨k - 3, by omega⟩
  rw [callK_fn rfl F30 code30]
  simp [R30_0, R30_1, Try.f30, c_isCell]
theorem c_IndexCell (k : Nat) (b : Bool) (l : List Int) (hl : l.length ≤ 1048576) (hk : l.length + 20 ≤ k) : ∃ r : Int, (0 ≤ r ↔ l.all cellB = false) ∧ callK C k 32 [.sq b true 1 (ints l), .fn 30 []] [] = some (.c (.int .i64 r), hpOf [] []) := by
  obtain ⟨k, rfl⟩ : ∃ m, k = m + 4 := ⟨k - 4, by omega⟩
  rw [callK_fn rfl F32 code32]
  have hc := fun x => c_isCell1 (k + 3) x (by omega)
  cases hall : l.all cellB
  · obtain ⟨i0, hi0, hc0, hlt⟩ : ∃ (i : Nat) (hi : i < l.length), cellB l[i] = false ∧ ∀ (j : Nat) (hj : j < i), cellB (l[j]'(by omega)) = true := by
      have hx : ∃ i, ∃ hi : i < l.length, cellB l[i] = false := by
        have : ¬ (l.all cellB = true) := by simp [hall]
        rw [List.all_eq_true] at this
        obtain ⟨x, hx, hx'⟩ := Classical.not_forall.1 this |>.imp fun x hx => Classical.not_imp.1 hx
        obtain ⟨i, hi, rfl⟩ := List.getElem_of_mem hx
        exact ⟨i, hi, by simpa using hx'⟩
      obtain ⟨i, hi, h1⟩ : ∃ i, (∃ hi : i < l.length, cellB l[i] = false) ∧ ∀ j, j < i → ¬ ∃ hi : j < l.length, cellB l[j] = false := by
        obtain ⟨i, hi⟩ := hx
        induction i using Nat.strongRecOn with
        | ind i ih =>
          by_cases hj : ∃ j, j < i ∧ ∃ hi : j < l.length, cellB l[j] = false
          · obtain ⟨j, hj1, hj2⟩ := hj; exact ih j hj1 hj2
          · exact ⟨i, hi, fun j hj' hj'' => hj ⟨j, hj', hj''⟩⟩
      exact ⟨i, hi.1, hi.2, fun j hj => by
        have hj2 : j < l.length := Nat.lt_trans hj hi.1
        cases hc : cellB (l[j]'hj2)
        · exact absurd ⟨hj2, hc⟩ (h1 j hj)
        · rfl⟩
    obtain ⟨out, ho⟩ := loopOut (body := fun st => runCode C (callK C (k + 3)) (k + 3) (K 32) L32_0 1 st) (keep := [0, 1, 7, 8]) .ret (fun st => st.ρ 4 = .c (.int .i64 (i0 : Int)))
      (fun i st => st.ρ 0 = .sq b true 1 (ints l) ∧ st.ρ 1 = .fn 30 [] ∧ st.ρ 7 = .c (.int .i64 (l.length : Int)) ∧ st.ρ 8 = .c (.int .i64 (i : Int)) ∧ i ≤ i0)
      i0 (k + 3) (by omega)
      (by
        rintro i st next hi ⟨h0, h1, h7, h8, hle⟩ hn
        have hil : i < l.length := by omega
        simp [L32_0, R32_0, R32_1, R32_2, R32_3, R32_4, R32_5, R32_6, R32_7, Try.f32, lpL32_0, lpM32_0, M32_0, h0, h1, h7, h8, hil, hc, hlt i hi, wrap_next hil (by omega)] at hn ⊢
        exact hn _ (by simp [h0]) (by simp [h1]) (by simp [h7]) (by simp) (by omega))
      (by
        rintro st next ⟨h0, h1, h7, h8, hle⟩
        simp [L32_0, R32_0, R32_1, R32_2, R32_3, R32_4, R32_5, R32_6, R32_7, Try.f32, lpL32_0, lpM32_0, M32_0, h0, h1, h7, h8, hi0, hc, hc0])
    simp at ho
    refine ⟨(i0 : Int), by simp, ?_⟩
    simp [R32_0, R32_1, R32_2, R32_3, R32_4, R32_5, R32_6, R32_7, Try.f32, lpL32_0, lpM32_0, M32_0, ho]
  · obtain ⟨out, ho⟩ := loopOut (body := fun st => runCode C (callK C (k + 3)) (k + 3) (K 32) L32_0 1 st) (keep := [0, 1, 7, 8]) (.ex 0) (fun st => True)
      (fun i st => st.ρ 0 = .sq b true 1 (ints l) ∧ st.ρ 1 = .fn 30 [] ∧ st.ρ 7 = .c (.int .i64 (l.length : Int)) ∧ st.ρ 8 = .c (.int .i64 (i : Int)))
      l.length (k + 3) (by omega)
      (by
        rintro i st next hi ⟨h0, h1, h7, h8⟩ hn
        have hci : cellB l[i] = true := List.all_eq_true.1 hall _ (List.getElem_mem hi)
        simp [L32_0, R32_0, R32_1, R32_2, R32_3, R32_4, R32_5, R32_6, R32_7, Try.f32, lpL32_0, lpM32_0, M32_0, h0, h1, h7, h8, hi, hc, hci, wrap_next hi (by omega)] at hn ⊢
        exact hn _ (by simp [h0]) (by simp [h1]) (by simp [h7]) (by simp))
      (by
        rintro st next ⟨h0, h1, h7, h8⟩
        simp [L32_0, R32_0, R32_1, R32_2, R32_3, R32_4, R32_5, R32_6, R32_7, Try.f32, lpL32_0, lpM32_0, M32_0, h0, h1, h7, h8])
    simp at ho
    refine ⟨-1, by simp, ?_⟩
    simp [R32_0, R32_1, R32_2, R32_3, R32_4, R32_5, R32_6, R32_7, Try.f32, lpL32_0, lpM32_0, M32_0, ho]
theorem c_ContainsCell (k : Nat) (b : Bool) (l : List Int) (hl : l.length ≤ 1048576) (hk : l.length + 30 ≤ k) : callK C k 29 [.sq b true 1 (ints l), .fn 30 []] [] = some (.c (.bool (!l.all cellB)), hpOf [] []) := by
  obtain ⟨k, rfl⟩ : ∃ m, k = m + 5 := ⟨k - 5, by omega⟩
  rw [callK_fn rfl F29 code29]
  obtain ⟨r, hr, hc⟩ := c_IndexCell (k + 4) b l hl (by omega)
  cases hall : l.all cellB
  · have : (0 : Int) ≤ r := hr.2 hall
    simp [R29_0, R29_1, Try.f29, hc, this]
  · have : ¬ (0 : Int) ≤ r := fun h => by rw [hr.1 h] at hall; cases hall
    simp [R29_0, R29_1, Try.f29, hc, this]
theorem c_IsValidField (k : Nat) (b : Bool) (w h : Int) (l : List Int) (hk : 200 ≤ k) : callK C k 19 [fldV b w h l] [] = some (.c (.bool (goodB w h l)), hpOf [] []) := by
  obtain ⟨k, rfl⟩ : ∃ m, k = m + 6 := ⟨k - 6, by omega⟩
  rw [callK_fn rfl F19 code19]
  have e1 : goodB w h l = (((decide (1 ≤ w) && decide (w ≤ 8)) && (decide (1 ≤ h) && decide (h ≤ 8))) && (((l.length : Int) == w * h) && l.all cellB)) := rfl
  cases h1 : (decide (1 ≤ w) && decide (w ≤ 8))
  · rw [e1, h1]
    simp [R19_0, R19_1, Try.f19, fldV, c_within, h1]
  cases h2 : (decide (1 ≤ h) && decide (h ≤ 8))
  · rw [e1, h1, h2]
    simp [R19_0, R19_1, Try.f19, fldV, c_within, h1, h2]
  have hs : shapeB w h = true := by simp only [shapeB, h1, h2]; rfl
  obtain ⟨hp0, hp, _⟩ := shape_area hs
  have hw : IntKind.i64.wrap (w * h) = w * h := wrap_small (by omega) (by omega)
  rw [e1, h1, h2]
  by_cases h3 : (l.length : Int) = w * h
  · have hc := c_ContainsCell (k + 5) true l (by omega) (by omega)
    have hc' := c_ContainsCell (k + 5) b l (by omega) (by omega)
    cases hall : l.all cellB <;> simp [R19_0, R19_1, Try.f19, fldV, c_within, h1, h2, h3, hw, hc, hc', hall]
  · have h3' : ((l.length : Int) == w * h) = false := by simpa using h3
    simp [R19_0, R19_1, Try.f19, fldV, c_within, h1, h2, h3', hw]
def ownV (w h : Int) (id vr n : Nat) : V := .ag [.c (.int .i64 w), .c (.int .i64 h), .s id vr 1 0 n]
def nilV : V := .ag [.c (.int .i64 0), .c (.int .i64 0), .c (.slice none 0 0)]

end Go.Proofs.Ytemkckldfmpplaa.Eng
