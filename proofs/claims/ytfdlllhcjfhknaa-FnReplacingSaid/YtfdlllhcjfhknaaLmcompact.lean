/- A deterministic reading of Go code over plain data: what functions of the program compute. No conditions. -/
import Derived.Test.YtfdlllhcjfhknaaLmbase
import Derived.Test.YtfdlllhcjfhknaaLmimpl
import Derived.Test.YtfdlllhcjfhknaaEngT
namespace Go.Proofs.Ytfdlllhcjfhknaa.Eng
open Go Go.Proofs
set_option maxRecDepth 100000
set_option maxHeartbeats 2000000
set_option linter.unusedSimpArgs false
set_option linter.unusedVariables false
attribute [local simp] finK fin1 hpOf xi renQ isRoot runCode runOps Eng.step wantedV astep val ofO made loadV storeV find V.cells bin binT binA numT numFs eqCells un1 setAt fieldAddrV fieldV indexAddrV indexV bounds sliceV convV lenV foldV max2V min2V callO bor rdsO wrsO seen_none okD_none loops keepIds resV resultsV St.ev TK.agg refs refsL refsO V.one V.isC Value.oneCell' ren renL renO noTag noTagL noTagR noTagO nodup mapO passV frs psi refsR newD loopNext opsAt idx flatAt rootOf backR newsV appendV copyV clearV strV bytesOf nilCmp buildV fillF chunk
attribute [local simp] cT cF cX cWR cOW cK X ints_length ints_get ints_getElem ints_drop ints_take ints_append ints_nil ints_set
attribute [local simp] ints_replicate
attribute [local simp] putV_some putV_none putH_app applyD_nil applyD_cons seen_app gc_ρ gc_H gc_tick st0_ρ st0_H st0_tick retV callRo callV_if borL_nil borL_cons ints_snoc take_self callWr cutH_app findQ afterV exportV_0 exportV_n okD_nil okD_cons sub_seq0 sub_seq1 sub_cond0 sub_cond1 sub_block sub_loop sub_nil young_far young_none hidW_nil mayW_nil pairs okI ok_0 ok_1 ok_2
attribute [local simp] T3 T4 T5 T9 T22 T24 T29 T36 T73 T75 T86 T89 T103 T104 T106 T108 T109 T114 T134 T136 T157 T161 T168
attribute [local simp] young_near clo cloF Region.binds Nat.testBit hidW declW mayW List.findIdx?_cons
/-- Whether no two neighbours are equal among the first n. -/
theorem c_CompactNone (k : Nat) (l : List Int) (hl : l.length ≤ 100) (hno : ∀ i, (h : i + 1 < l.length) → ¬ l[i + 1] = l[i]) (hk : 200 ≤ k) : callK C k 162 [.s 0 0 1 0 l.length] [intsO l] = some (.s 0 0 1 0 l.length, hpOf [some (intsO l)] []) := by
  obtain ⟨k, rfl⟩ : ∃ m, k = m + 9 := ⟨k - 9, by omega⟩
  rw [callK_fn rfl F162 code162]
  by_cases h2 : l.length < 2
  · have g2 : (l.length : Int) < 2 := by omega
    simp [R162_0, R162_1, R162_2, R162_3, R162_4, R162_5, R162_6, R162_7, R162_8, R162_9, R162_10, R162_11, R162_12, R162_13, R162_14, R162_15, R162_16, Try.f162, lpL162_0, lpL162_1, lpM162_0, lpM162_1, lpM162_2, M162_0, M162_1, M162_2, h2, g2, intsO]
  have g2 : ¬ (l.length : Int) < 2 := by omega
  have hL := loopHas (body := fun st => runCode C (callK C (k + 8)) (k + 8) (K 162) L162_0 1 st) (keep := [0, 3]) (.ex 0) (fun st => st.ρ 0 = .s 0 0 1 0 l.length ∧ st.H 0 = some (0, intsO l))
    (fun i st => st.ρ 0 = .s 0 0 1 0 l.length ∧ st.ρ 3 = .c (.int .i64 ((i : Int) + 1)) ∧ st.H 0 = some (0, intsO l)) (l.length - 1) (k + 8) (by omega)
    (by
      rintro i st next hi ⟨q0, q3, H0⟩ hx
      have e := hno i (by omega)
      have eb : (l[i + 1] == l[i]) = false := by simpa using e
      have g3 : (i : Int) + 1 < (l.length : Int) := by omega
      have g4 : (0 : Int) ≤ (i : Int) + 1 := by omega
      have g5 : ((i : Int) + 1).toNat = i + 1 := by omega
      have g6 : i + 1 < l.length := by omega
      have g7 : i < l.length := by omega
      have g8 : (i : Int) < (l.length : Int) := by omega
      have w0 : IntKind.i64.wrap (i : Int) = (i : Int) := wrap_small (by omega) (by omega)
      have w1 : IntKind.i64.wrap ((i : Int) + 1 + 1) = ((i + 1 : Nat) : Int) + 1 := by rw [wrap_small (by omega) (by omega)]; omega
      simp at w1
      simp [intsO] at H0
      simp [L162_0, R162_0, R162_1, R162_2, R162_3, R162_4, R162_5, R162_6, R162_7, R162_8, R162_9, R162_10, R162_11, R162_12, R162_13, R162_14, R162_15, R162_16, Try.f162, lpL162_0, lpL162_1, lpM162_0, lpM162_1, lpM162_2, M162_0, M162_1, M162_2, undef, q0, q3, H0, e, eb, g3, g4, g5, g6, g7, g8, w0, w1]
      refine hx _ ⟨?_, ?_, ?_⟩ <;> simp [q0, w1, H0, intsO])
    (by
      rintro st next ⟨q0, q3, H0⟩
      have g3 : ¬ ((l.length - 1 : Nat) : Int) + 1 < (l.length : Int) := by omega
      simp [intsO] at H0
      simp [L162_0, R162_0, R162_1, R162_2, R162_3, R162_4, R162_5, R162_6, R162_7, R162_8, R162_9, R162_10, R162_11, R162_12, R162_13, R162_14, R162_15, R162_16, Try.f162, lpL162_0, lpL162_1, lpM162_0, lpM162_1, lpM162_2, M162_0, M162_1, M162_2, undef, q0, q3, H0, g3, intsO])
  simp [R162_0, R162_1, R162_2, R162_3, R162_4, R162_5, R162_6, R162_7, R162_8, R162_9, R162_10, R162_11, R162_12, R162_13, R162_14, R162_15, R162_16, Try.f162, lpL162_0, lpL162_1, lpM162_0, lpM162_1, lpM162_2, g2, h2]
  generalize hr2 : loopRun _ _ _ _ = res
  obtain ⟨s1, rfl, f0, F0⟩ := loop_at hL hr2 ⟨by simp, by simp [show IntKind.i64.wrap 1 = 1 from rfl], by simp⟩
  simp [intsO] at F0
  simp [R162_0, R162_1, R162_2, R162_3, R162_4, R162_5, R162_6, R162_7, R162_8, R162_9, R162_10, R162_11, R162_12, R162_13, R162_14, R162_15, R162_16, Try.f162, lpL162_0, lpL162_1, lpM162_0, lpM162_1, lpM162_2, M162_0, M162_1, M162_2, f0, F0, intsO]
/-- The first n of a list, of equal neighbours one. -/
def compN (l : List Int) : Nat → List Int
  | 0 => []
  | 1 => l.take 1
  | a + 2 => if l.getD (a + 1) 0 = l.getD a 0 then compN l (a + 1) else compN l (a + 1) ++ [l.getD (a + 1) 0]
theorem compN_step (l : List Int) (a : Nat) : compN l (a + 2) = if l.getD (a + 1) 0 = l.getD a 0 then compN l (a + 1) else compN l (a + 1) ++ [l.getD (a + 1) 0] := rfl
theorem compN_len (l : List Int) : ∀ a, (compN l a).length ≤ a
  | 0 => by simp [compN]
  | 1 => by simp [compN]; omega
  | a + 2 => by
    have := compN_len l (a + 1)
    rw [compN_step]
    split
    · omega
    · simp; omega
/-- While no two neighbours are equal, all stay. -/
theorem compN_all (l : List Int) (p : Nat) (h : ∀ i, i < p → (hi : i + 1 < l.length) → ¬ l[i + 1] = l[i]) (hp : p < l.length) : compN l (p + 1) = l.take (p + 1) := by
  induction p with
  | zero => rfl
  | succ p ih =>
    rw [compN_step, ih (fun i hi => h i (by omega)) (by omega), if_neg]
    · rw [show l.getD (p + 1) 0 = l[p + 1] by simp [List.getD, List.getElem?_eq_getElem hp], List.take_succ_eq_append_getElem hp]
    · have := h p (by omega) hp
      simpa [List.getD, List.getElem?_eq_getElem hp, List.getElem?_eq_getElem (show p < l.length by omega)] using this
def CpX (l : List Int) (a : Nat) (st : St) : Prop := ∃ A : List Int, A.length = l.length ∧ A.take (compN l a).length = compN l a ∧ (∀ j, a ≤ j + 1 → A[j]? = l[j]?) ∧ st.H 0 = some (0, intsO A)
theorem compact_inner (k : Nat) (l : List Int) (p : Nat) (hl : l.length ≤ 100) (hp : p + 1 < l.length) (hk : 200 ≤ k) :
    ∀ st, (fun (i : Nat) (st : St) => st.ρ 0 = .s 0 0 1 0 l.length ∧ st.ρ 3 = .c (.int .i64 (((compN l (p + 2 + i)).length : Nat) : Int)) ∧ st.ρ 4 = .s 0 0 1 (p + 1) (l.length - (p + 1)) ∧ st.ρ 5 = .c (.int .i64 ((i : Int) + 1)) ∧ (compN l (p + 2 + i)).length ≤ p + 1 + i ∧ CpX l (p + 2 + i) st) 0 st →
      ∃ s, loopRun (fun st => runCode C (callK C k) k (K 162) L162_1 2 st) [0, 3, 4, 5] k st = some (.ex 2, s) ∧ (s.ρ 0 = .s 0 0 1 0 l.length ∧ s.ρ 3 = .c (.int .i64 (((compN l l.length).length : Nat) : Int)) ∧ CpX l l.length s) := by
  refine loopHas (.ex 2) (fun s => s.ρ 0 = .s 0 0 1 0 l.length ∧ s.ρ 3 = .c (.int .i64 (((compN l l.length).length : Nat) : Int)) ∧ CpX l l.length s) (fun (i : Nat) (st : St) => st.ρ 0 = .s 0 0 1 0 l.length ∧ st.ρ 3 = .c (.int .i64 (((compN l (p + 2 + i)).length : Nat) : Int)) ∧ st.ρ 4 = .s 0 0 1 (p + 1) (l.length - (p + 1)) ∧ st.ρ 5 = .c (.int .i64 ((i : Int) + 1)) ∧ (compN l (p + 2 + i)).length ≤ p + 1 + i ∧ CpX l (p + 2 + i) st) (l.length - (p + 2)) k (by omega) ?_ ?_
  · rintro i st next hi ⟨q0, q3, q4, q5, hle, A, hA, ht, hr, H0⟩ hx
    have hst : compN l (p + 2 + (i + 1)) = if l.getD (p + 2 + i) 0 = l.getD (p + 1 + i) 0 then compN l (p + 2 + i) else compN l (p + 2 + i) ++ [l.getD (p + 2 + i) 0] := by
      rw [show p + 2 + (i + 1) = (p + 1 + i) + 2 by omega, compN_step, show p + 1 + i + 1 = p + 2 + i by omega]
    obtain ⟨c, hc⟩ : ∃ c, compN l (p + 2 + i) = c := ⟨_, rfl⟩
    rw [hc] at q3 hle ht hst
    have b1 : p + 2 + i < l.length := by omega
    have b2 : p + 1 + i < l.length := by omega
    rw [show l.getD (p + 2 + i) 0 = l[p + 2 + i] by simp [List.getD, List.getElem?_eq_getElem b1], show l.getD (p + 1 + i) 0 = l[p + 1 + i] by simp [List.getD, List.getElem?_eq_getElem b2]] at hst
    have r1 := hr (p + 2 + i) (by omega)
    have r2 := hr (p + 1 + i) (by omega)
    rw [List.getElem?_eq_getElem b1, List.getElem?_eq_getElem (by omega)] at r1
    rw [List.getElem?_eq_getElem b2, List.getElem?_eq_getElem (by omega)] at r2
    have r1 := Option.some.inj r1
    have r2 := Option.some.inj r2
    have w0 : IntKind.i64.wrap (i : Int) = (i : Int) := wrap_small (by omega) (by omega)
    have w1 : IntKind.i64.wrap ((i : Int) + 1 + 1) = ((i + 1 : Nat) : Int) + 1 := by rw [wrap_small (by omega) (by omega)]; omega
    have w2 : IntKind.i64.wrap ((c.length : Int) + 1) = (c.length : Int) + 1 := wrap_small (by omega) (by omega)
    simp at w1
    have g1 : (i : Int) + 1 < ((l.length - (p + 1) : Nat) : Int) := by omega
    have g2 : (0 : Int) ≤ (i : Int) + 1 := by omega
    have g3 : ((i : Int) + 1).toNat = i + 1 := by omega
    have g4 : (i : Int) < ((l.length - (p + 1) : Nat) : Int) := by omega
    have g5 : p + 1 + (i + 1) < A.length := by omega
    have g6 : p + 1 + i < A.length := by omega
    have g7 : (c.length : Int) < (l.length : Int) := by omega
    have g8 : c.length < l.length := by omega
    have g9 : c.length < A.length := by omega
    have r1' : A[p + 1 + (i + 1)] = l[p + 2 + i] := by rw [← r1]; congr 1; omega
    simp [intsO] at H0
    by_cases he : l[p + 2 + i] = l[p + 1 + i]
    · rw [if_pos he] at hst
      rw [hst] at hx
      have eb : (l[p + 1 + i] != l[p + 1 + i]) = false := by simp
      rw [he] at r1'
      simp [L162_1, R162_0, R162_1, R162_2, R162_3, R162_4, R162_5, R162_6, R162_7, R162_8, R162_9, R162_10, R162_11, R162_12, R162_13, R162_14, R162_15, R162_16, Try.f162, lpL162_0, lpL162_1, lpM162_0, lpM162_1, lpM162_2, M162_0, M162_1, M162_2, undef, q0, q3, q4, q5, H0, w0, w1, g1, g2, g3, g4, g5, g6, g7, g8, g9, r1', r2]
      refine hx _ ⟨?_, ?_, ?_, ?_, by omega, A, hA, by rw [hst]; exact ht, fun j hj => hr j (by omega), ?_⟩ <;> simp [q0, q3, q4, w1, H0, intsO]
    · rw [if_neg he] at hst
      rw [hst] at hx
      have eb : (l[p + 2 + i] != l[p + 1 + i]) = true := by simpa using he
      simp [L162_1, R162_0, R162_1, R162_2, R162_3, R162_4, R162_5, R162_6, R162_7, R162_8, R162_9, R162_10, R162_11, R162_12, R162_13, R162_14, R162_15, R162_16, Try.f162, lpL162_0, lpL162_1, lpM162_0, lpM162_1, lpM162_2, M162_0, M162_1, M162_2, undef, q0, q3, q4, q5, H0, w0, w1, w2, g1, g2, g3, g4, g5, g6, g7, g8, g9, r1', r2, he, eb]
      refine hx _ ⟨?_, ?_, ?_, ?_, by simp; omega, A.set c.length l[p + 2 + i], by simp [hA], ?_, fun j hj => ?_, ?_⟩
      · simp [q0]
      · simp
      · simp [q4]
      · simp [w1]
      · rw [hst]
        simp only [List.length_append, List.length_cons, List.length_nil]
        rw [List.take_set, List.take_succ_eq_append_getElem g9, ht]
        simp
      · rw [List.getElem?_set_ne (by omega)]
        exact hr j (by omega)
      · simp [intsO]
  · rintro st next ⟨q0, q3, q4, q5, hle, A, hA, ht, hr, H0⟩
    rw [show p + 2 + (l.length - (p + 2)) = l.length by omega] at q3 hle ht hr
    have g1 : ¬ ((l.length - (p + 2) : Nat) : Int) + 1 < ((l.length - (p + 1) : Nat) : Int) := by omega
    simp [intsO] at H0
    simp [L162_1, R162_0, R162_1, R162_2, R162_3, R162_4, R162_5, R162_6, R162_7, R162_8, R162_9, R162_10, R162_11, R162_12, R162_13, R162_14, R162_15, R162_16, Try.f162, lpL162_0, lpL162_1, lpM162_0, lpM162_1, lpM162_2, M162_0, M162_1, M162_2, undef, q0, q3, q4, q5, H0, g1]
    exact ⟨A, hA, ht, hr, by simp [q0, H0, intsO]⟩
theorem compN_lt (l : List Int) (p : Nat) (h : (compN l (p + 2)).length = p + 1) : ∀ i, (compN l (p + 2 + i)).length ≤ p + 1 + i
  | 0 => by simp [h]
  | i + 1 => by
    have ih := compN_lt l p h i
    rw [show p + 2 + (i + 1) = (p + 1 + i) + 2 by omega, compN_step, show p + 1 + i + 1 = p + 2 + i by omega]
    split
    · omega
    · simp; omega
theorem c_CompactSome (k : Nat) (l : List Int) (p : Nat) (hl : l.length ≤ 100) (hp : p + 1 < l.length) (heq : l[p + 1] = l[p]) (hno : ∀ i, i < p → (h : i + 1 < l.length) → ¬ l[i + 1] = l[i]) (hk : 400 ≤ k) : ∃ A : List Int, callK C k 162 [.s 0 0 1 0 l.length] [intsO l] = some (.s 0 0 1 0 (compN l l.length).length, hpOf [some (intsO A)] []) ∧ A.take (compN l l.length).length = compN l l.length ∧ A.length = l.length := by
  obtain ⟨k, rfl⟩ : ∃ m, k = m + 9 := ⟨k - 9, by omega⟩
  rw [callK_fn rfl F162 code162]
  have g2 : ¬ (l.length : Int) < 2 := by omega
  have h2 : ¬ l.length < 2 := by omega
  have hc1 : compN l (p + 1) = l.take (p + 1) := compN_all l p hno (by omega)
  have hc2 : compN l (p + 2) = l.take (p + 1) := by
    rw [compN_step, if_pos, hc1]
    simpa [List.getD, List.getElem?_eq_getElem hp, List.getElem?_eq_getElem (show p < l.length by omega)] using heq
  have hcl : (compN l (p + 2)).length = p + 1 := by rw [hc2, List.length_take]; omega
  have hL := loopHas (body := fun st => runCode C (callK C (k + 8)) (k + 8) (K 162) L162_0 1 st) (keep := [0, 3]) .ret (fun st => st.ρ 2 = .s 0 0 1 0 (compN l l.length).length ∧ ∃ A : List Int, A.take (compN l l.length).length = compN l l.length ∧ A.length = l.length ∧ st.H 0 = some (0, intsO A))
    (fun i st => st.ρ 0 = .s 0 0 1 0 l.length ∧ st.ρ 3 = .c (.int .i64 ((i : Int) + 1)) ∧ st.H 0 = some (0, intsO l)) p (k + 8) (by omega)
    (by
      rintro i st next hi ⟨q0, q3, H0⟩ hx
      have e := hno i (by omega) (by omega)
      have eb : (l[i + 1] == l[i]) = false := by simpa using e
      have g3 : (i : Int) + 1 < (l.length : Int) := by omega
      have g4 : (0 : Int) ≤ (i : Int) + 1 := by omega
      have g5 : ((i : Int) + 1).toNat = i + 1 := by omega
      have g6 : i + 1 < l.length := by omega
      have g7 : i < l.length := by omega
      have g8 : (i : Int) < (l.length : Int) := by omega
      have w0 : IntKind.i64.wrap (i : Int) = (i : Int) := wrap_small (by omega) (by omega)
      have w1 : IntKind.i64.wrap ((i : Int) + 1 + 1) = ((i + 1 : Nat) : Int) + 1 := by rw [wrap_small (by omega) (by omega)]; omega
      simp at w1
      simp [intsO] at H0
      simp [L162_0, R162_0, R162_1, R162_2, R162_3, R162_4, R162_5, R162_6, R162_7, R162_8, R162_9, R162_10, R162_11, R162_12, R162_13, R162_14, R162_15, R162_16, Try.f162, lpL162_0, lpL162_1, lpM162_0, lpM162_1, lpM162_2, M162_0, M162_1, M162_2, undef, q0, q3, H0, e, eb, g3, g4, g5, g6, g7, g8, w0, w1]
      refine hx _ ⟨?_, ?_, ?_⟩ <;> simp [q0, w1, H0, intsO])
    (by
      rintro st next ⟨q0, q3, H0⟩
      have hI := compact_inner (k + 8) l p hl hp (by omega)
      have g3 : (p : Int) + 1 < (l.length : Int) := by omega
      have g3' : (p : Int) + 1 ≤ (l.length : Int) := by omega
      have g4 : (0 : Int) ≤ (p : Int) + 1 := by omega
      have g5 : ((p : Int) + 1).toNat = p + 1 := by omega
      have g7 : p < l.length := by omega
      have g8 : (p : Int) < (l.length : Int) := by omega
      have g9 : p + 1 ≤ l.length := by omega
      have w0 : IntKind.i64.wrap (p : Int) = (p : Int) := wrap_small (by omega) (by omega)
      simp [intsO] at H0
      simp [L162_0, R162_0, R162_1, R162_2, R162_3, R162_4, R162_5, R162_6, R162_7, R162_8, R162_9, R162_10, R162_11, R162_12, R162_13, R162_14, R162_15, R162_16, Try.f162, lpL162_0, lpL162_1, lpM162_0, lpM162_1, lpM162_2, undef, q0, q3, H0, heq, g3, g3', g4, g5, hp, g7, g8, g9, w0]
      generalize hr : loopRun _ _ _ _ = res
      obtain ⟨s1, rfl, f0, f3, A, hA, ht, _, F0⟩ := loop_at hI hr ⟨by simp [q0], by simp [q3, hcl], by simp, by simp, by simp [hcl], l, rfl, by rw [Nat.add_zero, hc2, List.length_take]; congr 1; omega, fun j _ => rfl, by simp [q0, H0, intsO]⟩
      have hle := compN_len l l.length
      obtain ⟨c, hc⟩ : ∃ c, compN l l.length = c := ⟨_, rfl⟩
      rw [hc] at f3 ht hle ⊢
      simp [intsO] at F0
      have u1 : (c.length : Int) ≤ (l.length : Int) := by omega
      have hlt := compN_lt l p hcl (l.length - (p + 2))
      rw [show p + 2 + (l.length - (p + 2)) = l.length by omega, hc] at hlt
      have u2 : ¬ l.length - c.length = 0 := by omega
      have u3 : ¬ l.length ≤ c.length := by omega
      simp [R162_0, R162_1, R162_2, R162_3, R162_4, R162_5, R162_6, R162_7, R162_8, R162_9, R162_10, R162_11, R162_12, R162_13, R162_14, R162_15, R162_16, Try.f162, lpL162_0, lpL162_1, lpM162_0, lpM162_1, lpM162_2, M162_0, M162_1, M162_2, undef, f0, f3, F0, hA, u1, u2, u3, hle]
      exact ⟨A.take c.length ++ (List.replicate (l.length - c.length) 0 ++ A.drop l.length), by rw [List.take_append_of_le_length (by simp; omega), List.take_take, Nat.min_self]; exact ht, by simp; omega, by simp [f0, intsO]⟩)
  simp [R162_0, R162_1, R162_2, R162_3, R162_4, R162_5, R162_6, R162_7, R162_8, R162_9, R162_10, R162_11, R162_12, R162_13, R162_14, R162_15, R162_16, Try.f162, lpL162_0, lpL162_1, lpM162_0, lpM162_1, lpM162_2, g2, h2]
  generalize hr2 : loopRun _ _ _ _ = res
  obtain ⟨s1, rfl, f2, A, ht, hA, F0⟩ := loop_at hL hr2 ⟨by simp, by simp [show IntKind.i64.wrap 1 = 1 from rfl], by simp⟩
  refine ⟨A, ?_, ht, hA⟩
  simp [intsO] at F0
  simp [f2, F0, intsO]
theorem c_Compact (k : Nat) (l : List Int) (hl : l.length ≤ 100) (hk : 400 ≤ k) : ∃ A : List Int, callK C k 162 [.s 0 0 1 0 l.length] [intsO l] = some (.s 0 0 1 0 (compN l l.length).length, hpOf [some (intsO A)] []) ∧ A.take (compN l l.length).length = compN l l.length ∧ A.length = l.length := by
  by_cases h : ∃ p, ∃ h : p + 1 < l.length, l[p + 1] = l[p]
  · have hm : ∀ n p, p < n → (∃ h : p + 1 < l.length, l[p + 1] = l[p]) → ∃ q, (∃ h : q + 1 < l.length, l[q + 1] = l[q]) ∧ ∀ i, i < q → (h : i + 1 < l.length) → ¬ l[i + 1] = l[i] := by
      intro n
      induction n with
      | zero => intro p hp; omega
      | succ n ih =>
        intro p hp hh
        by_cases h2 : ∃ i, i < p ∧ ∃ h : i + 1 < l.length, l[i + 1] = l[i]
        · obtain ⟨i, hi, hi2⟩ := h2
          exact ih i (by omega) hi2
        · exact ⟨p, hh, fun i hi h e => h2 ⟨i, hi, h, e⟩⟩
    obtain ⟨p, hp⟩ := h
    obtain ⟨q, ⟨hq, he⟩, hno⟩ := hm (p + 1) p (by omega) hp
    exact c_CompactSome k l q hl hq he hno hk
  · have hno : ∀ i, (h : i + 1 < l.length) → ¬ l[i + 1] = l[i] := fun i hi e => h ⟨i, hi, e⟩
    have hc := c_CompactNone k l hl hno (by omega)
    have e : compN l l.length = l := by
      cases l with
      | nil => rfl
      | cons a r =>
        have := compN_all (a :: r) r.length (fun i _ hi => hno i hi) (by simp)
        simp only [List.length_cons]
        rw [this]
        exact List.take_of_length_le (by simp)
    exact ⟨l, by rw [e]; exact hc, by rw [e, List.take_length], rfl⟩

end Go.Proofs.Ytfdlllhcjfhknaa.Eng
