/- A deterministic reading of Go code over plain data: what functions of the program compute. No conditions. -/
import Derived.Test.YtemkckldfmpplaaLmbase
import Derived.Test.YtemkckldfmpplaaEngT
namespace Go.Proofs.Ytemkckldfmpplaa.Eng
open Go Go.Proofs
set_option maxRecDepth 100000
set_option maxHeartbeats 2000000
set_option linter.unusedSimpArgs false
set_option linter.unusedVariables false
attribute [local simp] finK fin1 hpOf xi renQ isRoot runCode runOps stepX inlOf Eng.step wantedV astep val ofO made loadV storeV find V.cells bin binT binA numT numFs eqCells un1 setAt fieldAddrV fieldV indexAddrV indexV bounds sliceV convV lenV foldV max2V min2V callO bor rdsO wrsO seen_none okD_none loops keepIds resV resultsV St.ev TK.agg refs refsL refsO V.one V.isC Value.oneCell' ren renL renO noTag noTagL noTagR noTagO nodup mapO passV frs psi refsR newD loopNext opsAt idx flatAt rootOf backR newsV appendV copyV clearV strV bytesV bldV bufV selfV bytesOf nilCmp buildV fillF chunk
attribute [local simp] cT cF cX cWR cOW cK cBL X ints_length ints_get ints_getElem ints_drop ints_take ints_append ints_nil ints_set
attribute [local simp] ints_replicate
attribute [local simp] putV_some putV_none putH_app applyD_nil applyD_cons seen_app gc_ρ gc_H gc_tick st0_ρ st0_H st0_tick retV callRo callV_if borL_nil borL_cons ints_snoc take_self callWr cutH_app findQ afterV exportV_0 exportV_n okD_nil okD_cons sub_seq0 sub_seq1 sub_cond0 sub_cond1 sub_block sub_loop sub_nil young_far young_none hidW_nil mayW_nil pairs okI ok_0 ok_1 ok_2
attribute [local simp] T3 T4 T22 T24 T26 T29 T44
def lfldV (b : Bool) (w h : Int) (l : List Int) : V := .ag [.c (.int .i64 w), .c (.int .i64 h), .sq b true 1 (ints l)]
theorem c_szIntS (k : Nat) (b : Bool) (l : List Int) (n : Int) (hk : 1 ≤ k) (hn : -9223372036854775807 ≤ n - l.length) (hn' : n ≤ 9000000000000000000) : callK C k 13 [.sq b true 1 (ints l), .c (.int .i64 n)] [] = some (.c (.int .i64 (if n - l.length < 0 then -1 else n - l.length)), hpOf [] []) := by
  obtain ⟨k, rfl⟩ : ∃ m, k = m + 1 := ⟨k - 1, by omega⟩
  rw [callK_fn rfl F13 code13]
  have hw : IntKind.i64.wrap (n - l.length) = n - l.length := wrap_small (by omega) (by omega)
  by_cases h : n - (l.length : Int) < 0 <;> simp [R13_0, R13_1, R13_2, R13_3, R13_4, Try.f13, hw, h]
theorem c_szField (k : Nat) (b : Bool) (w h : Int) (l : List Int) (n : Int) (hk : 2 ≤ k) (hn : -9223372036854775807 ≤ n - l.length) (hn' : n ≤ 9000000000000000000) : callK C k 4 [lfldV b w h l, .c (.int .i64 n)] [] = some (.c (.int .i64 (if n - l.length < 0 then -1 else n - l.length)), hpOf [] []) := by
  obtain ⟨k, rfl⟩ : ∃ m, k = m + 2 := ⟨k - 2, by omega⟩
  rw [callK_fn rfl F4 code4]
  by_cases h : n - (l.length : Int) < 0 <;> simp [R4_0, R4_1, R4_2, R4_3, R4_4, Try.f4, lfldV, c_szIntS, hn, hn', h]
theorem c_toIntS (k : Nat) (b : Bool) (l : List Int) (hl : l.length ≤ 1048576) (hk : l.length + 10 ≤ k) : callK C k 18 [.sq b true 1 (ints l)] [] = some (.s 0 2 1 0 l.length, hpOf [] [intsO l]) := by
  obtain ⟨k, rfl⟩ : ∃ m, k = m + 3 := ⟨k - 3, by omega⟩
  rw [callK_fn rfl F18 code18]
  obtain ⟨out, ho⟩ := loopOut (body := fun st => runCode C (callK C (k + 2)) (k + 2) (K 18) L18_0 1 st) (keep := [0, 3, 4]) (.ex 0) (fun st => st.ρ 3 = .s 1072 2 1 0 l.length ∧ st.H 1072 = some (2, intsO l))
    (fun i st => st.ρ 0 = .sq b true 1 (ints l) ∧ st.ρ 3 = .s 1072 2 1 0 l.length ∧ st.H 1072 = some (2, intsO (fillL l (List.replicate l.length 0) i)) ∧ st.ρ 4 = .c (.int .i64 (i : Int)))
    l.length (k + 2) (by omega)
    (by
      rintro i st next hi ⟨h0, h3, hH, h4⟩ hn
      have hg := fillL_get l (List.replicate l.length 0) i (by simp) hi
      have hs := fillL_set l (List.replicate l.length 0) i (by simp) hi
      simp [L18_0, R18_0, R18_1, R18_2, R18_3, R18_4, R18_5, R18_6, Try.f18, lpL18_0, lpM18_0, M18_0, h0, h3, h4, hH, hi, intsO, wrap_next hi (by omega : l.length ≤ 9000000000000000000), hg, hs]
      exact hn _ (by simp [h0, h3, intsO]))
    (by
      rintro st next ⟨h0, h3, hH, h4⟩
      simp [L18_0, R18_0, R18_1, R18_2, R18_3, R18_4, R18_5, R18_6, Try.f18, lpL18_0, lpM18_0, M18_0, h0, h3, h4, hH, intsO, fillL_all])
  simp [fillL_zero, intsO] at ho
  have b1 : (l.length : Int) ≤ 17592186044416 := by omega
  have b2 : 8 * (l.length : Int) ≤ 140737488355328 := by omega
  simp [R18_0, R18_1, R18_2, R18_3, R18_4, R18_5, R18_6, Try.f18, lpL18_0, lpM18_0, M18_0, ho, intsO, b1, b2]
theorem c_toField (k : Nat) (b : Bool) (w h : Int) (l : List Int) (hl : l.length ≤ 1048576) (hk : l.length + 20 ≤ k) : callK C k 6 [lfldV b w h l] [] = some (.ag [.c (.int .i64 w), .c (.int .i64 h), .s 0 2 1 0 l.length], hpOf [] [intsO l]) := by
  obtain ⟨k, rfl⟩ : ∃ m, k = m + 4 := ⟨k - 4, by omega⟩
  rw [callK_fn rfl F6 code6]
  have h58 := c_toIntS (k + 3) b l hl (by omega)
  simp [R6_0, R6_1, R6_2, R6_3, R6_4, R6_5, Try.f6, lfldV, h58, intsO]
theorem c_eqIntS (k : Nat) (b c : Bool) (l m : List Int) (hl : l.length ≤ 1048576) (hk : l.length + 10 ≤ k) : callK C k 22 [.sq b true 1 (ints l), .sq c true 1 (ints m)] [] = some (.c (.bool (decide (l = m))), hpOf [] []) := by
  obtain ⟨k, rfl⟩ : ∃ m, k = m + 3 := ⟨k - 3, by omega⟩
  rw [callK_fn rfl F22 code22]
  by_cases hlm : l = m
  · subst hlm
    obtain ⟨out, ho⟩ := loopOut (body := fun st => runCode C (callK C (k + 2)) (k + 2) (K 22) L22_0 1 st) (keep := [0, 1, 5]) (.ex 0) (fun st => True)
      (fun i st => st.ρ 0 = .sq b true 1 (ints l) ∧ st.ρ 1 = .sq c true 1 (ints l) ∧ st.ρ 5 = .c (.int .i64 (i : Int)))
      l.length (k + 2) (by omega)
      (by
        rintro i st next hi ⟨h0, h1, h5⟩ hn
        simp [L22_0, R22_0, R22_1, R22_2, R22_3, R22_4, R22_5, R22_6, R22_7, R22_8, Try.f22, lpL22_0, lpM22_0, M22_0, h0, h1, h5, hi, wrap_next hi (by omega : l.length ≤ 9000000000000000000)] at hn ⊢
        exact hn _ (by simp [h0]) (by simp [h1]) (by simp))
      (by
        rintro st next ⟨h0, h1, h5⟩
        simp [L22_0, R22_0, R22_1, R22_2, R22_3, R22_4, R22_5, R22_6, R22_7, R22_8, Try.f22, lpL22_0, lpM22_0, M22_0, h0, h1, h5])
    simp at ho
    simp [R22_0, R22_1, R22_2, R22_3, R22_4, R22_5, R22_6, R22_7, R22_8, Try.f22, lpL22_0, lpM22_0, M22_0, ho]
  · by_cases hll : l.length = m.length
    · obtain ⟨out, ho⟩ := loopOut (body := fun st => runCode C (callK C (k + 2)) (k + 2) (K 22) L22_0 1 st) (keep := [0, 1, 5]) .ret (fun st => st.ρ 4 = .c (.bool false))
        (fun i st => st.ρ 0 = .sq b true 1 (ints l) ∧ st.ρ 1 = .sq c true 1 (ints m) ∧ st.ρ 5 = .c (.int .i64 (i : Int)) ∧ l.take i = m.take i)
        l.length (k + 2) (by omega)
        (by
          rintro i st next hi ⟨h0, h1, h5, ht⟩ hn
          have hi' : i < m.length := by omega
          by_cases hx : l[i] = m[i]
          · have ht' : l.take (i + 1) = m.take (i + 1) := by rw [List.take_succ_eq_append_getElem hi, List.take_succ_eq_append_getElem hi', ht, hx]
            simp [L22_0, R22_0, R22_1, R22_2, R22_3, R22_4, R22_5, R22_6, R22_7, R22_8, Try.f22, lpL22_0, lpM22_0, M22_0, h0, h1, h5, hi, hi', hx, wrap_next hi (by omega : l.length ≤ 9000000000000000000)] at hn ⊢
            exact hn _ (by simp [h0]) (by simp [h1]) (by simp) ht'
          · simp [L22_0, R22_0, R22_1, R22_2, R22_3, R22_4, R22_5, R22_6, R22_7, R22_8, Try.f22, lpL22_0, lpM22_0, M22_0, h0, h1, h5, hi, hi', hx])
        (by
          rintro st next ⟨h0, h1, h5, ht⟩
          rw [List.take_of_length_le (by omega), List.take_of_length_le (by omega)] at ht
          exact absurd ht hlm)
      simp at ho
      have hll' : (l.length : Int) = m.length := by omega
      simp [R22_0, R22_1, R22_2, R22_3, R22_4, R22_5, R22_6, R22_7, R22_8, Try.f22, lpL22_0, lpM22_0, M22_0, ho, hlm, hll]
    · have hll' : ¬ (l.length : Int) = m.length := by omega
      simp [R22_0, R22_1, R22_2, R22_3, R22_4, R22_5, R22_6, R22_7, R22_8, Try.f22, lpL22_0, lpM22_0, M22_0, hlm, hll']
theorem c_eqField (k : Nat) (b c : Bool) (w h w' h' : Int) (l m : List Int) (hl : l.length ≤ 1048576) (hk : l.length + 20 ≤ k) : callK C k 9 [fldV b w h l, fldV c w' h' m] [] = some (.c (.bool (decide (w = w' ∧ h = h' ∧ l = m))), hpOf [] []) := by
  obtain ⟨k, rfl⟩ : ∃ m, k = m + 3 := ⟨k - 3, by omega⟩
  rw [callK_fn rfl F9 code9]
  have h62 := c_eqIntS (k + 2) true true l m hl (by omega)
  have h62' := c_eqIntS (k + 2) b c l m hl (by omega)
  by_cases hw : w = w'
  · by_cases hh : h = h'
    · by_cases hlm : l = m
      · subst hlm; simp [R9_0, R9_1, R9_2, R9_3, R9_4, R9_5, R9_6, R9_7, Try.f9, fldV, h62, h62', hw, hh]
      · simp [R9_0, R9_1, R9_2, R9_3, R9_4, R9_5, R9_6, R9_7, Try.f9, fldV, h62, h62', hw, hh, hlm]
    · simp [R9_0, R9_1, R9_2, R9_3, R9_4, R9_5, R9_6, R9_7, Try.f9, fldV, hw, hh]
  · simp [R9_0, R9_1, R9_2, R9_3, R9_4, R9_5, R9_6, R9_7, Try.f9, fldV, hw]
def marks (n : Int) (len : Nat) : List Int := (List.range len).map fun i => n + ((i : Nat) : Int)
theorem marks_length (n : Int) (len : Nat) : (marks n len).length = len := by simp [marks]
theorem marks_get (n : Int) (len i : Nat) (h : i < len) : (marks n len)[i]'(by simpa [marks] using h) = n + i := by simp [marks]
theorem c_markIntS (k : Nat) (l : List Int) (n : Int) (hl : l.length ≤ 1048576) (hn0 : -1000000 ≤ n) (hn1 : n ≤ 100000000000) (hk : l.length + 10 ≤ k) : callK C k 23 [.s 0 0 1 0 l.length, .c (.int .i64 n)] [intsO l] = some (.c (.int .i64 (n + l.length)), hpOf [some (intsO (marks n l.length))] []) := by
  obtain ⟨k, rfl⟩ : ∃ m, k = m + 3 := ⟨k - 3, by omega⟩
  rw [callK_fn rfl F23 code23]
  obtain ⟨out, ho⟩ := loopOut (body := fun st => runCode C (callK C (k + 2)) (k + 2) (K 23) L23_0 1 st) (keep := [0, 1, 5]) (.ex 0) (fun st => st.ρ 1 = .c (.int .i64 (n + l.length)) ∧ st.H 0 = some (0, intsO (marks n l.length)))
    (fun i st => st.ρ 0 = .s 0 0 1 0 l.length ∧ st.ρ 1 = .c (.int .i64 (n + i)) ∧ st.H 0 = some (0, intsO (fillL (marks n l.length) l i)) ∧ st.ρ 5 = .c (.int .i64 (i : Int)))
    l.length (k + 2) (by omega)
    (by
      rintro i st next hi ⟨h0, h1, hH, h5⟩ hn
      have hm : (marks n l.length).length = l.length := marks_length _ _
      have hg := fillL_get (marks n l.length) l i hm.symm (by omega)
      have hs := fillL_set (marks n l.length) l i hm.symm (by omega)
      rw [marks_get n l.length i hi] at hs
      have hw : IntKind.i64.wrap (n + i + 1) = n + (i + 1) := by rw [wrap_small (by omega) (by omega)]; omega
      simp [L23_0, R23_0, R23_1, R23_2, R23_3, R23_4, R23_5, R23_6, Try.f23, lpL23_0, lpM23_0, M23_0, h0, h1, h5, hH, hi, intsO, wrap_next hi (by omega : l.length ≤ 9000000000000000000), hg, hs, hw] at hn ⊢
      exact hn _ (by simp [h0]) (by simp) (by simp) (by simp))
    (by
      rintro st next ⟨h0, h1, hH, h5⟩
      have hf := fillL_all (marks n l.length) l (by rw [marks_length]; exact Nat.le_refl _)
      rw [marks_length] at hf
      simp [L23_0, R23_0, R23_1, R23_2, R23_3, R23_4, R23_5, R23_6, Try.f23, lpL23_0, lpM23_0, M23_0, h0, h1, h5, hH, intsO, hf])
  simp [fillL_zero, intsO] at ho
  simp [R23_0, R23_1, R23_2, R23_3, R23_4, R23_5, R23_6, Try.f23, lpL23_0, lpM23_0, M23_0, ho, intsO]
theorem c_heldIntS (k : Nat) (b : Bool) (l : List Int) (n : Int) (hl : l.length ≤ 1048576) (hn0 : -1000000 ≤ n) (hn1 : n ≤ 100000000000) (hk : l.length + 10 ≤ k) : callK C k 24 [.sq b true 1 (ints l), .c (.int .i64 n)] [] = some (.c (.int .i64 (if l = marks n l.length then n + l.length else -1)), hpOf [] []) := by
  obtain ⟨k, rfl⟩ : ∃ m, k = m + 3 := ⟨k - 3, by omega⟩
  rw [callK_fn rfl F24 code24]
  have hm : (marks n l.length).length = l.length := marks_length _ _
  by_cases hlm : l = marks n l.length
  · obtain ⟨out, ho⟩ := loopOut (body := fun st => runCode C (callK C (k + 2)) (k + 2) (K 24) L24_0 1 st) (keep := [0, 1, 5]) (.ex 0) (fun st => st.ρ 1 = .c (.int .i64 (n + l.length)))
      (fun i st => st.ρ 0 = .sq b true 1 (ints l) ∧ st.ρ 1 = .c (.int .i64 (n + i)) ∧ st.ρ 5 = .c (.int .i64 (i : Int)))
      l.length (k + 2) (by omega)
      (by
        rintro i st next hi ⟨h0, h1, h5⟩ hn
        have hx : l[i] = n + i := by rw [← marks_get n l.length i hi]; congr 1
        have hw : IntKind.i64.wrap (n + i + 1) = n + (i + 1) := by rw [wrap_small (by omega) (by omega)]; omega
        simp [L24_0, R24_0, R24_1, R24_2, R24_3, R24_4, R24_5, R24_6, R24_7, Try.f24, lpL24_0, lpM24_0, M24_0, h0, h1, h5, hi, hx, hw, wrap_next hi (by omega : l.length ≤ 9000000000000000000)] at hn ⊢
        exact hn _ (by simp [h0]) (by simp) (by simp))
      (by
        rintro st next ⟨h0, h1, h5⟩
        simp [L24_0, R24_0, R24_1, R24_2, R24_3, R24_4, R24_5, R24_6, R24_7, Try.f24, lpL24_0, lpM24_0, M24_0, h0, h1, h5])
    simp at ho
    rw [if_pos hlm]
    simp [R24_0, R24_1, R24_2, R24_3, R24_4, R24_5, R24_6, R24_7, Try.f24, lpL24_0, lpM24_0, M24_0, ho]
  · obtain ⟨out, ho⟩ := loopOut (body := fun st => runCode C (callK C (k + 2)) (k + 2) (K 24) L24_0 1 st) (keep := [0, 1, 5]) .ret (fun st => st.ρ 4 = .c (.int .i64 (-1)))
      (fun i st => st.ρ 0 = .sq b true 1 (ints l) ∧ st.ρ 1 = .c (.int .i64 (n + i)) ∧ st.ρ 5 = .c (.int .i64 (i : Int)) ∧ l.take i = (marks n l.length).take i)
      l.length (k + 2) (by omega)
      (by
        rintro i st next hi ⟨h0, h1, h5, ht⟩ hn
        have hw : IntKind.i64.wrap (n + i + 1) = n + (i + 1) := by rw [wrap_small (by omega) (by omega)]; omega
        by_cases hx : l[i] = n + i
        · have ht' : l.take (i + 1) = (marks n l.length).take (i + 1) := by rw [List.take_succ_eq_append_getElem hi, List.take_succ_eq_append_getElem (by omega : i < (marks n l.length).length), ht, marks_get n l.length i hi, hx]
          simp [L24_0, R24_0, R24_1, R24_2, R24_3, R24_4, R24_5, R24_6, R24_7, Try.f24, lpL24_0, lpM24_0, M24_0, h0, h1, h5, hi, hx, hw, wrap_next hi (by omega : l.length ≤ 9000000000000000000)] at hn ⊢
          exact hn _ (by simp [h0]) (by simp) (by simp) ht'
        · simp [L24_0, R24_0, R24_1, R24_2, R24_3, R24_4, R24_5, R24_6, R24_7, Try.f24, lpL24_0, lpM24_0, M24_0, h0, h1, h5, hi, hx])
      (by
        rintro st next ⟨h0, h1, h5, ht⟩
        rw [List.take_of_length_le (by omega), List.take_of_length_le (by omega)] at ht
        exact absurd ht hlm)
    simp at ho
    rw [if_neg hlm]
    simp [R24_0, R24_1, R24_2, R24_3, R24_4, R24_5, R24_6, R24_7, Try.f24, lpL24_0, lpM24_0, M24_0, ho]
theorem c_markField (k : Nat) (w h : Int) (l : List Int) (n : Int) (hl : l.length ≤ 1048576) (hn0 : 0 ≤ n) (hn1 : n ≤ 100000000000) (hk : l.length + 20 ≤ k) : callK C k 10 [.ag [.c (.int .i64 w), .c (.int .i64 h), .s 0 0 1 0 l.length], .c (.int .i64 n)] [intsO l] = some (.c (.int .i64 (n + l.length)), hpOf [some (intsO (marks n l.length))] []) := by
  obtain ⟨k, rfl⟩ : ∃ m, k = m + 4 := ⟨k - 4, by omega⟩
  rw [callK_fn rfl F10 code10]
  have h1 := c_markIntS (k + 3) l n hl (by omega) hn1 (by omega)
  simp [intsO] at h1
  simp [R10_0, R10_1, R10_2, Try.f10, h1, intsO]

end Go.Proofs.Ytemkckldfmpplaa.Eng
