/- A deterministic reading of Go code over plain data: what functions of the program compute. No conditions. -/
import Derived.Test.YtalpgpjhloohfaaDoorLmbase
import Derived.Test.YtalpgpjhloohfaaDoorEngT
namespace Go.Proofs.YtalpgpjhloohfaaDoor.Eng
open Go Go.Proofs
set_option maxRecDepth 100000
set_option maxHeartbeats 2000000
set_option linter.unusedSimpArgs false
set_option linter.unusedVariables false
attribute [local simp] finK fin1 hpOf xi renQ isRoot runCode runOps Eng.step wantedV astep val ofO made loadV storeV find V.cells bin binT binA numT numFs eqCells un1 setAt fieldAddrV fieldV indexAddrV indexV bounds sliceV convV lenV foldV max2V min2V callO bor rdsO wrsO seen_none okD_none loops keepIds resV resultsV St.ev TK.agg refs refsL refsO V.one V.isC Value.oneCell' ren renL renO noTag noTagL noTagR noTagO nodup mapO passV frs psi refsR newD loopNext opsAt idx flatAt rootOf backR newsV appendV copyV clearV strV bytesOf nilCmp buildV fillF chunk
attribute [local simp] cT cF cX cWR cOW cK X ints_length ints_get ints_getElem ints_drop ints_take ints_append ints_nil ints_set
attribute [local simp] ints_replicate
attribute [local simp] putV_some putV_none putH_app applyD_nil applyD_cons seen_app gc_ρ gc_H gc_tick st0_ρ st0_H st0_tick retV callRo callV_if borL_nil borL_cons ints_snoc take_self callWr cutH_app findQ afterV exportV_0 exportV_n okD_nil okD_cons sub_seq0 sub_seq1 sub_cond0 sub_cond1 sub_block sub_loop sub_nil young_far young_none hidW_nil mayW_nil pairs okI ok_0 ok_1 ok_2
attribute [local simp] T3 T4 T5 T9 T22 T28 T57 T70 T72
def lfldV (b : Bool) (w h : Int) (l : List Int) : V := .ag [.c (.int .i64 w), .c (.int .i64 h), .sq b true 1 (ints l)]
theorem c_eqIntS (k : Nat) (b c : Bool) (l m : List Int) (hl : l.length ≤ 1048576) (hk : l.length + 10 ≤ k) : callK C k 43 [.sq b true 1 (ints l), .sq c true 1 (ints m)] [] = some (.c (.bool (decide (l = m))), hpOf [] []) := by
  obtain ⟨k, rfl⟩ : ∃ m, k = m + 3 := ⟨k - 3, by omega⟩
  rw [callK_fn rfl F43 code43]
  by_cases hlm : l = m
  · subst hlm
    obtain ⟨out, ho⟩ := loopOut (body := fun st => runCode C (callK C (k + 2)) (k + 2) (K 43) L43_0 1 st) (keep := [0, 1, 5]) (.ex 0) (fun st => True)
      (fun i st => st.ρ 0 = .sq b true 1 (ints l) ∧ st.ρ 1 = .sq c true 1 (ints l) ∧ st.ρ 5 = .c (.int .i64 (i : Int)))
      l.length (k + 2) (by omega)
      (by
        rintro i st next hi ⟨h0, h1, h5⟩ hn
        simp [L43_0, R43_0, R43_1, R43_2, R43_3, R43_4, R43_5, R43_6, R43_7, R43_8, Tryd.f43, lpL43_0, lpM43_0, M43_0, h0, h1, h5, hi, wrap_next hi (by omega : l.length ≤ 9000000000000000000)] at hn ⊢
        exact hn _ (by simp [h0]) (by simp [h1]) (by simp))
      (by
        rintro st next ⟨h0, h1, h5⟩
        simp [L43_0, R43_0, R43_1, R43_2, R43_3, R43_4, R43_5, R43_6, R43_7, R43_8, Tryd.f43, lpL43_0, lpM43_0, M43_0, h0, h1, h5])
    simp at ho
    simp [R43_0, R43_1, R43_2, R43_3, R43_4, R43_5, R43_6, R43_7, R43_8, Tryd.f43, lpL43_0, lpM43_0, M43_0, ho]
  · by_cases hll : l.length = m.length
    · obtain ⟨out, ho⟩ := loopOut (body := fun st => runCode C (callK C (k + 2)) (k + 2) (K 43) L43_0 1 st) (keep := [0, 1, 5]) .ret (fun st => st.ρ 4 = .c (.bool false))
        (fun i st => st.ρ 0 = .sq b true 1 (ints l) ∧ st.ρ 1 = .sq c true 1 (ints m) ∧ st.ρ 5 = .c (.int .i64 (i : Int)) ∧ l.take i = m.take i)
        l.length (k + 2) (by omega)
        (by
          rintro i st next hi ⟨h0, h1, h5, ht⟩ hn
          have hi' : i < m.length := by omega
          by_cases hx : l[i] = m[i]
          · have ht' : l.take (i + 1) = m.take (i + 1) := by rw [List.take_succ_eq_append_getElem hi, List.take_succ_eq_append_getElem hi', ht, hx]
            simp [L43_0, R43_0, R43_1, R43_2, R43_3, R43_4, R43_5, R43_6, R43_7, R43_8, Tryd.f43, lpL43_0, lpM43_0, M43_0, h0, h1, h5, hi, hi', hx, wrap_next hi (by omega : l.length ≤ 9000000000000000000)] at hn ⊢
            exact hn _ (by simp [h0]) (by simp [h1]) (by simp) ht'
          · simp [L43_0, R43_0, R43_1, R43_2, R43_3, R43_4, R43_5, R43_6, R43_7, R43_8, Tryd.f43, lpL43_0, lpM43_0, M43_0, h0, h1, h5, hi, hi', hx])
        (by
          rintro st next ⟨h0, h1, h5, ht⟩
          rw [List.take_of_length_le (by omega), List.take_of_length_le (by omega)] at ht
          exact absurd ht hlm)
      simp at ho
      have hll' : (l.length : Int) = m.length := by omega
      simp [R43_0, R43_1, R43_2, R43_3, R43_4, R43_5, R43_6, R43_7, R43_8, Tryd.f43, lpL43_0, lpM43_0, M43_0, ho, hlm, hll]
    · have hll' : ¬ (l.length : Int) = m.length := by omega
      simp [R43_0, R43_1, R43_2, R43_3, R43_4, R43_5, R43_6, R43_7, R43_8, Tryd.f43, lpL43_0, lpM43_0, M43_0, hlm, hll']
theorem c_eqField (k : Nat) (b c : Bool) (w h w' h' : Int) (l m : List Int) (hl : l.length ≤ 1048576) (hk : l.length + 20 ≤ k) : callK C k 11 [fldV b w h l, fldV c w' h' m] [] = some (.c (.bool (decide (w = w' ∧ h = h' ∧ l = m))), hpOf [] []) := by
  obtain ⟨k, rfl⟩ : ∃ m, k = m + 3 := ⟨k - 3, by omega⟩
  rw [callK_fn rfl F11 code11]
  have h62 := c_eqIntS (k + 2) true true l m hl (by omega)
  have h62' := c_eqIntS (k + 2) b c l m hl (by omega)
  by_cases hw : w = w'
  · by_cases hh : h = h'
    · by_cases hlm : l = m
      · subst hlm; simp [R11_0, R11_1, R11_2, R11_3, R11_4, R11_5, R11_6, R11_7, Tryd.f11, fldV, h62, h62', hw, hh]
      · simp [R11_0, R11_1, R11_2, R11_3, R11_4, R11_5, R11_6, R11_7, Tryd.f11, fldV, h62, h62', hw, hh, hlm]
    · simp [R11_0, R11_1, R11_2, R11_3, R11_4, R11_5, R11_6, R11_7, Tryd.f11, fldV, hw, hh]
  · simp [R11_0, R11_1, R11_2, R11_3, R11_4, R11_5, R11_6, R11_7, Tryd.f11, fldV, hw]
def marks (n : Int) (len : Nat) : List Int := (List.range len).map fun i => n + ((i : Nat) : Int)
theorem marks_length (n : Int) (len : Nat) : (marks n len).length = len := by simp [marks]
theorem marks_get (n : Int) (len i : Nat) (h : i < len) : (marks n len)[i]'(by simpa [marks] using h) = n + i := by simp [marks]
theorem c_markIntS (k : Nat) (l : List Int) (n : Int) (hl : l.length ≤ 1048576) (hn0 : -1000000 ≤ n) (hn1 : n ≤ 100000000000) (hk : l.length + 10 ≤ k) : callK C k 63 [.s 0 0 1 0 l.length, .c (.int .i64 n)] [intsO l] = some (.c (.int .i64 (n + l.length)), hpOf [some (intsO (marks n l.length))] []) := by
  obtain ⟨k, rfl⟩ : ∃ m, k = m + 3 := ⟨k - 3, by omega⟩
  rw [callK_fn rfl F63 code63]
  obtain ⟨out, ho⟩ := loopOut (body := fun st => runCode C (callK C (k + 2)) (k + 2) (K 63) L63_0 1 st) (keep := [0, 1, 5]) (.ex 0) (fun st => st.ρ 1 = .c (.int .i64 (n + l.length)) ∧ st.H 0 = some (0, intsO (marks n l.length)))
    (fun i st => st.ρ 0 = .s 0 0 1 0 l.length ∧ st.ρ 1 = .c (.int .i64 (n + i)) ∧ st.H 0 = some (0, intsO (fillL (marks n l.length) l i)) ∧ st.ρ 5 = .c (.int .i64 (i : Int)))
    l.length (k + 2) (by omega)
    (by
      rintro i st next hi ⟨h0, h1, hH, h5⟩ hn
      have hm : (marks n l.length).length = l.length := marks_length _ _
      have hg := fillL_get (marks n l.length) l i hm.symm (by omega)
      have hs := fillL_set (marks n l.length) l i hm.symm (by omega)
      rw [marks_get n l.length i hi] at hs
      have hw : IntKind.i64.wrap (n + i + 1) = n + (i + 1) := by rw [wrap_small (by omega) (by omega)]; omega
      simp [L63_0, R63_0, R63_1, R63_2, R63_3, R63_4, R63_5, R63_6, Tryd.f63, lpL63_0, lpM63_0, M63_0, h0, h1, h5, hH, hi, intsO, wrap_next hi (by omega : l.length ≤ 9000000000000000000), hg, hs, hw] at hn ⊢
      exact hn _ (by simp [h0]) (by simp) (by simp) (by simp))
    (by
      rintro st next ⟨h0, h1, hH, h5⟩
      have hf := fillL_all (marks n l.length) l (by rw [marks_length]; exact Nat.le_refl _)
      rw [marks_length] at hf
      simp [L63_0, R63_0, R63_1, R63_2, R63_3, R63_4, R63_5, R63_6, Tryd.f63, lpL63_0, lpM63_0, M63_0, h0, h1, h5, hH, intsO, hf])
  simp [fillL_zero, intsO] at ho
  simp [R63_0, R63_1, R63_2, R63_3, R63_4, R63_5, R63_6, Tryd.f63, lpL63_0, lpM63_0, M63_0, ho, intsO]
theorem c_heldIntS (k : Nat) (b : Bool) (l : List Int) (n : Int) (hl : l.length ≤ 1048576) (hn0 : -1000000 ≤ n) (hn1 : n ≤ 100000000000) (hk : l.length + 10 ≤ k) : callK C k 64 [.sq b true 1 (ints l), .c (.int .i64 n)] [] = some (.c (.int .i64 (if l = marks n l.length then n + l.length else -1)), hpOf [] []) := by
  obtain ⟨k, rfl⟩ : ∃ m, k = m + 3 := ⟨k - 3, by omega⟩
  rw [callK_fn rfl F64 code64]
  have hm : (marks n l.length).length = l.length := marks_length _ _
  by_cases hlm : l = marks n l.length
  · obtain ⟨out, ho⟩ := loopOut (body := fun st => runCode C (callK C (k + 2)) (k + 2) (K 64) L64_0 1 st) (keep := [0, 1, 5]) (.ex 0) (fun st => st.ρ 1 = .c (.int .i64 (n + l.length)))
      (fun i st => st.ρ 0 = .sq b true 1 (ints l) ∧ st.ρ 1 = .c (.int .i64 (n + i)) ∧ st.ρ 5 = .c (.int .i64 (i : Int)))
      l.length (k + 2) (by omega)
      (by
        rintro i st next hi ⟨h0, h1, h5⟩ hn
        have hx : l[i] = n + i := by rw [← marks_get n l.length i hi]; congr 1
        have hw : IntKind.i64.wrap (n + i + 1) = n + (i + 1) := by rw [wrap_small (by omega) (by omega)]; omega
        simp [L64_0, R64_0, R64_1, R64_2, R64_3, R64_4, R64_5, R64_6, R64_7, Tryd.f64, lpL64_0, lpM64_0, M64_0, h0, h1, h5, hi, hx, hw, wrap_next hi (by omega : l.length ≤ 9000000000000000000)] at hn ⊢
        exact hn _ (by simp [h0]) (by simp) (by simp))
      (by
        rintro st next ⟨h0, h1, h5⟩
        simp [L64_0, R64_0, R64_1, R64_2, R64_3, R64_4, R64_5, R64_6, R64_7, Tryd.f64, lpL64_0, lpM64_0, M64_0, h0, h1, h5])
    simp at ho
    rw [if_pos hlm]
    simp [R64_0, R64_1, R64_2, R64_3, R64_4, R64_5, R64_6, R64_7, Tryd.f64, lpL64_0, lpM64_0, M64_0, ho]
  · obtain ⟨out, ho⟩ := loopOut (body := fun st => runCode C (callK C (k + 2)) (k + 2) (K 64) L64_0 1 st) (keep := [0, 1, 5]) .ret (fun st => st.ρ 4 = .c (.int .i64 (-1)))
      (fun i st => st.ρ 0 = .sq b true 1 (ints l) ∧ st.ρ 1 = .c (.int .i64 (n + i)) ∧ st.ρ 5 = .c (.int .i64 (i : Int)) ∧ l.take i = (marks n l.length).take i)
      l.length (k + 2) (by omega)
      (by
        rintro i st next hi ⟨h0, h1, h5, ht⟩ hn
        have hw : IntKind.i64.wrap (n + i + 1) = n + (i + 1) := by rw [wrap_small (by omega) (by omega)]; omega
        by_cases hx : l[i] = n + i
        · have ht' : l.take (i + 1) = (marks n l.length).take (i + 1) := by rw [List.take_succ_eq_append_getElem hi, List.take_succ_eq_append_getElem (by omega : i < (marks n l.length).length), ht, marks_get n l.length i hi, hx]
          simp [L64_0, R64_0, R64_1, R64_2, R64_3, R64_4, R64_5, R64_6, R64_7, Tryd.f64, lpL64_0, lpM64_0, M64_0, h0, h1, h5, hi, hx, hw, wrap_next hi (by omega : l.length ≤ 9000000000000000000)] at hn ⊢
          exact hn _ (by simp [h0]) (by simp) (by simp) ht'
        · simp [L64_0, R64_0, R64_1, R64_2, R64_3, R64_4, R64_5, R64_6, R64_7, Tryd.f64, lpL64_0, lpM64_0, M64_0, h0, h1, h5, hi, hx])
      (by
        rintro st next ⟨h0, h1, h5, ht⟩
        rw [List.take_of_length_le (by omega), List.take_of_length_le (by omega)] at ht
        exact absurd ht hlm)
    simp at ho
    rw [if_neg hlm]
    simp [R64_0, R64_1, R64_2, R64_3, R64_4, R64_5, R64_6, R64_7, Tryd.f64, lpL64_0, lpM64_0, M64_0, ho]
theorem c_heldField (k : Nat) (b : Bool) (w h : Int) (l : List Int) (n : Int) (hl : l.length ≤ 1048576) (hn0 : 0 ≤ n) (hn1 : n ≤ 100000000000) (hk : l.length + 20 ≤ k) : callK C k 27 [fldV b w h l, .c (.int .i64 n)] [] = some (.c (.int .i64 (if l = marks n l.length then n + l.length else -1)), hpOf [] []) := by
  obtain ⟨k, rfl⟩ : ∃ m, k = m + 4 := ⟨k - 4, by omega⟩
  rw [callK_fn rfl F27 code27]
  have h1 := c_heldIntS (k + 3) b l n hl (by omega) hn1 (by omega)
  by_cases hlm : l = marks n l.length
  · rw [if_pos hlm] at h1 ⊢
    have : ¬ (n + l.length < 0) := by omega
    simp [R27_0, R27_1, R27_2, R27_3, R27_4, Tryd.f27, fldV, h1, this]
  · rw [if_neg hlm] at h1 ⊢
    simp [R27_0, R27_1, R27_2, R27_3, R27_4, Tryd.f27, fldV, h1]
theorem c_markField (k : Nat) (w h : Int) (l : List Int) (n : Int) (hl : l.length ≤ 1048576) (hn0 : 0 ≤ n) (hn1 : n ≤ 100000000000) (hk : l.length + 20 ≤ k) : callK C k 26 [.ag [.c (.int .i64 w), .c (.int .i64 h), .s 0 0 1 0 l.length], .c (.int .i64 n)] [intsO l] = some (.c (.int .i64 (n + l.length)), hpOf [some (intsO (marks n l.length))] []) := by
  obtain ⟨k, rfl⟩ : ∃ m, k = m + 4 := ⟨k - 4, by omega⟩
  rw [callK_fn rfl F26 code26]
  have h1 := c_markIntS (k + 3) l n hl (by omega) hn1 (by omega)
  simp [intsO] at h1
  simp [R26_0, R26_1, R26_2, Tryd.f26, h1, intsO]

end Go.Proofs.YtalpgpjhloohfaaDoor.Eng
