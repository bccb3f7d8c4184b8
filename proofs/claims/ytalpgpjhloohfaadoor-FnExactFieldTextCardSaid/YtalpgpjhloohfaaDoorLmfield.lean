/- A deterministic reading of Go code over plain data: what functions of the program compute. No conditions. -/
import Derived.Test.YtalpgpjhloohfaaDoorLmbase
import Derived.Test.YtalpgpjhloohfaaDoorEngT
namespace Go.Proofs.YtalpgpjhloohfaaDoor.Eng
open Go Go.Proofs
set_option maxRecDepth 100000
set_option maxHeartbeats 2000000
set_option linter.unusedSimpArgs false
set_option linter.unusedVariables false
attribute [local simp] finK fin1 hpOf xi renQ isRoot runCode runOps Eng.step wantedV astep val ofO made loadV storeV find V.cells bin binT binA numT numFs eqCells un1 setAt fieldAddrV fieldV indexAddrV indexV bounds sliceV convV lenV foldV max2V min2V callO bor rdsO wrsO seen_none okD_none loops keepIds resV resultsV St.ev TK.agg refs refsL refsO V.one V.isC Value.oneCell' ren renL renO noTag noTagL noTagR noTagO nodup mapO passV frs psi refsR newD loopNext opsAt idx flatAt rootOf backR newsV appendV copyV clearV strV bytesV bldV bufV selfV bytesOf nilCmp buildV fillF chunk
attribute [local simp] cT cF cX cWR cOW cK cBL X ints_length ints_get ints_getElem ints_drop ints_take ints_append ints_nil ints_set
attribute [local simp] ints_replicate
attribute [local simp] putV_some putV_none putH_app applyD_nil applyD_cons seen_app gc_ρ gc_H gc_tick st0_ρ st0_H st0_tick retV callRo callV_if borL_nil borL_cons ints_snoc take_self callWr cutH_app findQ afterV exportV_0 exportV_n okD_nil okD_cons sub_seq0 sub_seq1 sub_cond0 sub_cond1 sub_block sub_loop sub_nil young_far young_none hidW_nil mayW_nil pairs okI ok_0 ok_1 ok_2
attribute [local simp] T3 T4 T9 T22 T24 T28 T55 T70
def lfldV (b : Bool) (w h : Int) (l : List Int) : V := .ag [.c (.int .i64 w), .c (.int .i64 h), .sq b true 1 (ints l)]
theorem c_szIntS (k : Nat) (b : Bool) (l : List Int) (n : Int) (hk : 1 ≤ k) (hn : -9223372036854775807 ≤ n - l.length) (hn' : n ≤ 9000000000000000000) : callK C k 36 [.sq b true 1 (ints l), .c (.int .i64 n)] [] = some (.c (.int .i64 (if n - l.length < 0 then -1 else n - l.length)), hpOf [] []) := by
  obtain ⟨k, rfl⟩ : ∃ m, k = m + 1 := ⟨k - 1, by omega⟩
  rw [callK_fn rfl F36 code36]
  have hw : IntKind.i64.wrap (n - l.length) = n - l.length := wrap_small (by omega) (by omega)
  by_cases h : n - (l.length : Int) < 0 <;> simp [R36_0, R36_1, R36_2, R36_3, R36_4, Tryd.f36, hw, h]
theorem c_szField (k : Nat) (b : Bool) (w h : Int) (l : List Int) (n : Int) (hk : 2 ≤ k) (hn : -9223372036854775807 ≤ n - l.length) (hn' : n ≤ 9000000000000000000) : callK C k 7 [lfldV b w h l, .c (.int .i64 n)] [] = some (.c (.int .i64 (if n - l.length < 0 then -1 else n - l.length)), hpOf [] []) := by
  obtain ⟨k, rfl⟩ : ∃ m, k = m + 2 := ⟨k - 2, by omega⟩
  rw [callK_fn rfl F7 code7]
  by_cases h : n - (l.length : Int) < 0 <;> simp [R7_0, R7_1, R7_2, R7_3, R7_4, Tryd.f7, lfldV, c_szIntS, hn, hn', h]
theorem c_toIntS (k : Nat) (b : Bool) (l : List Int) (hl : l.length ≤ 1048576) (hk : l.length + 10 ≤ k) : callK C k 39 [.sq b true 1 (ints l)] [] = some (.s 0 2 1 0 l.length, hpOf [] [intsO l]) := by
  obtain ⟨k, rfl⟩ : ∃ m, k = m + 3 := ⟨k - 3, by omega⟩
  rw [callK_fn rfl F39 code39]
  obtain ⟨out, ho⟩ := loopOut (body := fun st => runCode C (callK C (k + 2)) (k + 2) (K 39) L39_0 1 st) (keep := [0, 3, 4]) (.ex 0) (fun st => st.ρ 3 = .s 1072 2 1 0 l.length ∧ st.H 1072 = some (2, intsO l))
    (fun i st => st.ρ 0 = .sq b true 1 (ints l) ∧ st.ρ 3 = .s 1072 2 1 0 l.length ∧ st.H 1072 = some (2, intsO (fillL l (List.replicate l.length 0) i)) ∧ st.ρ 4 = .c (.int .i64 (i : Int)))
    l.length (k + 2) (by omega)
    (by
      rintro i st next hi ⟨h0, h3, hH, h4⟩ hn
      have hg := fillL_get l (List.replicate l.length 0) i (by simp) hi
      have hs := fillL_set l (List.replicate l.length 0) i (by simp) hi
      simp [L39_0, R39_0, R39_1, R39_2, R39_3, R39_4, R39_5, R39_6, Tryd.f39, lpL39_0, lpM39_0, M39_0, h0, h3, h4, hH, hi, intsO, wrap_next hi (by omega : l.length ≤ 9000000000000000000), hg, hs]
      exact hn _ (by simp [h0, h3, intsO]))
    (by
      rintro st next ⟨h0, h3, hH, h4⟩
      simp [L39_0, R39_0, R39_1, R39_2, R39_3, R39_4, R39_5, R39_6, Tryd.f39, lpL39_0, lpM39_0, M39_0, h0, h3, h4, hH, intsO, fillL_all])
  simp [fillL_zero, intsO] at ho
  have b1 : (l.length : Int) ≤ 17592186044416 := by omega
  have b2 : 8 * (l.length : Int) ≤ 140737488355328 := by omega
  simp [R39_0, R39_1, R39_2, R39_3, R39_4, R39_5, R39_6, Tryd.f39, lpL39_0, lpM39_0, M39_0, ho, intsO, b1, b2]
theorem c_toField (k : Nat) (b : Bool) (w h : Int) (l : List Int) (hl : l.length ≤ 1048576) (hk : l.length + 20 ≤ k) : callK C k 9 [lfldV b w h l] [] = some (.ag [.c (.int .i64 w), .c (.int .i64 h), .s 0 2 1 0 l.length], hpOf [] [intsO l]) := by
  obtain ⟨k, rfl⟩ : ∃ m, k = m + 4 := ⟨k - 4, by omega⟩
  rw [callK_fn rfl F9 code9]
  have h58 := c_toIntS (k + 3) b l hl (by omega)
  simp [R9_0, R9_1, R9_2, R9_3, R9_4, R9_5, Tryd.f9, lfldV, h58, intsO]
theorem c_eqIntS (k : Nat) (b c : Bool) (l m : List Int) (hl : l.length ≤ 1048576) (hk : l.length + 10 ≤ k) : callK C k 43 [.sq b true 1 (ints l), .sq c true 1 (ints m)] [] = some (.c (.bool (decide (l = m))), hpOf [] []) := by
  obtain ⟨k, rfl⟩ : ∃ m, k = m + 3 := ⟨k - 3, by omega⟩
  rw [callK_fn rfl F43 code43]
  by_cases hlm : l = m
  · subst hlm
    obtain ⟨out, ho⟩ := loopOut (body := fun st => runCode C (callK C (k + 2)) (k + 2) (K 43) L43_0 1 st) (keep := [0, 1, 5]) (.ex 0) (fun st => True)
      (fun i st => st.ρ 0 = .sq b true 1 (ints l) ∧ st.ρ 1 = .sq c true 1 (ints l) ∧ st.ρ 5 = .c (.int .i64 (i : Int)))
      l.length (k + 2) (by omega)
      (by
        rintro i st next hi ⟨h0, h1, h5⟩ hn
        simp [L43_0, R43_0, R43_1, R43_2, R43_3, R43_4, R43_5, R43_6, R43_7, R43_8, Tryd.f43, lpL43_0, lpM43_0, M43_0, h0, h1, h5, hi, wrap_next hi (by omega : l.length ≤ 9000000000000000000)] at hn ⊢
        exact hn _ (by simp [h0]) (by simp [h1]) (by simp))
      (by
        rintro st next ⟨h0, h1, h5⟩
        simp [L43_0, R43_0, R43_1, R43_2, R43_3, R43_4, R43_5, R43_6, R43_7, R43_8, Tryd.f43, lpL43_0, lpM43_0, M43_0, h0, h1, h5])
    simp at ho
    simp [R43_0, R43_1, R43_2, R43_3, R43_4, R43_5, R43_6, R43_7, R43_8, Tryd.f43, lpL43_0, lpM43_0, M43_0, ho]
  · by_cases hll : l.length = m.length
    · obtain ⟨out, ho⟩ := loopOut (body := fun st => runCode C (callK C (k + 2)) (k + 2) (K 43) L43_0 1 st) (keep := [0, 1, 5]) .ret (fun st => st.ρ 4 = .c (.bool false))
        (fun i st => st.ρ 0 = .sq b true 1 (ints l) ∧ st.ρ 1 = .sq c true 1 (ints m) ∧ st.ρ 5 = .c (.int .i64 (i : Int)) ∧ l.take i = m.take i)
        l.length (k + 2) (by omega)
        (by
          rintro i st next hi ⟨h0, h1, h5, ht⟩ hn
          have hi' : i < m.length := by omega
          by_cases hx : l[i] = m[i]
          · have ht' : l.take (i + 1) = m.take (i + 1) := by rw [List.take_succ_eq_append_getElem hi, List.take_succ_eq_append_getElem hi', ht, hx]
            simp [L43_0, R43_0, R43_1, R43_2, R43_3, R43_4, R43_5, R43_6, R43_7, R43_8, Tryd.f43, lpL43_0, lpM43_0, M43_0, h0, h1, h5, hi, hi', hx, wrap_next hi (by omega : l.length ≤ 9000000000000000000)] at hn ⊢
            exact hn _ (by simp [h0]) (by simp [h1]) (by simp) ht'
          · simp [L43_0, R43_0, R43_1, R43_2, R43_3, R43_4, R43_5, R43_6, R43_7, R43_8, Tryd.f43, lpL43_0, lpM43_0, M43_0, h0, h1, h5, hi, hi', hx])
        (by
          rintro st next ⟨h0, h1, h5, ht⟩
          rw [List.take_of_length_le (by omega), List.take_of_length_le (by omega)] at ht
          exact absurd ht hlm)
      simp at ho
      have hll' : (l.length : Int) = m.length := by omega
      simp [R43_0, R43_1, R43_2, R43_3, R43_4, R43_5, R43_6, R43_7, R43_8, Tryd.f43, lpL43_0, lpM43_0, M43_0, ho, hlm, hll]
    · have hll' : ¬ (l.length : Int) = m.length := by omega
      simp [R43_0, R43_1, R43_2, R43_3, R43_4, R43_5, R43_6, R43_7, R43_8, Tryd.f43, lpL43_0, lpM43_0, M43_0, hlm, hll']
theorem c_eqField (k : Nat) (b c : Bool) (w h w' h' : Int) (l m : List Int) (hl : l.length ≤ 1048576) (hk : l.length + 20 ≤ k) : callK C k 11 [fldV b w h l, fldV c w' h' m] [] = some (.c (.bool (decide (w = w' ∧ h = h' ∧ l = m))), hpOf [] []) := by
  obtain ⟨k, rfl⟩ : ∃ m, k = m + 3 := ⟨k - 3, by omega⟩
  rw [callK_fn rfl F11 code11]
  have h62 := c_eqIntS (k + 2) true true l m hl (by omega)
  have h62' := c_eqIntS (k + 2) b c l m hl (by omega)
  by_cases hw : w = w'
  · by_cases hh : h = h'
    · by_cases hlm : l = m
      · subst hlm; simp [R11_0, R11_1, R11_2, R11_3, R11_4, R11_5, R11_6, R11_7, Tryd.f11, fldV, h62, h62', hw, hh]
      · simp [R11_0, R11_1, R11_2, R11_3, R11_4, R11_5, R11_6, R11_7, Tryd.f11, fldV, h62, h62', hw, hh, hlm]
    · simp [R11_0, R11_1, R11_2, R11_3, R11_4, R11_5, R11_6, R11_7, Tryd.f11, fldV, hw, hh]
  · simp [R11_0, R11_1, R11_2, R11_3, R11_4, R11_5, R11_6, R11_7, Tryd.f11, fldV, hw]
def marks (n : Int) (len : Nat) : List Int := (List.range len).map fun i => n + ((i : Nat) : Int)
theorem marks_length (n : Int) (len : Nat) : (marks n len).length = len := by simp [marks]
theorem marks_get (n : Int) (len i : Nat) (h : i < len) : (marks n len)[i]'(by simpa [marks] using h) = n + i := by simp [marks]

end Go.Proofs.YtalpgpjhloohfaaDoor.Eng
