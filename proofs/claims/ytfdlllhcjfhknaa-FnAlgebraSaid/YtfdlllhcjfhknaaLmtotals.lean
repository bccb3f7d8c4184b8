/- A deterministic reading of Go code over plain data: what functions of the program compute. No conditions. -/
import Derived.Test.YtfdlllhcjfhknaaLmbase
import Derived.Test.YtfdlllhcjfhknaaLmimpl
import Derived.Test.YtfdlllhcjfhknaaLmimplc
import Derived.Test.YtfdlllhcjfhknaaLmgood
import Derived.Test.YtfdlllhcjfhknaaLmnbh
import Derived.Test.YtfdlllhcjfhknaaLmfcore
import Derived.Test.YtfdlllhcjfhknaaLmvals
import Derived.Test.YtfdlllhcjfhknaaEngT
namespace Go.Proofs.Ytfdlllhcjfhknaa.Eng
open Go Go.Proofs
set_option maxRecDepth 100000
set_option maxHeartbeats 2000000
set_option linter.unusedSimpArgs false
set_option linter.unusedVariables false
attribute [local simp] finK fin1 hpOf xi renQ isRoot runCode runOps Eng.step wantedV astep val ofO made loadV storeV find V.cells bin binT un1 setAt fieldAddrV fieldV indexAddrV indexV bounds sliceV convV lenV foldV max2V min2V callO bor rdsO wrsO seen_none okD_none loops keepIds resV resultsV St.ev TK.agg refs refsL refsO V.one V.isC Value.oneCell' ren renL renO noTag noTagL noTagR noTagO nodup mapO passV frs psi refsR newD loopNext opsAt idx flatAt rootOf backR newsV appendV copyV clearV strV bytesOf nilCmp buildV fillF chunk
attribute [local simp] cT cF cX cWR cOW cK X ints_length ints_get ints_getElem ints_drop ints_take ints_append ints_nil ints_set
attribute [local simp] ints_replicate
attribute [local simp] putV_some putV_none putH_app applyD_nil applyD_cons seen_app gc_ρ gc_H gc_tick st0_ρ st0_H st0_tick retV callRo callV_if borL_nil borL_cons ints_snoc take_self callWr cutH_app findQ afterV exportV_0 exportV_n okD_nil okD_cons sub_seq0 sub_seq1 sub_cond0 sub_cond1 sub_block sub_loop sub_nil young_far young_none hidW_nil mayW_nil pairs okI ok_0 ok_1 ok_2
attribute [local simp] T3 T4 T5 T9 T22 T24 T26 T29 T36 T73 T75 T86 T89 T103 T104 T106 T108 T109 T111 T114 T118 T134 T136 T157 T161 T168
attribute [local simp] young_near clo cloF Region.binds Nat.testBit hidW declW mayW
theorem good_ne {w h : Int} {l : List Int} (hg : goodB w h l = true) : l ≠ [] := by
  obtain ⟨s1, n1, cl1, k1⟩ := good_length hg
  obtain ⟨_, _, hs⟩ := shape_area s1
  intro e; subst e
  have := Int.mul_pos (by omega : 0 < w) (by omega : 0 < h)
  simp at n1; omega
theorem c_valuesOf (k : Nat) (b : Bool) (w h : Int) (l : List Int) (hl : l.length ≤ 1000) (h0 : l ≠ []) (hk : 2000 ≤ k) :
    ∃ arr : List Int, callK C k 116 [fldV b w h l] [] = some (.s 0 2 1 0 (valsL l).length, hpOf [] [intsO arr]) ∧ arr.take (valsL l).length = valsL l ∧ (valsL l).length ≤ arr.length := by
  obtain ⟨k, rfl⟩ : ∃ m, k = m + 9 := ⟨k - 9, by omega⟩
  rw [callK_fn rfl F116 code116]
  have hc := c_Clone (k + 8) b l (by omega) h0 (by omega)
  obtain ⟨arr, hd, ha, hle⟩ := c_DeleteVal (k + 8) l (by omega) (by omega)
  refine ⟨arr, ?_, ha, hle⟩
  simp [intsO] at hc hd
  simp [R116_0, R116_1, Try.f116, fldV, hc, hd, intsO]
theorem vals_ok {l : List Int} (h : l.all cellB = true) : (valsL l).all okV = true := by
  rw [List.all_eq_true] at h ⊢
  intro x hx
  obtain ⟨h1, h2⟩ := List.mem_filter.1 hx
  have h3 := h x h1
  unfold cellB at h3
  unfold okV
  simp only [bne_iff_ne, ne_eq] at h2
  simpa [h2] using h3
theorem vals_len (l : List Int) : (valsL l).length ≤ l.length := List.length_filter_le _ _
def totI (w h : Int) (l : List Int) : Int := if goodB w h l then (valsL l).sum else 0
theorem c_FieldTotal (k : Nat) (w h : Int) (l : List Int) (hk : 3000 ≤ k) : callK C k 38 [fldV true w h l] [] = some (.tp [.c (.int .i64 (totI w h l)), .c (.bool (goodB w h l))], hpOf [] []) := by
  obtain ⟨k, rfl⟩ : ∃ m, k = m + 9 := ⟨k - 9, by omega⟩
  rw [callK_fn rfl F38 code38]
  have hv := c_IsValidField (k + 8) true w h l (by omega)
  unfold totI
  cases hg : goodB w h l
  · rw [hg] at hv
    simp [fldV] at hv
    simp [R38_0, R38_1, R38_2, R38_3, Try.f38, fldV, hv]
  · rw [hg] at hv
    obtain ⟨s1, n1, cl1, k1⟩ := good_length hg
    obtain ⟨arr, ha, hb, hc⟩ := c_valuesOf (k + 8) true w h l (by omega) (good_ne hg) (by omega)
    have hs := c_sumOf (k + 8) (valsL l) (vals_ok cl1) (by have := vals_len l; omega) (by omega)
    simp [fldV] at hv
    simp [fldV, intsO] at ha
    simp [R38_0, R38_1, R38_2, R38_3, Try.f38, fldV, hv, ha, hb, hc, hs]
def missI (w h : Int) (l : List Int) : Int := if goodB w h l then (l.length : Int) - ((valsL l).length : Int) else 0
theorem c_CountMissing (k : Nat) (w h : Int) (l : List Int) (hk : 3000 ≤ k) : callK C k 39 [fldV true w h l] [] = some (.tp [.c (.int .i64 (missI w h l)), .c (.bool (goodB w h l))], hpOf [] []) := by
  obtain ⟨k, rfl⟩ : ∃ m, k = m + 9 := ⟨k - 9, by omega⟩
  rw [callK_fn rfl F39 code39]
  have hv := c_IsValidField (k + 8) true w h l (by omega)
  unfold missI
  cases hg : goodB w h l
  · rw [hg] at hv
    simp [fldV] at hv
    simp [R39_0, R39_1, R39_2, R39_3, Try.f39, fldV, hv]
  · rw [hg] at hv
    obtain ⟨s1, n1, cl1, k1⟩ := good_length hg
    obtain ⟨arr, ha, hb, hc⟩ := c_valuesOf (k + 8) true w h l (by omega) (good_ne hg) (by omega)
    have hwr : IntKind.i64.wrap ((l.length : Int) - ((valsL l).length : Int)) = (l.length : Int) - ((valsL l).length : Int) := wrap_small (by have := vals_len l; omega) (by omega)
    simp [fldV] at hv
    simp [fldV, intsO] at ha
    simp [R39_0, R39_1, R39_2, R39_3, Try.f39, fldV, hv, ha, hb, hc, hwr]
def neB (l : List Int) : Bool := match l with
  | [] => false
  | _ => true
theorem neB_nil : neB [] = false := rfl
theorem neB_ne {l : List Int} (h : l ≠ []) : neB l = true := by cases l with
  | nil => exact absurd rfl h
  | cons x l => rfl
theorem neB_snoc (l : List Int) (x : Int) : neB (l ++ [x]) = true := neB_ne (by simp)
def rOk (w h : Int) (l : List Int) : Bool := goodB w h l && neB (valsL l)
def rLo (w h : Int) (l : List Int) : Int := if rOk w h l then minL (valsL l) else 0
def rHi (w h : Int) (l : List Int) : Int := if rOk w h l then maxL (valsL l) else 0
theorem c_implRange (k : Nat) (w h : Int) (l : List Int) (hk : 3000 ≤ k) : callK C k 36 [fldV true w h l] [] = some (.tp [.c (.int .i64 (rLo w h l)), .c (.int .i64 (rHi w h l)), .c (.bool (rOk w h l))], hpOf [] []) := by
  obtain ⟨k, rfl⟩ : ∃ m, k = m + 9 := ⟨k - 9, by omega⟩
  rw [callK_fn rfl F36 code36]
  have hv := c_IsValidField (k + 8) true w h l (by omega)
  unfold rLo rHi rOk
  cases hg : goodB w h l
  · rw [hg] at hv
    simp [fldV] at hv
    simp [R36_0, R36_1, R36_2, R36_3, R36_4, R36_5, R36_6, Try.f36, fldV, hv]
  · rw [hg] at hv
    obtain ⟨s1, n1, cl1, k1⟩ := good_length hg
    obtain ⟨arr, ha, hb, hc⟩ := c_valuesOf (k + 8) true w h l (by omega) (good_ne hg) (by omega)
    simp [fldV] at hv
    simp [fldV, intsO] at ha
    by_cases h0 : valsL l = []
    · rw [h0] at ha hb hc
      simp at ha
      simp [R36_0, R36_1, R36_2, R36_3, R36_4, R36_5, R36_6, Try.f36, fldV, hv, ha, h0, neB_nil]
    · have hp : 0 < (valsL l).length := List.length_pos_iff.2 h0
      have h1 := c_Min (k + 8) (valsL l) (by have := vals_len l; omega) hp (by omega)
      have h2 := c_Max (k + 8) (valsL l) (by have := vals_len l; omega) hp (by omega)
      have hne : ¬ (((valsL l).length : Nat) : Int) = 0 := by omega
      have hnb : ((((valsL l).length : Nat) : Int) == 0) = false := by simpa using hne
      simp [R36_0, R36_1, R36_2, R36_3, R36_4, R36_5, R36_6, Try.f36, fldV, hv, ha, hb, hc, h0, h1, h2, hne, hnb, neB_ne h0]
theorem minL_snoc (l : List Int) (v : Int) : minL (l ++ [v]) = if l = [] then v else if v < minL l then v else minL l := by
  cases l with
  | nil => simp [minL]
  | cons x l => simp [minL, List.foldl_append]; split <;> rename_i hc <;> simp [hc]
theorem maxL_snoc (l : List Int) (v : Int) : maxL (l ++ [v]) = if l = [] then v else if v > maxL l then v else maxL l := by
  cases l with
  | nil => simp [maxL]
  | cons x l => simp [maxL, List.foldl_append]
theorem c_specRange (k : Nat) (b : Bool) (w h : Int) (l : List Int) (hk : 3000 ≤ k) : callK C k 37 [fldV b w h l] [] = some (.tp [.c (.int .i64 (rLo w h l)), .c (.int .i64 (rHi w h l)), .c (.bool (rOk w h l))], hpOf [] []) := by
  obtain ⟨k, rfl⟩ : ∃ m, k = m + 9 := ⟨k - 9, by omega⟩
  rw [callK_fn rfl F37 code37]
  have hv := c_l2Good (k + 8) b w h l (by omega)
  unfold rLo rHi rOk
  cases hg : goodB w h l
  · rw [hg] at hv
    simp [fldV] at hv
    simp [R37_0, R37_1, R37_2, R37_3, R37_4, R37_5, R37_6, R37_7, R37_8, R37_9, R37_10, R37_11, R37_12, R37_13, R37_14, Try.f37, lpL37_0, lpM37_0, M37_0, fldV, hv]
  · rw [hg] at hv
    obtain ⟨s1, n1, cl1, k1⟩ := good_length hg
    simp [fldV] at hv
    have hL := loopHas (body := fun st => runCode C (callK C (k + 8)) (k + 8) (K 37) L37_0 1 st) (keep := [1, 5, 6, 7, 8]) (.ex 0) (fun st => st.ρ 5 = .c (.int .i64 (minL (valsL l))) ∧ st.ρ 6 = .c (.int .i64 (maxL (valsL l))) ∧ st.ρ 7 = .c (.bool (neB (valsL l))))
      (fun i st => st.ρ 1 = .p 16 1 3 0 0 ∧ st.ρ 5 = .c (.int .i64 (minL (valsL (l.take i)))) ∧ st.ρ 6 = .c (.int .i64 (maxL (valsL (l.take i)))) ∧ st.ρ 7 = .c (.bool (neB (valsL (l.take i)))) ∧ st.ρ 8 = .c (.int .i64 (i : Int)) ∧
        st.H 16 = some (1, ⟨29, 3, false, [[.c (.int .i64 w), .c (.int .i64 h), .sq b true 1 (ints l)]]⟩))
      l.length (k + 8) (by omega)
      (by
        rintro i st next hi ⟨q1, q5, q6, q7, q8, H1⟩ hx
        have hwn := wrap_next hi (by omega)
        have hvt := valsL_take l i hi
        obtain ⟨a, ha⟩ : ∃ a, valsL (l.take i) = a := ⟨_, rfl⟩
        rw [ha] at q5 q6 q7 hvt
        by_cases hm : l[i] = -9999
        · rw [if_pos hm, List.append_nil] at hvt
          rw [hvt] at hx
          simp [L37_0, R37_0, R37_1, R37_2, R37_3, R37_4, R37_5, R37_6, R37_7, R37_8, R37_9, R37_10, R37_11, R37_12, R37_13, R37_14, Try.f37, lpL37_0, lpM37_0, M37_0, q1, q5, q6, q7, q8, H1, hi, hm, hwn]
          refine hx _ ⟨?_, ?_, ?_, ?_, ?_, ?_⟩ <;> simp [q1, q5, q6, q7, H1]
        · have hmb : (l[i] == -9999) = false := by simpa using hm
          rw [if_neg hm] at hvt
          rw [hvt, minL_snoc, maxL_snoc, neB_snoc] at hx
          by_cases h0 : a = []
          · subst h0
            rw [neB_nil] at q7
            simp [L37_0, R37_0, R37_1, R37_2, R37_3, R37_4, R37_5, R37_6, R37_7, R37_8, R37_9, R37_10, R37_11, R37_12, R37_13, R37_14, Try.f37, lpL37_0, lpM37_0, M37_0, q1, q5, q6, q7, q8, H1, hi, hm, hmb, hwn]
            refine hx _ ⟨?_, ?_, ?_, ?_, ?_, ?_⟩ <;> simp [q1, q5, q6, q7, H1]
          · rw [neB_ne h0] at q7
            by_cases c1 : l[i] < minL a <;> by_cases c2 : maxL a < l[i] <;>
            · simp [L37_0, R37_0, R37_1, R37_2, R37_3, R37_4, R37_5, R37_6, R37_7, R37_8, R37_9, R37_10, R37_11, R37_12, R37_13, R37_14, Try.f37, lpL37_0, lpM37_0, M37_0, q1, q5, q6, q7, q8, H1, hi, hm, hmb, h0, c1, c2, hwn]
              refine hx _ ⟨?_, ?_, ?_, ?_, ?_, ?_⟩ <;> simp [q1, q5, q6, q7, H1, h0, c1, c2])
      (by
        rintro st next ⟨q1, q5, q6, q7, q8, H1⟩
        rw [List.take_length] at q5 q6 q7
        simp [L37_0, R37_0, R37_1, R37_2, R37_3, R37_4, R37_5, R37_6, R37_7, R37_8, R37_9, R37_10, R37_11, R37_12, R37_13, R37_14, Try.f37, lpL37_0, lpM37_0, M37_0, q1, q5, q6, q7, q8, H1])
    simp [R37_0, R37_1, R37_2, R37_3, R37_4, R37_5, R37_6, R37_7, R37_8, R37_9, R37_10, R37_11, R37_12, R37_13, R37_14, Try.f37, lpL37_0, lpM37_0, fldV, hv]
    generalize hr2 : loopRun _ _ _ _ = res
    obtain ⟨s1, rfl, f5, f6, f7⟩ := loop_at hL hr2 ⟨by simp, by simp [valsL, minL], by simp [valsL, maxL], by simp [valsL, neB], by simp, by simp⟩
    by_cases h0 : valsL l = []
    · rw [h0] at f5 f6 f7
      simp [minL, maxL, neB_nil] at f5 f6 f7
      simp [R37_0, R37_1, R37_2, R37_3, R37_4, R37_5, R37_6, R37_7, R37_8, R37_9, R37_10, R37_11, R37_12, R37_13, R37_14, Try.f37, lpL37_0, lpM37_0, M37_0, f5, f6, f7, h0, neB_nil]
    · rw [neB_ne h0] at f7
      simp [R37_0, R37_1, R37_2, R37_3, R37_4, R37_5, R37_6, R37_7, R37_8, R37_9, R37_10, R37_11, R37_12, R37_13, R37_14, Try.f37, lpL37_0, lpM37_0, M37_0, f5, f6, f7, h0, neB_ne h0]
theorem sum_ge (l : List Int) (a : Int) (h : ∀ x ∈ l, a ≤ x) : a * (l.length : Int) ≤ l.sum := by
  induction l with
  | nil => simp
  | cons x l ih =>
    have h1 := ih fun y hy => h y (by simp [hy])
    have h2 := h x (by simp)
    rw [List.sum_cons, List.length_cons, Int.natCast_add, Int.mul_add]
    simp
    omega
theorem sum_le (l : List Int) (a : Int) (h : ∀ x ∈ l, x ≤ a) : l.sum ≤ a * (l.length : Int) := by
  induction l with
  | nil => simp
  | cons x l ih =>
    have h1 := ih fun y hy => h y (by simp [hy])
    have h2 := h x (by simp)
    rw [List.sum_cons, List.length_cons, Int.natCast_add, Int.mul_add]
    simp
    omega
theorem c_vInts (k : Nat) (b c : Bool) (l : List Int) (hl : l.length ≤ 1048576) (hk : l.length + 10 ≤ k) : callK C k 129 [.sq b true 1 (ints l), .sq c true 1 (ints l)] [] = some (.c (.bool true), hpOf [] []) := by
  obtain ⟨k, rfl⟩ : ∃ m, k = m + 3 := ⟨k - 3, by omega⟩
  rw [callK_fn rfl F129 code129]
  have hL := loopHas (body := fun st => runCode C (callK C (k + 2)) (k + 2) (K 129) L129_0 1 st) (keep := [0, 1, 5]) (.ex 0) (fun st => True)
    (fun i st => st.ρ 0 = .sq b true 1 (ints l) ∧ st.ρ 1 = .sq c true 1 (ints l) ∧ st.ρ 5 = .c (.int .i64 (i : Int)))
    l.length (k + 2) (by omega)
    (by
      rintro i st next hi ⟨q0, q1, q5⟩ hx
      have hwn := wrap_next hi (by omega)
      simp [L129_0, R129_0, R129_1, R129_2, R129_3, R129_4, R129_5, R129_6, R129_7, R129_8, Try.f129, lpL129_0, lpM129_0, M129_0, q0, q1, q5, hi, hwn] at hx ⊢
      exact hx _ (by simp [q0]) (by simp [q1]) (by simp))
    (by
      rintro st next ⟨q0, q1, q5⟩
      simp [L129_0, R129_0, R129_1, R129_2, R129_3, R129_4, R129_5, R129_6, R129_7, R129_8, Try.f129, lpL129_0, lpM129_0, M129_0, q0, q1, q5])
  simp [R129_0, R129_1, R129_2, R129_3, R129_4, R129_5, R129_6, R129_7, R129_8, Try.f129, lpL129_0, lpM129_0]
  generalize hr2 : loopRun _ _ _ _ = res
  obtain ⟨s1, rfl, _⟩ := loop_at hL hr2 ⟨by simp, by simp, by simp⟩
  simp [R129_0, R129_1, R129_2, R129_3, R129_4, R129_5, R129_6, R129_7, R129_8, Try.f129, lpL129_0, lpM129_0, M129_0]
theorem c_vField (k : Nat) (b c : Bool) (w h : Int) (l : List Int) (hl : l.length ≤ 1048576) (hk : l.length + 20 ≤ k) : callK C k 44 [fldV b w h l, fldV c w h l] [] = some (.c (.bool true), hpOf [] []) := by
  obtain ⟨k, rfl⟩ : ∃ m, k = m + 1 := ⟨k - 1, by omega⟩
  rw [callK_fn rfl F44 code44]
  have e := c_vInts k b c l hl (by omega)
  simp [R44_0, R44_1, Try.f44, fldV, e]
theorem c_vFieldNil (k : Nat) (hk : 20 ≤ k) : callK C k 44 [nilV, nilV] [] = some (.c (.bool true), hpOf [] []) := by
  obtain ⟨k, rfl⟩ : ∃ m, k = m + 9 := ⟨k - 9, by omega⟩
  rw [callK_fn rfl F44 code44]
  have e : callK C (k + 8) 129 [.c (.slice none 0 0), .c (.slice none 0 0)] [] = some (.c (.bool true), hpOf [] []) := by
    rw [callK_fn (k := k + 7) rfl F129 code129]
    simp [R129_0, R129_1, R129_2, R129_3, R129_4, R129_5, R129_6, R129_7, R129_8, Try.f129, lpL129_0, lpM129_0, M129_0, L129_0, loopRun_succ]
  simp [R44_0, R44_1, Try.f44, nilV, e]

end Go.Proofs.Ytfdlllhcjfhknaa.Eng
