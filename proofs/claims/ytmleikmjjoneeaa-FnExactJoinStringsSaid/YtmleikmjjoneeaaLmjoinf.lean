/- A deterministic reading of Go code over plain data: what functions of the program compute. No conditions. -/
import Derived.Test.YtmleikmjjoneeaaLmbase
import Derived.Test.YtmleikmjjoneeaaLmimpl
import Derived.Test.YtmleikmjjoneeaaLmgood
import Derived.Test.YtmleikmjjoneeaaLmitoa
import Derived.Test.YtmleikmjjoneeaaLmappendck
import Derived.Test.YtmleikmjjoneeaaLmsplit
import Derived.Test.YtmleikmjjoneeaaLmjoins
import Derived.Test.YtmleikmjjoneeaaEngT
import Derived.Lib.IndexLaws
import Derived.Lib.Join
namespace Go.Proofs.Ytmleikmjjoneeaa.Eng
open Go Go.Proofs
set_option maxRecDepth 100000
set_option maxHeartbeats 2000000
set_option linter.unusedSimpArgs false
set_option linter.unusedVariables false
attribute [local simp] finK fin1 hpOf xi renQ isRoot runCode runOps Eng.step wantedV astep val ofO made loadV storeV find V.cells bin binT binA numT numFs eqCells un1 setAt fieldAddrV fieldV indexAddrV indexV bounds sliceV convV lenV foldV max2V min2V callO bor rdsO wrsO seen_none okD_none loops keepIds resV resultsV St.ev TK.agg refs refsL refsO V.one V.isC Value.oneCell' ren renL renO noTag noTagL noTagR noTagO nodup mapO passV frs psi refsR newD loopNext opsAt idx flatAt rootOf backR newsV appendV copyV clearV strV bytesOf nilCmp buildV fillF chunk
attribute [local simp] cT cF cX cWR cOW cK X ints_length ints_get ints_getElem ints_drop ints_take ints_append ints_nil ints_set
attribute [local simp] ints_replicate
attribute [local simp] putV_some putV_none putH_app applyD_nil applyD_cons seen_app gc_ρ gc_H gc_tick st0_ρ st0_H st0_tick retV callRo callV_if borL_nil borL_cons ints_snoc take_self callWr cutH_app findQ afterV exportV_0 exportV_n okD_nil okD_cons sub_seq0 sub_seq1 sub_cond0 sub_cond1 sub_block sub_loop sub_nil young_far young_none hidW_nil mayW_nil pairs okI ok_0 ok_1 ok_2
attribute [local simp] T3 T4 T5 T9 T22
attribute [local simp] young_near clo cloF Region.binds Nat.testBit hidW declW mayW List.findIdx?_cons
def fillQ {α : Type} (l m : List α) (i : Nat) : List α := l.take i ++ m.drop i
theorem fillQ_zero {α : Type} (l m : List α) : fillQ l m 0 = m := by simp [fillQ]
theorem fillQ_all {α : Type} (l m : List α) (h : m.length ≤ l.length) : fillQ l m l.length = l := by simp [fillQ, List.drop_eq_nil_of_le h]
theorem fillQ_length {α : Type} (l m : List α) (i : Nat) (h : m.length = l.length) : (fillQ l m i).length = l.length := by simp [fillQ]; omega
theorem fillQ_set {α : Type} (l m : List α) (i : Nat) (h : m.length = l.length) (hi : i < l.length) : (fillQ l m i).set i l[i] = fillQ l m (i + 1) := by
  unfold fillQ
  rw [List.set_append, if_neg (by simp; omega)]
  have : i - (l.take i).length = 0 := by simp; omega
  rw [this, List.drop_eq_getElem_cons (by omega : i < m.length), List.set_cons_zero, List.take_succ_eq_append_getElem hi, List.append_assoc]
  rfl
theorem strs_get (p : List (List UInt8)) (i : Nat) (h : i < p.length) : (strs p)[i]? = some [.c (.string (bs p[i]))] := by simp [strs, h]
theorem strs_at (p : List (List UInt8)) (i : Nat) (h : i < (strs p).length) : (strs p)[i] = [.c (.string (bs (p[i]'(by simpa [strs] using h))))] := by simp [strs]
theorem strs_set (p : List (List UInt8)) (i : Nat) (x : List UInt8) : (strs p).set i [.c (.string (bs x))] = strs (p.set i x) := by simp [strs, List.map_set]
theorem strs_replicate (n : Nat) : List.replicate n [V.c (.string ByteArray.empty)] = strs (List.replicate n []) := by simp [strs, bs]; exact .inr rfl
theorem c_szStringS (k : Nat) (b : Bool) (p : List (List UInt8)) (hp : p.length ≤ 9223372036854775807) (hs : ∀ x ∈ p, x.length ≤ 9223372036854775807) (hk : p.length + 10 ≤ k) : callK C k 4 [.sq b true 1 (strs p), .c (.int .i64 1048576)] [] = some (.c (.int .i64 (if p.length + lenS p ≤ 1048576 then (1048576 : Int) - (p.length : Int) - (lenS p : Int) else -1)), hpOf [] []) := by
  obtain ⟨k, rfl⟩ : ∃ m, k = m + 3 := ⟨k - 3, by omega⟩
  rw [callK_fn rfl F4 code4]
  have w0 : IntKind.i64.wrap (1048576 - (p.length : Int)) = 1048576 - (p.length : Int) := wrap_small (by omega) (by omega)
  by_cases h0 : (1048576 : Int) < (p.length : Int)
  · have h0' : ¬ p.length + lenS p ≤ 1048576 := by omega
    have h0n : 1048576 < p.length := by omega
    have h0c : (1048576 : Int) - (p.length : Int) < 0 := by omega
    rw [if_neg h0']
    simp [R4_0, R4_1, R4_2, R4_3, R4_4, R4_5, R4_6, R4_7, R4_8, R4_9, R4_10, Try.f4, lpL4_0, lpM4_0, M4_0, strs_length, w0, h0, h0n, h0c]
  · have h0n : ¬ 1048576 < p.length := by omega
    have h0c : ¬ (1048576 : Int) - (p.length : Int) < 0 := by omega
    by_cases hg : p.length + lenS p ≤ 1048576
    · have hL := loopHas (body := fun st => runCode C (callK C (k + 2)) (k + 2) (K 4) L4_0 1 st) (keep := [0, 1, 5]) (.ex 0) (fun st => st.ρ 1 = .c (.int .i64 ((1048576 : Int) - (p.length : Int) - (lenS p : Int))))
        (fun i st => st.ρ 0 = .sq b true 1 (strs p) ∧ st.ρ 1 = .c (.int .i64 ((1048576 : Int) - (p.length : Int) - (lenS (p.take i) : Int))) ∧ st.ρ 5 = .c (.int .i64 (i : Int)))
        p.length (k + 2) (by omega)
        (by
          rintro i st next hi ⟨q0, q1, q5⟩ hx
          have h1 := lenS_take p i hi
          have h2 := lenS_take_le p (i + 1) hi
          have w1 : IntKind.i64.wrap ((1048576 : Int) - (p.length : Int) - (lenS (p.take i) : Int) - (p[i].length : Int)) = (1048576 : Int) - (p.length : Int) - (lenS (p.take (i + 1)) : Int) := by rw [wrap_small (by omega) (by omega)]; omega
          have g1 : ¬ (1048576 : Int) - (p.length : Int) - (lenS (p.take (i + 1)) : Int) < 0 := by omega
          simp [L4_0, R4_0, R4_1, R4_2, R4_3, R4_4, R4_5, R4_6, R4_7, R4_8, R4_9, R4_10, Try.f4, lpL4_0, lpM4_0, M4_0, q0, q1, q5, hi, strs_length, strs_get, strs_at, bs_size, w1, g1, wrap_next hi (by omega : p.length ≤ 9000000000000000000)]
          exact hx _ ⟨by simp [q0], by simp, by simp⟩)
        (by
          rintro st next ⟨q0, q1, q5⟩
          rw [List.take_length] at q1
          simp [L4_0, R4_0, R4_1, R4_2, R4_3, R4_4, R4_5, R4_6, R4_7, R4_8, R4_9, R4_10, Try.f4, lpL4_0, lpM4_0, M4_0, q0, q1, q5, strs_length])
      rw [if_pos hg]
      simp [R4_0, R4_1, R4_2, R4_3, R4_4, R4_5, R4_6, R4_7, R4_8, R4_9, R4_10, Try.f4, lpL4_0, lpM4_0, strs_length, w0, h0, h0n, h0c]
      generalize hr : loopRun _ _ _ _ = res
      obtain ⟨s1, rfl, f1⟩ := loop_at hL hr ⟨by simp, by simp [lenS], by simp⟩
      simp [R4_0, R4_1, R4_2, R4_3, R4_4, R4_5, R4_6, R4_7, R4_8, R4_9, R4_10, Try.f4, lpL4_0, lpM4_0, M4_0, f1]
    · have hL := loopHas (body := fun st => runCode C (callK C (k + 2)) (k + 2) (K 4) L4_0 1 st) (keep := [0, 1, 5]) .ret (fun st => st.ρ 4 = .c (.int .i64 (-1)))
        (fun i st => st.ρ 0 = .sq b true 1 (strs p) ∧ st.ρ 1 = .c (.int .i64 ((1048576 : Int) - (p.length : Int) - (lenS (p.take i) : Int))) ∧ st.ρ 5 = .c (.int .i64 (i : Int)) ∧ p.length + lenS (p.take i) ≤ 1048576)
        p.length (k + 2) (by omega)
        (by
          rintro i st next hi ⟨q0, q1, q5, hle⟩ hx
          have h1 := lenS_take p i hi
          have h3 := hs _ (List.getElem_mem hi)
          have w1 : IntKind.i64.wrap ((1048576 : Int) - (p.length : Int) - (lenS (p.take i) : Int) - (p[i].length : Int)) = (1048576 : Int) - (p.length : Int) - (lenS (p.take (i + 1)) : Int) := by rw [wrap_small (by omega) (by omega)]; omega
          by_cases g1 : (1048576 : Int) - (p.length : Int) - (lenS (p.take (i + 1)) : Int) < 0
          · simp [L4_0, R4_0, R4_1, R4_2, R4_3, R4_4, R4_5, R4_6, R4_7, R4_8, R4_9, R4_10, Try.f4, lpL4_0, lpM4_0, M4_0, q0, q1, q5, hi, strs_length, strs_get, strs_at, bs_size, w1, g1]
          · simp [L4_0, R4_0, R4_1, R4_2, R4_3, R4_4, R4_5, R4_6, R4_7, R4_8, R4_9, R4_10, Try.f4, lpL4_0, lpM4_0, M4_0, q0, q1, q5, hi, strs_length, strs_get, strs_at, bs_size, w1, g1, wrap_next hi (by omega : p.length ≤ 9000000000000000000)]
            exact hx _ ⟨by simp [q0], by simp, by simp, by omega⟩)
        (by
          rintro st next ⟨q0, q1, q5, hle⟩
          rw [List.take_length] at hle
          exact absurd hle hg)
      rw [if_neg hg]
      simp [R4_0, R4_1, R4_2, R4_3, R4_4, R4_5, R4_6, R4_7, R4_8, R4_9, R4_10, Try.f4, lpL4_0, lpM4_0, strs_length, w0, h0, h0n, h0c]
      generalize hr : loopRun _ _ _ _ = res
      obtain ⟨s1, rfl, f4⟩ := loop_at hL hr ⟨by simp, by simp [lenS], by simp, by simp [lenS]; omega⟩
      simp [R4_0, R4_1, R4_2, R4_3, R4_4, R4_5, R4_6, R4_7, R4_8, R4_9, R4_10, Try.f4, lpL4_0, lpM4_0, M4_0, f4]
theorem c_toStringS (k : Nat) (b : Bool) (p : List (List UInt8)) (hl : p.length ≤ 1048576) (hk : p.length + 10 ≤ k) : callK C k 6 [.sq b true 1 (strs p)] [] = some (.s 0 2 1 0 p.length, hpOf [] [strsO p]) := by
  obtain ⟨k, rfl⟩ : ∃ m, k = m + 3 := ⟨k - 3, by omega⟩
  rw [callK_fn rfl F6 code6]
  have hrl : (List.replicate p.length ([] : List UInt8)).length = p.length := by simp
  have hL := loopHas (body := fun st => runCode C (callK C (k + 2)) (k + 2) (K 6) L6_0 1 st) (keep := [0, 3, 4]) (.ex 0) (fun st => st.ρ 3 = .s 1072 2 1 0 p.length ∧ st.H 1072 = some (2, strsO p))
    (fun i st => st.ρ 0 = .sq b true 1 (strs p) ∧ st.ρ 3 = .s 1072 2 1 0 p.length ∧ st.H 1072 = some (2, strsO (fillQ p (List.replicate p.length []) i)) ∧ st.ρ 4 = .c (.int .i64 (i : Int)))
    p.length (k + 2) (by omega)
    (by
      rintro i st next hi ⟨h0, h3, hH, h4⟩ hn
      have hs := fillQ_set p (List.replicate p.length []) i hrl hi
      have hfl := fillQ_length p (List.replicate p.length ([] : List UInt8)) i hrl
      have nget := strs_get p i hi
      simp [L6_0, R6_0, R6_1, R6_2, R6_3, R6_4, R6_5, R6_6, Try.f6, lpL6_0, lpM6_0, M6_0, h0, h3, h4, hH, hi, strsO, strs_length, nget, strs_at, strs_set, hs, hfl, wrap_next hi (by omega : p.length ≤ 9000000000000000000)]
      exact hn _ (by simp [h0, h3, strsO]))
    (by
      rintro st next ⟨h0, h3, hH, h4⟩
      simp [L6_0, R6_0, R6_1, R6_2, R6_3, R6_4, R6_5, R6_6, Try.f6, lpL6_0, lpM6_0, M6_0, h0, h3, h4, hH, strsO, strs_length, fillQ_all])
  have b1 : (p.length : Int) ≤ 17592186044416 := by omega
  have b2 : 16 * (p.length : Int) ≤ 140737488355328 := by omega
  simp [R6_0, R6_1, R6_2, R6_3, R6_4, R6_5, R6_6, Try.f6, lpL6_0, lpM6_0, strs_length, b1, b2, strs_replicate, okS]
  generalize hr : loopRun _ _ _ _ = res
  obtain ⟨s1, rfl, f3, fH⟩ := loop_at hL hr ⟨by simp, by simp, by simp [strsO, fillQ_zero], by simp⟩
  simp [R6_0, R6_1, R6_2, R6_3, R6_4, R6_5, R6_6, Try.f6, lpL6_0, lpM6_0, M6_0, f3, fH, strsO]
theorem c_eqStringS (k : Nat) (b c : Bool) (p : List (List UInt8)) (hl : p.length ≤ 1048576) (hk : p.length + 10 ≤ k) : callK C k 8 [.sq b true 1 (strs p), .sq c true 1 (strs p)] [] = some (.c (.bool true), hpOf [] []) := by
  obtain ⟨k, rfl⟩ : ∃ m, k = m + 3 := ⟨k - 3, by omega⟩
  rw [callK_fn rfl F8 code8]
  have hL := loopHas (body := fun st => runCode C (callK C (k + 2)) (k + 2) (K 8) L8_0 1 st) (keep := [0, 1, 5]) (.ex 0) (fun st => st.ρ 0 = .sq b true 1 (strs p))
    (fun i st => st.ρ 0 = .sq b true 1 (strs p) ∧ st.ρ 1 = .sq c true 1 (strs p) ∧ st.ρ 5 = .c (.int .i64 (i : Int)))
    p.length (k + 2) (by omega)
    (by
      rintro i st next hi ⟨h0, h1, h5⟩ hn
      have nget := strs_get p i hi
      simp [L8_0, R8_0, R8_1, R8_2, R8_3, R8_4, R8_5, R8_6, R8_7, R8_8, Try.f8, lpL8_0, lpM8_0, M8_0, h0, h1, h5, hi, strs_length, nget, strs_at, bs_neq, wrap_next hi (by omega : p.length ≤ 9000000000000000000)]
      exact hn _ ⟨by simp [h0], by simp [h1], by simp⟩)
    (by
      rintro st next ⟨h0, h1, h5⟩
      simp [L8_0, R8_0, R8_1, R8_2, R8_3, R8_4, R8_5, R8_6, R8_7, R8_8, Try.f8, lpL8_0, lpM8_0, M8_0, h0, h1, h5, strs_length])
  simp [R8_0, R8_1, R8_2, R8_3, R8_4, R8_5, R8_6, R8_7, R8_8, Try.f8, lpL8_0, lpM8_0, strs_length]
  generalize hr : loopRun _ _ _ _ = res
  obtain ⟨s1, rfl, _⟩ := loop_at hL hr ⟨by simp, by simp, by simp⟩
  simp [R8_0, R8_1, R8_2, R8_3, R8_4, R8_5, R8_6, R8_7, R8_8, Try.f8, lpL8_0, lpM8_0, M8_0]

end Go.Proofs.Ytmleikmjjoneeaa.Eng
