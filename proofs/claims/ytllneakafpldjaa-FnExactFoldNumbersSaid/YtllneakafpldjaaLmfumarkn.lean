/- A deterministic reading of Go code over plain data: what functions of the program compute. No conditions. -/
import Derived.Test.YtllneakafpldjaaLmbase
import Derived.Test.YtllneakafpldjaaLmnodes
import Derived.Test.YtllneakafpldjaaLmnodep
import Derived.Test.YtllneakafpldjaaLmnodefn
import Derived.Test.YtllneakafpldjaaLmnodelaw
import Derived.Test.YtllneakafpldjaaEngT
namespace Go.Proofs.Ytllneakafpldjaa.Eng
open Go Go.Proofs
set_option maxRecDepth 100000
set_option maxHeartbeats 2000000
set_option linter.unusedSimpArgs false
set_option linter.unusedVariables false
attribute [local simp] finK fin1 hpOf xi renQ isRoot runCode runOps Eng.step wantedV astep val ofO made loadV storeV find V.cells bin binT binA numT numFs eqCells un1 setAt fieldAddrV fieldV indexAddrV indexV bounds sliceV convV lenV foldV max2V min2V callO bor rdsO wrsO seen_none okD_none loops keepIds resV resultsV St.ev TK.agg refs refsL refsO V.one V.isC Value.oneCell' ren renL renO noTag noTagL noTagR noTagO nodup mapO passV frs psi refsR newD loopNext opsAt idx flatAt rootOf backR newsV appendV copyV clearV strV bytesV bldV bufV selfV bytesOf nilCmp buildV fillF chunk
attribute [local simp] cT cF cX cWR cOW cK cBL X ints_length ints_get ints_getElem ints_drop ints_take ints_append ints_nil ints_set
attribute [local simp] ints_replicate
attribute [local simp] putV_some putV_none putH_app applyD_nil applyD_cons seen_app gc_ρ gc_H gc_tick st0_ρ st0_H st0_tick retV callRo callV_if borL_nil borL_cons ints_snoc take_self callWr cutH_app findQ afterV exportV_0 exportV_n okD_nil okD_cons sub_seq0 sub_seq1 sub_cond0 sub_cond1 sub_block sub_loop sub_nil young_far young_none hidW_nil mayW_nil pairs okI ok_0 ok_1 ok_2
attribute [local simp] T3 T4 T22 T24 T35 T37
def mkN (n : Int) (len : Nat) : List (Int × Int) := (List.range len).map fun i => (n + 2 * ((i : Nat) : Int), n + 2 * ((i : Nat) : Int) + 1)
theorem mkN_len (n : Int) (len : Nat) : (mkN n len).length = len := by simp [mkN]
def fillN (n : Int) (A : List (Int × Int)) (i : Nat) : List (Int × Int) := mkN n i ++ A.drop i
theorem fillN_get (n : Int) (A : List (Int × Int)) (i : Nat) (h : i < A.length) : (ndL (fillN n A i))[i]? = some (ndE A[i]) := by
  have : (fillN n A i)[i]? = some A[i] := by
    unfold fillN
    rw [List.getElem?_append_right (by rw [mkN_len]; exact Nat.le_refl _), mkN_len, Nat.sub_self, List.getElem?_drop, Nat.add_zero, List.getElem?_eq_getElem h]
  simp [ndL, this]
theorem fillN_set (n : Int) (A : List (Int × Int)) (i : Nat) (h : i < A.length) : (ndL (fillN n A i)).set i [.c (.int .i64 (n + 2 * (i : Int))), .c (.int .i64 (n + 2 * (i : Int) + 1))] = ndL (fillN n A (i + 1)) := by
  have e : (fillN n A i).set i (n + 2 * (i : Int), n + 2 * (i : Int) + 1) = fillN n A (i + 1) := by
    unfold fillN
    rw [List.set_append, if_neg (by rw [mkN_len]; omega), mkN_len, Nat.sub_self, List.drop_eq_getElem_cons h, List.set_cons_zero]
    have : mkN n (i + 1) = mkN n i ++ [(n + 2 * (i : Int), n + 2 * (i : Int) + 1)] := by simp [mkN, List.range_succ]
    rw [this, List.append_assoc]
    rfl
  rw [← e, ← ndL_set]
  rfl
theorem c_markNodeS (k : Nat) (A : List (Int × Int)) (n : Int) (hl : A.length ≤ 1048576) (hn0 : -1000000 ≤ n) (hn1 : n ≤ 100000000000) (hk : A.length + 10 ≤ k) : callK C k 9 [.s 0 0 2 0 A.length, .c (.int .i64 n)] [ndO A] = some (.c (.int .i64 (n + 2 * A.length)), hpOf [some (ndO (fillN n A A.length))] []) := by
  obtain ⟨k, rfl⟩ : ∃ m, k = m + 3 := ⟨k - 3, by omega⟩
  rw [callK_fn rfl F9 code9]
  have hL := loopHas (body := fun st => runCode C (callK C (k + 2)) (k + 2) (K 9) L9_0 1 st) (keep := [0, 1, 5]) (.ex 0) (fun st => st.ρ 1 = .c (.int .i64 (n + 2 * A.length)) ∧ st.H 0 = some (0, ndO (fillN n A A.length)))
    (fun i st => st.ρ 0 = .s 0 0 2 0 A.length ∧ st.ρ 1 = .c (.int .i64 (n + 2 * (i : Int))) ∧ st.H 0 = some (0, ndO (fillN n A i)) ∧ st.ρ 5 = .c (.int .i64 (i : Int)))
    A.length (k + 2) (by omega)
    (by
      rintro i st next hi ⟨h0, h1, hH, h5⟩ hn
      have hg := fillN_get n A i hi
      have hs := fillN_set n A i hi
      obtain ⟨_, hg2⟩ := List.getElem?_eq_some_iff.1 hg
      simp [ndE] at hg2
      have w1 : IntKind.i64.wrap (n + 2 * (i : Int) + 1) = n + 2 * (i : Int) + 1 := wrap_small (by omega) (by omega)
      have w2 : IntKind.i64.wrap (n + 2 * (i : Int) + 1 + 1) = n + 2 * ((i : Int) + 1) := by rw [wrap_small (by omega) (by omega)]; omega
      have hlen : i < (ndL (fillN n A i)).length := by rw [ndL_length]; unfold fillN; rw [List.length_append, mkN_len, List.length_drop]; omega
      simp [ndE] at hg
      simp [L9_0, R9_0, R9_1, R9_2, R9_3, R9_4, R9_5, R9_6, R9_7, R9_8, Try.f9, lpL9_0, lpM9_0, M9_0, h0, h1, h5, hH, hi, ndO, wrap_next hi (by omega : A.length ≤ 9000000000000000000), hg2, hs, hlen, w1, w2]
      refine hn _ ⟨?_, ?_, ?_, ?_⟩ <;> simp [h0, ndO])
    (by
      rintro st next ⟨h0, h1, hH, h5⟩
      simp [L9_0, R9_0, R9_1, R9_2, R9_3, R9_4, R9_5, R9_6, R9_7, R9_8, Try.f9, lpL9_0, lpM9_0, M9_0, h0, h1, h5, hH, ndO])
  simp [R9_0, R9_1, R9_2, R9_3, R9_4, R9_5, R9_6, R9_7, R9_8, Try.f9, lpL9_0, lpM9_0]
  generalize hr2 : loopRun _ _ _ _ = res
  obtain ⟨s1, rfl, f1, F0⟩ := loop_at hL hr2 ⟨by simp, by simp, by simp [fillN, mkN], by simp⟩
  simp [R9_0, R9_1, R9_2, R9_3, R9_4, R9_5, R9_6, R9_7, R9_8, Try.f9, lpL9_0, lpM9_0, M9_0, f1, F0, ndO]

end Go.Proofs.Ytllneakafpldjaa.Eng
