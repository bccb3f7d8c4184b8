/- A deterministic reading of Go code over plain data: what functions of the program compute. No conditions. -/
import Derived.Test.YtfdlllhcjfhknaaLmbase
import Derived.Test.YtfdlllhcjfhknaaLmimpl
import Derived.Test.YtfdlllhcjfhknaaLmgood
import Derived.Test.YtfdlllhcjfhknaaLmfield
import Derived.Test.YtfdlllhcjfhknaaEngT
namespace Go.Proofs.Ytfdlllhcjfhknaa.Eng
open Go Go.Proofs
set_option maxRecDepth 100000
set_option maxHeartbeats 2000000
set_option linter.unusedSimpArgs false
set_option linter.unusedVariables false
attribute [local simp] finK fin1 hpOf xi renQ isRoot runCode runOps Eng.step wantedV astep val ofO made loadV storeV find V.cells bin binT un1 setAt fieldAddrV fieldV indexAddrV indexV bounds sliceV convV lenV foldV max2V min2V callO bor rdsO wrsO seen_none okD_none loops keepIds resV resultsV St.ev TK.agg refs refsL refsO V.one V.isC Value.oneCell' ren renL renO noTag noTagL noTagR noTagO nodup mapO passV frs psi refsR newD loopNext opsAt idx flatAt rootOf backR newsV appendV copyV clearV strV bytesOf nilCmp buildV fillF chunk
attribute [local simp] cT cF cX cWR cOW cK X ints_length ints_get ints_getElem ints_drop ints_take ints_append ints_nil ints_set
attribute [local simp] ints_replicate
attribute [local simp] putV_some putV_none putH_app applyD_nil applyD_cons seen_app gc_ρ gc_H gc_tick st0_ρ st0_H st0_tick retV callRo callV_if borL_nil borL_cons ints_snoc take_self callWr cutH_app findQ afterV exportV_0 exportV_n okD_nil okD_cons sub_seq0 sub_seq1 sub_cond0 sub_cond1 sub_block sub_loop sub_nil young_far young_none hidW_nil mayW_nil pairs okI ok_0 ok_1 ok_2
attribute [local simp] T3 T4 T5 T9 T22 T24 T29 T36 T73 T75 T86 T89 T103 T104 T106 T108 T109 T114 T134 T136 T157 T161 T168
def fillP (n : Int) (A : List Int) (i : Nat) : List Int := marks n i ++ A.drop i
theorem fillP_get (n : Int) (A : List Int) (i : Nat) (h : i < A.length) : (fillP n A i)[i]? = some A[i] := by
  unfold fillP
  rw [List.getElem?_append_right (by rw [marks_length]; exact Nat.le_refl _), marks_length, Nat.sub_self, List.getElem?_drop, Nat.add_zero, List.getElem?_eq_getElem h]
theorem fillP_set (n : Int) (A : List Int) (i : Nat) (h : i < A.length) : (fillP n A i).set i (n + (i : Int)) = fillP n A (i + 1) := by
  unfold fillP
  rw [List.set_append, if_neg (by rw [marks_length]; omega), marks_length, Nat.sub_self, List.drop_eq_getElem_cons h, List.set_cons_zero]
  have : marks n (i + 1) = marks n i ++ [n + (i : Int)] := by simp [marks, List.range_succ]
  rw [this, List.append_assoc]
  rfl
theorem c_markIntP (k : Nat) (A : List Int) (m : Nat) (n : Int) (hm : m ≤ A.length) (hl : A.length ≤ 1048576) (hn0 : -1000000 ≤ n) (hn1 : n ≤ 100000000000) (hk : A.length + 10 ≤ k) : callK C k 76 [.s 0 0 1 0 m, .c (.int .i64 n)] [intsO A] = some (.c (.int .i64 (n + m)), hpOf [some (intsO (fillP n A m))] []) := by
  obtain ⟨k, rfl⟩ : ∃ m, k = m + 3 := ⟨k - 3, by omega⟩
  rw [callK_fn rfl F76 code76]
  have hL := loopHas (body := fun st => runCode C (callK C (k + 2)) (k + 2) (K 76) L76_0 1 st) (keep := [0, 1, 5]) (.ex 0) (fun st => st.ρ 1 = .c (.int .i64 (n + m)) ∧ st.H 0 = some (0, intsO (fillP n A m)))
    (fun i st => st.ρ 0 = .s 0 0 1 0 m ∧ st.ρ 1 = .c (.int .i64 (n + i)) ∧ st.H 0 = some (0, intsO (fillP n A i)) ∧ st.ρ 5 = .c (.int .i64 (i : Int)))
    m (k + 2) (by omega)
    (by
      rintro i st next hi ⟨h0, h1, hH, h5⟩ hn
      have hg := fillP_get n A i (by omega)
      have hs := fillP_set n A i (by omega)
      have hw : IntKind.i64.wrap (n + i + 1) = n + (i + 1) := by rw [wrap_small (by omega) (by omega)]; omega
      simp [L76_0, R76_0, R76_1, R76_2, R76_3, R76_4, R76_5, R76_6, Try.f76, lpL76_0, lpM76_0, M76_0, h0, h1, h5, hH, hi, intsO, wrap_next hi (by omega : m ≤ 9000000000000000000), hg, hs, hw] at hn ⊢
      exact hn _ (by simp [h0]) (by simp) (by simp) (by simp))
    (by
      rintro st next ⟨h0, h1, hH, h5⟩
      simp [L76_0, R76_0, R76_1, R76_2, R76_3, R76_4, R76_5, R76_6, Try.f76, lpL76_0, lpM76_0, M76_0, h0, h1, h5, hH, intsO])
  simp [R76_0, R76_1, R76_2, R76_3, R76_4, R76_5, R76_6, Try.f76, lpL76_0, lpM76_0]
  generalize hr2 : loopRun _ _ _ _ = res
  obtain ⟨s1, rfl, f1, F0⟩ := loop_at hL hr2 ⟨by simp, by simp, by simp [fillP, marks], by simp⟩
  simp [R76_0, R76_1, R76_2, R76_3, R76_4, R76_5, R76_6, Try.f76, lpL76_0, lpM76_0, M76_0, f1, F0, intsO]

end Go.Proofs.Ytfdlllhcjfhknaa.Eng
