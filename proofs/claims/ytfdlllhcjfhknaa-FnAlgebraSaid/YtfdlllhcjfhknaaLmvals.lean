/- A deterministic reading of Go code over plain data: what functions of the program compute. No conditions. -/
import Derived.Test.YtfdlllhcjfhknaaLmbase
import Derived.Test.YtfdlllhcjfhknaaLmimpl
import Derived.Test.YtfdlllhcjfhknaaLmimplc
import Derived.Test.YtfdlllhcjfhknaaLmgood
import Derived.Test.YtfdlllhcjfhknaaEngT
namespace Go.Proofs.Ytfdlllhcjfhknaa.Eng
open Go Go.Proofs
set_option maxRecDepth 100000
set_option maxHeartbeats 2000000
set_option linter.unusedSimpArgs false
set_option linter.unusedVariables false
attribute [local simp] finK fin1 hpOf xi renQ isRoot runCode runOps Eng.step wantedV astep val ofO made loadV storeV find V.cells bin binT un1 setAt fieldAddrV fieldV indexAddrV indexV bounds sliceV convV lenV foldV max2V min2V callO bor rdsO wrsO seen_none okD_none loops keepIds resV resultsV St.ev TK.agg refs refsL refsO V.one V.isC Value.oneCell' ren renL renO noTag noTagL noTagR noTagO nodup mapO passV frs psi refsR newD loopNext opsAt idx flatAt rootOf backR newsV appendV copyV clearV strV bytesOf nilCmp buildV fillF chunk
attribute [local simp] cT cF cX cWR cOW cK X ints_length ints_get ints_getElem ints_drop ints_take ints_append ints_nil ints_set
attribute [local simp] ints_replicate
attribute [local simp] putV_some putV_none putH_app applyD_nil applyD_cons seen_app gc_ρ gc_H gc_tick st0_ρ st0_H st0_tick retV callRo callV_if borL_nil borL_cons ints_snoc take_self callWr cutH_app findQ afterV exportV_0 exportV_n okD_nil okD_cons sub_seq0 sub_seq1 sub_cond0 sub_cond1 sub_block sub_loop sub_nil young_far young_none hidW_nil mayW_nil pairs okI ok_0 ok_1 ok_2
attribute [local simp] T3 T4 T5 T9 T22 T24 T26 T29 T36 T73 T75 T86 T89 T103 T104 T106 T108 T109 T111 T114 T118 T134 T136 T157 T161 T168
attribute [local simp] young_near clo cloF Region.binds Nat.testBit hidW declW mayW
/-- The values of a list of cells. -/
def valsL (l : List Int) : List Int := l.filter fun x => x != -9999
theorem c_valuesOf1 (k : Nat) (x : Int) (hk : 1 ≤ k) : callK C k 173 [.c (.int .i64 x)] [] = some (.c (.bool (x == -9999)), hpOf [] []) := by
  obtain ⟨k, rfl⟩ : ∃ m, k = m + 1 := ⟨k - 1, by omega⟩
  rw [callK_fn rfl F173 code173]
  simp [R173_0, R173_1, Try.f173]
theorem valsL_take (l : List Int) (j : Nat) (h : j < l.length) : valsL (l.take (j + 1)) = valsL (l.take j) ++ (if l[j] = -9999 then [] else [l[j]]) := by
  unfold valsL
  rw [List.take_succ_eq_append_getElem h, List.filter_append]
  by_cases e : l[j] = -9999 <;> simp [e]
theorem valsL_le (l : List Int) (j : Nat) : (valsL (l.take j)).length ≤ j := Nat.le_trans (List.length_filter_le _ _) (by rw [List.length_take]; omega)
theorem c_IndexVal (k : Nat) (b : Bool) (l : List Int) (hl : l.length ≤ 1048576) (hk : l.length + 20 ≤ k) :
    ((∀ x ∈ l, x ≠ -9999) ∧ callK C k 174 [.sq b true 1 (ints l), .fn 173 []] [] = some (.c (.int .i64 (-1)), hpOf [] [])) ∨
    (∃ (i0 : Nat) (hi : i0 < l.length), l[i0] = -9999 ∧ (∀ (j : Nat) (hj : j < i0), (l[j]'(by omega)) ≠ -9999) ∧ callK C k 174 [.sq b true 1 (ints l), .fn 173 []] [] = some (.c (.int .i64 (i0 : Int)), hpOf [] [])) := by
  obtain ⟨k, rfl⟩ : ∃ m, k = m + 4 := ⟨k - 4, by omega⟩
  rw [callK_fn rfl F174 code174]
  have hc := fun x => c_valuesOf1 (k + 3) x (by omega)
  cases hf : l.findIdx? (fun x => x == -9999) with
  | none =>
    left
    rw [List.findIdx?_eq_none_iff] at hf
    have hn : ∀ x ∈ l, x ≠ -9999 := fun x hx => by simpa using hf x hx
    refine ⟨hn, ?_⟩
    have hL := loopHas (body := fun st => runCode C (callK C (k + 3)) (k + 3) (K 174) L174_0 1 st) (keep := [0, 1, 7, 8]) (.ex 0) (fun st => True)
      (fun i st => st.ρ 0 = .sq b true 1 (ints l) ∧ st.ρ 1 = .fn 173 [] ∧ st.ρ 7 = .c (.int .i64 (l.length : Int)) ∧ st.ρ 8 = .c (.int .i64 (i : Int)))
      l.length (k + 3) (by omega)
      (by
        rintro i st next hi ⟨h0, h1, h7, h8⟩ hx
        have hci : l[i] ≠ -9999 := hn _ (List.getElem_mem hi)
        simp [L174_0, R174_0, R174_1, R174_2, R174_3, R174_4, R174_5, R174_6, R174_7, Try.f174, lpL174_0, lpM174_0, M174_0, h0, h1, h7, h8, hi, hc, hci, wrap_next hi (by omega)] at hx ⊢
        exact hx _ (by simp [h0]) (by simp [h1]) (by simp [h7]) (by simp))
      (by
        rintro st next ⟨h0, h1, h7, h8⟩
        simp [L174_0, R174_0, R174_1, R174_2, R174_3, R174_4, R174_5, R174_6, R174_7, Try.f174, lpL174_0, lpM174_0, M174_0, h0, h1, h7, h8])
    simp [R174_0, R174_1, R174_2, R174_3, R174_4, R174_5, R174_6, R174_7, Try.f174, lpL174_0, lpM174_0]
    generalize hr2 : loopRun _ _ _ _ = res
    obtain ⟨s1, rfl, _⟩ := loop_at hL hr2 ⟨by simp, by simp, by simp, by simp⟩
    simp [R174_0, R174_1, R174_2, R174_3, R174_4, R174_5, R174_6, R174_7, Try.f174, lpL174_0, lpM174_0, M174_0]
  | some i0 =>
    right
    rw [List.findIdx?_eq_some_iff_getElem] at hf
    obtain ⟨hi0, h1, h2⟩ := hf
    have e0 : l[i0] = -9999 := by simpa using h1
    have e1 : ∀ (j : Nat) (hj : j < i0), (l[j]'(by omega)) ≠ -9999 := fun j hj => by simpa using h2 j hj
    refine ⟨i0, hi0, e0, e1, ?_⟩
    have hL := loopHas (body := fun st => runCode C (callK C (k + 3)) (k + 3) (K 174) L174_0 1 st) (keep := [0, 1, 7, 8]) .ret (fun st => st.ρ 4 = .c (.int .i64 (i0 : Int)))
      (fun i st => st.ρ 0 = .sq b true 1 (ints l) ∧ st.ρ 1 = .fn 173 [] ∧ st.ρ 7 = .c (.int .i64 (l.length : Int)) ∧ st.ρ 8 = .c (.int .i64 (i : Int)))
      i0 (k + 3) (by omega)
      (by
        rintro i st next hi ⟨h0, h1, h7, h8⟩ hx
        have hil : i < l.length := by omega
        have hci := e1 i hi
        simp [L174_0, R174_0, R174_1, R174_2, R174_3, R174_4, R174_5, R174_6, R174_7, Try.f174, lpL174_0, lpM174_0, M174_0, h0, h1, h7, h8, hil, hc, hci, wrap_next hil (by omega)] at hx ⊢
        exact hx _ (by simp [h0]) (by simp [h1]) (by simp [h7]) (by simp))
      (by
        rintro st next ⟨h0, h1, h7, h8⟩
        simp [L174_0, R174_0, R174_1, R174_2, R174_3, R174_4, R174_5, R174_6, R174_7, Try.f174, lpL174_0, lpM174_0, M174_0, h0, h1, h7, h8, hi0, hc, e0])
    simp [R174_0, R174_1, R174_2, R174_3, R174_4, R174_5, R174_6, R174_7, Try.f174, lpL174_0, lpM174_0]
    generalize hr2 : loopRun _ _ _ _ = res
    obtain ⟨s1, rfl, h4⟩ := loop_at hL hr2 ⟨by simp, by simp, by simp, by simp⟩
    simp [R174_0, R174_1, R174_2, R174_3, R174_4, R174_5, R174_6, R174_7, Try.f174, lpL174_0, lpM174_0, M174_0, h4]
def DlX (l : List Int) (j : Nat) (st : St) : Prop := ∃ arr : List Int, arr.length = l.length ∧ arr.take (valsL (l.take j)).length = valsL (l.take j) ∧ arr.drop j = l.drop j ∧ (valsL (l.take j)).length < j ∧ st.H 0 = some (0, intsO arr)
theorem c_DeleteVal (k : Nat) (l : List Int) (hl : l.length ≤ 1048576) (hk : l.length + 40 ≤ k) :
    ∃ arr : List Int, callK C k 171 [.s 0 0 1 0 l.length, .fn 173 []] [intsO l] = some (.s 0 0 1 0 (valsL l).length, hpOf [some (intsO arr)] []) ∧ arr.take (valsL l).length = valsL l ∧ (valsL l).length ≤ arr.length := by
  obtain ⟨k, rfl⟩ : ∃ m, k = m + 9 := ⟨k - 9, by omega⟩
  rw [callK_fn rfl F171 code171]
  have hc := fun x => c_valuesOf1 (k + 8) x (by omega)
  rcases c_IndexVal (k + 8) true l hl (by omega) with ⟨hn, hi⟩ | ⟨i0, hi0, e0, e1, hi⟩
  · have hv : valsL l = l := List.filter_eq_self.2 fun x hx => by simpa using hn x hx
    refine ⟨l, ?_, by rw [hv]; exact List.take_length, by rw [hv]; exact Nat.le_refl _⟩
    rw [hv]
    simp [R171_0, R171_1, R171_2, R171_3, R171_4, R171_5, R171_6, R171_7, R171_8, R171_9, R171_10, R171_11, R171_12, Try.f171, lpL171_0, lpM171_0, M171_0, intsO, hi]
  · obtain ⟨n, hn⟩ : ∃ n, l.length = n := ⟨_, rfl⟩
    have hb0 : ((i0 : Int) == -1) = false := by simp
    have hb1 : ¬ (i0 : Int) = -1 := by omega
    have hw0 := wrap_next hi0 (by omega)
    have v0 : ∀ j, j ≤ i0 → valsL (l.take j) = l.take j := fun j hj => List.filter_eq_self.2 fun x hx => by
      obtain ⟨q, hq, rfl⟩ := List.getElem_of_mem hx
      rw [List.length_take] at hq
      rw [List.getElem_take]
      simpa using e1 q (by omega)
    have v1 : valsL (l.take (i0 + 1)) = l.take i0 := by
      rw [valsL_take l i0 hi0, e0, if_pos rfl, v0 i0 (Nat.le_refl _), List.append_nil]
    have hL := loopHas (body := fun st => runCode C (callK C (k + 8)) (k + 8) (K 171) L171_0 1 st) (keep := [0, 1, 5, 6]) (.ex 0) (fun st => st.ρ 0 = .s 0 0 1 0 n ∧ st.ρ 5 = .c (.int .i64 ((valsL (l.take n)).length : Int)) ∧ DlX l n st)
      (fun i st => st.ρ 0 = .s 0 0 1 0 n ∧ st.ρ 1 = .fn 173 [] ∧ st.ρ 5 = .c (.int .i64 ((valsL (l.take (i0 + 1 + i))).length : Int)) ∧ st.ρ 6 = .c (.int .i64 ((i0 + 1 + i : Nat) : Int)) ∧ DlX l (i0 + 1 + i) st)
      (n - (i0 + 1)) (k + 8) (by omega)
      (by
        rintro i st next hi2 ⟨q0, q1, q5, q6, arr, ha1, ha2, ha3, ha4, H0⟩ hx
        obtain ⟨j, hj⟩ : ∃ j, i0 + 1 + i = j := ⟨_, rfl⟩
        rw [hj] at q5 q6 ha2 ha3 ha4
        rw [show i0 + 1 + (i + 1) = j + 1 by omega] at hx
        have hjn : j < n := by omega
        have hja : j < arr.length := by omega
        have hjl : j < l.length := by omega
        have hwj := wrap_next hjn (by omega)
        have hge : arr[j] = l[j] := by
          have := congrArg (fun x => x[0]?) ha3
          simpa [hja, hjl] using this
        obtain ⟨m, hm⟩ : ∃ m, (valsL (l.take j)).length = m := ⟨_, rfl⟩
        have hvt := valsL_take l j hjl
        rw [hm] at q5 ha2 ha4
        simp [intsO] at H0
        by_cases hd : l[j] = -9999
        · rw [if_pos hd, List.append_nil] at hvt
          rw [hvt, hm] at hx
          simp [L171_0, R171_0, R171_1, R171_2, R171_3, R171_4, R171_5, R171_6, R171_7, R171_8, R171_9, R171_10, R171_11, R171_12, Try.f171, lpL171_0, lpM171_0, M171_0, q0, q1, q5, q6, H0, hjn, hja, hge, hd, hc, hwj]
          refine hx _ ⟨?_, ?_, ?_, ?_, arr, ha1, by rw [hvt, hm]; exact ha2, by rw [← List.drop_drop, ← List.drop_drop, ha3], by rw [hvt, hm]; omega, ?_⟩ <;> simp [q0, q1, q5, H0, intsO]
        · rw [if_neg hd] at hvt
          have hlen : (valsL (l.take (j + 1))).length = m + 1 := by rw [hvt, List.length_append, hm]; rfl
          rw [hlen] at hx
          have hwm := wrap_next ha4 (by omega : j ≤ 9000000000000000000)
          have hma : m < arr.length := by omega
          have hmn : m < n := by omega
          have hdb : (l[j] == -9999) = false := by simpa using hd
          simp [L171_0, R171_0, R171_1, R171_2, R171_3, R171_4, R171_5, R171_6, R171_7, R171_8, R171_9, R171_10, R171_11, R171_12, Try.f171, lpL171_0, lpM171_0, M171_0, q0, q1, q5, q6, H0, hjn, hja, hge, hd, hdb, hc, hwj, hwm, hma, hmn]
          refine hx _ ⟨?_, ?_, ?_, ?_, arr.set m l[j], by simpa using ha1, ?_, ?_, by rw [hlen]; omega, ?_⟩
          · simp [q0]
          · simp [q1]
          · simp
          · simp
          · rw [hlen, hvt, ← ha2, List.take_succ_eq_append_getElem (by simpa using hma)]
            simp [List.take_set_of_le]
          · rw [List.drop_set_of_lt (by omega), ← List.drop_drop, ← List.drop_drop, ha3]
          · simp [intsO])
      (by
        rintro st next ⟨q0, q1, q5, q6, hD⟩
        have e : i0 + 1 + (n - (i0 + 1)) = n := by omega
        rw [e] at q5 q6 hD
        obtain ⟨arr, ha1, ha2, ha3, ha4, H0⟩ := hD
        simp [intsO] at H0
        simp [L171_0, R171_0, R171_1, R171_2, R171_3, R171_4, R171_5, R171_6, R171_7, R171_8, R171_9, R171_10, R171_11, R171_12, Try.f171, lpL171_0, lpM171_0, M171_0, q0, q1, q5, q6, H0]
        exact ⟨arr, ha1, ha2, ha3, ha4, by simp [H0, intsO]⟩)
    have htk : l.take n = l := by rw [← hn]; exact List.take_length
    have hl1 : (l.take i0).length = i0 := by rw [List.length_take]; omega
    simp [R171_0, R171_1, R171_2, R171_3, R171_4, R171_5, R171_6, R171_7, R171_8, R171_9, R171_10, R171_11, R171_12, Try.f171, lpL171_0, lpM171_0, intsO, hi, hb0, hb1, hw0, hn, htk]
    generalize hr2 : loopRun _ _ _ _ = res
    obtain ⟨s1, rfl, f0, f5, arr, ha1, ha2, ha3, ha4, H0⟩ := loop_at hL hr2 ⟨by simp, by simp, by simp [v1, hn]; omega, by simp, l, rfl, by rw [Nat.add_zero, v1, hl1], rfl, by rw [Nat.add_zero, v1, List.length_take]; omega, by simp [intsO]⟩
    rw [← hn, List.take_length] at f5 ha2 ha4
    obtain ⟨m, hm⟩ : ∃ m, (valsL l).length = m := ⟨_, rfl⟩
    rw [hm] at f5 ha2 ha4 ⊢
    have hmn : m < n := by omega
    have hmn' : (m : Int) ≤ (n : Int) := by omega
    have hmle : m ≤ n := by omega
    have hnz : ¬ n - m = 0 := by omega
    have han : arr.length = n := by omega
    have hadd : m + (n - m) = n := by omega
    simp [intsO] at H0
    refine ⟨arr.take m ++ (List.replicate (n - m) 0 ++ arr.drop n), ?_, ?_, ?_⟩
    · simp [R171_0, R171_1, R171_2, R171_3, R171_4, R171_5, R171_6, R171_7, R171_8, R171_9, R171_10, R171_11, R171_12, Try.f171, lpL171_0, lpM171_0, M171_0, f0, f5, H0, hmn, hmn', hmle, hnz, han, hadd, ints_append, intsO]
    · rw [List.take_append_of_le_length (by rw [List.length_take]; omega), List.take_take, Nat.min_self, ha2]
    · simp; omega

end Go.Proofs.Ytfdlllhcjfhknaa.Eng
