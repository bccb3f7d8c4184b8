/- A deterministic reading of Go code over plain data: what functions of the program compute. No conditions. -/
import Derived.Test.YtfdlllhcjfhknaaLmbase
import Derived.Test.YtfdlllhcjfhknaaLmimpl
import Derived.Test.YtfdlllhcjfhknaaLmgood
import Derived.Test.YtfdlllhcjfhknaaLmnbh
import Derived.Test.YtfdlllhcjfhknaaEngT
namespace Go.Proofs.Ytfdlllhcjfhknaa.Eng
open Go Go.Proofs
set_option maxRecDepth 100000
set_option maxHeartbeats 2000000
set_option linter.unusedSimpArgs false
set_option linter.unusedVariables false
attribute [local simp] finK fin1 hpOf xi renQ isRoot runCode runOps Eng.step wantedV astep val ofO made loadV storeV find V.cells bin binT un1 setAt fieldAddrV fieldV indexAddrV indexV bounds sliceV convV lenV foldV max2V min2V callO bor rdsO wrsO seen_none okD_none loops keepIds resV resultsV St.ev TK.agg refs refsL refsO V.one V.isC Value.oneCell' ren renL renO noTag noTagL noTagR noTagO nodup mapO passV frs psi refsR newD loopNext opsAt idx flatAt rootOf backR newsV appendV copyV clearV strV bytesOf nilCmp buildV fillF chunk
attribute [local simp] cT cF cX cWR cOW cK X ints_length ints_get ints_getElem ints_drop ints_take ints_append ints_nil ints_set
attribute [local simp] ints_replicate
attribute [local simp] putV_some putV_none putH_app applyD_nil applyD_cons seen_app gc_ρ gc_H gc_tick st0_ρ st0_H st0_tick retV callRo callV_if borL_nil borL_cons ints_snoc take_self callWr cutH_app findQ afterV exportV_0 exportV_n okD_nil okD_cons sub_seq0 sub_seq1 sub_cond0 sub_cond1 sub_block sub_loop sub_nil young_far young_none hidW_nil mayW_nil pairs okI ok_0 ok_1 ok_2
attribute [local simp] T3 T4 T5 T9 T22 T24 T26 T29 T36 T73 T75 T86 T89 T103 T104 T106 T108 T109 T111 T114 T118 T134 T136 T157 T161 T168
def nearI (a b : Int) : Int := if a < 0 then -((-2 * a + b).tdiv (2 * b)) else (2 * a + b).tdiv (2 * b)
theorem tdiv_bound {x y : Int} (hx : 0 ≤ x) (hy : 0 < y) : 0 ≤ x.tdiv y ∧ x.tdiv y ≤ x := ⟨Int.tdiv_nonneg hx (by omega), Int.tdiv_le_self _ hx⟩
theorem near_facts {a b : Int} (ha : -1000000000 ≤ a) (ha' : a ≤ 1000000000) (hb : 1 ≤ b) (hb' : b ≤ 1000000000) :
    IntKind.i64.wrap (-2 * a) = -2 * a ∧ IntKind.i64.wrap (2 * a) = 2 * a ∧ IntKind.i64.wrap (2 * b) = 2 * b ∧ IntKind.i64.wrap (-2 * a + b) = -2 * a + b ∧ IntKind.i64.wrap (2 * a + b) = 2 * a + b ∧ ¬ 2 * b = 0 := by
  refine ⟨wrap_small (by omega) (by omega), wrap_small (by omega) (by omega), wrap_small (by omega) (by omega), wrap_small (by omega) (by omega), wrap_small (by omega) (by omega), by omega⟩
theorem c_nearest (k : Nat) (a b : Int) (ha : -1000000000 ≤ a) (ha' : a ≤ 1000000000) (hb : 1 ≤ b) (hb' : b ≤ 1000000000) (hk : 1 ≤ k) : callK C k 108 [.c (.int .i64 a), .c (.int .i64 b)] [] = some (.c (.int .i64 (nearI a b)), hpOf [] []) := by
  obtain ⟨k, rfl⟩ : ∃ m, k = m + 1 := ⟨k - 1, by omega⟩
  rw [callK_fn rfl F108 code108]
  obtain ⟨w1, w2, w3, w4, w5, w6⟩ := near_facts ha ha' hb hb'
  have hb0 : ¬ b = 0 := by omega
  unfold nearI
  by_cases h : a < 0
  · obtain ⟨t1, t2⟩ := tdiv_bound (x := -2 * a + b) (y := 2 * b) (by omega) (by omega)
    have w7 : IntKind.i64.wrap ((-2 * a + b).tdiv (2 * b)) = (-2 * a + b).tdiv (2 * b) := wrap_small (by omega) (by omega)
    have w8 : IntKind.i64.wrap (-((-2 * a + b).tdiv (2 * b))) = -((-2 * a + b).tdiv (2 * b)) := wrap_small (by omega) (by omega)
    simp [R108_0, R108_1, R108_2, R108_3, Try.f108, h, w1, w3, w4, w7, w8, w6]
  · obtain ⟨t1, t2⟩ := tdiv_bound (x := 2 * a + b) (y := 2 * b) (by omega) (by omega)
    have w7 : IntKind.i64.wrap ((2 * a + b).tdiv (2 * b)) = (2 * a + b).tdiv (2 * b) := wrap_small (by omega) (by omega)
    simp [R108_0, R108_1, R108_2, R108_3, Try.f108, h, w2, w3, w5, w7, w6]
theorem c_l3Round (k : Nat) (a b : Int) (ha : -1000000000 ≤ a) (ha' : a ≤ 1000000000) (hb : 1 ≤ b) (hb' : b ≤ 1000000000) (hk : 1 ≤ k) : callK C k 113 [.c (.int .i64 a), .c (.int .i64 b)] [] = some (.c (.int .i64 (nearI a b)), hpOf [] []) := by
  obtain ⟨k, rfl⟩ : ∃ m, k = m + 1 := ⟨k - 1, by omega⟩
  rw [callK_fn rfl F113 code113]
  obtain ⟨w1, w2, w3, w4, w5, w6⟩ := near_facts ha ha' hb hb'
  have hb0 : ¬ b = 0 := by omega
  unfold nearI
  by_cases h : a < 0
  · obtain ⟨t1, t2⟩ := tdiv_bound (x := -2 * a + b) (y := 2 * b) (by omega) (by omega)
    have w7 : IntKind.i64.wrap ((-2 * a + b).tdiv (2 * b)) = (-2 * a + b).tdiv (2 * b) := wrap_small (by omega) (by omega)
    have w8 : IntKind.i64.wrap (-((-2 * a + b).tdiv (2 * b))) = -((-2 * a + b).tdiv (2 * b)) := wrap_small (by omega) (by omega)
    simp [R113_0, R113_1, R113_2, R113_3, Try.f113, h, w1, w3, w4, w7, w8, w6]
  · obtain ⟨t1, t2⟩ := tdiv_bound (x := 2 * a + b) (y := 2 * b) (by omega) (by omega)
    have w7 : IntKind.i64.wrap ((2 * a + b).tdiv (2 * b)) = (2 * a + b).tdiv (2 * b) := wrap_small (by omega) (by omega)
    simp [R113_0, R113_1, R113_2, R113_3, Try.f113, h, w2, w3, w5, w7, w6]
def okV (x : Int) : Bool := decide (-9000 ≤ x) && decide (x ≤ 9000)
theorem sum_take {l : List Int} {i : Nat} (h : i < l.length) : (l.take (i + 1)).sum = (l.take i).sum + l[i] := by
  rw [List.take_succ_eq_append_getElem h, List.sum_append]; simp only [List.sum_cons, List.sum_nil, Int.add_zero]
theorem sum_take_bound {l : List Int} (hl : l.all okV = true) (h64 : l.length ≤ 64) (i : Nat) : -576000 ≤ (l.take i).sum ∧ (l.take i).sum ≤ 576000 := by
  have h := sum_bound (l := l.take i) (by
    rw [List.all_eq_true] at hl ⊢
    exact fun x hx => hl x (List.mem_of_mem_take hx))
  have : (l.take i).length ≤ 64 := by rw [List.length_take]; omega
  omega
def cntG (thr : Int) (l : List Int) : Int := ((l.countP fun x => decide (thr ≤ x) : Nat) : Int)
theorem cnt_take_yes {l : List Int} {thr : Int} {i : Nat} (h : i < l.length) (hx : thr ≤ l[i]) : cntG thr (l.take (i + 1)) = cntG thr (l.take i) + 1 := by
  unfold cntG; rw [List.take_succ_eq_append_getElem h, List.countP_append]; simp only [List.countP_cons, List.countP_nil, hx, decide_true, decide_false, if_true, if_false, Bool.false_eq_true]; omega
theorem cnt_take_no {l : List Int} {thr : Int} {i : Nat} (h : i < l.length) (hx : ¬ thr ≤ l[i]) : cntG thr (l.take (i + 1)) = cntG thr (l.take i) := by
  unfold cntG; rw [List.take_succ_eq_append_getElem h, List.countP_append]; simp only [List.countP_cons, List.countP_nil, hx, decide_true, decide_false, if_true, if_false, Bool.false_eq_true]; omega
theorem cnt_bound (thr : Int) (l : List Int) : 0 ≤ cntG thr l ∧ cntG thr l ≤ l.length := by
  have := List.countP_le_length (p := fun x => decide (thr ≤ x)) (l := l)
  unfold cntG
  omega
theorem ok_get {l : List Int} (hl : l.all okV = true) {i : Nat} (h : i < l.length) : -9000 ≤ l[i] ∧ l[i] ≤ 9000 := by
  have := List.all_eq_true.1 hl _ (List.getElem_mem h)
  simpa [okV] using this
theorem c_sumOf (k : Nat) (l : List Int) (hl : l.all okV = true) (h64 : l.length ≤ 64) (hk : 100 ≤ k) : callK C k 119 [.sq true true 1 (ints l)] [] = some (.c (.int .i64 l.sum), hpOf [] []) := by
  obtain ⟨k, rfl⟩ : ∃ m, k = m + 1 := ⟨k - 1, by omega⟩
  rw [callK_fn rfl F119 code119]
  have hL := loopHas (body := fun st => runCode C (callK C (k + 0)) (k + 0) (K 119) L119_0 1 st) (keep := [3, 6, 7, 8]) (.ex 0) (fun st => st.ρ 3 = .c (.int .i64 l.sum))
    (fun i st => st.ρ 6 = .sq true true 1 (ints l) ∧ st.ρ 7 = .c (.int .i64 (l.length : Int)) ∧ st.ρ 8 = .c (.int .i64 (i : Int)) ∧ st.ρ 3 = .c (.int .i64 (l.take i).sum))
    l.length (k + 0) (by omega)
    (by
      rintro i st next hi ⟨q6, q7, q8, q3⟩ hn
      have b1 := sum_take_bound hl h64 i
      have b2 := ok_get hl hi
      have w1 : IntKind.i64.wrap ((l.take i).sum + l[i]) = (l.take (i + 1)).sum := by rw [sum_take hi]; exact wrap_small (by omega) (by omega)
      simp [L119_0, R119_0, R119_1, R119_2, R119_3, R119_4, R119_5, R119_6, R119_7, Try.f119, lpL119_0, lpM119_0, M119_0, q6, q7, q8, q3, hi, w1, wrap_next hi (by omega : l.length ≤ 9000000000000000000)]
      exact hn _ (by simp [q6, q7]))
    (by
      rintro st next ⟨q6, q7, q8, q3⟩
      rw [List.take_length] at q3
      simp [L119_0, R119_0, R119_1, R119_2, R119_3, R119_4, R119_5, R119_6, R119_7, Try.f119, lpL119_0, lpM119_0, M119_0, q6, q7, q8, q3])
  simp [R119_0, R119_1, R119_2, R119_3, R119_4, R119_5, R119_6, R119_7, Try.f119, lpL119_0, lpM119_0]
  generalize hr : loopRun _ _ _ _ = res
  obtain ⟨s, rfl, f⟩ := loop_at hL hr (by simp)
  simp [R119_0, R119_1, R119_2, R119_3, R119_4, R119_5, R119_6, R119_7, Try.f119, lpL119_0, lpM119_0, M119_0, f]
theorem max_take {x : Int} {l : List Int} {i : Nat} (h : i < l.length) : maxL ((x :: l).take (i + 2)) = (if l[i] > maxL ((x :: l).take (i + 1)) then l[i] else maxL ((x :: l).take (i + 1))) := by
  simp only [List.take_succ_cons, maxL]
  rw [List.take_succ_eq_append_getElem h, List.foldl_append]
  rfl
theorem min_take {x : Int} {l : List Int} {i : Nat} (h : i < l.length) : minL ((x :: l).take (i + 2)) = (if l[i] < minL ((x :: l).take (i + 1)) then l[i] else minL ((x :: l).take (i + 1))) := by
  simp only [List.take_succ_cons, minL]
  rw [List.take_succ_eq_append_getElem h, List.foldl_append]
  rfl
theorem c_Max (k : Nat) (l : List Int) (h64 : l.length ≤ 64) (h0 : 0 < l.length) (hk : 200 ≤ k) : callK C k 118 [.sq true true 1 (ints l)] [] = some (.c (.int .i64 (maxL l)), hpOf [] []) := by
  obtain ⟨k, rfl⟩ : ∃ m, k = m + 1 := ⟨k - 1, by omega⟩
  rw [callK_fn rfl F118 code118]
  obtain ⟨x, l, rfl⟩ : ∃ x t, l = x :: t := by cases l with | nil => simp at h0 | cons x t => exact ⟨x, t, rfl⟩
  simp at h64
  have hL := loopHas (body := fun st => runCode C (callK C (k + 0)) (k + 0) (K 118) L118_0 1 st) (keep := [0, 3, 4]) (.ex 0) (fun st => st.ρ 3 = .c (.int .i64 (maxL (x :: l))))
    (fun i st => st.ρ 0 = .sq true true 1 (ints (x :: l)) ∧ st.ρ 4 = .c (.int .i64 ((i : Int) + 1)) ∧ st.ρ 3 = .c (.int .i64 (maxL ((x :: l).take (i + 1)))))
    l.length (k + 0) (by omega)
    (by
      rintro i st next hi ⟨q0, q4, q3⟩ hn
      have hm := max_take (x := x) hi
      have w1 : IntKind.i64.wrap ((i : Int) + 1 + 1) = (i : Int) + 1 + 1 := wrap_small (by omega) (by omega)
      have g1 : (i : Int) + 1 < (l.length : Int) + 1 := by omega
      have g2 : (0 : Int) ≤ (i : Int) + 1 := by omega
      simp [L118_0, R118_0, R118_1, R118_2, R118_3, R118_4, R118_5, R118_6, R118_7, R118_8, Try.f118, lpL118_0, lpM118_0, M118_0, q0, q4, q3, hi, w1, g1, g2]
      refine hn _ ⟨?_, ?_, ?_⟩
      · simp [q0]
      · simp
      · rw [hm]; simp)
    (by
      rintro st next ⟨q0, q4, q3⟩
      rw [List.take_of_length_le (by simp)] at q3
      simp [L118_0, R118_0, R118_1, R118_2, R118_3, R118_4, R118_5, R118_6, R118_7, R118_8, Try.f118, lpL118_0, lpM118_0, M118_0, q0, q4, q3])
  have g1 : ¬ (l.length : Int) + 1 < 1 := by omega
  simp [R118_0, R118_1, R118_2, R118_3, R118_4, R118_5, R118_6, R118_7, R118_8, Try.f118, lpL118_0, lpM118_0, g1]
  generalize hr : loopRun _ _ _ _ = res
  obtain ⟨s, rfl, f⟩ := loop_at hL hr (by simp [maxL])
  simp [R118_0, R118_1, R118_2, R118_3, R118_4, R118_5, R118_6, R118_7, R118_8, Try.f118, lpL118_0, lpM118_0, M118_0, f]
theorem c_Min (k : Nat) (l : List Int) (h64 : l.length ≤ 64) (h0 : 0 < l.length) (hk : 200 ≤ k) : callK C k 117 [.sq true true 1 (ints l)] [] = some (.c (.int .i64 (minL l)), hpOf [] []) := by
  obtain ⟨k, rfl⟩ : ∃ m, k = m + 1 := ⟨k - 1, by omega⟩
  rw [callK_fn rfl F117 code117]
  obtain ⟨x, l, rfl⟩ : ∃ x t, l = x :: t := by cases l with | nil => simp at h0 | cons x t => exact ⟨x, t, rfl⟩
  simp at h64
  have hL := loopHas (body := fun st => runCode C (callK C (k + 0)) (k + 0) (K 117) L117_0 1 st) (keep := [0, 3, 4]) (.ex 0) (fun st => st.ρ 3 = .c (.int .i64 (minL (x :: l))))
    (fun i st => st.ρ 0 = .sq true true 1 (ints (x :: l)) ∧ st.ρ 4 = .c (.int .i64 ((i : Int) + 1)) ∧ st.ρ 3 = .c (.int .i64 (minL ((x :: l).take (i + 1)))))
    l.length (k + 0) (by omega)
    (by
      rintro i st next hi ⟨q0, q4, q3⟩ hn
      have hm := min_take (x := x) hi
      have w1 : IntKind.i64.wrap ((i : Int) + 1 + 1) = (i : Int) + 1 + 1 := wrap_small (by omega) (by omega)
      have g1 : (i : Int) + 1 < (l.length : Int) + 1 := by omega
      have g2 : (0 : Int) ≤ (i : Int) + 1 := by omega
      simp [L117_0, R117_0, R117_1, R117_2, R117_3, R117_4, R117_5, R117_6, R117_7, R117_8, Try.f117, lpL117_0, lpM117_0, M117_0, q0, q4, q3, hi, w1, g1, g2]
      refine hn _ ⟨?_, ?_, ?_⟩
      · simp [q0]
      · simp
      · rw [hm]; simp; split <;> rename_i hc <;> simp [hc])
    (by
      rintro st next ⟨q0, q4, q3⟩
      rw [List.take_of_length_le (by simp)] at q3
      simp [L117_0, R117_0, R117_1, R117_2, R117_3, R117_4, R117_5, R117_6, R117_7, R117_8, Try.f117, lpL117_0, lpM117_0, M117_0, q0, q4, q3])
  have g1 : ¬ (l.length : Int) + 1 < 1 := by omega
  simp [R117_0, R117_1, R117_2, R117_3, R117_4, R117_5, R117_6, R117_7, R117_8, Try.f117, lpL117_0, lpM117_0, g1]
  generalize hr : loopRun _ _ _ _ = res
  obtain ⟨s, rfl, f⟩ := loop_at hL hr (by simp [minL])
  simp [R117_0, R117_1, R117_2, R117_3, R117_4, R117_5, R117_6, R117_7, R117_8, Try.f117, lpL117_0, lpM117_0, M117_0, f]

end Go.Proofs.Ytfdlllhcjfhknaa.Eng
