/- A deterministic reading of Go code over plain data: what functions of the program compute. No conditions. -/
import Derived.Test.YtfgoljfggkkpnaaLmbase
import Derived.Test.YtfgoljfggkkpnaaLmimpl
import Derived.Test.YtfgoljfggkkpnaaLmgood
import Derived.Test.YtfgoljfggkkpnaaLmnbh
import Derived.Test.YtfgoljfggkkpnaaEngT
namespace Go.Proofs.Ytfgoljfggkkpnaa.Eng
open Go Go.Proofs
set_option maxRecDepth 100000
set_option maxHeartbeats 2000000
set_option linter.unusedSimpArgs false
set_option linter.unusedVariables false
attribute [local simp] finK fin1 hpOf xi renQ isRoot runCode runOps Eng.step wantedV astep val ofO made loadV storeV find V.cells bin binT un1 setAt fieldAddrV fieldV indexAddrV indexV bounds sliceV convV lenV foldV max2V min2V callO bor rdsO wrsO seen_none okD_none loops keepIds resV resultsV St.ev TK.agg refs refsL refsO V.one V.isC Value.oneCell' ren renL renO noTag noTagL noTagR noTagO nodup mapO passV frs psi refsR newD loopNext opsAt idx flatAt rootOf backR newsV appendV copyV buildV fillF chunk
attribute [local simp] cT cF cX cWR cOW cK X WR OW K ints_length ints_get ints_getElem ints_drop ints_take ints_append ints_nil ints_set
attribute [local simp] ints_replicate
attribute [local simp] putV_some putV_none putH_app applyD_nil applyD_cons seen_app gc_ρ gc_H gc_tick st0_ρ st0_H st0_tick retV callRo callV_ro borL_nil borL_cons ints_snoc take_self callV_wr callWr cutH_app findQ afterV exportV_0 exportV_n okD_nil okD_cons sub_seq0 sub_seq1 sub_cond0 sub_cond1 sub_block sub_loop sub_nil young_far young_none okI ok_0 ok_1 ok_2
attribute [local simp] T3 T4 T22 T24 T26 T57 T59 T63 T67 T87 T92
def nearI (a b : Int) : Int := if a < 0 then -((-2 * a + b).tdiv (2 * b)) else (2 * a + b).tdiv (2 * b)
theorem tdiv_bound {x y : Int} (hx : 0 ≤ x) (hy : 0 < y) : 0 ≤ x.tdiv y ∧ x.tdiv y ≤ x := ⟨Int.tdiv_nonneg hx (by omega), Int.tdiv_le_self _ hx⟩
theorem near_facts {a b : Int} (ha : -1000000000 ≤ a) (ha' : a ≤ 1000000000) (hb : 1 ≤ b) (hb' : b ≤ 1000000000) :
    IntKind.i64.wrap (-2 * a) = -2 * a ∧ IntKind.i64.wrap (2 * a) = 2 * a ∧ IntKind.i64.wrap (2 * b) = 2 * b ∧ IntKind.i64.wrap (-2 * a + b) = -2 * a + b ∧ IntKind.i64.wrap (2 * a + b) = 2 * a + b ∧ ¬ 2 * b = 0 := by
  refine ⟨wrap_small (by omega) (by omega), wrap_small (by omega) (by omega), wrap_small (by omega) (by omega), wrap_small (by omega) (by omega), wrap_small (by omega) (by omega), by omega⟩
theorem c_nearest (k : Nat) (a b : Int) (ha : -1000000000 ≤ a) (ha' : a ≤ 1000000000) (hb : 1 ≤ b) (hb' : b ≤ 1000000000) (hk : 1 ≤ k) : callK C k 58 [.c (.int .i64 a), .c (.int .i64 b)] [] = some (.c (.int .i64 (nearI a b)), hpOf [] []) := by
  obtain ⟨k, rfl⟩ : ∃ m, k = m + 1 := ⟨k - 1, by omega⟩
  rw [callK_fn rfl F58 code58]
  obtain ⟨w1, w2, w3, w4, w5, w6⟩ := near_facts ha ha' hb hb'
  have hb0 : ¬ b = 0 := by omega
  unfold nearI
  by_cases h : a < 0
  · obtain ⟨t1, t2⟩ := tdiv_bound (x := -2 * a + b) (y := 2 * b) (by omega) (by omega)
    have w7 : IntKind.i64.wrap ((-2 * a + b).tdiv (2 * b)) = (-2 * a + b).tdiv (2 * b) := wrap_small (by omega) (by omega)
    have w8 : IntKind.i64.wrap (-((-2 * a + b).tdiv (2 * b))) = -((-2 * a + b).tdiv (2 * b)) := wrap_small (by omega) (by omega)
    simp [R58_0, R58_1, R58_2, R58_3, Try.f58, h, w1, w3, w4, w7, w8, w6]
  · obtain ⟨t1, t2⟩ := tdiv_bound (x := 2 * a + b) (y := 2 * b) (by omega) (by omega)
    have w7 : IntKind.i64.wrap ((2 * a + b).tdiv (2 * b)) = (2 * a + b).tdiv (2 * b) := wrap_small (by omega) (by omega)
    simp [R58_0, R58_1, R58_2, R58_3, Try.f58, h, w2, w3, w5, w7, w6]
theorem c_l3Round (k : Nat) (a b : Int) (ha : -1000000000 ≤ a) (ha' : a ≤ 1000000000) (hb : 1 ≤ b) (hb' : b ≤ 1000000000) (hk : 1 ≤ k) : callK C k 107 [.c (.int .i64 a), .c (.int .i64 b)] [] = some (.c (.int .i64 (nearI a b)), hpOf [] []) := by
  obtain ⟨k, rfl⟩ : ∃ m, k = m + 1 := ⟨k - 1, by omega⟩
  rw [callK_fn rfl F107 code107]
  obtain ⟨w1, w2, w3, w4, w5, w6⟩ := near_facts ha ha' hb hb'
  have hb0 : ¬ b = 0 := by omega
  unfold nearI
  by_cases h : a < 0
  · obtain ⟨t1, t2⟩ := tdiv_bound (x := -2 * a + b) (y := 2 * b) (by omega) (by omega)
    have w7 : IntKind.i64.wrap ((-2 * a + b).tdiv (2 * b)) = (-2 * a + b).tdiv (2 * b) := wrap_small (by omega) (by omega)
    have w8 : IntKind.i64.wrap (-((-2 * a + b).tdiv (2 * b))) = -((-2 * a + b).tdiv (2 * b)) := wrap_small (by omega) (by omega)
    simp [R107_0, R107_1, R107_2, R107_3, Try.f107, h, w1, w3, w4, w7, w8, w6]
  · obtain ⟨t1, t2⟩ := tdiv_bound (x := 2 * a + b) (y := 2 * b) (by omega) (by omega)
    have w7 : IntKind.i64.wrap ((2 * a + b).tdiv (2 * b)) = (2 * a + b).tdiv (2 * b) := wrap_small (by omega) (by omega)
    simp [R107_0, R107_1, R107_2, R107_3, Try.f107, h, w2, w3, w5, w7, w6]
def okV (x : Int) : Bool := decide (-9000 ≤ x) && decide (x ≤ 9000)
theorem sum_take {l : List Int} {i : Nat} (h : i < l.length) : (l.take (i + 1)).sum = (l.take i).sum + l[i] := by
  rw [List.take_succ_eq_append_getElem h, List.sum_append]; simp only [List.sum_cons, List.sum_nil, Int.add_zero]
theorem sum_take_bound {l : List Int} (hl : l.all okV = true) (h64 : l.length ≤ 64) (i : Nat) : -576000 ≤ (l.take i).sum ∧ (l.take i).sum ≤ 576000 := by
  have h := sum_bound (l := l.take i) (by
    rw [List.all_eq_true] at hl ⊢
    exact fun x hx => hl x (List.mem_of_mem_take hx))
  have : (l.take i).length ≤ 64 := by rw [List.length_take]; omega
  omega
def cntG (thr : Int) (l : List Int) : Int := ((l.countP fun x => decide (thr ≤ x) : Nat) : Int)
theorem cnt_take_yes {l : List Int} {thr : Int} {i : Nat} (h : i < l.length) (hx : thr ≤ l[i]) : cntG thr (l.take (i + 1)) = cntG thr (l.take i) + 1 := by
  unfold cntG; rw [List.take_succ_eq_append_getElem h, List.countP_append]; simp only [List.countP_cons, List.countP_nil, hx, decide_true, decide_false, if_true, if_false, Bool.false_eq_true]; omega
theorem cnt_take_no {l : List Int} {thr : Int} {i : Nat} (h : i < l.length) (hx : ¬ thr ≤ l[i]) : cntG thr (l.take (i + 1)) = cntG thr (l.take i) := by
  unfold cntG; rw [List.take_succ_eq_append_getElem h, List.countP_append]; simp only [List.countP_cons, List.countP_nil, hx, decide_true, decide_false, if_true, if_false, Bool.false_eq_true]; omega
theorem cnt_bound (thr : Int) (l : List Int) : 0 ≤ cntG thr l ∧ cntG thr l ≤ l.length := by
  have := List.countP_le_length (p := fun x => decide (thr ≤ x)) (l := l)
  unfold cntG
  omega
theorem ok_get {l : List Int} (hl : l.all okV = true) {i : Nat} (h : i < l.length) : -9000 ≤ l[i] ∧ l[i] ≤ 9000 := by
  have := List.all_eq_true.1 hl _ (List.getElem_mem h)
  simpa [okV] using this
theorem c_sumOf (k : Nat) (l : List Int) (hl : l.all okV = true) (h64 : l.length ≤ 64) (hk : 100 ≤ k) : callK C k 64 [.sq true true 1 (ints l)] [] = some (.c (.int .i64 l.sum), hpOf [] []) := by
  obtain ⟨k, rfl⟩ : ∃ m, k = m + 1 := ⟨k - 1, by omega⟩
  rw [callK_fn rfl F64 code64]
  have hL := loopHas (body := fun st => runCode C (callK C (k + 0)) (k + 0) (K 64) L64_0 1 st) (keep := [3, 6, 7, 8]) (.ex 0) (fun st => st.ρ 3 = .c (.int .i64 l.sum))
    (fun i st => st.ρ 6 = .sq true true 1 (ints l) ∧ st.ρ 7 = .c (.int .i64 (l.length : Int)) ∧ st.ρ 8 = .c (.int .i64 (i : Int)) ∧ st.ρ 3 = .c (.int .i64 (l.take i).sum))
    l.length (k + 0) (by omega)
    (by
      rintro i st next hi ⟨q6, q7, q8, q3⟩ hn
      have b1 := sum_take_bound hl h64 i
      have b2 := ok_get hl hi
      have w1 : IntKind.i64.wrap ((l.take i).sum + l[i]) = (l.take (i + 1)).sum := by rw [sum_take hi]; exact wrap_small (by omega) (by omega)
      simp [L64_0, R64_0, R64_1, R64_2, R64_3, R64_4, R64_5, R64_6, R64_7, Try.f64, lpL64_0, lpM64_0, M64_0, q6, q7, q8, q3, hi, w1, wrap_next hi (by omega : l.length ≤ 9000000000000000000)]
      exact hn _ (by simp [q6, q7]))
    (by
      rintro st next ⟨q6, q7, q8, q3⟩
      rw [List.take_length] at q3
      simp [L64_0, R64_0, R64_1, R64_2, R64_3, R64_4, R64_5, R64_6, R64_7, Try.f64, lpL64_0, lpM64_0, M64_0, q6, q7, q8, q3])
  simp [R64_0, R64_1, R64_2, R64_3, R64_4, R64_5, R64_6, R64_7, Try.f64, lpL64_0, lpM64_0]
  generalize hr : loopRun _ _ _ _ = res
  obtain ⟨s, rfl, f⟩ := loop_at hL hr (by simp)
  simp [R64_0, R64_1, R64_2, R64_3, R64_4, R64_5, R64_6, R64_7, Try.f64, lpL64_0, lpM64_0, M64_0, f]
theorem c_meanOf (k : Nat) (l : List Int) (hl : l.all okV = true) (h64 : l.length ≤ 64) (h0 : 0 < l.length) (hk : 200 ≤ k) : callK C k 52 [.sq true true 1 (ints l)] [] = some (.c (.int .i64 (nearI l.sum l.length)), hpOf [] []) := by
  obtain ⟨k, rfl⟩ : ∃ m, k = m + 1 := ⟨k - 1, by omega⟩
  rw [callK_fn rfl F52 code52]
  have h1 := c_sumOf k l hl h64 (by omega)
  have b := sum_take_bound hl h64 l.length
  rw [List.take_length] at b
  have h2 := c_nearest k l.sum l.length (by omega) (by omega) (by omega) (by omega) (by omega)
  simp [R52_0, R52_1, Try.f52, h1, h2]
theorem c_Coverage1 (k : Nat) (thr : Int) (l : List Int) (h64 : l.length ≤ 64) (h0 : 0 < l.length) (hk : 200 ≤ k) : callK C k 57 [.sq true true 1 (ints l), .bx true [.c (.int .i64 thr)]] [] = some (.c (.int .i64 (nearI (100 * cntG thr l) l.length)), hpOf [] []) := by
  obtain ⟨k, rfl⟩ : ∃ m, k = m + 1 := ⟨k - 1, by omega⟩
  rw [callK_fn rfl F57 code57]
  have hL := loopHas (body := fun st => runCode C (callK C (k + 0)) (k + 0) (K 57) L57_0 1 st) (keep := [0, 1, 4, 7, 8, 9]) (.ex 0) (fun st => st.ρ 0 = .sq true true 1 (ints l) ∧ st.ρ 4 = .c (.int .i64 (cntG thr l)))
    (fun i st => st.ρ 0 = .sq true true 1 (ints l) ∧ st.ρ 1 = .bx true [.c (.int .i64 thr)] ∧ st.ρ 7 = .sq true true 1 (ints l) ∧ st.ρ 8 = .c (.int .i64 (l.length : Int)) ∧ st.ρ 9 = .c (.int .i64 (i : Int)) ∧ st.ρ 4 = .c (.int .i64 (cntG thr (l.take i))))
    l.length (k + 0) (by omega)
    (by
      rintro i st next hi ⟨q0, q1, q7, q8, q9, q4⟩ hn
      have b1 := cnt_bound thr (l.take i)
      have b2 : (l.take i).length ≤ 64 := by rw [List.length_take]; omega
      have w1 : IntKind.i64.wrap (cntG thr (l.take i) + 1) = cntG thr (l.take i) + 1 := wrap_small (by omega) (by omega)
      by_cases hx : thr ≤ l[i]
      · have hc := cnt_take_yes hi hx
        simp [L57_0, R57_0, R57_1, R57_2, R57_3, R57_4, R57_5, R57_6, R57_7, R57_8, Try.f57, lpL57_0, lpM57_0, M57_0, q0, q1, q7, q8, q9, q4, hi, hx, w1, wrap_next hi (by omega : l.length ≤ 9000000000000000000)]
        exact hn _ (by simp [q0, q1, q7, q8, hc])
      · have hc := cnt_take_no hi hx
        simp [L57_0, R57_0, R57_1, R57_2, R57_3, R57_4, R57_5, R57_6, R57_7, R57_8, Try.f57, lpL57_0, lpM57_0, M57_0, q0, q1, q7, q8, q9, q4, hi, hx, wrap_next hi (by omega : l.length ≤ 9000000000000000000)]
        exact hn _ (by simp [q0, q1, q7, q8, q4, hc]))
    (by
      rintro st next ⟨q0, q1, q7, q8, q9, q4⟩
      rw [List.take_length] at q4
      simp [L57_0, R57_0, R57_1, R57_2, R57_3, R57_4, R57_5, R57_6, R57_7, R57_8, Try.f57, lpL57_0, lpM57_0, M57_0, q0, q1, q7, q8, q9, q4])
  have b := cnt_bound thr l
  have h2 := c_nearest k (100 * cntG thr l) l.length (by omega) (by omega) (by omega) (by omega) (by omega)
  have w1 : IntKind.i64.wrap (100 * cntG thr l) = 100 * cntG thr l := wrap_small (by omega) (by omega)
  simp [R57_0, R57_1, R57_2, R57_3, R57_4, R57_5, R57_6, R57_7, R57_8, Try.f57, lpL57_0, lpM57_0]
  generalize hr : loopRun _ _ _ _ = res
  obtain ⟨s, rfl, f0, f⟩ := loop_at hL hr (by simp [cntG])
  simp [R57_0, R57_1, R57_2, R57_3, R57_4, R57_5, R57_6, R57_7, R57_8, Try.f57, lpL57_0, lpM57_0, M57_0, f0, f, w1, h2]
theorem max_take {x : Int} {l : List Int} {i : Nat} (h : i < l.length) : maxL ((x :: l).take (i + 2)) = (if l[i] > maxL ((x :: l).take (i + 1)) then l[i] else maxL ((x :: l).take (i + 1))) := by
  simp only [List.take_succ_cons, maxL]
  rw [List.take_succ_eq_append_getElem h, List.foldl_append]
  rfl
theorem min_take {x : Int} {l : List Int} {i : Nat} (h : i < l.length) : minL ((x :: l).take (i + 2)) = (if l[i] < minL ((x :: l).take (i + 1)) then l[i] else minL ((x :: l).take (i + 1))) := by
  simp only [List.take_succ_cons, minL]
  rw [List.take_succ_eq_append_getElem h, List.foldl_append]
  rfl
theorem c_Max (k : Nat) (l : List Int) (h64 : l.length ≤ 64) (h0 : 0 < l.length) (hk : 200 ≤ k) : callK C k 47 [.sq true true 1 (ints l)] [] = some (.c (.int .i64 (maxL l)), hpOf [] []) := by
  obtain ⟨k, rfl⟩ : ∃ m, k = m + 1 := ⟨k - 1, by omega⟩
  rw [callK_fn rfl F47 code47]
  obtain ⟨x, l, rfl⟩ : ∃ x t, l = x :: t := by cases l with | nil => simp at h0 | cons x t => exact ⟨x, t, rfl⟩
  simp at h64
  have hL := loopHas (body := fun st => runCode C (callK C (k + 0)) (k + 0) (K 47) L47_0 1 st) (keep := [0, 3, 4]) (.ex 0) (fun st => st.ρ 3 = .c (.int .i64 (maxL (x :: l))))
    (fun i st => st.ρ 0 = .sq true true 1 (ints (x :: l)) ∧ st.ρ 4 = .c (.int .i64 ((i : Int) + 1)) ∧ st.ρ 3 = .c (.int .i64 (maxL ((x :: l).take (i + 1)))))
    l.length (k + 0) (by omega)
    (by
      rintro i st next hi ⟨q0, q4, q3⟩ hn
      have hm := max_take (x := x) hi
      have w1 : IntKind.i64.wrap ((i : Int) + 1 + 1) = (i : Int) + 1 + 1 := wrap_small (by omega) (by omega)
      have g1 : (i : Int) + 1 < (l.length : Int) + 1 := by omega
      have g2 : (0 : Int) ≤ (i : Int) + 1 := by omega
      simp [L47_0, R47_0, R47_1, R47_2, R47_3, R47_4, R47_5, R47_6, R47_7, R47_8, Try.f47, lpL47_0, lpM47_0, M47_0, q0, q4, q3, hi, w1, g1, g2]
      refine hn _ ⟨?_, ?_, ?_⟩
      · simp [q0]
      · simp
      · rw [hm]; simp)
    (by
      rintro st next ⟨q0, q4, q3⟩
      rw [List.take_of_length_le (by simp)] at q3
      simp [L47_0, R47_0, R47_1, R47_2, R47_3, R47_4, R47_5, R47_6, R47_7, R47_8, Try.f47, lpL47_0, lpM47_0, M47_0, q0, q4, q3])
  have g1 : ¬ (l.length : Int) + 1 < 1 := by omega
  simp [R47_0, R47_1, R47_2, R47_3, R47_4, R47_5, R47_6, R47_7, R47_8, Try.f47, lpL47_0, lpM47_0, g1]
  generalize hr : loopRun _ _ _ _ = res
  obtain ⟨s, rfl, f⟩ := loop_at hL hr (by simp [maxL])
  simp [R47_0, R47_1, R47_2, R47_3, R47_4, R47_5, R47_6, R47_7, R47_8, Try.f47, lpL47_0, lpM47_0, M47_0, f]
theorem c_Min (k : Nat) (l : List Int) (h64 : l.length ≤ 64) (h0 : 0 < l.length) (hk : 200 ≤ k) : callK C k 51 [.sq true true 1 (ints l)] [] = some (.c (.int .i64 (minL l)), hpOf [] []) := by
  obtain ⟨k, rfl⟩ : ∃ m, k = m + 1 := ⟨k - 1, by omega⟩
  rw [callK_fn rfl F51 code51]
  obtain ⟨x, l, rfl⟩ : ∃ x t, l = x :: t := by cases l with | nil => simp at h0 | cons x t => exact ⟨x, t, rfl⟩
  simp at h64
  have hL := loopHas (body := fun st => runCode C (callK C (k + 0)) (k + 0) (K 51) L51_0 1 st) (keep := [0, 3, 4]) (.ex 0) (fun st => st.ρ 3 = .c (.int .i64 (minL (x :: l))))
    (fun i st => st.ρ 0 = .sq true true 1 (ints (x :: l)) ∧ st.ρ 4 = .c (.int .i64 ((i : Int) + 1)) ∧ st.ρ 3 = .c (.int .i64 (minL ((x :: l).take (i + 1)))))
    l.length (k + 0) (by omega)
    (by
      rintro i st next hi ⟨q0, q4, q3⟩ hn
      have hm := min_take (x := x) hi
      have w1 : IntKind.i64.wrap ((i : Int) + 1 + 1) = (i : Int) + 1 + 1 := wrap_small (by omega) (by omega)
      have g1 : (i : Int) + 1 < (l.length : Int) + 1 := by omega
      have g2 : (0 : Int) ≤ (i : Int) + 1 := by omega
      simp [L51_0, R51_0, R51_1, R51_2, R51_3, R51_4, R51_5, R51_6, R51_7, R51_8, Try.f51, lpL51_0, lpM51_0, M51_0, q0, q4, q3, hi, w1, g1, g2]
      refine hn _ ⟨?_, ?_, ?_⟩
      · simp [q0]
      · simp
      · rw [hm]; simp; split <;> rename_i hc <;> simp [hc])
    (by
      rintro st next ⟨q0, q4, q3⟩
      rw [List.take_of_length_le (by simp)] at q3
      simp [L51_0, R51_0, R51_1, R51_2, R51_3, R51_4, R51_5, R51_6, R51_7, R51_8, Try.f51, lpL51_0, lpM51_0, M51_0, q0, q4, q3])
  have g1 : ¬ (l.length : Int) + 1 < 1 := by omega
  simp [R51_0, R51_1, R51_2, R51_3, R51_4, R51_5, R51_6, R51_7, R51_8, Try.f51, lpL51_0, lpM51_0, g1]
  generalize hr : loopRun _ _ _ _ = res
  obtain ⟨s, rfl, f⟩ := loop_at hL hr (by simp [minL])
  simp [R51_0, R51_1, R51_2, R51_3, R51_4, R51_5, R51_6, R51_7, R51_8, Try.f51, lpL51_0, lpM51_0, M51_0, f]

end Go.Proofs.Ytfgoljfggkkpnaa.Eng
