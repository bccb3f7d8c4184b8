/- A deterministic reading of Go code over plain data: what functions of the program compute. No conditions. -/
import Derived.Test.YtfdlllhcjfhknaaLmbase
import Derived.Test.YtfdlllhcjfhknaaLmimpl
import Derived.Test.YtfdlllhcjfhknaaLmgood
import Derived.Test.YtfdlllhcjfhknaaLmconv
import Derived.Test.YtfdlllhcjfhknaaLmconv2
import Derived.Test.YtfdlllhcjfhknaaEngT
namespace Go.Proofs.Ytfdlllhcjfhknaa.Eng
open Go Go.Proofs
set_option maxRecDepth 100000
set_option maxHeartbeats 2000000
set_option linter.unusedSimpArgs false
set_option linter.unusedVariables false
attribute [local simp] finK fin1 hpOf xi renQ isRoot runCode runOps Eng.step wantedV astep val ofO made loadV storeV find V.cells bin binT un1 setAt fieldAddrV fieldV indexAddrV indexV bounds sliceV convV lenV foldV max2V min2V callO bor rdsO wrsO seen_none okD_none loops keepIds resV resultsV St.ev TK.agg refs refsL refsO V.one V.isC Value.oneCell' ren renL renO noTag noTagL noTagR noTagO nodup mapO passV frs psi refsR newD loopNext opsAt idx flatAt rootOf backR newsV appendV copyV clearV strV bytesOf nilCmp buildV fillF chunk
attribute [local simp] cT cF cX cWR cOW cK X ints_length ints_get ints_getElem ints_drop ints_take ints_append ints_nil ints_set
attribute [local simp] ints_replicate
attribute [local simp] putV_some putV_none putH_app applyD_nil applyD_cons seen_app gc_ρ gc_H gc_tick st0_ρ st0_H st0_tick retV callRo callV_if borL_nil borL_cons ints_snoc take_self callWr cutH_app findQ afterV exportV_0 exportV_n okD_nil okD_cons sub_seq0 sub_seq1 sub_cond0 sub_cond1 sub_block sub_loop sub_nil young_far young_none hidW_nil mayW_nil pairs okI ok_0 ok_1 ok_2
attribute [local simp] T3 T4 T5 T9 T22 T24 T26 T29 T36 T73 T75 T86 T89 T103 T104 T106 T108 T109 T111 T114 T118 T134 T136 T157 T161 T168
attribute [local simp] young_near clo cloF Region.binds Nat.testBit hidW declW mayW
theorem ints_cons3 (a : Int) (l : List Int) : ints (a :: l) = [.c (.int .i64 a)] :: ints l := rfl
theorem ints_nil3 : ints [] = [] := rfl
theorem ok_cons3 (ty : TypeId) (sz : Nat) (fl : Bool) (e : List V) (es : List (List V)) : okObj ⟨ty, sz, fl, e :: es⟩ = ((e.length == sz && e.all fun x => x.one && (!fl || x.isC)) && okObj ⟨ty, sz, fl, es⟩) := by simp [okObj]
def spL : List Int := [0, 3, 16, 34, 55, 80, 108, 139, 172, 208, 245, 285, 327]
def spI (n : Nat) : Int := spL.getD n 0
/-- The force of a wind, after n of the speeds. -/
def bfN (d v : Int) : Nat → Int
  | 0 => 0
  | n + 1 => if spI n * d ≤ v then (n : Int) else bfN d v n
theorem bfN_step (d v : Int) (n : Nat) : bfN d v (n + 1) = if spI n * d ≤ v then (n : Int) else bfN d v n := rfl
theorem spI_le : ∀ n : Nat, 0 ≤ spI n ∧ spI n ≤ 327
  | 0 | 1 | 2 | 3 | 4 | 5 | 6 | 7 | 8 | 9 | 10 | 11 | 12 => by decide
  | n + 13 => by simp [spI, spL]
theorem sp_wrap {d : Int} (n : Nat) (h1 : 1 ≤ d) (h2 : d ≤ 3600) : IntKind.i64.wrap (spI n * d) = spI n * d := by
  obtain ⟨a, b⟩ := spI_le n
  have h3 := Int.mul_nonneg a (by omega : 0 ≤ d)
  have h4 := Int.mul_le_mul b h2 (by omega) (by omega)
  exact wrap_small (by omega) (by omega)
def agL : V := .ag [.c (.int .i64 0), .c (.int .i64 3), .c (.int .i64 16), .c (.int .i64 34), .c (.int .i64 55), .c (.int .i64 80), .c (.int .i64 108), .c (.int .i64 139), .c (.int .i64 172), .c (.int .i64 208), .c (.int .i64 245), .c (.int .i64 285), .c (.int .i64 327)]
theorem c13 {i : Nat} (h : i < 13) : i = 0 ∨ i = 1 ∨ i = 2 ∨ i = 3 ∨ i = 4 ∨ i = 5 ∨ i = 6 ∨ i = 7 ∨ i = 8 ∨ i = 9 ∨ i = 10 ∨ i = 11 ∨ i = 12 := by omega
def bfO (x u : Int) : Bool := (uG u && (kI u == 1)) && (decide (0 ≤ x) && decide (x ≤ 99999))
def bfV (x u : Int) : Int := if bfO x u = true then bfN (uN u) (x * uD u) 13 else 0
theorem c_implBeau (k : Nat) (x u : Int) (hk : 40 ≤ k) : callK C k 29 [.c (.int .i64 x), .c (.int .i64 u)] [] = some (.tp [.c (.int .i64 (bfV x u)), .c (.bool (bfO x u))], hpOf [] []) := by
  obtain ⟨k, rfl⟩ : ∃ m, k = m + 9 := ⟨k - 9, by omega⟩
  rw [callK_fn rfl F29 code29]
  have hw := c_within (k + 8) x 0 99999 (by omega)
  unfold bfV bfO
  cases hu : uG u
  · obtain ⟨wb, ub⟩ := c_unitB (k + 8) u hu (by omega)
    simp [R29_0, R29_1, R29_2, R29_3, R29_4, R29_5, R29_6, R29_7, R29_8, R29_9, R29_10, R29_11, Try.f29, lpL29_0, lpM29_0, M29_0, ub]
  obtain ⟨wb, ub⟩ := c_unitG (k + 8) u hu (by omega)
  by_cases h1 : kI u = 1
  · rw [h1] at ub ⊢
    simp at ub
    cases hx : (decide (0 ≤ x) && decide (x ≤ 99999))
    · rw [hx] at hw
      simp [R29_0, R29_1, R29_2, R29_3, R29_4, R29_5, R29_6, R29_7, R29_8, R29_9, R29_10, R29_11, Try.f29, lpL29_0, lpM29_0, M29_0, ub, hw]
    rw [hx] at hw
    simp only [Bool.and_eq_true, decide_eq_true_eq] at hx
    obtain ⟨n1, n2, _⟩ := u_bounds hu
    obtain ⟨p1, _⟩ := cv_bounds hu hu (x := x) (by omega) (by omega)
    have wx : IntKind.i64.wrap (x * uD u) = x * uD u := by rw [Int.mul_comm] at p1; exact wrap_small (by omega) (by omega)
    have hL := loopHas (body := fun st => runCode C (callK C (k + 8)) (k + 8) (K 29) L29_0 1 st) (keep := [0, 6, 8, 28, 29]) (.ex 0) (fun st => st.ρ 8 = .c (.int .i64 (bfN (uN u) (x * uD u) 13)))
      (fun i st => st.ρ 0 = .c (.int .i64 x) ∧ st.ρ 6 = .p 1120 2 5 0 0 ∧ st.ρ 8 = .c (.int .i64 (bfN (uN u) (x * uD u) i)) ∧ st.ρ 28 = agL ∧ st.ρ 29 = .c (.int .i64 (i : Int)) ∧
        st.H 1120 = some (2, ⟨111, 5, true, [[.c (.int .i64 2), .c (.string wb), .c (.int .i64 (uN u)), .c (.int .i64 (uA u)), .c (.int .i64 (uD u))]]⟩))
      13 (k + 8) (by omega)
      (by
        rintro i st next hi ⟨q0, q6, q8, q28, q29, H1⟩ hx
        have wn := sp_wrap i n1 n2
        have wi : IntKind.i64.wrap ((i : Int) + 1) = (i : Int) + 1 := wrap_small (by omega) (by omega)
        rw [bfN_step] at hx
        unfold agL at q28 hx
        by_cases hc : spI i * uN u ≤ x * uD u
        · rw [if_pos hc] at hx
          rcases c13 hi with rfl | rfl | rfl | rfl | rfl | rfl | rfl | rfl | rfl | rfl | rfl | rfl | rfl
          all_goals
            simp [spI, spL] at hc wn wi
            simp [L29_0, R29_0, R29_1, R29_2, R29_3, R29_4, R29_5, R29_6, R29_7, R29_8, R29_9, R29_10, R29_11, Try.f29, lpL29_0, lpM29_0, M29_0, q0, q6, q8, q28, q29, H1, wx, wn, wi, hc]
            refine hx _ ⟨?_, ?_, ?_, ?_, ?_, ?_⟩ <;> simp [q0, q6, q8, q28, H1, wi]
        · rw [if_neg hc] at hx
          rcases c13 hi with rfl | rfl | rfl | rfl | rfl | rfl | rfl | rfl | rfl | rfl | rfl | rfl | rfl
          all_goals
            simp [spI, spL] at hc wn wi
            simp [L29_0, R29_0, R29_1, R29_2, R29_3, R29_4, R29_5, R29_6, R29_7, R29_8, R29_9, R29_10, R29_11, Try.f29, lpL29_0, lpM29_0, M29_0, q0, q6, q8, q28, q29, H1, wx, wn, wi, Int.not_le.2 hc]
            refine hx _ ⟨?_, ?_, ?_, ?_, ?_, ?_⟩ <;> simp [q0, q6, q8, q28, H1, wi])
      (by
        rintro st next ⟨q0, q6, q8, q28, q29, H1⟩
        simp [L29_0, R29_0, R29_1, R29_2, R29_3, R29_4, R29_5, R29_6, R29_7, R29_8, R29_9, R29_10, R29_11, Try.f29, lpL29_0, lpM29_0, M29_0, q0, q6, q8, q28, q29, H1])
    simp [R29_0, R29_1, R29_2, R29_3, R29_4, R29_5, R29_6, R29_7, R29_8, R29_9, R29_10, R29_11, Try.f29, lpL29_0, lpM29_0, ub, hw]
    generalize hr2 : loopRun _ _ _ _ = res
    obtain ⟨s1, rfl, f8⟩ := loop_at hL hr2 ⟨by simp, by simp, by simp [bfN], by simp [agL], by simp, by simp⟩
    simp [R29_0, R29_1, R29_2, R29_3, R29_4, R29_5, R29_6, R29_7, R29_8, R29_9, R29_10, R29_11, Try.f29, lpL29_0, lpM29_0, M29_0, f8, hx]
  · have h2 : (kI u == 1) = false := by simpa using h1
    have h3 : ¬ kI u + 1 = 2 := by omega
    have h4 : (kI u + 1 == 2) = false := by simpa using h3
    have h5 : (kI u + 1 != 2) = true := by simpa using h3
    simp [R29_0, R29_1, R29_2, R29_3, R29_4, R29_5, R29_6, R29_7, R29_8, R29_9, R29_10, R29_11, Try.f29, lpL29_0, lpM29_0, M29_0, ub, h1, h2, h3, h4, h5]
theorem uA_speed {u : Int} (hu : uG u = true) (h : kI u = 1) : uA u = 0 := by
  rcases uG_cases hu with rfl | rfl | rfl | rfl | rfl | rfl | rfl | rfl <;> first | rfl | exact absurd h (by decide)
theorem c_specBeau (k : Nat) (x u : Int) (hk : 40 ≤ k) : callK C k 30 [.c (.int .i64 x), .c (.int .i64 u)] [] = some (.tp [.c (.int .i64 (bfV x u)), .c (.bool (bfO x u))], hpOf [] []) := by
  obtain ⟨k, rfl⟩ : ∃ m, k = m + 9 := ⟨k - 9, by omega⟩
  rw [callK_fn rfl F30 code30]
  have hw := c_l1In (k + 8) x 0 99999 (by omega)
  have ub := c_l3Unit3 (k + 8) u (by omega)
  have kb := c_l3Kind3 (k + 8) u (by omega)
  unfold bfV bfO
  cases hx : (decide (0 ≤ x) && decide (x ≤ 99999))
  · rw [hx] at hw
    simp [R30_0, R30_1, R30_2, R30_3, R30_4, R30_5, R30_6, R30_7, R30_8, R30_9, R30_10, R30_11, Try.f30, lpL30_0, lpM30_0, M30_0, hw]
  rw [hx] at hw
  cases hu : uG u
  · rw [hu] at ub
    simp [R30_0, R30_1, R30_2, R30_3, R30_4, R30_5, R30_6, R30_7, R30_8, R30_9, R30_10, R30_11, Try.f30, lpL30_0, lpM30_0, M30_0, ub, hw]
  rw [hu] at ub
  by_cases h1 : kI u = 1
  · rw [h1] at kb ⊢
    simp only [Bool.and_eq_true, decide_eq_true_eq] at hx
    obtain ⟨n1, n2, _⟩ := u_bounds hu
    have b1 := c_l3Basic3 (k + 8) x u hu (by omega) (by omega) (by omega)
    rw [uA_speed hu h1, Int.sub_zero, Int.mul_comm] at b1
    have hL := loopHas (body := fun st => runCode C (callK C (k + 8)) (k + 8) (K 30) L30_0 1 st) (keep := [6, 7, 8, 9, 10]) (.ex 0) (fun st => st.ρ 9 = .c (.int .i64 (bfN (uN u) (x * uD u) 13)))
      (fun i st => st.ρ 6 = .s 3088 3 1 0 13 ∧ st.ρ 7 = .c (.int .i64 (x * uD u)) ∧ st.ρ 8 = .c (.int .i64 (uN u)) ∧ st.ρ 9 = .c (.int .i64 (bfN (uN u) (x * uD u) i)) ∧ st.ρ 10 = .c (.int .i64 (i : Int)) ∧
        st.H 3088 = some (3, intsO spL))
      13 (k + 8) (by omega)
      (by
        rintro i st next hi ⟨q6, q7, q8, q9, q10, H1⟩ hx
        have wn := sp_wrap i n1 n2
        have wi : IntKind.i64.wrap ((i : Int) + 1) = (i : Int) + 1 := wrap_small (by omega) (by omega)
        rw [bfN_step] at hx
        by_cases hc : spI i * uN u ≤ x * uD u
        · rw [if_pos hc] at hx
          rcases c13 hi with rfl | rfl | rfl | rfl | rfl | rfl | rfl | rfl | rfl | rfl | rfl | rfl | rfl
          all_goals
            simp [spI, spL] at hc wn wi
            simp [spL, intsO, ints_cons3, ints_nil3] at H1
            simp [L30_0, R30_0, R30_1, R30_2, R30_3, R30_4, R30_5, R30_6, R30_7, R30_8, R30_9, R30_10, R30_11, Try.f30, lpL30_0, lpM30_0, M30_0, q6, q7, q8, q9, q10, H1, wn, wi, hc]
            refine hx _ ⟨?_, ?_, ?_, ?_, ?_, ?_⟩ <;> simp [q6, q7, q8, q9, H1, wi, spL, intsO, ints_cons3, ints_nil3]
        · rw [if_neg hc] at hx
          rcases c13 hi with rfl | rfl | rfl | rfl | rfl | rfl | rfl | rfl | rfl | rfl | rfl | rfl | rfl
          all_goals
            simp [spI, spL] at hc wn wi
            simp [spL, intsO, ints_cons3, ints_nil3] at H1
            simp [L30_0, R30_0, R30_1, R30_2, R30_3, R30_4, R30_5, R30_6, R30_7, R30_8, R30_9, R30_10, R30_11, Try.f30, lpL30_0, lpM30_0, M30_0, q6, q7, q8, q9, q10, H1, wn, wi, Int.not_le.2 hc]
            refine hx _ ⟨?_, ?_, ?_, ?_, ?_, ?_⟩ <;> simp [q6, q7, q8, q9, H1, wi, spL, intsO, ints_cons3, ints_nil3])
      (by
        rintro st next ⟨q6, q7, q8, q9, q10, H1⟩
        simp [L30_0, R30_0, R30_1, R30_2, R30_3, R30_4, R30_5, R30_6, R30_7, R30_8, R30_9, R30_10, R30_11, Try.f30, lpL30_0, lpM30_0, M30_0, q6, q7, q8, q9, q10, H1])
    simp [R30_0, R30_1, R30_2, R30_3, R30_4, R30_5, R30_6, R30_7, R30_8, R30_9, R30_10, R30_11, Try.f30, lpL30_0, lpM30_0, ub, kb, b1, hw, ok_cons3, ints_cons3, ints_nil3]
    generalize hr2 : loopRun _ _ _ _ = res
    obtain ⟨s1, rfl, f8⟩ := loop_at hL hr2 ⟨by simp, by simp, by simp, by simp [bfN], by simp, by simp [spL, intsO, ints_cons3, ints_nil3]⟩
    simp [R30_0, R30_1, R30_2, R30_3, R30_4, R30_5, R30_6, R30_7, R30_8, R30_9, R30_10, R30_11, Try.f30, lpL30_0, lpM30_0, M30_0, f8, hx]
  · have h2 : (kI u == 1) = false := by simpa using h1
    have h5 : (kI u != 1) = true := by simpa using h1
    simp [R30_0, R30_1, R30_2, R30_3, R30_4, R30_5, R30_6, R30_7, R30_8, R30_9, R30_10, R30_11, Try.f30, lpL30_0, lpM30_0, M30_0, ub, kb, hw, h1, h2, h5]

end Go.Proofs.Ytfdlllhcjfhknaa.Eng
