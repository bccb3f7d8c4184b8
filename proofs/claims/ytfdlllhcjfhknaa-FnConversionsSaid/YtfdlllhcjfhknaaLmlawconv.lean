/- A deterministic reading of Go code over plain data: what functions of the program compute. No conditions. -/
import Derived.Test.YtfdlllhcjfhknaaLmbase
import Derived.Test.YtfdlllhcjfhknaaLmimpl
import Derived.Test.YtfdlllhcjfhknaaLmgood
import Derived.Test.YtfdlllhcjfhknaaLmconv
import Derived.Test.YtfdlllhcjfhknaaLmconv2
import Derived.Test.YtfdlllhcjfhknaaLmconv3
import Derived.Test.YtfdlllhcjfhknaaLmdraws
import Derived.Test.YtfdlllhcjfhknaaLmdrawc
import Derived.Test.YtfdlllhcjfhknaaLmdrawc2
import Derived.Test.YtfdlllhcjfhknaaEngT
namespace Go.Proofs.Ytfdlllhcjfhknaa.Eng
open Go Go.Proofs
set_option maxRecDepth 100000
set_option maxHeartbeats 2000000
set_option linter.unusedSimpArgs false
set_option linter.unusedVariables false
attribute [local simp] finK fin1 hpOf xi renQ isRoot runCode runOps Eng.step wantedV astep val ofO made loadV storeV find V.cells bin binT un1 setAt fieldAddrV fieldV indexAddrV indexV bounds sliceV convV lenV foldV max2V min2V callO bor rdsO wrsO seen_none okD_none loops keepIds resV resultsV St.ev TK.agg refs refsL refsO V.one V.isC Value.oneCell' ren renL renO noTag noTagL noTagR noTagO nodup mapO passV frs psi refsR newD loopNext opsAt idx flatAt rootOf backR newsV appendV copyV clearV strV bytesOf nilCmp buildV fillF chunk
attribute [local simp] cT cF cX cWR cOW cK X ints_length ints_get ints_getElem ints_drop ints_take ints_append ints_nil ints_set
attribute [local simp] ints_replicate
attribute [local simp] putV_some putV_none putH_app applyD_nil applyD_cons seen_app gc_ρ gc_H gc_tick st0_ρ st0_H st0_tick retV callRo callV_if borL_nil borL_cons ints_snoc take_self callWr cutH_app findQ afterV exportV_0 exportV_n okD_nil okD_cons sub_seq0 sub_seq1 sub_cond0 sub_cond1 sub_block sub_loop sub_nil young_far young_none hidW_nil mayW_nil pairs okI ok_0 ok_1 ok_2
attribute [local simp] T3 T4 T5 T9 T22 T24 T26 T29 T36 T73 T75 T86 T89 T103 T104 T106 T108 T109 T111 T114 T118 T134 T136 T157 T161 T168
attribute [local simp] young_near clo cloF Region.binds Nat.testBit hidW declW mayW List.findIdx?_cons
theorem tdiv_mono {a b d : Int} (ha : 0 ≤ a) (h : a ≤ b) (hd : 0 < d) : a.tdiv d ≤ b.tdiv d := by
  rw [Int.tdiv_eq_ediv_of_nonneg ha, Int.tdiv_eq_ediv_of_nonneg (by omega)]
  exact Int.ediv_le_ediv hd h
theorem rnd_mono {a b d : Int} (h : a ≤ b) (hd : 0 < d) : rnd a d ≤ rnd b d := by
  unfold rnd
  by_cases ha : a < 0
  · rw [if_pos ha]
    have h0 : 0 ≤ (-2 * a + d).tdiv (2 * d) := Int.tdiv_nonneg (by omega) (by omega)
    by_cases hb : b < 0
    · rw [if_pos hb]
      have := tdiv_mono (a := -2 * b + d) (b := -2 * a + d) (d := 2 * d) (by omega) (by omega) (by omega)
      omega
    · rw [if_neg hb]
      have h1 : 0 ≤ (2 * b + d).tdiv (2 * d) := Int.tdiv_nonneg (by omega) (by omega)
      omega
  · rw [if_neg ha, if_neg (by omega)]
    exact tdiv_mono (by omega) (by omega) (by omega)
/-- Twice the nearest times d is within d of twice a. -/
theorem rnd_near {a d : Int} (hd : 0 < d) : 2 * (rnd a d * d) - 2 * a ≤ d ∧ 2 * a - 2 * (rnd a d * d) ≤ d := by
  unfold rnd
  have key : ∀ n : Int, 0 ≤ n → (n.tdiv (2 * d)) * (2 * d) ≤ n ∧ n < (n.tdiv (2 * d)) * (2 * d) + 2 * d := by
    intro n hn
    rw [Int.tdiv_eq_ediv_of_nonneg hn]
    have h1 := Int.emod_add_mul_ediv n (2 * d)
    have h2 := Int.emod_nonneg n (show (2 * d) ≠ 0 by omega)
    have h3 := Int.emod_lt_of_pos n (show 0 < 2 * d by omega)
    rw [Int.mul_comm (2 * d) (n / (2 * d))] at h1
    omega
  by_cases ha : a < 0
  · rw [if_pos ha]
    obtain ⟨k1, k2⟩ := key (-2 * a + d) (by omega)
    generalize (-2 * a + d).tdiv (2 * d) = q at *
    rw [Int.neg_mul]
    rw [show q * (2 * d) = 2 * (q * d) by rw [← Int.mul_assoc, Int.mul_comm q 2, Int.mul_assoc]] at k1 k2
    omega
  · rw [if_neg ha]
    obtain ⟨k1, k2⟩ := key (2 * a + d) (by omega)
    generalize (2 * a + d).tdiv (2 * d) = q at *
    rw [show q * (2 * d) = 2 * (q * d) by rw [← Int.mul_assoc, Int.mul_comm q 2, Int.mul_assoc]] at k1 k2
    omega
theorem rnd_exact {q d : Int} (hd : 0 < d) : rnd (q * d) d = q := by
  obtain ⟨h1, h2⟩ := rnd_near (a := q * d) hd
  generalize rnd (q * d) d = r at *
  have e : (r - q) * d = r * d - q * d := Int.sub_mul r q d
  by_cases h : r = q
  · exact h
  · exfalso
    by_cases h3 : r < q
    · have := Int.mul_le_mul_of_nonneg_right (show r - q ≤ -1 by omega) (show 0 ≤ d by omega)
      omega
    · have := Int.mul_le_mul_of_nonneg_right (show 1 ≤ r - q by omega) (show 0 ≤ d by omega)
      omega
theorem cvA_mono {x y a b : Int} (ha : uG a = true) (hb : uG b = true) (h : x ≤ y) : cvA x a b ≤ cvA y a b := by
  obtain ⟨n1, n2, a1, a2, d1, d2⟩ := u_bounds ha
  obtain ⟨m1, m2, _⟩ := u_bounds hb
  unfold cvA
  have h1 := Int.mul_le_mul_of_nonneg_left h (show 0 ≤ uD a by omega)
  have h2 := Int.mul_le_mul_of_nonneg_left (show uD a * x - uA a ≤ uD a * y - uA a by omega) (show 0 ≤ uN b by omega)
  omega
theorem cv_grows {x a b : Int} (h1 : cvO x a b = true) (h2 : cvO (x + 1) a b = true) : ¬ cvV (x + 1) a b < cvV x a b := by
  have hb := h1
  unfold cvO at hb
  simp only [Bool.and_eq_true] at hb
  unfold cvV
  rw [if_pos h1, if_pos h2]
  unfold cvY
  obtain ⟨⟨⟨ga, gb⟩, _⟩, tx, _⟩ := hb
  have hx := tenB_le tx
  obtain ⟨_, _, _, _, _, p6⟩ := cv_bounds ga gb (x := x) (by omega) (by omega)
  have := rnd_mono (cvA_mono (x := x) (y := x + 1) ga gb (by omega)) (show 0 < cvB a b by omega)
  omega
theorem warm_once {x a y b : Int} (h : wtC x a y b = true) : wtC y b x a = false := by
  unfold wtC at *
  simp only [decide_eq_true_eq, decide_eq_false_iff_not] at *
  omega
theorem wtO_comm (x a y b : Int) : wtO y b x a = wtO x a y b := by
  unfold wtO
  rw [Bool.and_comm (uG b), Bool.and_comm (kI b == 0), Bool.and_comm (tenB y)]
theorem warm_conv {x a y b : Int} (h1 : wtC x a y b = true) (h2 : cvO x a b = true) : ¬ cvV x a b < y := by
  have hb := h2
  unfold cvO at hb
  simp only [Bool.and_eq_true] at hb
  obtain ⟨⟨⟨ga, gb⟩, _⟩, tx, _⟩ := hb
  have hx := tenB_le tx
  obtain ⟨_, _, _, _, _, p6⟩ := cv_bounds ga gb (x := x) (by omega) (by omega)
  unfold wtC at h1
  simp only [decide_eq_true_eq] at h1
  unfold cvV
  rw [if_pos h2]
  unfold cvY
  have e : y * cvB a b ≤ cvA x a b := by
    unfold cvB cvA
    have e1 : (uD b * y - uA b) * uN a = y * (uN a * uD b) - uA b * uN a := by
      rw [Int.sub_mul]
      have : uD b * y * uN a = y * (uN a * uD b) := by
        rw [Int.mul_comm (uD b) y, Int.mul_assoc, Int.mul_comm (uD b) (uN a)]
      omega
    have e2 : (uD a * x - uA a) * uN b = uN b * (uD a * x - uA a) := Int.mul_comm _ _
    omega
  have h3 := rnd_mono e (show 0 < cvB a b by omega)
  rw [rnd_exact (by omega)] at h3
  omega
theorem bfN_bounds (d v : Int) : ∀ n : Nat, 0 ≤ bfN d v n ∧ (bfN d v n < n ∨ bfN d v n = 0)
  | 0 => by simp [bfN]
  | n + 1 => by
    have ih := bfN_bounds d v n
    rw [bfN_step]
    split <;> omega
theorem bfN_mono (d : Int) {v v' : Int} (h : v ≤ v') : ∀ n : Nat, bfN d v n ≤ bfN d v' n
  | 0 => by simp [bfN]
  | n + 1 => by
    have ih := bfN_mono d h n
    have b := bfN_bounds d v n
    rw [bfN_step, bfN_step]
    by_cases h1 : spI n * d ≤ v
    · rw [if_pos h1, if_pos (by omega)]; omega
    · rw [if_neg h1]
      split <;> omega
theorem bf_in (x u : Int) : ¬ bfV x u < 0 ∧ ¬ 12 < bfV x u := by
  have b := bfN_bounds (uN u) (x * uD u) 13
  unfold bfV
  split <;> omega
theorem bf_grows {x u : Int} (h1 : bfO x u = true) (h2 : bfO (x + 1) u = true) : ¬ bfV (x + 1) u < bfV x u := by
  have hb := h1
  unfold bfO at hb
  simp only [Bool.and_eq_true] at hb
  obtain ⟨_, _, _, _, d1, _⟩ := u_bounds hb.1.1
  unfold bfV
  rw [if_pos h1, if_pos h2]
  have := bfN_mono (uN u) (Int.mul_le_mul_of_nonneg_right (show x ≤ x + 1 by omega) (show 0 ≤ uD u by omega)) 13
  omega
theorem rt_facts {r s : Int} (h : rtO r s = true) : ¬ s = 0 ∧ Int.tmod (rtV r s) s = 0 ∧ 2 * (rtV r s - r) ≤ s ∧ 2 * (r - rtV r s) ≤ s ∧ IntKind.i64.wrap (rtV r s - r) = rtV r s - r ∧ IntKind.i64.wrap (r - rtV r s) = r - rtV r s ∧
    IntKind.i64.wrap (2 * (rtV r s - r)) = 2 * (rtV r s - r) ∧ IntKind.i64.wrap (2 * (r - rtV r s)) = 2 * (r - rtV r s) := by
  have hb := h
  unfold rtO at hb
  simp only [Bool.and_eq_true, decide_eq_true_eq] at hb
  obtain ⟨⟨tx, s1, s2⟩, ty⟩ := hb
  have hx := tenB_le tx
  have hy := tenB_le ty
  obtain ⟨n1, n2⟩ := rnd_near (a := r) (d := s) (by omega)
  unfold rtV
  rw [if_pos h]
  refine ⟨by omega, ?_, by omega, by omega, wrap_small (by omega) (by omega), wrap_small (by omega) (by omega), wrap_small (by omega) (by omega), wrap_small (by omega) (by omega)⟩
  exact Int.mul_tmod_left _ _
noncomputable def tcC : Code := (.seq (.region 32 R4_32 false) (.seq (.region 33 R4_33 false) (.seq (.region 34 R4_34 false) (.seq (.region 35 R4_35 false) .ret))))
noncomputable def tcB : Code := (.seq (.region 24 R4_24 false) (.seq (.region 25 R4_25 false) (.seq (.seq (.region 26 R4_26 false) (.seq (.region 27 R4_27 false) (.cond (.tmp 182) (.seq (.region 28 R4_28 false) .ret) .skip))) (.seq (.seq (.region 29 R4_29 false) (.seq (.region 30 R4_30 false) (.cond (.tmp 198) (.seq (.region 31 R4_31 false) .ret) .skip))) (.seq (.region 32 R4_32 false) (.seq (.region 33 R4_33 false) (.seq (.region 34 R4_34 false) (.seq (.region 35 R4_35 false) .ret))))))))
noncomputable def tcA : Code := (.seq (.region 12 R4_12 false) (.seq (.region 13 R4_13 false) (.seq (.seq (.region 14 R4_14 false) (.seq (.region 15 R4_15 false) (.cond (.tmp 113) (.seq (.region 16 R4_16 false) .ret) .skip))) (.seq (.seq (.region 17 R4_17 false) (.cond (.tmp 114) (.seq (.region 18 R4_18 false) (.seq (.seq (.region 19 R4_19 false) (.cond (.tmp 130) (.seq (.region 20 R4_20 false) .ret) .skip)) (.seq (.region 21 R4_21 false) (.seq (.region 22 R4_22 false) (.cond (.tmp 146) (.seq (.region 23 R4_23 false) .ret) .skip))))) .skip)) (.seq (.region 24 R4_24 false) (.seq (.region 25 R4_25 false) (.seq (.seq (.region 26 R4_26 false) (.seq (.region 27 R4_27 false) (.cond (.tmp 182) (.seq (.region 28 R4_28 false) .ret) .skip))) (.seq (.seq (.region 29 R4_29 false) (.seq (.region 30 R4_30 false) (.cond (.tmp 198) (.seq (.region 31 R4_31 false) .ret) .skip))) (.seq (.region 32 R4_32 false) (.seq (.region 33 R4_33 false) (.seq (.region 34 R4_34 false) (.seq (.region 35 R4_35 false) .ret))))))))))))
theorem tcC_is : (.seq (.region 32 R4_32 false) (.seq (.region 33 R4_33 false) (.seq (.region 34 R4_34 false) (.seq (.region 35 R4_35 false) .ret)))) = tcC := rfl
theorem tcB_is : (.seq (.region 24 R4_24 false) (.seq (.region 25 R4_25 false) (.seq (.seq (.region 26 R4_26 false) (.seq (.region 27 R4_27 false) (.cond (.tmp 182) (.seq (.region 28 R4_28 false) .ret) .skip))) (.seq (.seq (.region 29 R4_29 false) (.seq (.region 30 R4_30 false) (.cond (.tmp 198) (.seq (.region 31 R4_31 false) .ret) .skip))) (.seq (.region 32 R4_32 false) (.seq (.region 33 R4_33 false) (.seq (.region 34 R4_34 false) (.seq (.region 35 R4_35 false) .ret)))))))) = tcB := rfl
theorem tcA_is : (.seq (.region 12 R4_12 false) (.seq (.region 13 R4_13 false) (.seq (.seq (.region 14 R4_14 false) (.seq (.region 15 R4_15 false) (.cond (.tmp 113) (.seq (.region 16 R4_16 false) .ret) .skip))) (.seq (.seq (.region 17 R4_17 false) (.cond (.tmp 114) (.seq (.region 18 R4_18 false) (.seq (.seq (.region 19 R4_19 false) (.cond (.tmp 130) (.seq (.region 20 R4_20 false) .ret) .skip)) (.seq (.region 21 R4_21 false) (.seq (.region 22 R4_22 false) (.cond (.tmp 146) (.seq (.region 23 R4_23 false) .ret) .skip))))) .skip)) (.seq (.region 24 R4_24 false) (.seq (.region 25 R4_25 false) (.seq (.seq (.region 26 R4_26 false) (.seq (.region 27 R4_27 false) (.cond (.tmp 182) (.seq (.region 28 R4_28 false) .ret) .skip))) (.seq (.seq (.region 29 R4_29 false) (.seq (.region 30 R4_30 false) (.cond (.tmp 198) (.seq (.region 31 R4_31 false) .ret) .skip))) (.seq (.region 32 R4_32 false) (.seq (.region 33 R4_33 false) (.seq (.region 34 R4_34 false) (.seq (.region 35 R4_35 false) .ret)))))))))))) = tcA := rfl
theorem tcC_ok (code : List Int) (hb : ∀ x ∈ code, 0 ≤ x ∧ x ≤ 255) (hl : code.length ≤ maxLen) : ∀ st : St, st.ρ 0 = .sq false true 1 (u8s code) → ∃ s, runCode C (callK C 4999) 4999 (K 4) tcC 0 st = some (.ret, s) ∧ s.ρ 2 = .c (.bool true) := by
  intro st q0
  unfold tcC
  obtain ⟨r, t, D⟩ := c_DrawRoundTenths 4999 code hb hl (by omega)
  have I := c_implRound 4999 r t (by omega)
  have S := c_specRound 4999 r t (by omega)
  cases hr : rtO r t
  · rw [hr] at I S
    simp [R4_0, R4_1, R4_2, R4_3, R4_4, R4_5, R4_6, R4_7, R4_8, R4_9, R4_10, R4_11, R4_12, R4_13, R4_14, R4_15, R4_16, R4_17, R4_18, R4_19, R4_20, R4_21, R4_22, R4_23, R4_24, R4_25, R4_26, R4_27, R4_28, R4_29, R4_30, R4_31, R4_32, R4_33, R4_34, R4_35, Try.f4, undef, q0, D, I, S]
  · rw [hr] at I S
    obtain ⟨n0, m0, l1, l2, w1, w2, w3, w4⟩ := rt_facts hr
    simp [R4_0, R4_1, R4_2, R4_3, R4_4, R4_5, R4_6, R4_7, R4_8, R4_9, R4_10, R4_11, R4_12, R4_13, R4_14, R4_15, R4_16, R4_17, R4_18, R4_19, R4_20, R4_21, R4_22, R4_23, R4_24, R4_25, R4_26, R4_27, R4_28, R4_29, R4_30, R4_31, R4_32, R4_33, R4_34, R4_35, Try.f4, undef, q0, D, I, S, n0, m0, l1, l2, w1, w2, w3, w4]
theorem tcB_ok (code : List Int) (hb : ∀ x ∈ code, 0 ≤ x ∧ x ≤ 255) (hl : code.length ≤ maxLen) : ∀ st : St, st.ρ 0 = .sq false true 1 (u8s code) → ∃ s, runCode C (callK C 4999) 4999 (K 4) tcB 0 st = some (.ret, s) ∧ s.ρ 2 = .c (.bool true) := by
  intro st q0
  unfold tcB
  rw [tcC_is]
  obtain ⟨v, u, D⟩ := c_DrawBeaufortOf 4999 code hb hl (by omega)
  have I := c_implBeau 4999 v u (by omega)
  have S := c_specBeau 4999 v u (by omega)
  have I2 := c_implBeau 4999 (IntKind.i64.wrap (v + 1)) u (by omega)
  obtain ⟨b0, b12⟩ := bf_in v u
  cases h1 : bfO v u
  · rw [h1] at I S
    simp [R4_0, R4_1, R4_2, R4_3, R4_4, R4_5, R4_6, R4_7, R4_8, R4_9, R4_10, R4_11, R4_12, R4_13, R4_14, R4_15, R4_16, R4_17, R4_18, R4_19, R4_20, R4_21, R4_22, R4_23, R4_24, R4_25, R4_26, R4_27, R4_28, R4_29, R4_30, R4_31, R4_32, R4_33, R4_34, R4_35, Try.f4, undef, q0, D, I, S, I2]
    generalize hr : runCode _ _ _ _ tcC _ _ = res
    obtain ⟨s1, rfl, f2⟩ := loop_at (tcC_ok code hb hl) hr (by simp [q0])
    simp [f2]
  · rw [h1] at I S
    cases h2 : bfO (IntKind.i64.wrap (v + 1)) u
    · rw [h2] at I2
      simp [R4_0, R4_1, R4_2, R4_3, R4_4, R4_5, R4_6, R4_7, R4_8, R4_9, R4_10, R4_11, R4_12, R4_13, R4_14, R4_15, R4_16, R4_17, R4_18, R4_19, R4_20, R4_21, R4_22, R4_23, R4_24, R4_25, R4_26, R4_27, R4_28, R4_29, R4_30, R4_31, R4_32, R4_33, R4_34, R4_35, Try.f4, undef, q0, D, I, S, I2, b0, b12]
      generalize hr : runCode _ _ _ _ tcC _ _ = res
      obtain ⟨s1, rfl, f2⟩ := loop_at (tcC_ok code hb hl) hr (by simp [q0])
      simp [f2]
    · rw [h2] at I2
      have hv := h1
      unfold bfO at hv
      simp only [Bool.and_eq_true, decide_eq_true_eq] at hv
      have wv : IntKind.i64.wrap (v + 1) = v + 1 := wrap_small (by omega) (by omega)
      rw [wv] at h2 I2
      have g := bf_grows h1 h2
      simp [R4_0, R4_1, R4_2, R4_3, R4_4, R4_5, R4_6, R4_7, R4_8, R4_9, R4_10, R4_11, R4_12, R4_13, R4_14, R4_15, R4_16, R4_17, R4_18, R4_19, R4_20, R4_21, R4_22, R4_23, R4_24, R4_25, R4_26, R4_27, R4_28, R4_29, R4_30, R4_31, R4_32, R4_33, R4_34, R4_35, Try.f4, undef, q0, D, I, S, I2, b0, b12, wv, g]
      generalize hr : runCode _ _ _ _ tcC _ _ = res
      obtain ⟨s1, rfl, f2⟩ := loop_at (tcC_ok code hb hl) hr (by simp [q0])
      simp [f2]
theorem tcA_ok (code : List Int) (hb : ∀ x ∈ code, 0 ≤ x ∧ x ≤ 255) (hl : code.length ≤ maxLen) : ∀ st : St, st.ρ 0 = .sq false true 1 (u8s code) → ∃ s, runCode C (callK C 4999) 4999 (K 4) tcA 0 st = some (.ret, s) ∧ s.ρ 2 = .c (.bool true) := by
  intro st q0
  unfold tcA
  rw [tcB_is]
  obtain ⟨p, a, q, b, D⟩ := c_DrawWarmerThan 4999 code hb hl (by omega)
  have I := c_implWarm 4999 p a q b (by omega)
  have S := c_specWarm 4999 p a q b (by omega)
  have I2 := c_implWarm 4999 q b p a (by omega)
  have I3 := c_implConv 4999 p a b (by omega)
  rw [wtO_comm] at I2
  cases h1 : wtO p a q b
  · rw [h1] at I S
    simp only [Bool.false_and] at I S
    simp [R4_0, R4_1, R4_2, R4_3, R4_4, R4_5, R4_6, R4_7, R4_8, R4_9, R4_10, R4_11, R4_12, R4_13, R4_14, R4_15, R4_16, R4_17, R4_18, R4_19, R4_20, R4_21, R4_22, R4_23, R4_24, R4_25, R4_26, R4_27, R4_28, R4_29, R4_30, R4_31, R4_32, R4_33, R4_34, R4_35, Try.f4, undef, q0, D, I, S]
    generalize hr : runCode _ _ _ _ tcB _ _ = res
    obtain ⟨s1, rfl, f2⟩ := loop_at (tcB_ok code hb hl) hr (by simp [q0])
    simp [f2]
  · rw [h1] at I S I2
    simp only [Bool.true_and] at I S I2
    cases h2 : wtC p a q b
    · rw [h2] at I S
      cases h3 : cvO p a b <;>
      · rw [h3] at I3
        simp [R4_0, R4_1, R4_2, R4_3, R4_4, R4_5, R4_6, R4_7, R4_8, R4_9, R4_10, R4_11, R4_12, R4_13, R4_14, R4_15, R4_16, R4_17, R4_18, R4_19, R4_20, R4_21, R4_22, R4_23, R4_24, R4_25, R4_26, R4_27, R4_28, R4_29, R4_30, R4_31, R4_32, R4_33, R4_34, R4_35, Try.f4, undef, q0, D, I, S, I2, I3]
        generalize hr : runCode _ _ _ _ tcB _ _ = res
        obtain ⟨s1, rfl, f2⟩ := loop_at (tcB_ok code hb hl) hr (by simp [q0])
        simp [f2]
    · rw [h2] at I S
      rw [warm_once h2] at I2
      cases h3 : cvO p a b
      · rw [h3] at I3
        simp [R4_0, R4_1, R4_2, R4_3, R4_4, R4_5, R4_6, R4_7, R4_8, R4_9, R4_10, R4_11, R4_12, R4_13, R4_14, R4_15, R4_16, R4_17, R4_18, R4_19, R4_20, R4_21, R4_22, R4_23, R4_24, R4_25, R4_26, R4_27, R4_28, R4_29, R4_30, R4_31, R4_32, R4_33, R4_34, R4_35, Try.f4, undef, q0, D, I, S, I2, I3]
        generalize hr : runCode _ _ _ _ tcB _ _ = res
        obtain ⟨s1, rfl, f2⟩ := loop_at (tcB_ok code hb hl) hr (by simp [q0])
        simp [f2]
      · rw [h3] at I3
        have g := warm_conv h2 h3
        simp [R4_0, R4_1, R4_2, R4_3, R4_4, R4_5, R4_6, R4_7, R4_8, R4_9, R4_10, R4_11, R4_12, R4_13, R4_14, R4_15, R4_16, R4_17, R4_18, R4_19, R4_20, R4_21, R4_22, R4_23, R4_24, R4_25, R4_26, R4_27, R4_28, R4_29, R4_30, R4_31, R4_32, R4_33, R4_34, R4_35, Try.f4, undef, q0, D, I, S, I2, I3, g]
        generalize hr : runCode _ _ _ _ tcB _ _ = res
        obtain ⟨s1, rfl, f2⟩ := loop_at (tcB_ok code hb hl) hr (by simp [q0])
        simp [f2]
theorem c_rBig (k : Nat) (code : List Int) (hk : 1 ≤ k) : callK C k 21 [.sq false true 1 (u8s code)] [] = some (.c (.bool (decide (65536 < code.length))), hpOf [] []) := by
  obtain ⟨k, rfl⟩ : ∃ m, k = m + 1 := ⟨k - 1, by omega⟩
  rw [callK_fn rfl F21 code21]
  have : ((65536 : Int) < (code.length : Int)) = (65536 < code.length) := by apply propext; omega
  simp [R21_0, R21_1, Try.f21, u8s_length, this]
theorem law_FnConversions (code : List Int) (hl : code.length ≤ maxLen) (hb : ∀ x ∈ code, (Lit.int .u8 x).wf = true) : ∃ k, callK C k 4 [.sq false true 1 (u8s code)] [] = some (.c (.bool true), hpOf [] []) := by
  have hb' : ∀ x ∈ code, 0 ≤ x ∧ x ≤ 255 := fun x hx => by
    have := hb x hx
    simpa [Lit.wf, IntKind.min, IntKind.max, IntKind.signed, IntKind.bits] using this
  refine ⟨5000, ?_⟩
  rw [callK_fn (k := 4999) rfl F4 code4]
  rw [tcA_is]
  have v0 := c_rBig 4999 code (by omega)
  by_cases h16 : 65536 < code.length
  · simp [h16] at v0
    simp [R4_0, R4_1, R4_2, R4_3, R4_4, R4_5, R4_6, R4_7, R4_8, R4_9, R4_10, R4_11, R4_12, R4_13, R4_14, R4_15, R4_16, R4_17, R4_18, R4_19, R4_20, R4_21, R4_22, R4_23, R4_24, R4_25, R4_26, R4_27, R4_28, R4_29, R4_30, R4_31, R4_32, R4_33, R4_34, R4_35, Try.f4, v0]
  simp [h16] at v0
  obtain ⟨x, a, b, D⟩ := c_DrawConvertTenths 4999 code hb' hl (by omega)
  have I := c_implConv 4999 x a b (by omega)
  have S := c_specConv 4999 x a b (by omega)
  have I2 := c_implConv 4999 (x + 1) a b (by omega)
  cases h1 : cvO x a b
  · rw [h1] at I S
    simp [R4_0, R4_1, R4_2, R4_3, R4_4, R4_5, R4_6, R4_7, R4_8, R4_9, R4_10, R4_11, R4_12, R4_13, R4_14, R4_15, R4_16, R4_17, R4_18, R4_19, R4_20, R4_21, R4_22, R4_23, R4_24, R4_25, R4_26, R4_27, R4_28, R4_29, R4_30, R4_31, R4_32, R4_33, R4_34, R4_35, Try.f4, undef, v0, D, I, S]
    generalize hr : runCode _ _ _ _ tcA _ _ = res
    obtain ⟨s1, rfl, f2⟩ := loop_at (tcA_ok code hb' hl) hr (by simp)
    simp [f2]
  · rw [h1] at I S
    have hv := h1
    unfold cvO at hv
    simp only [Bool.and_eq_true] at hv
    have hx := tenB_le hv.2.1
    have wv : IntKind.i64.wrap (x + 1) = x + 1 := wrap_small (by omega) (by omega)
    cases h2 : cvO (x + 1) a b
    · rw [h2] at I2
      simp [R4_0, R4_1, R4_2, R4_3, R4_4, R4_5, R4_6, R4_7, R4_8, R4_9, R4_10, R4_11, R4_12, R4_13, R4_14, R4_15, R4_16, R4_17, R4_18, R4_19, R4_20, R4_21, R4_22, R4_23, R4_24, R4_25, R4_26, R4_27, R4_28, R4_29, R4_30, R4_31, R4_32, R4_33, R4_34, R4_35, Try.f4, undef, v0, D, I, S, I2, wv]
      generalize hr : runCode _ _ _ _ tcA _ _ = res
      obtain ⟨s1, rfl, f2⟩ := loop_at (tcA_ok code hb' hl) hr (by simp)
      simp [f2]
    · rw [h2] at I2
      have g := cv_grows h1 h2
      simp [R4_0, R4_1, R4_2, R4_3, R4_4, R4_5, R4_6, R4_7, R4_8, R4_9, R4_10, R4_11, R4_12, R4_13, R4_14, R4_15, R4_16, R4_17, R4_18, R4_19, R4_20, R4_21, R4_22, R4_23, R4_24, R4_25, R4_26, R4_27, R4_28, R4_29, R4_30, R4_31, R4_32, R4_33, R4_34, R4_35, Try.f4, undef, v0, D, I, S, I2, wv, g]
      generalize hr : runCode _ _ _ _ tcA _ _ = res
      obtain ⟨s1, rfl, f2⟩ := loop_at (tcA_ok code hb' hl) hr (by simp)
      simp [f2]

end Go.Proofs.Ytfdlllhcjfhknaa.Eng
