/- A deterministic reading of Go code over plain data: what functions of the program compute. No conditions. -/
import Derived.Test.YtfdlllhcjfhknaaLmbase
import Derived.Test.YtfdlllhcjfhknaaLmimpl
import Derived.Test.YtfdlllhcjfhknaaLmgood
import Derived.Test.YtfdlllhcjfhknaaLmconv
import Derived.Test.YtfdlllhcjfhknaaEngT
namespace Go.Proofs.Ytfdlllhcjfhknaa.Eng
open Go Go.Proofs
set_option maxRecDepth 100000
set_option maxHeartbeats 2000000
set_option linter.unusedSimpArgs false
set_option linter.unusedVariables false
attribute [local simp] finK fin1 hpOf xi renQ isRoot runCode runOps Eng.step wantedV astep val ofO made loadV storeV find V.cells bin binT un1 setAt fieldAddrV fieldV indexAddrV indexV bounds sliceV convV lenV foldV max2V min2V callO bor rdsO wrsO seen_none okD_none loops keepIds resV resultsV St.ev TK.agg refs refsL refsO V.one V.isC Value.oneCell' ren renL renO noTag noTagL noTagR noTagO nodup mapO passV frs psi refsR newD loopNext opsAt idx flatAt rootOf backR newsV appendV copyV clearV strV bytesOf nilCmp buildV fillF chunk
attribute [local simp] cT cF cX cWR cOW cK X ints_length ints_get ints_getElem ints_drop ints_take ints_append ints_nil ints_set
attribute [local simp] ints_replicate
attribute [local simp] putV_some putV_none putH_app applyD_nil applyD_cons seen_app gc_ρ gc_H gc_tick st0_ρ st0_H st0_tick retV callRo callV_if borL_nil borL_cons ints_snoc take_self callWr cutH_app findQ afterV exportV_0 exportV_n okD_nil okD_cons sub_seq0 sub_seq1 sub_cond0 sub_cond1 sub_block sub_loop sub_nil young_far young_none hidW_nil mayW_nil pairs okI ok_0 ok_1 ok_2
attribute [local simp] T3 T4 T5 T9 T22 T24 T26 T29 T36 T73 T75 T86 T89 T103 T104 T106 T108 T109 T111 T114 T118 T134 T136 T157 T161 T168
attribute [local simp] young_near clo cloF Region.binds Nat.testBit hidW declW mayW
def cvO (x a b : Int) : Bool := ((uG a && uG b) && (kI a == kI b)) && (tenB x && tenB (cvY x a b))
def cvV (x a b : Int) : Int := if cvO x a b = true then cvY x a b else 0
theorem kI_same (a b : Int) (h : kI a = kI b) : (kI a == kI b) = true ∧ (kI a + 1 = kI b + 1) ∧ (kI a + 1 == kI b + 1) = true ∧ (kI a != kI b) = false := by
  rw [h]; simp
theorem kI_not (a b : Int) (h : ¬ kI a = kI b) : (kI a == kI b) = false ∧ ¬ (kI a + 1 = kI b + 1) ∧ (kI a + 1 == kI b + 1) = false ∧ (kI a != kI b) = true ∧ (kI a + 1 != kI b + 1) = true := by
  have h2 : ¬ (kI a + 1 = kI b + 1) := by omega
  simp [h, h2]
theorem c_implConv (k : Nat) (x a b : Int) (hk : 10 ≤ k) : callK C k 23 [.c (.int .i64 x), .c (.int .i64 a), .c (.int .i64 b)] [] = some (.tp [.c (.int .i64 (cvV x a b)), .c (.bool (cvO x a b))], hpOf [] []) := by
  obtain ⟨k, rfl⟩ : ∃ m, k = m + 9 := ⟨k - 9, by omega⟩
  rw [callK_fn rfl F23 code23]
  have ht := c_isTenths (k + 8) x (by omega)
  unfold cvV cvO
  cases ha : uG a
  · obtain ⟨wa, ua⟩ := c_unitB (k + 8) a ha (by omega)
    cases hb : uG b
    · obtain ⟨wb, ub⟩ := c_unitB (k + 8) b hb (by omega)
      simp [R23_0, R23_1, R23_2, R23_3, R23_4, R23_5, R23_6, R23_7, R23_8, Try.f23, ua, ub, ht]
    · obtain ⟨wb, ub⟩ := c_unitG (k + 8) b hb (by omega)
      simp [R23_0, R23_1, R23_2, R23_3, R23_4, R23_5, R23_6, R23_7, R23_8, Try.f23, ua, ub, ht]
  obtain ⟨wa, ua⟩ := c_unitG (k + 8) a ha (by omega)
  cases hb : uG b
  · obtain ⟨wb, ub⟩ := c_unitB (k + 8) b hb (by omega)
    simp [R23_0, R23_1, R23_2, R23_3, R23_4, R23_5, R23_6, R23_7, R23_8, Try.f23, ua, ub, ht]
  obtain ⟨wb, ub⟩ := c_unitG (k + 8) b hb (by omega)
  by_cases hk1 : kI a = kI b
  · obtain ⟨k1, k2, k3, k4⟩ := kI_same a b hk1
    cases hx : tenB x
    · rw [hx] at ht
      simp [R23_0, R23_1, R23_2, R23_3, R23_4, R23_5, R23_6, R23_7, R23_8, Try.f23, ua, ub, ht, hk1, k1, k2, k3, k4]
    · rw [hx] at ht
      obtain ⟨x0, x1⟩ := tenB_le hx
      obtain ⟨p1, p2, p3, p4, p5, p6⟩ := cv_bounds ha hb (x := x) (by omega) (by omega)
      have hr := c_near (k + 8) (cvA x a b) (cvB a b) (by omega) (by omega) (by omega) (by omega) (by omega)
      have ht2 := c_isTenths (k + 8) (cvY x a b) (by omega)
      unfold cvY at ht2 ⊢
      obtain ⟨Y, hY⟩ : ∃ Y, rnd (cvA x a b) (cvB a b) = Y := ⟨_, rfl⟩
      rw [hY] at hr ht2 ⊢
      unfold cvA cvB at hr
      unfold cvA at p5
      unfold cvB at p6
      have w1 : IntKind.i64.wrap (uD a * x) = uD a * x := wrap_small (by omega) (by omega)
      have w2 : IntKind.i64.wrap (uD a * x - uA a) = uD a * x - uA a := wrap_small (by omega) (by omega)
      have w3 : IntKind.i64.wrap (uN b * (uD a * x - uA a)) = uN b * (uD a * x - uA a) := wrap_small (by omega) (by omega)
      have w4 : IntKind.i64.wrap (uA b * uN a) = uA b * uN a := wrap_small (by omega) (by omega)
      have w5 : IntKind.i64.wrap (uN b * (uD a * x - uA a) + uA b * uN a) = uN b * (uD a * x - uA a) + uA b * uN a := wrap_small (by omega) (by omega)
      have w6 : IntKind.i64.wrap (uN a * uD b) = uN a * uD b := wrap_small (by omega) (by omega)
      cases hy : tenB Y
      · rw [hy] at ht2
        simp [R23_0, R23_1, R23_2, R23_3, R23_4, R23_5, R23_6, R23_7, R23_8, Try.f23, ua, ub, ht, hk1, k1, k2, k3, k4, w1, w2, w3, w4, w5, w6, hr, ht2]
      · rw [hy] at ht2
        simp [R23_0, R23_1, R23_2, R23_3, R23_4, R23_5, R23_6, R23_7, R23_8, Try.f23, ua, ub, ht, hk1, k1, k2, k3, k4, w1, w2, w3, w4, w5, w6, hr, ht2]
  · obtain ⟨k1, k2, k3, k4, k5⟩ := kI_not a b hk1
    simp [R23_0, R23_1, R23_2, R23_3, R23_4, R23_5, R23_6, R23_7, R23_8, Try.f23, ua, ub, ht, hk1, k1, k2, k3, k4, k5]
theorem c_specConv (k : Nat) (x a b : Int) (hk : 10 ≤ k) : callK C k 24 [.c (.int .i64 x), .c (.int .i64 a), .c (.int .i64 b)] [] = some (.tp [.c (.int .i64 (cvV x a b)), .c (.bool (cvO x a b))], hpOf [] []) := by
  obtain ⟨k, rfl⟩ : ∃ m, k = m + 9 := ⟨k - 9, by omega⟩
  rw [callK_fn rfl F24 code24]
  have ht := c_l3Tenths3 (k + 8) x (by omega)
  have ha' := c_l3Unit3 (k + 8) a (by omega)
  have hb' := c_l3Unit3 (k + 8) b (by omega)
  have ka := c_l3Kind3 (k + 8) a (by omega)
  have kb := c_l3Kind3 (k + 8) b (by omega)
  unfold cvV cvO
  cases hx : tenB x
  · rw [hx] at ht
    simp [R24_0, R24_1, R24_2, R24_3, R24_4, R24_5, R24_6, Try.f24, ht]
  rw [hx] at ht
  cases ha : uG a
  · rw [ha] at ha'
    simp [R24_0, R24_1, R24_2, R24_3, R24_4, R24_5, R24_6, Try.f24, ht, ha']
  rw [ha] at ha'
  cases hb : uG b
  · rw [hb] at hb'
    simp [R24_0, R24_1, R24_2, R24_3, R24_4, R24_5, R24_6, Try.f24, ht, ha', hb']
  rw [hb] at hb'
  by_cases hk1 : kI a = kI b
  · obtain ⟨k1, k2, k3, k4⟩ := kI_same a b hk1
    obtain ⟨x0, x1⟩ := tenB_le hx
    have hr := c_l3Convert3 (k + 8) x a b ha hb (by omega) (by omega) (by omega)
    have ht2 := c_l3Tenths3 (k + 8) (cvY x a b) (by omega)
    obtain ⟨Y, hY⟩ : ∃ Y, cvY x a b = Y := ⟨_, rfl⟩
    rw [hY] at hr ht2 ⊢
    cases hy : tenB Y
    · rw [hy] at ht2
      simp [R24_0, R24_1, R24_2, R24_3, R24_4, R24_5, R24_6, Try.f24, ht, ha', hb', ka, kb, hk1, k1, k4, hr, ht2]
    · rw [hy] at ht2
      simp [R24_0, R24_1, R24_2, R24_3, R24_4, R24_5, R24_6, Try.f24, ht, ha', hb', ka, kb, hk1, k1, k4, hr, ht2]
  · obtain ⟨k1, k2, k3, k4, k5⟩ := kI_not a b hk1
    simp [R24_0, R24_1, R24_2, R24_3, R24_4, R24_5, R24_6, Try.f24, ht, ha', hb', ka, kb, hk1, k1, k4]
def rtO (x s : Int) : Bool := (tenB x && (decide (1 ≤ s) && decide (s ≤ 1000))) && tenB (rnd x s * s)
def rtV (x s : Int) : Int := if rtO x s = true then rnd x s * s else 0
theorem rnd_size {x s : Int} (hs : 1 ≤ s) (hx : -99999 ≤ x ∧ x ≤ 99999) (hs2 : s ≤ 1000) : -201000 ≤ rnd x s ∧ rnd x s ≤ 201000 := by
  unfold rnd
  by_cases h : x < 0
  · obtain ⟨t1, t2⟩ := tdiv_within (x := -2 * x + s) (y := 2 * s) (by omega) (by omega)
    rw [if_pos h]; omega
  · obtain ⟨t1, t2⟩ := tdiv_within (x := 2 * x + s) (y := 2 * s) (by omega) (by omega)
    rw [if_neg h]; omega
theorem rnd_mul {x s : Int} (hs : 1 ≤ s) (hx : -99999 ≤ x ∧ x ≤ 99999) (hs2 : s ≤ 1000) : IntKind.i64.wrap (rnd x s * s) = rnd x s * s := by
  obtain ⟨h1, h2⟩ := rnd_size hs hx hs2
  have h3 := Int.mul_le_mul_of_nonneg_right h1 (by omega : 0 ≤ s)
  have h4 := Int.mul_le_mul_of_nonneg_right h2 (by omega : 0 ≤ s)
  exact wrap_small (by omega) (by omega)
theorem c_implRound (k : Nat) (x s : Int) (hk : 10 ≤ k) : callK C k 32 [.c (.int .i64 x), .c (.int .i64 s)] [] = some (.tp [.c (.int .i64 (rtV x s)), .c (.bool (rtO x s))], hpOf [] []) := by
  obtain ⟨k, rfl⟩ : ∃ m, k = m + 9 := ⟨k - 9, by omega⟩
  rw [callK_fn rfl F32 code32]
  have ht := c_isTenths (k + 8) x (by omega)
  have hw := c_within (k + 8) s 1 1000 (by omega)
  unfold rtV rtO
  cases hx : tenB x
  · rw [hx] at ht
    simp [R32_0, R32_1, R32_2, R32_3, R32_4, R32_5, R32_6, Try.f32, ht]
  rw [hx] at ht
  cases hs : (decide (1 ≤ s) && decide (s ≤ 1000))
  · rw [hs] at hw
    simp [R32_0, R32_1, R32_2, R32_3, R32_4, R32_5, R32_6, Try.f32, ht, hw]
  rw [hs] at hw
  simp only [Bool.and_eq_true, decide_eq_true_eq] at hs
  have hx2 := tenB_le hx
  have hn := c_near (k + 8) x s (by omega) (by omega) (by omega) (by omega) (by omega)
  have hm := rnd_mul hs.1 hx2 hs.2
  have ht2 := c_isTenths (k + 8) (rnd x s * s) (by omega)
  cases hy : tenB (rnd x s * s)
  · rw [hy] at ht2
    simp [R32_0, R32_1, R32_2, R32_3, R32_4, R32_5, R32_6, Try.f32, ht, hw, hn, hm, ht2]
  · rw [hy] at ht2
    simp [R32_0, R32_1, R32_2, R32_3, R32_4, R32_5, R32_6, Try.f32, ht, hw, hn, hm, ht2]
theorem c_specRound (k : Nat) (x s : Int) (hk : 10 ≤ k) : callK C k 33 [.c (.int .i64 x), .c (.int .i64 s)] [] = some (.tp [.c (.int .i64 (rtV x s)), .c (.bool (rtO x s))], hpOf [] []) := by
  obtain ⟨k, rfl⟩ : ∃ m, k = m + 9 := ⟨k - 9, by omega⟩
  rw [callK_fn rfl F33 code33]
  have ht := c_l3Tenths3 (k + 8) x (by omega)
  have hw := c_l1In (k + 8) s 1 1000 (by omega)
  unfold rtV rtO
  cases hx : tenB x
  · rw [hx] at ht
    simp [R33_0, R33_1, R33_2, R33_3, R33_4, R33_5, R33_6, Try.f33, ht]
  rw [hx] at ht
  cases hs : (decide (1 ≤ s) && decide (s ≤ 1000))
  · rw [hs] at hw
    simp [R33_0, R33_1, R33_2, R33_3, R33_4, R33_5, R33_6, Try.f33, ht, hw]
  rw [hs] at hw
  simp only [Bool.and_eq_true, decide_eq_true_eq] at hs
  have hx2 := tenB_le hx
  have hn := c_round3 (k + 8) x s (by omega) (by omega) (by omega) (by omega) (by omega)
  have hm := rnd_mul hs.1 hx2 hs.2
  have ht2 := c_l3Tenths3 (k + 8) (rnd x s * s) (by omega)
  cases hy : tenB (rnd x s * s)
  · rw [hy] at ht2
    simp [R33_0, R33_1, R33_2, R33_3, R33_4, R33_5, R33_6, Try.f33, ht, hw, hn, hm, ht2]
  · rw [hy] at ht2
    simp [R33_0, R33_1, R33_2, R33_3, R33_4, R33_5, R33_6, Try.f33, ht, hw, hn, hm, ht2]
/-- Temperatures compared. -/
def wtO (x a y b : Int) : Bool := ((uG a && uG b) && ((kI a == 0) && (kI b == 0))) && (tenB x && tenB y)
def wtC (x a y b : Int) : Bool := decide ((uD b * y - uA b) * uN a < (uD a * x - uA a) * uN b)
theorem wt_wraps {x a y b : Int} (ha : uG a = true) (hb : uG b = true) (h0 : -1000000 ≤ x) (h1 : x ≤ 1000000) (h2 : -1000000 ≤ y) (h3 : y ≤ 1000000) :
    IntKind.i64.wrap (uD a * x) = uD a * x ∧ IntKind.i64.wrap (uD a * x - uA a) = uD a * x - uA a ∧ IntKind.i64.wrap (uD b * y) = uD b * y ∧ IntKind.i64.wrap (uD b * y - uA b) = uD b * y - uA b ∧
    IntKind.i64.wrap ((uD a * x - uA a) * uN b) = (uD a * x - uA a) * uN b ∧ IntKind.i64.wrap ((uD b * y - uA b) * uN a) = (uD b * y - uA b) * uN a := by
  obtain ⟨p1, p2, p3, _⟩ := cv_bounds ha hb h0 h1
  obtain ⟨q1, q2, q3, _⟩ := cv_bounds hb ha h2 h3
  rw [Int.mul_comm] at p3 q3
  exact ⟨wrap_small (by omega) (by omega), wrap_small (by omega) (by omega), wrap_small (by omega) (by omega), wrap_small (by omega) (by omega), wrap_small (by omega) (by omega), wrap_small (by omega) (by omega)⟩
theorem kI_zero (a : Int) (h : kI a = 0) : (kI a == 0) = true ∧ kI a + 1 = 1 ∧ (kI a + 1 == 1) = true ∧ (kI a != 0) = false := by
  rw [h]; simp
theorem kI_nz (a : Int) (h : ¬ kI a = 0) : (kI a == 0) = false ∧ ¬ kI a + 1 = 1 ∧ (kI a + 1 == 1) = false ∧ (kI a != 0) = true ∧ (kI a + 1 != 1) = true := by
  have h2 : ¬ (kI a + 1 = 1) := by omega
  simp [h, h2]
theorem c_implWarm (k : Nat) (x a y b : Int) (hk : 10 ≤ k) : callK C k 26 [.c (.int .i64 x), .c (.int .i64 a), .c (.int .i64 y), .c (.int .i64 b)] [] = some (.tp [.c (.bool (wtO x a y b && wtC x a y b)), .c (.bool (wtO x a y b))], hpOf [] []) := by
  obtain ⟨k, rfl⟩ : ∃ m, k = m + 9 := ⟨k - 9, by omega⟩
  rw [callK_fn rfl F26 code26]
  have ht := c_isTenths (k + 8) x (by omega)
  have ht2 := c_isTenths (k + 8) y (by omega)
  unfold wtO
  cases ha : uG a
  · obtain ⟨wa, ua⟩ := c_unitB (k + 8) a ha (by omega)
    cases hb : uG b
    · obtain ⟨wb, ub⟩ := c_unitB (k + 8) b hb (by omega)
      simp [R26_0, R26_1, R26_2, R26_3, R26_4, R26_5, Try.f26, ua, ub, ht, ht2]
    · obtain ⟨wb, ub⟩ := c_unitG (k + 8) b hb (by omega)
      simp [R26_0, R26_1, R26_2, R26_3, R26_4, R26_5, Try.f26, ua, ub, ht, ht2]
  obtain ⟨wa, ua⟩ := c_unitG (k + 8) a ha (by omega)
  cases hb : uG b
  · obtain ⟨wb, ub⟩ := c_unitB (k + 8) b hb (by omega)
    simp [R26_0, R26_1, R26_2, R26_3, R26_4, R26_5, Try.f26, ua, ub, ht, ht2]
  obtain ⟨wb, ub⟩ := c_unitG (k + 8) b hb (by omega)
  by_cases k0 : kI a = 0
  · obtain ⟨k1, k2, k3, k4⟩ := kI_zero a k0
    by_cases m0 : kI b = 0
    · obtain ⟨m1, m2, m3, m4⟩ := kI_zero b m0
      cases hx : tenB x
      · rw [hx] at ht
        simp [R26_0, R26_1, R26_2, R26_3, R26_4, R26_5, Try.f26, ua, ub, ht, ht2, k0, m0]
      rw [hx] at ht
      cases hy : tenB y
      · rw [hy] at ht2
        simp [R26_0, R26_1, R26_2, R26_3, R26_4, R26_5, Try.f26, ua, ub, ht, ht2, k0, m0]
      rw [hy] at ht2
      obtain ⟨x0, x1⟩ := tenB_le hx
      obtain ⟨y0, y1⟩ := tenB_le hy
      obtain ⟨w1, w2, w3, w4, w5, w6⟩ := wt_wraps ha hb (x := x) (y := y) (by omega) (by omega) (by omega) (by omega)
      simp [R26_0, R26_1, R26_2, R26_3, R26_4, R26_5, Try.f26, ua, ub, ht, ht2, k0, m0, w1, w2, w3, w4, w5, w6, wtC]
    · obtain ⟨m1, m2, m3, m4, m5⟩ := kI_nz b m0
      simp [R26_0, R26_1, R26_2, R26_3, R26_4, R26_5, Try.f26, ua, ub, ht, ht2, k0, m0, m1, m2, m3, m4, m5]
  · obtain ⟨k1, k2, k3, k4, k5⟩ := kI_nz a k0
    simp [R26_0, R26_1, R26_2, R26_3, R26_4, R26_5, Try.f26, ua, ub, ht, ht2, k0, k1, k2, k3, k4, k5]
theorem c_specWarm (k : Nat) (x a y b : Int) (hk : 10 ≤ k) : callK C k 27 [.c (.int .i64 x), .c (.int .i64 a), .c (.int .i64 y), .c (.int .i64 b)] [] = some (.tp [.c (.bool (wtO x a y b && wtC x a y b)), .c (.bool (wtO x a y b))], hpOf [] []) := by
  obtain ⟨k, rfl⟩ : ∃ m, k = m + 9 := ⟨k - 9, by omega⟩
  rw [callK_fn rfl F27 code27]
  have ht := c_l3Tenths3 (k + 8) x (by omega)
  have ht2 := c_l3Tenths3 (k + 8) y (by omega)
  have ha' := c_l3Unit3 (k + 8) a (by omega)
  have hb' := c_l3Unit3 (k + 8) b (by omega)
  have ka := c_l3Kind3 (k + 8) a (by omega)
  have kb := c_l3Kind3 (k + 8) b (by omega)
  unfold wtO
  cases hx : tenB x
  · rw [hx] at ht
    simp [R27_0, R27_1, R27_2, R27_3, R27_4, R27_5, Try.f27, ht]
  rw [hx] at ht
  cases hy : tenB y
  · rw [hy] at ht2
    simp [R27_0, R27_1, R27_2, R27_3, R27_4, R27_5, Try.f27, ht, ht2]
  rw [hy] at ht2
  cases ha : uG a
  · rw [ha] at ha'
    simp [R27_0, R27_1, R27_2, R27_3, R27_4, R27_5, Try.f27, ht, ht2, ha']
  rw [ha] at ha'
  cases hb : uG b
  · rw [hb] at hb'
    simp [R27_0, R27_1, R27_2, R27_3, R27_4, R27_5, Try.f27, ht, ht2, ha', hb']
  rw [hb] at hb'
  by_cases k0 : kI a = 0
  · obtain ⟨k1, k2, k3, k4⟩ := kI_zero a k0
    by_cases m0 : kI b = 0
    · obtain ⟨m1, m2, m3, m4⟩ := kI_zero b m0
      obtain ⟨x0, x1⟩ := tenB_le hx
      obtain ⟨y0, y1⟩ := tenB_le hy
      obtain ⟨w1, w2, w3, w4, w5, w6⟩ := wt_wraps ha hb (x := x) (y := y) (by omega) (by omega) (by omega) (by omega)
      have b1 := c_l3Basic3 (k + 8) x a ha (by omega) (by omega) (by omega)
      have b2 := c_l3Basic3 (k + 8) y b hb (by omega) (by omega) (by omega)
      simp [R27_0, R27_1, R27_2, R27_3, R27_4, R27_5, Try.f27, ht, ht2, ha', hb', ka, kb, k0, m0, b1, b2, w5, w6, wtC]
    · obtain ⟨m1, m2, m3, m4, m5⟩ := kI_nz b m0
      simp [R27_0, R27_1, R27_2, R27_3, R27_4, R27_5, Try.f27, ht, ht2, ha', hb', ka, kb, k0, m0, m1, m4]
  · obtain ⟨k1, k2, k3, k4, k5⟩ := kI_nz a k0
    simp [R27_0, R27_1, R27_2, R27_3, R27_4, R27_5, Try.f27, ht, ht2, ha', hb', ka, kb, k0, k1, k4]

end Go.Proofs.Ytfdlllhcjfhknaa.Eng
