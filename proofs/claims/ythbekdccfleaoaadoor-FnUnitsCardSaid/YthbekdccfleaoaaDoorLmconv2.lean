/- A deterministic reading of Go code over plain data: what functions of the program compute. No conditions. -/
import Derived.Test.YthbekdccfleaoaaDoorLmbase
import Derived.Test.YthbekdccfleaoaaDoorLmimpl
import Derived.Test.YthbekdccfleaoaaDoorLmgood
import Derived.Test.YthbekdccfleaoaaDoorLmconv
import Derived.Test.YthbekdccfleaoaaDoorEngT
namespace Go.Proofs.YthbekdccfleaoaaDoor.Eng
open Go Go.Proofs
set_option maxRecDepth 100000
set_option maxHeartbeats 2000000
set_option linter.unusedSimpArgs false
set_option linter.unusedVariables false
attribute [local simp] finK fin1 hpOf xi renQ isRoot runCode runOps Eng.step wantedV astep val ofO made loadV storeV find V.cells bin binT un1 setAt fieldAddrV fieldV indexAddrV indexV bounds sliceV convV lenV foldV max2V min2V callO bor rdsO wrsO seen_none okD_none loops keepIds resV resultsV St.ev TK.agg refs refsL refsO V.one V.isC Value.oneCell' ren renL renO noTag noTagL noTagR noTagO nodup mapO passV frs psi refsR newD loopNext opsAt idx flatAt rootOf backR newsV appendV copyV clearV strV bytesOf nilCmp buildV fillF chunk
attribute [local simp] cT cF cX cWR cOW cK X ints_length ints_get ints_getElem ints_drop ints_take ints_append ints_nil ints_set
attribute [local simp] ints_replicate
attribute [local simp] putV_some putV_none putH_app applyD_nil applyD_cons seen_app gc_ρ gc_H gc_tick st0_ρ st0_H st0_tick retV callRo callV_if borL_nil borL_cons ints_snoc take_self callWr cutH_app findQ afterV exportV_0 exportV_n okD_nil okD_cons sub_seq0 sub_seq1 sub_cond0 sub_cond1 sub_block sub_loop sub_nil young_far young_none hidW_nil mayW_nil pairs okI ok_0 ok_1 ok_2
attribute [local simp] T3 T4 T5 T9 T22 T28 T41 T45 T89 T97 T102 T103 T105 T120 T126 T137 T141 T143 T144
attribute [local simp] young_near clo cloF Region.binds Nat.testBit hidW declW mayW
def cvO (x a b : Int) : Bool := ((uG a && uG b) && (kI a == kI b)) && (tenB x && tenB (cvY x a b))
def cvV (x a b : Int) : Int := if cvO x a b = true then cvY x a b else 0
theorem kI_same (a b : Int) (h : kI a = kI b) : (kI a == kI b) = true ∧ (kI a + 1 = kI b + 1) ∧ (kI a + 1 == kI b + 1) = true ∧ (kI a != kI b) = false := by
  rw [h]; simp
theorem kI_not (a b : Int) (h : ¬ kI a = kI b) : (kI a == kI b) = false ∧ ¬ (kI a + 1 = kI b + 1) ∧ (kI a + 1 == kI b + 1) = false ∧ (kI a != kI b) = true ∧ (kI a + 1 != kI b + 1) = true := by
  have h2 : ¬ (kI a + 1 = kI b + 1) := by omega
  simp [h, h2]
theorem c_implConv (k : Nat) (x a b : Int) (hk : 10 ≤ k) : callK C k 54 [.c (.int .i64 x), .c (.int .i64 a), .c (.int .i64 b)] [] = some (.tp [.c (.int .i64 (cvV x a b)), .c (.bool (cvO x a b))], hpOf [] []) := by
  obtain ⟨k, rfl⟩ : ∃ m, k = m + 9 := ⟨k - 9, by omega⟩
  rw [callK_fn rfl F54 code54]
  have ht := c_isTenths (k + 8) x (by omega)
  unfold cvV cvO
  cases ha : uG a
  · obtain ⟨wa, ua⟩ := c_unitB (k + 8) a ha (by omega)
    cases hb : uG b
    · obtain ⟨wb, ub⟩ := c_unitB (k + 8) b hb (by omega)
      simp [R54_0, R54_1, R54_2, R54_3, R54_4, R54_5, R54_6, R54_7, R54_8, Tryd.f54, ua, ub, ht]
    · obtain ⟨wb, ub⟩ := c_unitG (k + 8) b hb (by omega)
      simp [R54_0, R54_1, R54_2, R54_3, R54_4, R54_5, R54_6, R54_7, R54_8, Tryd.f54, ua, ub, ht]
  obtain ⟨wa, ua⟩ := c_unitG (k + 8) a ha (by omega)
  cases hb : uG b
  · obtain ⟨wb, ub⟩ := c_unitB (k + 8) b hb (by omega)
    simp [R54_0, R54_1, R54_2, R54_3, R54_4, R54_5, R54_6, R54_7, R54_8, Tryd.f54, ua, ub, ht]
  obtain ⟨wb, ub⟩ := c_unitG (k + 8) b hb (by omega)
  by_cases hk1 : kI a = kI b
  · obtain ⟨k1, k2, k3, k4⟩ := kI_same a b hk1
    cases hx : tenB x
    · rw [hx] at ht
      simp [R54_0, R54_1, R54_2, R54_3, R54_4, R54_5, R54_6, R54_7, R54_8, Tryd.f54, ua, ub, ht, hk1, k1, k2, k3, k4]
    · rw [hx] at ht
      obtain ⟨x0, x1⟩ := tenB_le hx
      obtain ⟨p1, p2, p3, p4, p5, p6⟩ := cv_bounds ha hb (x := x) (by omega) (by omega)
      have hr := c_near (k + 8) (cvA x a b) (cvB a b) (by omega) (by omega) (by omega) (by omega) (by omega)
      have ht2 := c_isTenths (k + 8) (cvY x a b) (by omega)
      unfold cvY at ht2 ⊢
      obtain ⟨Y, hY⟩ : ∃ Y, rnd (cvA x a b) (cvB a b) = Y := ⟨_, rfl⟩
      rw [hY] at hr ht2 ⊢
      unfold cvA cvB at hr
      unfold cvA at p5
      unfold cvB at p6
      have w1 : IntKind.i64.wrap (uD a * x) = uD a * x := wrap_small (by omega) (by omega)
      have w2 : IntKind.i64.wrap (uD a * x - uA a) = uD a * x - uA a := wrap_small (by omega) (by omega)
      have w3 : IntKind.i64.wrap (uN b * (uD a * x - uA a)) = uN b * (uD a * x - uA a) := wrap_small (by omega) (by omega)
      have w4 : IntKind.i64.wrap (uA b * uN a) = uA b * uN a := wrap_small (by omega) (by omega)
      have w5 : IntKind.i64.wrap (uN b * (uD a * x - uA a) + uA b * uN a) = uN b * (uD a * x - uA a) + uA b * uN a := wrap_small (by omega) (by omega)
      have w6 : IntKind.i64.wrap (uN a * uD b) = uN a * uD b := wrap_small (by omega) (by omega)
      cases hy : tenB Y
      · rw [hy] at ht2
        simp [R54_0, R54_1, R54_2, R54_3, R54_4, R54_5, R54_6, R54_7, R54_8, Tryd.f54, ua, ub, ht, hk1, k1, k2, k3, k4, w1, w2, w3, w4, w5, w6, hr, ht2]
      · rw [hy] at ht2
        simp [R54_0, R54_1, R54_2, R54_3, R54_4, R54_5, R54_6, R54_7, R54_8, Tryd.f54, ua, ub, ht, hk1, k1, k2, k3, k4, w1, w2, w3, w4, w5, w6, hr, ht2]
  · obtain ⟨k1, k2, k3, k4, k5⟩ := kI_not a b hk1
    simp [R54_0, R54_1, R54_2, R54_3, R54_4, R54_5, R54_6, R54_7, R54_8, Tryd.f54, ua, ub, ht, hk1, k1, k2, k3, k4, k5]
def rtO (x s : Int) : Bool := (tenB x && (decide (1 ≤ s) && decide (s ≤ 1000))) && tenB (rnd x s * s)
def rtV (x s : Int) : Int := if rtO x s = true then rnd x s * s else 0
theorem rnd_size {x s : Int} (hs : 1 ≤ s) (hx : -99999 ≤ x ∧ x ≤ 99999) (hs2 : s ≤ 1000) : -201000 ≤ rnd x s ∧ rnd x s ≤ 201000 := by
  unfold rnd
  by_cases h : x < 0
  · obtain ⟨t1, t2⟩ := tdiv_within (x := -2 * x + s) (y := 2 * s) (by omega) (by omega)
    rw [if_pos h]; omega
  · obtain ⟨t1, t2⟩ := tdiv_within (x := 2 * x + s) (y := 2 * s) (by omega) (by omega)
    rw [if_neg h]; omega
theorem rnd_mul {x s : Int} (hs : 1 ≤ s) (hx : -99999 ≤ x ∧ x ≤ 99999) (hs2 : s ≤ 1000) : IntKind.i64.wrap (rnd x s * s) = rnd x s * s := by
  obtain ⟨h1, h2⟩ := rnd_size hs hx hs2
  have h3 := Int.mul_le_mul_of_nonneg_right h1 (by omega : 0 ≤ s)
  have h4 := Int.mul_le_mul_of_nonneg_right h2 (by omega : 0 ≤ s)
  exact wrap_small (by omega) (by omega)
/-- Temperatures compared. -/
def wtO (x a y b : Int) : Bool := ((uG a && uG b) && ((kI a == 0) && (kI b == 0))) && (tenB x && tenB y)
def wtC (x a y b : Int) : Bool := decide ((uD b * y - uA b) * uN a < (uD a * x - uA a) * uN b)
theorem wt_wraps {x a y b : Int} (ha : uG a = true) (hb : uG b = true) (h0 : -1000000 ≤ x) (h1 : x ≤ 1000000) (h2 : -1000000 ≤ y) (h3 : y ≤ 1000000) :
    IntKind.i64.wrap (uD a * x) = uD a * x ∧ IntKind.i64.wrap (uD a * x - uA a) = uD a * x - uA a ∧ IntKind.i64.wrap (uD b * y) = uD b * y ∧ IntKind.i64.wrap (uD b * y - uA b) = uD b * y - uA b ∧
    IntKind.i64.wrap ((uD a * x - uA a) * uN b) = (uD a * x - uA a) * uN b ∧ IntKind.i64.wrap ((uD b * y - uA b) * uN a) = (uD b * y - uA b) * uN a := by
  obtain ⟨p1, p2, p3, _⟩ := cv_bounds ha hb h0 h1
  obtain ⟨q1, q2, q3, _⟩ := cv_bounds hb ha h2 h3
  rw [Int.mul_comm] at p3 q3
  exact ⟨wrap_small (by omega) (by omega), wrap_small (by omega) (by omega), wrap_small (by omega) (by omega), wrap_small (by omega) (by omega), wrap_small (by omega) (by omega), wrap_small (by omega) (by omega)⟩
theorem kI_zero (a : Int) (h : kI a = 0) : (kI a == 0) = true ∧ kI a + 1 = 1 ∧ (kI a + 1 == 1) = true ∧ (kI a != 0) = false := by
  rw [h]; simp
theorem kI_nz (a : Int) (h : ¬ kI a = 0) : (kI a == 0) = false ∧ ¬ kI a + 1 = 1 ∧ (kI a + 1 == 1) = false ∧ (kI a != 0) = true ∧ (kI a + 1 != 1) = true := by
  have h2 : ¬ (kI a + 1 = 1) := by omega
  simp [h, h2]

end Go.Proofs.YthbekdccfleaoaaDoor.Eng
