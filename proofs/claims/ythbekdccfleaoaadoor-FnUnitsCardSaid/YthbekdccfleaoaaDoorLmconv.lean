/- A deterministic reading of Go code over plain data: what functions of the program compute. No conditions. -/
import Derived.Test.YthbekdccfleaoaaDoorLmbase
import Derived.Test.YthbekdccfleaoaaDoorLmimpl
import Derived.Test.YthbekdccfleaoaaDoorLmgood
import Derived.Test.YthbekdccfleaoaaDoorEngT
namespace Go.Proofs.YthbekdccfleaoaaDoor.Eng
open Go Go.Proofs
set_option maxRecDepth 100000
set_option maxHeartbeats 2000000
set_option linter.unusedSimpArgs false
set_option linter.unusedVariables false
attribute [local simp] finK fin1 hpOf xi renQ isRoot runCode runOps Eng.step wantedV astep val ofO made loadV storeV find V.cells bin binT un1 setAt fieldAddrV fieldV indexAddrV indexV bounds sliceV convV lenV foldV max2V min2V callO bor rdsO wrsO seen_none okD_none loops keepIds resV resultsV St.ev TK.agg refs refsL refsO V.one V.isC Value.oneCell' ren renL renO noTag noTagL noTagR noTagO nodup mapO passV frs psi refsR newD loopNext opsAt idx flatAt rootOf backR newsV appendV copyV clearV strV bytesOf nilCmp buildV fillF chunk
attribute [local simp] cT cF cX cWR cOW cK X ints_length ints_get ints_getElem ints_drop ints_take ints_append ints_nil ints_set
attribute [local simp] ints_replicate
attribute [local simp] putV_some putV_none putH_app applyD_nil applyD_cons seen_app gc_ρ gc_H gc_tick st0_ρ st0_H st0_tick retV callRo callV_if borL_nil borL_cons ints_snoc take_self callWr cutH_app findQ afterV exportV_0 exportV_n okD_nil okD_cons sub_seq0 sub_seq1 sub_cond0 sub_cond1 sub_block sub_loop sub_nil young_far young_none hidW_nil mayW_nil pairs okI ok_0 ok_1 ok_2
attribute [local simp] T3 T4 T5 T9 T22 T28 T41 T45 T89 T97 T102 T103 T105 T120 T126 T137 T141 T143 T144
attribute [local simp] young_near clo cloF Region.binds Nat.testBit hidW declW mayW
def uG (u : Int) : Bool := decide (1 ≤ u) && decide (u ≤ 8)
def kI (u : Int) : Int := if u ≤ 3 then 0 else if u ≤ 6 then 1 else 2
def uN (u : Int) : Int := if u = 2 then 9 else if u = 3 then 2 else if u = 5 then 3600 else if u = 6 then 18 else if u = 8 then 5 else 1
def uA (u : Int) : Int := if u = 2 then 1600 else if u = 3 then 5463 else 0
def uD (u : Int) : Int := if u = 2 then 5 else if u = 3 then 2 else if u = 5 then 1852 else if u = 6 then 5 else if u = 8 then 127 else 1
def tenB (x : Int) : Bool := decide (-99999 ≤ x) && decide (x ≤ 99999)
theorem uG_cases {u : Int} (h : uG u = true) : u = 1 ∨ u = 2 ∨ u = 3 ∨ u = 4 ∨ u = 5 ∨ u = 6 ∨ u = 7 ∨ u = 8 := by
  unfold uG at h; simp only [Bool.and_eq_true, decide_eq_true_eq] at h; omega
theorem tenB_le {x : Int} (h : tenB x = true) : -99999 ≤ x ∧ x ≤ 99999 := by
  unfold tenB at h; simp only [Bool.and_eq_true, decide_eq_true_eq] at h; exact h
/-- The nearest number to a fraction, away from 0 in the middle. -/
def rnd (a b : Int) : Int := if a < 0 then -((-2 * a + b).tdiv (2 * b)) else (2 * a + b).tdiv (2 * b)
theorem tdiv_within {x y : Int} (hx : 0 ≤ x) (hy : 0 < y) : 0 ≤ x.tdiv y ∧ x.tdiv y ≤ x := ⟨Int.tdiv_nonneg hx (by omega), Int.tdiv_le_self _ hx⟩
theorem rnd_facts {a b : Int} (ha : -1000000000000000 ≤ a) (ha' : a ≤ 1000000000000000) (hb : 1 ≤ b) (hb' : b ≤ 1000000000) :
    IntKind.i64.wrap (-2 * a) = -2 * a ∧ IntKind.i64.wrap (2 * a) = 2 * a ∧ IntKind.i64.wrap (2 * b) = 2 * b ∧ IntKind.i64.wrap (-2 * a + b) = -2 * a + b ∧ IntKind.i64.wrap (2 * a + b) = 2 * a + b ∧ ¬ 2 * b = 0 := by
  refine ⟨wrap_small (by omega) (by omega), wrap_small (by omega) (by omega), wrap_small (by omega) (by omega), wrap_small (by omega) (by omega), wrap_small (by omega) (by omega), by omega⟩
theorem c_near (k : Nat) (a b : Int) (ha : -1000000000000000 ≤ a) (ha' : a ≤ 1000000000000000) (hb : 1 ≤ b) (hb' : b ≤ 1000000000) (hk : 1 ≤ k) : callK C k 122 [.c (.int .i64 a), .c (.int .i64 b)] [] = some (.c (.int .i64 (rnd a b)), hpOf [] []) := by
  obtain ⟨k, rfl⟩ : ∃ m, k = m + 1 := ⟨k - 1, by omega⟩
  rw [callK_fn rfl F122 code122]
  obtain ⟨w1, w2, w3, w4, w5, w6⟩ := rnd_facts ha ha' hb hb'
  have hb0 : ¬ b = 0 := by omega
  unfold rnd
  by_cases h : a < 0
  · obtain ⟨t1, t2⟩ := tdiv_within (x := -2 * a + b) (y := 2 * b) (by omega) (by omega)
    have w7 : IntKind.i64.wrap ((-2 * a + b).tdiv (2 * b)) = (-2 * a + b).tdiv (2 * b) := wrap_small (by omega) (by omega)
    have w8 : IntKind.i64.wrap (-((-2 * a + b).tdiv (2 * b))) = -((-2 * a + b).tdiv (2 * b)) := wrap_small (by omega) (by omega)
    simp [R122_0, R122_1, R122_2, R122_3, Tryd.f122, h, w1, w3, w4, w7, w8, w6]
  · obtain ⟨t1, t2⟩ := tdiv_within (x := 2 * a + b) (y := 2 * b) (by omega) (by omega)
    have w7 : IntKind.i64.wrap ((2 * a + b).tdiv (2 * b)) = (2 * a + b).tdiv (2 * b) := wrap_small (by omega) (by omega)
    simp [R122_0, R122_1, R122_2, R122_3, Tryd.f122, h, w2, w3, w5, w7, w6]
theorem c_unitG (k : Nat) (u : Int) (hu : uG u = true) (hk : 1 ≤ k) : ∃ wv, callK C k 115 [.c (.int .i64 u)] [] = some (.tp [.ag [.c (.int .i64 (kI u + 1)), .c (.string wv), .c (.int .i64 (uN u)), .c (.int .i64 (uA u)), .c (.int .i64 (uD u))], .c (.bool true)], hpOf [] []) := by
  obtain ⟨k, rfl⟩ : ∃ m, k = m + 1 := ⟨k - 1, by omega⟩
  rw [callK_fn rfl F115 code115]
  rcases uG_cases hu with rfl | rfl | rfl | rfl | rfl | rfl | rfl | rfl
  · exact ⟨⟨#[67]⟩, by simp [R115_0, R115_1, R115_2, R115_3, R115_4, R115_5, R115_6, R115_7, R115_8, R115_9, R115_10, R115_11, R115_12, R115_13, R115_14, R115_15, R115_16, R115_17, R115_18, Tryd.f115, kI, uN, uA, uD]⟩
  · exact ⟨⟨#[70]⟩, by simp [R115_0, R115_1, R115_2, R115_3, R115_4, R115_5, R115_6, R115_7, R115_8, R115_9, R115_10, R115_11, R115_12, R115_13, R115_14, R115_15, R115_16, R115_17, R115_18, Tryd.f115, kI, uN, uA, uD]⟩
  · exact ⟨⟨#[75]⟩, by simp [R115_0, R115_1, R115_2, R115_3, R115_4, R115_5, R115_6, R115_7, R115_8, R115_9, R115_10, R115_11, R115_12, R115_13, R115_14, R115_15, R115_16, R115_17, R115_18, Tryd.f115, kI, uN, uA, uD]⟩
  · exact ⟨⟨#[109, 47, 115]⟩, by simp [R115_0, R115_1, R115_2, R115_3, R115_4, R115_5, R115_6, R115_7, R115_8, R115_9, R115_10, R115_11, R115_12, R115_13, R115_14, R115_15, R115_16, R115_17, R115_18, Tryd.f115, kI, uN, uA, uD]⟩
  · exact ⟨⟨#[107, 116]⟩, by simp [R115_0, R115_1, R115_2, R115_3, R115_4, R115_5, R115_6, R115_7, R115_8, R115_9, R115_10, R115_11, R115_12, R115_13, R115_14, R115_15, R115_16, R115_17, R115_18, Tryd.f115, kI, uN, uA, uD]⟩
  · exact ⟨⟨#[107, 109, 47, 104]⟩, by simp [R115_0, R115_1, R115_2, R115_3, R115_4, R115_5, R115_6, R115_7, R115_8, R115_9, R115_10, R115_11, R115_12, R115_13, R115_14, R115_15, R115_16, R115_17, R115_18, Tryd.f115, kI, uN, uA, uD]⟩
  · exact ⟨⟨#[109, 109]⟩, by simp [R115_0, R115_1, R115_2, R115_3, R115_4, R115_5, R115_6, R115_7, R115_8, R115_9, R115_10, R115_11, R115_12, R115_13, R115_14, R115_15, R115_16, R115_17, R115_18, Tryd.f115, kI, uN, uA, uD]⟩
  · exact ⟨⟨#[105, 110]⟩, by simp [R115_0, R115_1, R115_2, R115_3, R115_4, R115_5, R115_6, R115_7, R115_8, R115_9, R115_10, R115_11, R115_12, R115_13, R115_14, R115_15, R115_16, R115_17, R115_18, Tryd.f115, kI, uN, uA, uD]⟩
theorem c_unitB (k : Nat) (u : Int) (hu : uG u = false) (hk : 1 ≤ k) : ∃ wv, callK C k 115 [.c (.int .i64 u)] [] = some (.tp [.ag [.c (.int .i64 0), .c (.string wv), .c (.int .i64 0), .c (.int .i64 0), .c (.int .i64 0)], .c (.bool false)], hpOf [] []) := by
  obtain ⟨k, rfl⟩ : ∃ m, k = m + 1 := ⟨k - 1, by omega⟩
  rw [callK_fn rfl F115 code115]
  have h : ∀ n : Int, 1 ≤ n → n ≤ 8 → ¬ u = n := by
    intro n h1 h2 e
    subst e
    simp [uG, h1, h2] at hu
  have b : ∀ n : Int, 1 ≤ n → n ≤ 8 → (u == n) = false := fun n h1 h2 => by simpa using h n h1 h2
  have e1 := h 1 (by omega) (by omega)
  have e2 := h 2 (by omega) (by omega)
  have e3 := h 3 (by omega) (by omega)
  have e4 := h 4 (by omega) (by omega)
  have e5 := h 5 (by omega) (by omega)
  have e6 := h 6 (by omega) (by omega)
  have e7 := h 7 (by omega) (by omega)
  have e8 := h 8 (by omega) (by omega)
  have f1 := b 1 (by omega) (by omega)
  have f2 := b 2 (by omega) (by omega)
  have f3 := b 3 (by omega) (by omega)
  have f4 := b 4 (by omega) (by omega)
  have f5 := b 5 (by omega) (by omega)
  have f6 := b 6 (by omega) (by omega)
  have f7 := b 7 (by omega) (by omega)
  have f8 := b 8 (by omega) (by omega)
  exact ⟨ByteArray.empty, by simp [R115_0, R115_1, R115_2, R115_3, R115_4, R115_5, R115_6, R115_7, R115_8, R115_9, R115_10, R115_11, R115_12, R115_13, R115_14, R115_15, R115_16, R115_17, R115_18, Tryd.f115, e1, e2, e3, e4, e5, e6, e7, e8, f1, f2, f3, f4, f5, f6, f7, f8]⟩
theorem c_isTenths (k : Nat) (x : Int) (hk : 3 ≤ k) : callK C k 116 [.c (.int .i64 x)] [] = some (.c (.bool (tenB x)), hpOf [] []) := by
  obtain ⟨k, rfl⟩ : ∃ m, k = m + 2 := ⟨k - 2, by omega⟩
  rw [callK_fn rfl F116 code116]
  have := c_within (k + 1) x (-99999) 99999 (by omega)
  simp [R116_0, R116_1, Tryd.f116, this, tenB]
theorem c_l3Tenths3 (k : Nat) (x : Int) (hk : 3 ≤ k) : callK C k 118 [.c (.int .i64 x)] [] = some (.c (.bool (tenB x)), hpOf [] []) := by
  obtain ⟨k, rfl⟩ : ∃ m, k = m + 2 := ⟨k - 2, by omega⟩
  rw [callK_fn rfl F118 code118]
  have := c_l1In (k + 1) x (-99999) 99999 (by omega)
  simp [R118_0, R118_1, Tryd.f118, this, tenB]
theorem c_l3Unit3 (k : Nat) (x : Int) (hk : 3 ≤ k) : callK C k 119 [.c (.int .i64 x)] [] = some (.c (.bool (uG x)), hpOf [] []) := by
  obtain ⟨k, rfl⟩ : ∃ m, k = m + 2 := ⟨k - 2, by omega⟩
  rw [callK_fn rfl F119 code119]
  have := c_l1In (k + 1) x 1 8 (by omega)
  simp [R119_0, R119_1, Tryd.f119, this, uG]
theorem c_l3Kind3 (k : Nat) (x : Int) (hk : 1 ≤ k) : callK C k 124 [.c (.int .i64 x)] [] = some (.c (.int .i64 (kI x)), hpOf [] []) := by
  obtain ⟨k, rfl⟩ : ∃ m, k = m + 1 := ⟨k - 1, by omega⟩
  rw [callK_fn rfl F124 code124]
  unfold kI
  by_cases h1 : x ≤ 3
  · simp [R124_0, R124_1, R124_2, R124_3, R124_4, R124_5, Tryd.f124, h1]
  · by_cases h2 : x ≤ 6 <;> simp [R124_0, R124_1, R124_2, R124_3, R124_4, R124_5, Tryd.f124, h1, h2]
/-- A quantity in another unit. -/
def cvA (x a b : Int) : Int := uN b * (uD a * x - uA a) + uA b * uN a
def cvB (a b : Int) : Int := uN a * uD b
def cvY (x a b : Int) : Int := rnd (cvA x a b) (cvB a b)
theorem u_bounds {u : Int} (h : uG u = true) : 1 ≤ uN u ∧ uN u ≤ 3600 ∧ 0 ≤ uA u ∧ uA u ≤ 5463 ∧ 1 ≤ uD u ∧ uD u ≤ 1852 := by
  rcases uG_cases h with rfl | rfl | rfl | rfl | rfl | rfl | rfl | rfl <;> decide
theorem cv_bounds {x a b : Int} (ha : uG a = true) (hb : uG b = true) (h0 : -1000000 ≤ x) (h1 : x ≤ 1000000) :
    (-2000000000 ≤ uD a * x ∧ uD a * x ≤ 2000000000) ∧ (-2000100000 ≤ uD a * x - uA a ∧ uD a * x - uA a ≤ 2000000000) ∧
    (-10000000000000 ≤ uN b * (uD a * x - uA a) ∧ uN b * (uD a * x - uA a) ≤ 10000000000000) ∧ (0 ≤ uA b * uN a ∧ uA b * uN a ≤ 20000000) ∧ (-10000000000000 ≤ cvA x a b ∧ cvA x a b ≤ 10000100000000) ∧ (1 ≤ cvB a b ∧ cvB a b ≤ 7000000) := by
  obtain ⟨n1, n2, a1, a2, d1, d2⟩ := u_bounds ha
  obtain ⟨m1, m2, e1, e2, f1, f2⟩ := u_bounds hb
  have p1 : -2000000000 ≤ uD a * x ∧ uD a * x ≤ 2000000000 := by
    rcases uG_cases ha with rfl | rfl | rfl | rfl | rfl | rfl | rfl | rfl <;> (simp only [uD]; constructor <;> (simp; try omega))
  have p2 : -2000100000 ≤ uD a * x - uA a ∧ uD a * x - uA a ≤ 2000000000 := by omega
  have p3 : -10000000000000 ≤ uN b * (uD a * x - uA a) ∧ uN b * (uD a * x - uA a) ≤ 10000000000000 := by
    generalize uD a * x - uA a = y at p2
    rcases uG_cases hb with rfl | rfl | rfl | rfl | rfl | rfl | rfl | rfl <;> (simp only [uN]; constructor <;> (simp; try omega))
  have p4 : 0 ≤ uA b * uN a ∧ uA b * uN a ≤ 20000000 := ⟨Int.mul_nonneg e1 (by omega), by have := Int.mul_le_mul e2 n2 (by omega) (by omega); omega⟩
  have p6 : 1 ≤ cvB a b ∧ cvB a b ≤ 7000000 := ⟨by unfold cvB; exact Int.mul_pos (by omega) (by omega), by unfold cvB; have := Int.mul_le_mul n2 f2 (by omega) (by omega); omega⟩
  exact ⟨p1, p2, p3, p4, by unfold cvA; omega, p6⟩

end Go.Proofs.YthbekdccfleaoaaDoor.Eng
