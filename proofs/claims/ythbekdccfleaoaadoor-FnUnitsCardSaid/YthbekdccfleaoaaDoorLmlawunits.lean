/- A deterministic reading of Go code over plain data: what functions of the program compute. No conditions. -/
import Derived.Test.YthbekdccfleaoaaDoorLmbase
import Derived.Test.YthbekdccfleaoaaDoorLmimpl
import Derived.Test.YthbekdccfleaoaaDoorLmgood
import Derived.Test.YthbekdccfleaoaaDoorLmitoa
import Derived.Test.YthbekdccfleaoaaDoorLmappendck
import Derived.Test.YthbekdccfleaoaaDoorLmsplit
import Derived.Test.YthbekdccfleaoaaDoorLmquantity
import Derived.Test.YthbekdccfleaoaaDoorLmnumtext
import Derived.Test.YthbekdccfleaoaaDoorLmpq1
import Derived.Test.YthbekdccfleaoaaDoorLmpq2
import Derived.Test.YthbekdccfleaoaaDoorLmpq3
import Derived.Test.YthbekdccfleaoaaDoorLmconv
import Derived.Test.YthbekdccfleaoaaDoorLmconv2
import Derived.Test.YthbekdccfleaoaaDoorLmdraws
import Derived.Test.YthbekdccfleaoaaDoorLmdrawc
import Derived.Test.YthbekdccfleaoaaDoorLmlawpq
import Derived.Test.YthbekdccfleaoaaDoorEngT
import Derived.Lib.IndexLaws
namespace Go.Proofs.YthbekdccfleaoaaDoor.Eng
open Go Go.Proofs
set_option maxRecDepth 100000
set_option maxHeartbeats 2000000
set_option linter.unusedSimpArgs false
set_option linter.unusedVariables false
attribute [local simp] finK fin1 hpOf xi renQ isRoot runCode runOps Eng.step wantedV astep val ofO made loadV storeV find V.cells bin binT un1 setAt fieldAddrV fieldV indexAddrV indexV bounds sliceV convV lenV foldV max2V min2V callO bor rdsO wrsO seen_none okD_none loops keepIds resV resultsV St.ev TK.agg refs refsL refsO V.one V.isC Value.oneCell' ren renL renO noTag noTagL noTagR noTagO nodup mapO passV frs psi refsR newD loopNext opsAt idx flatAt rootOf backR newsV appendV copyV clearV strV bytesOf nilCmp buildV fillF chunk
attribute [local simp] cT cF cX cWR cOW cK X ints_length ints_get ints_getElem ints_drop ints_take ints_append ints_nil ints_set
attribute [local simp] ints_replicate
attribute [local simp] putV_some putV_none putH_app applyD_nil applyD_cons seen_app gc_ρ gc_H gc_tick st0_ρ st0_H st0_tick retV callRo callV_if borL_nil borL_cons ints_snoc take_self callWr cutH_app findQ afterV exportV_0 exportV_n okD_nil okD_cons sub_seq0 sub_seq1 sub_cond0 sub_cond1 sub_block sub_loop sub_nil young_far young_none hidW_nil mayW_nil pairs okI ok_0 ok_1 ok_2
attribute [local simp] T3 T4 T5 T9 T22 T28 T41 T45 T89 T97 T102 T103 T105 T120 T126 T137 T141 T143 T144
attribute [local simp] young_near clo cloF Region.binds Nat.testBit hidW declW mayW List.findIdx?_cons
theorem tdiv_mono {a b d : Int} (ha : 0 ≤ a) (h : a ≤ b) (hd : 0 < d) : a.tdiv d ≤ b.tdiv d := by
  rw [Int.tdiv_eq_ediv_of_nonneg ha, Int.tdiv_eq_ediv_of_nonneg (by omega)]
  exact Int.ediv_le_ediv hd h
theorem rnd_mono {a b d : Int} (h : a ≤ b) (hd : 0 < d) : rnd a d ≤ rnd b d := by
  unfold rnd
  by_cases ha : a < 0
  · rw [if_pos ha]
    have h0 : 0 ≤ (-2 * a + d).tdiv (2 * d) := Int.tdiv_nonneg (by omega) (by omega)
    by_cases hb : b < 0
    · rw [if_pos hb]
      have := tdiv_mono (a := -2 * b + d) (b := -2 * a + d) (d := 2 * d) (by omega) (by omega) (by omega)
      omega
    · rw [if_neg hb]
      have h1 : 0 ≤ (2 * b + d).tdiv (2 * d) := Int.tdiv_nonneg (by omega) (by omega)
      omega
  · rw [if_neg ha, if_neg (by omega)]
    exact tdiv_mono (by omega) (by omega) (by omega)
/-- Twice the nearest times d is within d of twice a. -/
theorem rnd_near {a d : Int} (hd : 0 < d) : 2 * (rnd a d * d) - 2 * a ≤ d ∧ 2 * a - 2 * (rnd a d * d) ≤ d := by
  unfold rnd
  have key : ∀ n : Int, 0 ≤ n → (n.tdiv (2 * d)) * (2 * d) ≤ n ∧ n < (n.tdiv (2 * d)) * (2 * d) + 2 * d := by
    intro n hn
    rw [Int.tdiv_eq_ediv_of_nonneg hn]
    have h1 := Int.emod_add_mul_ediv n (2 * d)
    have h2 := Int.emod_nonneg n (show (2 * d) ≠ 0 by omega)
    have h3 := Int.emod_lt_of_pos n (show 0 < 2 * d by omega)
    rw [Int.mul_comm (2 * d) (n / (2 * d))] at h1
    omega
  by_cases ha : a < 0
  · rw [if_pos ha]
    obtain ⟨k1, k2⟩ := key (-2 * a + d) (by omega)
    generalize (-2 * a + d).tdiv (2 * d) = q at *
    rw [Int.neg_mul]
    rw [show q * (2 * d) = 2 * (q * d) by rw [← Int.mul_assoc, Int.mul_comm q 2, Int.mul_assoc]] at k1 k2
    omega
  · rw [if_neg ha]
    obtain ⟨k1, k2⟩ := key (2 * a + d) (by omega)
    generalize (2 * a + d).tdiv (2 * d) = q at *
    rw [show q * (2 * d) = 2 * (q * d) by rw [← Int.mul_assoc, Int.mul_comm q 2, Int.mul_assoc]] at k1 k2
    omega
theorem rnd_exact {q d : Int} (hd : 0 < d) : rnd (q * d) d = q := by
  obtain ⟨h1, h2⟩ := rnd_near (a := q * d) hd
  generalize rnd (q * d) d = r at *
  have e : (r - q) * d = r * d - q * d := Int.sub_mul r q d
  by_cases h : r = q
  · exact h
  · exfalso
    by_cases h3 : r < q
    · have := Int.mul_le_mul_of_nonneg_right (show r - q ≤ -1 by omega) (show 0 ≤ d by omega)
      omega
    · have := Int.mul_le_mul_of_nonneg_right (show 1 ≤ r - q by omega) (show 0 ≤ d by omega)
      omega
theorem cv_self {x u : Int} (hx : tenB x = true) (hu : uG u = true) : cvO x u u = true ∧ cvV x u u = x := by
  obtain ⟨n1, n2, a1, a2, d1, d2⟩ := u_bounds hu
  have hp : 0 < cvB u u := by unfold cvB; exact Int.mul_pos (by omega) (by omega)
  have e : cvA x u u = x * cvB u u := by
    unfold cvA cvB
    rw [Int.mul_sub, Int.mul_comm (uA u) (uN u)]
    have : uN u * (uD u * x) = x * (uN u * uD u) := by rw [← Int.mul_assoc, Int.mul_comm]
    omega
  have ey : cvY x u u = x := by unfold cvY; rw [e]; exact rnd_exact hp
  have eo : cvO x u u = true := by unfold cvO; rw [ey, hx, hu]; simp
  exact ⟨eo, by unfold cvV; rw [if_pos eo, ey]⟩
theorem c_implWord (k : Nat) (u : Int) (hu : (decide (1 ≤ u) && decide (u ≤ 8)) = true) (hk : 10 ≤ k) : callK C k 55 [.c (.int .i64 u)] [] = some (.tp [.c (.string (bs (wordL u))), .c (.bool true)], hpOf [] []) := by
  obtain ⟨k, rfl⟩ : ∃ m, k = m + 9 := ⟨k - 9, by omega⟩
  rw [callK_fn rfl F55 code55]
  obtain ⟨kd, nm, ad, dn, h⟩ := c_unitOf (k + 8) u (by omega)
  rw [hu, if_pos rfl] at h
  simp [R55_0, R55_1, R55_2, Tryd.f55, lit0, h]
def skO (a b : Int) : Bool := uG a && uG b
def skV (a b : Int) : Bool := skO a b && (kI a == kI b)
theorem c_implSame (k : Nat) (a b : Int) (hk : 10 ≤ k) : callK C k 59 [.c (.int .i64 a), .c (.int .i64 b)] [] = some (.tp [.c (.bool (skV a b)), .c (.bool (skO a b))], hpOf [] []) := by
  obtain ⟨k, rfl⟩ : ∃ m, k = m + 9 := ⟨k - 9, by omega⟩
  rw [callK_fn rfl F59 code59]
  unfold skV skO
  cases ha : uG a
  · obtain ⟨wa, ua⟩ := c_unitB (k + 8) a ha (by omega)
    cases hb : uG b
    · obtain ⟨wb, ub⟩ := c_unitB (k + 8) b hb (by omega)
      simp [R59_0, R59_1, R59_2, R59_3, R59_4, R59_5, Tryd.f59, undef, ua, ub]
    · obtain ⟨wb, ub⟩ := c_unitG (k + 8) b hb (by omega)
      simp [R59_0, R59_1, R59_2, R59_3, R59_4, R59_5, Tryd.f59, undef, ua, ub]
  obtain ⟨wa, ua⟩ := c_unitG (k + 8) a ha (by omega)
  cases hb : uG b
  · obtain ⟨wb, ub⟩ := c_unitB (k + 8) b hb (by omega)
    simp [R59_0, R59_1, R59_2, R59_3, R59_4, R59_5, Tryd.f59, undef, ua, ub]
  obtain ⟨wb, ub⟩ := c_unitG (k + 8) b hb (by omega)
  by_cases hk1 : kI a = kI b
  · obtain ⟨k1, k2, k3, k4⟩ := kI_same a b hk1
    simp [R59_0, R59_1, R59_2, R59_3, R59_4, R59_5, Tryd.f59, undef, ua, ub, hk1, k1, k2, k3, k4]
  · obtain ⟨k1, k2, k3, k4, k5⟩ := kI_not a b hk1
    simp [R59_0, R59_1, R59_2, R59_3, R59_4, R59_5, Tryd.f59, undef, ua, ub, hk1, k1, k2, k3, k4, k5]
theorem c_specSame (k : Nat) (a b : Int) (hk : 10 ≤ k) : callK C k 60 [.c (.int .i64 a), .c (.int .i64 b)] [] = some (.tp [.c (.bool (skV a b)), .c (.bool (skO a b))], hpOf [] []) := by
  obtain ⟨k, rfl⟩ : ∃ m, k = m + 9 := ⟨k - 9, by omega⟩
  rw [callK_fn rfl F60 code60]
  have ua := c_l3Unit3 (k + 8) a (by omega)
  have ub := c_l3Unit3 (k + 8) b (by omega)
  have ka := c_l3Kind3 (k + 8) a (by omega)
  have kb := c_l3Kind3 (k + 8) b (by omega)
  unfold skV skO
  cases ha : uG a
  · rw [ha] at ua
    simp [R60_0, R60_1, R60_2, R60_3, Tryd.f60, undef, ua]
  rw [ha] at ua
  cases hb : uG b
  · rw [hb] at ub
    simp [R60_0, R60_1, R60_2, R60_3, Tryd.f60, undef, ua, ub]
  rw [hb] at ub
  by_cases hk1 : kI a = kI b
  · obtain ⟨k1, k2, k3, k4⟩ := kI_same a b hk1
    simp [R60_0, R60_1, R60_2, R60_3, Tryd.f60, undef, ua, ub, ka, kb, hk1, k1, k4]
  · obtain ⟨k1, k2, k3, k4, k5⟩ := kI_not a b hk1
    simp [R60_0, R60_1, R60_2, R60_3, Tryd.f60, undef, ua, ub, ka, kb, hk1, k1, k4]
theorem c_DrawQuantityText (k : Nat) (code : List Int) (hb : ∀ x ∈ code, 0 ≤ x ∧ x ≤ 255) (hl : code.length ≤ maxLen) (hk : 100 ≤ k) : ∃ (x u : Int), callK C k 51 [.sq false true 1 (u8s code)] [] = some (.tp [.c (.int .i64 x), .c (.int .i64 u)], hpOf [] []) := by
  obtain ⟨k, rfl⟩ : ∃ m, k = m + 9 := ⟨k - 9, by omega⟩
  rw [callK_fn rfl F51 code51]
  obtain ⟨x, c0, e0, p0⟩ := c_tenthsDr (k + 8) ⟨code, 0, 0⟩ 0 ⟨hb, hl, Nat.le_refl _⟩ (by omega) (by omega)
  obtain ⟨u, c1, e1, p1⟩ := c_unitDr (k + 8) c0 _ p0 (by omega) (by omega)
  simp [curO, curE] at e0 e1
  exact ⟨x, u, by simp [R51_0, R51_1, R51_2, Tryd.f51, e0, e1]⟩
theorem c_DrawSameKind (k : Nat) (code : List Int) (hb : ∀ x ∈ code, 0 ≤ x ∧ x ≤ 255) (hl : code.length ≤ maxLen) (hk : 100 ≤ k) : ∃ (x u : Int), callK C k 58 [.sq false true 1 (u8s code)] [] = some (.tp [.c (.int .i64 x), .c (.int .i64 u)], hpOf [] []) := by
  obtain ⟨k, rfl⟩ : ∃ m, k = m + 9 := ⟨k - 9, by omega⟩
  rw [callK_fn rfl F58 code58]
  obtain ⟨x, c0, e0, p0⟩ := c_unitDr (k + 8) ⟨code, 0, 0⟩ 0 ⟨hb, hl, Nat.le_refl _⟩ (by omega) (by omega)
  obtain ⟨u, c1, e1, p1⟩ := c_unitDr (k + 8) c0 _ p0 (by omega) (by omega)
  simp [curO, curE] at e0 e1
  exact ⟨x, u, by simp [R58_0, R58_1, R58_2, Tryd.f58, e0, e1]⟩
theorem c_spoilt (k : Nat) (c : Cur) (m : Nat) (t : List UInt8) (h : c.P m) (hm : m ≤ 100000000) (hl : t.length ≤ 1000) (hk : 100 ≤ k) : ∃ (r : List UInt8) (c' : Cur), callK C k 123 [.p 0 0 3 0 0, .c (.string (bs t)), .c (.string (bs [45, 48, 46, 32, 67]))] [curO c] = some (.c (.string (bs r)), hpOf [some (curO c')] []) ∧ r.length ≤ 3000 := by
  obtain ⟨k, rfl⟩ : ∃ m, k = m + 9 := ⟨k - 9, by omega⟩
  rw [callK_fn rfl F123 code123]
  by_cases h0 : t = []
  · subst h0
    refine ⟨[45], c, ?_, by simp⟩
    simp [R123_0, R123_1, R123_2, R123_3, R123_4, R123_5, R123_6, R123_7, R123_8, R123_9, R123_10, Tryd.f123, curO, curE, lit0, bs_neq, bs_size, bs_extract]
  have hp : 0 < t.length := List.length_pos_iff.2 h0
  obtain ⟨r1, c1, e1, r1a, r1b, p1⟩ := c_pick (k + 8) c m t.length h (by omega) (by omega) (by omega)
  obtain ⟨i, rfl⟩ : ∃ i : Nat, r1 = i := ⟨r1.toNat, by omega⟩
  have hi : i < t.length := by omega
  obtain ⟨r2, c2, e2, r2a, r2b, p2⟩ := c_pick (k + 8) c1 _ 5 p1 (by omega) (by omega) (by omega)
  obtain ⟨r3, c3, e3, r3a, r3b, p3⟩ := c_pick (k + 8) c2 _ 3 p2 (by omega) (by omega) (by omega)
  simp [curO, curE] at e1 e2 e3
  have g1 : (i : Int) ≤ (t.length : Int) := by omega
  have g2 : i ≤ t.length := by omega
  have g3 : (i : Int) + 1 ≤ (t.length : Int) := by omega
  have g4 : i + 1 ≤ t.length := by omega
  have g5 : (0 : Int) ≤ (i : Int) + 1 := by omega
  have g6 : ((i : Int) + 1).toNat = i + 1 := by omega
  have w1 : IntKind.i64.wrap ((i : Int) + 1) = (i : Int) + 1 := wrap_small (by omega) (by omega)
  obtain ⟨T1, hT1⟩ : ∃ T, (bs t).extract 0 i = bs T ∧ T.length ≤ 1000 := ⟨_, bs_extract t 0 i, by simp; omega⟩
  obtain ⟨T2, hT2⟩ : ∃ T, (bs t).extract i t.length = bs T ∧ T.length ≤ 1000 := ⟨_, bs_extract t i t.length, by simp; omega⟩
  obtain ⟨T3, hT3⟩ : ∃ T, (bs t).extract (i + 1) t.length = bs T ∧ T.length ≤ 1000 := ⟨_, bs_extract t (i + 1) t.length, by simp; omega⟩
  obtain ⟨hT1, n1⟩ := hT1
  obtain ⟨hT2, n2⟩ := hT2
  obtain ⟨hT3, n3⟩ := hT3
  have a1 : T1.length + 1 ≤ 9223372036854775807 := by omega
  have a2 : T1.length + 1 + T2.length ≤ 9223372036854775807 := by omega
  have a3 : T1.length + 1 + T3.length ≤ 9223372036854775807 := by omega
  have a4 : T1.length + T3.length ≤ 9223372036854775807 := by omega
  have a5 : T1.length + (T2.length + 1) ≤ 9223372036854775807 := by omega
  have a6 : T1.length + (T3.length + 1) ≤ 9223372036854775807 := by omega
  have hX : ∀ j, (bs [45, 48, 46, 32, 67]).extract j 5 = bs (([45, 48, 46, 32, 67].drop j).take (5 - j)) := fun j => bs_extract _ j 5
  have hY : ∀ l : List UInt8, (bs l).extract 0 1 = bs (l.take 1) := fun l => by rw [bs_extract]; simp
  have hq : r3 = 0 ∨ r3 = 1 ∨ r3 = 2 := by omega
  have hj : r2 = 0 ∨ r2 = 1 ∨ r2 = 2 ∨ r2 = 3 ∨ r2 = 4 := by omega
  obtain ⟨wv, hwv⟩ : ∃ wv : UInt8, (r2 = 0 ∧ wv = 45) ∨ (r2 = 1 ∧ wv = 48) ∨ (r2 = 2 ∧ wv = 46) ∨ (r2 = 3 ∧ wv = 32) ∨ (r2 = 4 ∧ wv = 67) := by
    rcases hj with h | h | h | h | h
    · exact ⟨45, by simp [h]⟩
    · exact ⟨48, by simp [h]⟩
    · exact ⟨46, by simp [h]⟩
    · exact ⟨32, by simp [h]⟩
    · exact ⟨67, by simp [h]⟩
  rcases hq with rfl | rfl | rfl
  · refine ⟨T1 ++ [wv] ++ T2, c3, ?_, by simp; omega⟩
    rcases hwv with ⟨rfl, rfl⟩ | ⟨rfl, rfl⟩ | ⟨rfl, rfl⟩ | ⟨rfl, rfl⟩ | ⟨rfl, rfl⟩ <;>
      simp [R123_0, R123_1, R123_2, R123_3, R123_4, R123_5, R123_6, R123_7, R123_8, R123_9, R123_10, Tryd.f123, curO, curE, lit0, bs_neq, bs_size, h0, e1, e2, e3, hT1, hT2, hT3, hX, hY, bs_append, g1, g2, g3, g4, g5, g6, w1, a1, a2, a3, a4, a5, a6]
  · refine ⟨T1 ++ [wv] ++ T3, c3, ?_, by simp; omega⟩
    rcases hwv with ⟨rfl, rfl⟩ | ⟨rfl, rfl⟩ | ⟨rfl, rfl⟩ | ⟨rfl, rfl⟩ | ⟨rfl, rfl⟩ <;>
      simp [R123_0, R123_1, R123_2, R123_3, R123_4, R123_5, R123_6, R123_7, R123_8, R123_9, R123_10, Tryd.f123, curO, curE, lit0, bs_neq, bs_size, h0, e1, e2, e3, hT1, hT2, hT3, hX, hY, bs_append, g1, g2, g3, g4, g5, g6, w1, a1, a2, a3, a4, a5, a6]
  · refine ⟨T1 ++ T3, c3, ?_, by simp; omega⟩
    rcases hwv with ⟨rfl, rfl⟩ | ⟨rfl, rfl⟩ | ⟨rfl, rfl⟩ | ⟨rfl, rfl⟩ | ⟨rfl, rfl⟩ <;>
      simp [R123_0, R123_1, R123_2, R123_3, R123_4, R123_5, R123_6, R123_7, R123_8, R123_9, R123_10, Tryd.f123, curO, curE, lit0, bs_neq, bs_size, h0, e1, e2, e3, hT1, hT2, hT3, hX, hY, bs_append, g1, g2, g3, g4, g5, g6, w1, a1, a2, a3, a4, a5, a6]
theorem c_DrawParseQuantity (k : Nat) (code : List Int) (hb : ∀ x ∈ code, 0 ≤ x ∧ x ≤ 255) (hl : code.length ≤ maxLen) (hk : 200 ≤ k) : ∃ (r : List UInt8), callK C k 57 [.sq false true 1 (u8s code)] [] = some (.c (.string (bs r)), hpOf [] []) ∧ r.length ≤ 3000 := by
  obtain ⟨k, rfl⟩ : ∃ m, k = m + 9 := ⟨k - 9, by omega⟩
  rw [callK_fn rfl F57 code57]
  obtain ⟨x, c0, e0, p0⟩ := c_tenthsDr (k + 8) ⟨code, 0, 0⟩ 0 ⟨hb, hl, Nat.le_refl _⟩ (by omega) (by omega)
  obtain ⟨u, c1, e1, p1⟩ := c_unitDr (k + 8) c0 _ p0 (by omega) (by omega)
  obtain ⟨S, b, qt, hS⟩ : ∃ (S : List UInt8) (b : Bool), callK C (k + 8) 53 [.c (.int .i64 x), .c (.int .i64 u)] [] = some (.tp [.c (.string (bs S)), .c (.bool b)], hpOf [] []) ∧ S.length ≤ 1000 := by
    have h := c_specQua (k + 8) x u (by omega)
    by_cases hc : ((decide (-99999 ≤ x) && decide (x ≤ 99999)) && (decide (1 ≤ u) && decide (u ≤ 8))) = true
    · rw [if_pos hc] at h
      refine ⟨_, _, h, ?_⟩
      simp only [Bool.and_eq_true, decide_eq_true_eq] at hc
      obtain ⟨l1, l2⟩ := abs_len hc.1
      have lw := word_len u
      have ln : (qNum x).length ≤ 14 := by unfold qNum sgnL; split <;> simp <;> omega
      rw [qua_is]; simp; omega
    · rw [if_neg hc] at h
      exact ⟨_, _, h, by simp⟩
  obtain ⟨b2, c2, e2, p2⟩ := c_one (k + 8) c1 _ 3 p1 (by omega) (by omega) (by omega)
  obtain ⟨r, c3, e3, hr⟩ := c_spoilt (k + 8) c2 _ S p2 (by omega) hS (by omega)
  simp [curO, curE] at e0 e1 e2 e3
  have l5 : (⟨#[45, 48, 46, 32, 67]⟩ : ByteArray) = bs [45, 48, 46, 32, 67] := rfl
  cases b2
  · refine ⟨S, ?_, by omega⟩
    simp [R57_0, R57_1, R57_2, R57_3, R57_4, R57_5, Tryd.f57, lit0, e0, e1, qt, e2]
  · refine ⟨r, ?_, hr⟩
    simp [R57_0, R57_1, R57_2, R57_3, R57_4, R57_5, Tryd.f57, lit0, l5, e0, e1, qt, e2, e3]
noncomputable def tuB : Code := (.seq (.region 20 R10_20 false) (.seq (.region 21 R10_21 false) (.seq (.region 22 R10_22 false) (.seq (.region 23 R10_23 false) .ret))))
noncomputable def tuA : Code := (.seq (.region 15 R10_15 false) (.seq (.region 16 R10_16 false) (.seq (.seq (.region 17 R10_17 false) (.seq (.region 18 R10_18 false) (.cond (.tmp 142) (.seq (.region 19 R10_19 false) .ret) .skip))) (.seq (.region 20 R10_20 false) (.seq (.region 21 R10_21 false) (.seq (.region 22 R10_22 false) (.seq (.region 23 R10_23 false) .ret)))))))
theorem tuB_is : (.seq (.region 20 R10_20 false) (.seq (.region 21 R10_21 false) (.seq (.region 22 R10_22 false) (.seq (.region 23 R10_23 false) .ret)))) = tuB := rfl
theorem tuA_is : (.seq (.region 15 R10_15 false) (.seq (.region 16 R10_16 false) (.seq (.seq (.region 17 R10_17 false) (.seq (.region 18 R10_18 false) (.cond (.tmp 142) (.seq (.region 19 R10_19 false) .ret) .skip))) (.seq (.region 20 R10_20 false) (.seq (.region 21 R10_21 false) (.seq (.region 22 R10_22 false) (.seq (.region 23 R10_23 false) .ret))))))) = tuA := rfl
theorem tuB_ok (code : List Int) (hb : ∀ x ∈ code, 0 ≤ x ∧ x ≤ 255) (hl : code.length ≤ maxLen) : ∀ st : St, st.ρ 0 = .sq false true 1 (u8s code) → ∃ s, runCode C (callK C 4999) 4999 (K 10) tuB 0 st = some (.ret, s) ∧ s.ρ 2 = .c (.bool true) := by
  intro st q0
  unfold tuB
  obtain ⟨a, b, D⟩ := c_DrawSameKind 4999 code hb hl (by omega)
  have I := c_implSame 4999 a b (by omega)
  have S := c_specSame 4999 a b (by omega)
  simp [R10_0, R10_1, R10_2, R10_3, R10_4, R10_5, R10_6, R10_7, R10_8, R10_9, R10_10, R10_11, R10_12, R10_13, R10_14, R10_15, R10_16, R10_17, R10_18, R10_19, R10_20, R10_21, R10_22, R10_23, Tryd.f10, undef, lit0, q0, D, I, S]
theorem tuA_ok (code : List Int) (hb : ∀ x ∈ code, 0 ≤ x ∧ x ≤ 255) (hl : code.length ≤ maxLen) : ∀ st : St, st.ρ 0 = .sq false true 1 (u8s code) → ∃ s, runCode C (callK C 4999) 4999 (K 10) tuA 0 st = some (.ret, s) ∧ s.ρ 2 = .c (.bool true) := by
  intro st q0
  unfold tuA
  rw [tuB_is]
  obtain ⟨l, D, hr⟩ := c_DrawParseQuantity 4999 code hb hl (by omega)
  by_cases hm : MT l
  · obtain ⟨x, u, hx, hu, hq⟩ := hm
    have I := c_implPQy 4999 x u hx hu (by omega)
    have S := c_specPQy 4999 x u hx hu (by omega)
    rw [hq] at I S
    simp [R10_0, R10_1, R10_2, R10_3, R10_4, R10_5, R10_6, R10_7, R10_8, R10_9, R10_10, R10_11, R10_12, R10_13, R10_14, R10_15, R10_16, R10_17, R10_18, R10_19, R10_20, R10_21, R10_22, R10_23, Tryd.f10, undef, lit0, q0, D, I, S]
    generalize hr : runCode _ _ _ _ tuB _ _ = res
    obtain ⟨s1, rfl, f2⟩ := loop_at (tuB_ok code hb hl) hr (by simp [q0])
    simp [f2]
  · have I := c_implPQn 4999 l (by omega) hm (by omega)
    have S := c_specPQn 4999 l (by omega) hm (by omega)
    simp [R10_0, R10_1, R10_2, R10_3, R10_4, R10_5, R10_6, R10_7, R10_8, R10_9, R10_10, R10_11, R10_12, R10_13, R10_14, R10_15, R10_16, R10_17, R10_18, R10_19, R10_20, R10_21, R10_22, R10_23, Tryd.f10, undef, lit0, q0, D, I, S]
    generalize hr : runCode _ _ _ _ tuB _ _ = res
    obtain ⟨s1, rfl, f2⟩ := loop_at (tuB_ok code hb hl) hr (by simp [q0])
    simp [f2]
theorem c_rBigU (k : Nat) (code : List Int) (hk : 1 ≤ k) : callK C k 50 [.sq false true 1 (u8s code)] [] = some (.c (.bool (decide (65536 < code.length))), hpOf [] []) := by
  obtain ⟨k, rfl⟩ : ∃ m, k = m + 1 := ⟨k - 1, by omega⟩
  rw [callK_fn rfl F50 code50]
  have : ((65536 : Int) < (code.length : Int)) = (65536 < code.length) := by apply propext; omega
  simp [R50_0, R50_1, Tryd.f50, u8s_length, this]
theorem law_FnUnits (code : List Int) (hl : code.length ≤ maxLen) (hb : ∀ x ∈ code, (Lit.int .u8 x).wf = true) : ∃ k, callK C k 10 [.sq false true 1 (u8s code)] [] = some (.c (.bool true), hpOf [] []) := by
  have hb' : ∀ x ∈ code, 0 ≤ x ∧ x ≤ 255 := fun x hx => by
    have := hb x hx
    simpa [Lit.wf, IntKind.min, IntKind.max, IntKind.signed, IntKind.bits] using this
  refine ⟨5000, ?_⟩
  rw [callK_fn (k := 4999) rfl F10 code10]
  rw [tuA_is]
  have v0 := c_rBigU 4999 code (by omega)
  by_cases h16 : 65536 < code.length
  · simp [h16] at v0
    simp [R10_0, R10_1, R10_2, R10_3, R10_4, R10_5, R10_6, R10_7, R10_8, R10_9, R10_10, R10_11, R10_12, R10_13, R10_14, R10_15, R10_16, R10_17, R10_18, R10_19, R10_20, R10_21, R10_22, R10_23, Tryd.f10, v0]
  simp [h16] at v0
  obtain ⟨x, u, D⟩ := c_DrawQuantityText 4999 code hb' hl (by omega)
  have I := c_implQua 4999 x u (by omega)
  have S := c_specQua 4999 x u (by omega)
  by_cases hc : ((decide (-99999 ≤ x) && decide (x ≤ 99999)) && (decide (1 ≤ u) && decide (u ≤ 8))) = true
  · rw [if_pos hc] at I S
    have hu : (decide (1 ≤ u) && decide (u ≤ 8)) = true := by
      simp only [Bool.and_eq_true] at hc ⊢; exact hc.2
    have hx : tenB x = true := by
      unfold tenB; simp only [Bool.and_eq_true] at hc ⊢; exact hc.1
    obtain ⟨co, cv⟩ := cv_self (x := x) (u := u) hx hu
    have CT := c_implConv 4999 x u u (by omega)
    rw [co, cv] at CT
    simp only [Bool.and_eq_true, decide_eq_true_eq] at hc
    have PQ := c_implPQy 4999 x u hc.1 hc.2 (by omega)
    have UW := c_implWord 4999 u hu (by omega)
    obtain ⟨n, rfl⟩ : ∃ n : Nat, u = 1 + (n : Int) := ⟨(u - 1).toNat, by omega⟩
    have PU := c_implPUy 4999 (wordL (1 + (n : Int))) n (by omega) (fun i hi e => by have := word_inj i n (by omega) (by omega) e; omega) rfl (by omega)
    generalize quaL x (1 + (n : Int)) = Q at *
    generalize wordL (1 + (n : Int)) = W at *
    simp [R10_0, R10_1, R10_2, R10_3, R10_4, R10_5, R10_6, R10_7, R10_8, R10_9, R10_10, R10_11, R10_12, R10_13, R10_14, R10_15, R10_16, R10_17, R10_18, R10_19, R10_20, R10_21, R10_22, R10_23, Tryd.f10, undef, lit0, v0, D, I, S, CT, PQ, UW, PU]
    generalize hr : runCode _ _ _ _ tuA _ _ = res
    obtain ⟨s1, rfl, f2⟩ := loop_at (tuA_ok code hb' hl) hr (by simp)
    simp [f2]
  · rw [if_neg hc] at I S
    simp [R10_0, R10_1, R10_2, R10_3, R10_4, R10_5, R10_6, R10_7, R10_8, R10_9, R10_10, R10_11, R10_12, R10_13, R10_14, R10_15, R10_16, R10_17, R10_18, R10_19, R10_20, R10_21, R10_22, R10_23, Tryd.f10, undef, lit0, v0, D, I, S]
    generalize hr : runCode _ _ _ _ tuA _ _ = res
    obtain ⟨s1, rfl, f2⟩ := loop_at (tuA_ok code hb' hl) hr (by simp)
    simp [f2]

end Go.Proofs.YthbekdccfleaoaaDoor.Eng
