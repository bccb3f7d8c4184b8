/- A deterministic reading of Go code over plain data: what functions of the program compute. No conditions. -/
import Derived.Test.YthbekdccfleaoaaDoorLmbase
import Derived.Test.YthbekdccfleaoaaDoorLmimpl
import Derived.Test.YthbekdccfleaoaaDoorLmgood
import Derived.Test.YthbekdccfleaoaaDoorLmitoa
import Derived.Test.YthbekdccfleaoaaDoorEngT
namespace Go.Proofs.YthbekdccfleaoaaDoor.Eng
open Go Go.Proofs
set_option maxRecDepth 100000
set_option maxHeartbeats 2000000
set_option linter.unusedSimpArgs false
set_option linter.unusedVariables false
attribute [local simp] finK fin1 hpOf xi renQ isRoot runCode runOps Eng.step wantedV astep val ofO made loadV storeV find V.cells bin binT un1 setAt fieldAddrV fieldV indexAddrV indexV bounds sliceV convV lenV foldV max2V min2V callO bor rdsO wrsO seen_none okD_none loops keepIds resV resultsV St.ev TK.agg refs refsL refsO V.one V.isC Value.oneCell' ren renL renO noTag noTagL noTagR noTagO nodup mapO passV frs psi refsR newD loopNext opsAt idx flatAt rootOf backR newsV appendV copyV clearV strV bytesOf nilCmp buildV fillF chunk
attribute [local simp] cT cF cX cWR cOW cK X ints_length ints_get ints_getElem ints_drop ints_take ints_append ints_nil ints_set
attribute [local simp] ints_replicate
attribute [local simp] putV_some putV_none putH_app applyD_nil applyD_cons seen_app gc_ρ gc_H gc_tick st0_ρ st0_H st0_tick retV callRo callV_if borL_nil borL_cons ints_snoc take_self callWr cutH_app findQ afterV exportV_0 exportV_n okD_nil okD_cons sub_seq0 sub_seq1 sub_cond0 sub_cond1 sub_block sub_loop sub_nil young_far young_none hidW_nil mayW_nil pairs okI ok_0 ok_1 ok_2
attribute [local simp] T3 T4 T5 T9 T22 T28 T41 T45 T89 T97 T102 T103 T105 T120 T126 T137 T141 T143 T144
attribute [local simp] young_near clo cloF Region.binds Nat.testBit
def wordL (u : Int) : List UInt8 := if u = 1 then [67] else if u = 2 then [70] else if u = 3 then [75] else if u = 4 then [109, 47, 115] else if u = 5 then [107, 116] else if u = 6 then [107, 109, 47, 104] else if u = 7 then [109, 109] else [105, 110]
def sgnL (x : Int) : List UInt8 := if x < 0 then [45] else []
def quaL (x u : Int) : List UInt8 := sgnL x ++ (Lib.decDigits (x.natAbs / 10) ++ (46 :: (Lib.decDigits (x.natAbs % 10) ++ (32 :: wordL u))))
theorem word_len (u : Int) : (wordL u).length ≤ 4 := by
  unfold wordL
  repeat' split
  all_goals decide
theorem lit0 : (⟨#[]⟩ : ByteArray) = bs [] := rfl
theorem lit1 (a : UInt8) : (⟨#[a]⟩ : ByteArray) = bs [a] := rfl
theorem lit2 (a b : UInt8) : (⟨#[a, b]⟩ : ByteArray) = bs [a, b] := rfl
theorem lit3 (a b c : UInt8) : (⟨#[a, b, c]⟩ : ByteArray) = bs [a, b, c] := rfl
theorem lit4 (a b c d : UInt8) : (⟨#[a, b, c, d]⟩ : ByteArray) = bs [a, b, c, d] := rfl
theorem c_l3Text (k : Nat) (x : Int) (h0 : -99999 ≤ x) (h1 : x ≤ 99999) (hk : 40 ≤ k) : callK C k 120 [.c (.int .i64 x)] [] = some (.c (.string (bs (sgnL x ++ (Lib.decDigits (x.natAbs / 10) ++ (46 :: Lib.decDigits (x.natAbs % 10)))))), hpOf [] []) := by
  obtain ⟨k, rfl⟩ : ∃ m, k = m + 1 := ⟨k - 1, by omega⟩
  rw [callK_fn rfl F120 code120]
  obtain ⟨q, hq⟩ : ∃ q, x.natAbs / 10 = q := ⟨_, rfl⟩
  obtain ⟨c, hc⟩ : ∃ c, x.natAbs % 10 = c := ⟨_, rfl⟩
  rw [hq, hc]
  have r1 := c_l1Num k (q : Int) (by omega) (by omega) (by omega)
  have r2 := c_l1Num k (c : Int) (by omega) (by omega) (by omega)
  rw [Lib.itoa_nonneg] at r1 r2
  have l1 := dec_length (u := q) (by omega)
  have l2 := dec_length (u := c) (by omega)
  obtain ⟨A, hA⟩ : ∃ A, Lib.decDigits q = A := ⟨_, rfl⟩
  obtain ⟨B, hB⟩ : ∃ B, Lib.decDigits c = B := ⟨_, rfl⟩
  rw [hA] at l1 r1 ⊢
  rw [hB] at l2 r2 ⊢
  have w0 : IntKind.i64.wrap (q : Int) = q := wrap_small (by omega) (by omega)
  have n1 : A.length ≤ 9223372036854775807 := by omega
  have n2 : A.length + 1 ≤ 9223372036854775807 := by omega
  have n3 : A.length + 1 + B.length ≤ 9223372036854775807 := by omega
  have n4 : 1 + A.length ≤ 9223372036854775807 := by omega
  have n5 : A.length + 1 + 1 ≤ 9223372036854775807 := by omega
  have n6 : A.length + 1 + 1 + B.length ≤ 9223372036854775807 := by omega
  have n7 : 1 + A.length + 1 ≤ 9223372036854775807 := by omega
  have n8 : 1 + A.length + 1 + B.length ≤ 9223372036854775807 := by omega
  by_cases h : x < 0
  · have e1 : (-x) / 10 = (q : Int) := by omega
    have e2 : (-x).tmod 10 = (c : Int) := by rw [Int.tmod_eq_emod_of_nonneg (by omega)]; omega
    have e3 : (-x).tdiv 10 = (q : Int) := by rw [Int.tdiv_eq_ediv_of_nonneg (by omega)]; omega
    have w1 : IntKind.i64.wrap (-x) = -x := wrap_small (by omega) (by omega)
    simp [R120_0, R120_1, R120_2, R120_3, R120_4, R120_5, Tryd.f120, h, w0, w1, e1, e2, e3, r1, r2, sgnL, lit0, lit1, bs_size, bs_append, n1, n2, n3, n4, n5, n6, n7, n8]
  · have e1 : x / 10 = (q : Int) := by omega
    have e2 : x.tmod 10 = (c : Int) := by rw [Int.tmod_eq_emod_of_nonneg (by omega)]; omega
    have e3 : x.tdiv 10 = (q : Int) := by rw [Int.tdiv_eq_ediv_of_nonneg (by omega)]; omega
    simp [R120_0, R120_1, R120_2, R120_3, R120_4, R120_5, Tryd.f120, h, w0, e1, e2, e3, r1, r2, sgnL, lit0, lit1, bs_size, bs_append, n1, n2, n3, n4, n5, n6, n7, n8]
theorem unit_cases {u : Int} (h : (decide (1 ≤ u) && decide (u ≤ 8)) = true) : u = 1 ∨ u = 2 ∨ u = 3 ∨ u = 4 ∨ u = 5 ∨ u = 6 ∨ u = 7 ∨ u = 8 := by
  simp only [Bool.and_eq_true, decide_eq_true_eq] at h
  omega
theorem c_specQua (k : Nat) (x u : Int) (hk : 60 ≤ k) : callK C k 53 [.c (.int .i64 x), .c (.int .i64 u)] [] = some (if ((decide (-99999 ≤ x) && decide (x ≤ 99999)) && (decide (1 ≤ u) && decide (u ≤ 8))) = true then (.tp [.c (.string (bs (quaL x u))), .c (.bool true)], hpOf [] []) else (.tp [.c (.string (bs [])), .c (.bool false)], hpOf [] [])) := by
  obtain ⟨k, rfl⟩ : ∃ m, k = m + 9 := ⟨k - 9, by omega⟩
  rw [callK_fn rfl F53 code53]
  have i1 : callK C (k + 8) 118 [.c (.int .i64 x)] [] = some (.c (.bool (decide (-99999 ≤ x) && decide (x ≤ 99999))), hpOf [] []) := by
    rw [callK_fn rfl F118 code118]
    have := c_l1In (k + 7) x (-99999) 99999 (by omega)
    simp [R118_0, R118_1, Tryd.f118, this]
  have i2 : callK C (k + 8) 119 [.c (.int .i64 u)] [] = some (.c (.bool (decide (1 ≤ u) && decide (u ≤ 8))), hpOf [] []) := by
    rw [callK_fn rfl F119 code119]
    have := c_l1In (k + 7) u 1 8 (by omega)
    simp [R119_0, R119_1, Tryd.f119, this]
  cases hx : (decide (-99999 ≤ x) && decide (x ≤ 99999))
  · rw [hx] at i1
    simp [R53_0, R53_1, R53_2, R53_3, Tryd.f53, i1, lit0]
  rw [hx] at i1
  cases hu : (decide (1 ≤ u) && decide (u ≤ 8))
  · rw [hu] at i2
    simp [R53_0, R53_1, R53_2, R53_3, Tryd.f53, i1, i2, lit0]
  rw [hu] at i2
  simp only [Bool.and_eq_true, decide_eq_true_eq] at hx
  have t1 := c_l3Text (k + 8) x hx.1 hx.2 (by omega)
  obtain ⟨A, hA⟩ : ∃ A, sgnL x ++ (Lib.decDigits (x.natAbs / 10) ++ (46 :: Lib.decDigits (x.natAbs % 10))) = A := ⟨_, rfl⟩
  have hlA : A.length ≤ 100 := by
    have l1 := dec_length (u := x.natAbs / 10) (by omega)
    have l2 := dec_length (u := x.natAbs % 10) (by omega)
    rw [← hA]
    unfold sgnL
    split <;> simp <;> omega
  have hqa : quaL x u = A ++ (32 :: wordL u) := by rw [← hA]; simp [quaL]
  rw [hA] at t1
  rw [hqa]
  have n1 : A.length + 1 ≤ 9223372036854775807 := by omega
  have n2 : A.length + 1 + 1 ≤ 9223372036854775807 := by omega
  have n3 : A.length + 1 + 2 ≤ 9223372036854775807 := by omega
  have n4 : A.length + 1 + 3 ≤ 9223372036854775807 := by omega
  have n5 : A.length + 1 + 4 ≤ 9223372036854775807 := by omega
  have w1 : ∃ r, callK C (k + 8) 121 [] [] = some (.s 0 2 1 0 9, hpOf [] [⟨9, 1, true, r⟩]) ∧ r = [[.c (.string (bs []))], [.c (.string (bs [67]))], [.c (.string (bs [70]))], [.c (.string (bs [75]))], [.c (.string (bs [109, 47, 115]))], [.c (.string (bs [107, 116]))], [.c (.string (bs [107, 109, 47, 104]))], [.c (.string (bs [109, 109]))], [.c (.string (bs [105, 110]))]] := by
    refine ⟨_, ?_, rfl⟩
    rw [callK_fn rfl F121 code121]
    simp [R121_0, R121_1, Tryd.f121, lit0, lit1, lit2, lit3, lit4, okObj]
  obtain ⟨r, w1, w2⟩ := w1
  rcases unit_cases hu with rfl | rfl | rfl | rfl | rfl | rfl | rfl | rfl
  all_goals simp [R53_0, R53_1, R53_2, R53_3, Tryd.f53, i1, i2, t1, w1, w2, lit0, lit1, bs_size, bs_append, n1, n2, n3, n4, n5, wordL]
theorem c_unitOf (k : Nat) (u : Int) (hk : 1 ≤ k) : ∃ kd nm ad dn : Int, callK C k 115 [.c (.int .i64 u)] [] = some (.tp [.ag [.c (.int .i64 kd), .c (.string (bs (if (decide (1 ≤ u) && decide (u ≤ 8)) = true then wordL u else []))), .c (.int .i64 nm), .c (.int .i64 ad), .c (.int .i64 dn)], .c (.bool (decide (1 ≤ u) && decide (u ≤ 8)))], hpOf [] []) := by
  obtain ⟨k, rfl⟩ : ∃ m, k = m + 1 := ⟨k - 1, by omega⟩
  rw [callK_fn rfl F115 code115]
  cases hu : (decide (1 ≤ u) && decide (u ≤ 8))
  · have h : ∀ n : Int, 1 ≤ n → n ≤ 8 → ¬ u = n := by
      intro n h1 h2 e
      subst e
      simp [h1, h2] at hu
    have b : ∀ n : Int, 1 ≤ n → n ≤ 8 → (u == n) = false := fun n h1 h2 => by simpa using h n h1 h2
    have e1 := h 1 (by omega) (by omega)
    have e2 := h 2 (by omega) (by omega)
    have e3 := h 3 (by omega) (by omega)
    have e4 := h 4 (by omega) (by omega)
    have e5 := h 5 (by omega) (by omega)
    have e6 := h 6 (by omega) (by omega)
    have e7 := h 7 (by omega) (by omega)
    have e8 := h 8 (by omega) (by omega)
    have f1 := b 1 (by omega) (by omega)
    have f2 := b 2 (by omega) (by omega)
    have f3 := b 3 (by omega) (by omega)
    have f4 := b 4 (by omega) (by omega)
    have f5 := b 5 (by omega) (by omega)
    have f6 := b 6 (by omega) (by omega)
    have f7 := b 7 (by omega) (by omega)
    have f8 := b 8 (by omega) (by omega)
    have z : ByteArray.empty = bs [] := rfl
    exact ⟨0, 0, 0, 0, by simp [R115_0, R115_1, R115_2, R115_3, R115_4, R115_5, R115_6, R115_7, R115_8, R115_9, R115_10, R115_11, R115_12, R115_13, R115_14, R115_15, R115_16, R115_17, R115_18, Tryd.f115, e1, e2, e3, e4, e5, e6, e7, e8, f1, f2, f3, f4, f5, f6, f7, f8, z]⟩
  · rcases unit_cases hu with rfl | rfl | rfl | rfl | rfl | rfl | rfl | rfl
    · exact ⟨1, 1, 0, 1, by simp [R115_0, R115_1, R115_2, R115_3, R115_4, R115_5, R115_6, R115_7, R115_8, R115_9, R115_10, R115_11, R115_12, R115_13, R115_14, R115_15, R115_16, R115_17, R115_18, Tryd.f115, lit1, wordL]⟩
    · exact ⟨1, 9, 1600, 5, by simp [R115_0, R115_1, R115_2, R115_3, R115_4, R115_5, R115_6, R115_7, R115_8, R115_9, R115_10, R115_11, R115_12, R115_13, R115_14, R115_15, R115_16, R115_17, R115_18, Tryd.f115, lit1, wordL]⟩
    · exact ⟨1, 2, 5463, 2, by simp [R115_0, R115_1, R115_2, R115_3, R115_4, R115_5, R115_6, R115_7, R115_8, R115_9, R115_10, R115_11, R115_12, R115_13, R115_14, R115_15, R115_16, R115_17, R115_18, Tryd.f115, lit1, wordL]⟩
    · exact ⟨2, 1, 0, 1, by simp [R115_0, R115_1, R115_2, R115_3, R115_4, R115_5, R115_6, R115_7, R115_8, R115_9, R115_10, R115_11, R115_12, R115_13, R115_14, R115_15, R115_16, R115_17, R115_18, Tryd.f115, lit3, wordL]⟩
    · exact ⟨2, 3600, 0, 1852, by simp [R115_0, R115_1, R115_2, R115_3, R115_4, R115_5, R115_6, R115_7, R115_8, R115_9, R115_10, R115_11, R115_12, R115_13, R115_14, R115_15, R115_16, R115_17, R115_18, Tryd.f115, lit2, wordL]⟩
    · exact ⟨2, 18, 0, 5, by simp [R115_0, R115_1, R115_2, R115_3, R115_4, R115_5, R115_6, R115_7, R115_8, R115_9, R115_10, R115_11, R115_12, R115_13, R115_14, R115_15, R115_16, R115_17, R115_18, Tryd.f115, lit4, wordL]⟩
    · exact ⟨3, 1, 0, 1, by simp [R115_0, R115_1, R115_2, R115_3, R115_4, R115_5, R115_6, R115_7, R115_8, R115_9, R115_10, R115_11, R115_12, R115_13, R115_14, R115_15, R115_16, R115_17, R115_18, Tryd.f115, lit2, wordL]⟩
    · exact ⟨3, 5, 0, 127, by simp [R115_0, R115_1, R115_2, R115_3, R115_4, R115_5, R115_6, R115_7, R115_8, R115_9, R115_10, R115_11, R115_12, R115_13, R115_14, R115_15, R115_16, R115_17, R115_18, Tryd.f115, lit2, wordL]⟩
theorem c_absNat (k : Nat) (x : Int) (h0 : -1000000 ≤ x) (h1 : x ≤ 1000000) (hk : 1 ≤ k) : callK C k 117 [.c (.int .i64 x)] [] = some (.c (.int .i64 (x.natAbs : Int)), hpOf [] []) := by
  obtain ⟨k, rfl⟩ : ∃ m, k = m + 1 := ⟨k - 1, by omega⟩
  rw [callK_fn rfl F117 code117]
  have w1 : IntKind.i64.wrap (-x) = -x := wrap_small (by omega) (by omega)
  by_cases h : x < 0
  · have e : (x.natAbs : Int) = -x := by omega
    rw [e]
    simp [R117_0, R117_1, R117_2, R117_3, Tryd.f117, h, w1]
  · have e : (x.natAbs : Int) = x := by omega
    rw [e]
    simp [R117_0, R117_1, R117_2, R117_3, Tryd.f117, h]
theorem c_implQua (k : Nat) (x u : Int) (hk : 60 ≤ k) : callK C k 52 [.c (.int .i64 x), .c (.int .i64 u)] [] = some (if ((decide (-99999 ≤ x) && decide (x ≤ 99999)) && (decide (1 ≤ u) && decide (u ≤ 8))) = true then (.tp [.c (.string (bs (quaL x u))), .c (.bool true)], hpOf [] []) else (.tp [.c (.string (bs [])), .c (.bool false)], hpOf [] [])) := by
  obtain ⟨k, rfl⟩ : ∃ m, k = m + 9 := ⟨k - 9, by omega⟩
  rw [callK_fn rfl F52 code52]
  have i1 : callK C (k + 8) 116 [.c (.int .i64 x)] [] = some (.c (.bool (decide (-99999 ≤ x) && decide (x ≤ 99999))), hpOf [] []) := by
    rw [callK_fn rfl F116 code116]
    have := c_within (k + 7) x (-99999) 99999 (by omega)
    simp [R116_0, R116_1, Tryd.f116, this]
  obtain ⟨kd, nm, ad, dn, hun⟩ := c_unitOf (k + 8) u (by omega)
  cases hu : (decide (1 ≤ u) && decide (u ≤ 8))
  · rw [hu] at hun
    simp at hun
    simp [R52_0, R52_1, R52_2, R52_3, R52_4, R52_5, R52_6, R52_7, Tryd.f52, hun, lit0]
  rw [hu] at hun
  simp at hun
  cases hx : (decide (-99999 ≤ x) && decide (x ≤ 99999))
  · rw [hx] at i1
    simp [R52_0, R52_1, R52_2, R52_3, R52_4, R52_5, R52_6, R52_7, Tryd.f52, hun, i1, lit0]
  rw [hx] at i1
  simp only [Bool.and_eq_true, decide_eq_true_eq] at hx
  have ha := c_absNat (k + 8) x (by omega) (by omega) (by omega)
  obtain ⟨N, hN⟩ : ∃ N, x.natAbs = N := ⟨_, rfl⟩
  obtain ⟨q, hq⟩ : ∃ q, N / 10 = q := ⟨_, rfl⟩
  obtain ⟨c, hc⟩ : ∃ c, N % 10 = c := ⟨_, rfl⟩
  have hqa : quaL x u = sgnL x ++ (Lib.decDigits q ++ (46 :: (Lib.decDigits c ++ (32 :: wordL u)))) := by unfold quaL; rw [hN, hq, hc]
  rw [hqa]
  rw [hN] at ha
  have r1 := c_Itoa (k + 8) (q : Int) (by omega) (by omega) (by omega)
  have r2 := c_Itoa (k + 8) (c : Int) (by omega) (by omega) (by omega)
  rw [Lib.itoa_nonneg] at r1 r2
  have l1 := dec_length (u := q) (by omega)
  have l2 := dec_length (u := c) (by omega)
  have l3 := word_len u
  obtain ⟨A, hA⟩ : ∃ A, Lib.decDigits q = A := ⟨_, rfl⟩
  obtain ⟨B, hB⟩ : ∃ B, Lib.decDigits c = B := ⟨_, rfl⟩
  obtain ⟨D, hD⟩ : ∃ D, wordL u = D := ⟨_, rfl⟩
  rw [hA] at l1 r1 ⊢
  rw [hB] at l2 r2 ⊢
  rw [hD] at l3 hun ⊢
  have e1 : (N : Int) / 10 = (q : Int) := by omega
  have e2 : (N : Int).tmod 10 = (c : Int) := by rw [← hc]; rfl
  have w0 : IntKind.i64.wrap (q : Int) = q := wrap_small (by omega) (by omega)
  have big : ∀ n : Nat, n ≤ 1000 → n ≤ 9223372036854775807 := fun n h => by omega
  by_cases h : x < 0
  · have m1 := big (1 + A.length) (by omega)
    have m2 := big (1 + A.length + 1) (by omega)
    have m3 := big (1 + A.length + 1 + B.length) (by omega)
    have m4 := big (1 + A.length + 1 + B.length + 1) (by omega)
    have m5 := big (1 + A.length + 1 + B.length + 1 + D.length) (by omega)
    have m6 := big (A.length + 1) (by omega)
    have m7 := big (A.length + 1 + 1) (by omega)
    have m8 := big (A.length + 1 + 1 + B.length) (by omega)
    have m9 := big (A.length + (B.length + 1) + 1) (by omega)
    have m10 := big (A.length + (B.length + 1) + 1 + 1) (by omega)
    have m11 := big (A.length + (B.length + 1) + 1 + D.length) (by omega)
    have m12 := big (A.length + (B.length + (1 + 1)) + 1 + D.length) (by omega)
    have m13 := big (A.length + (B.length + 1 + 1) + 1 + D.length) (by omega)
    simp [R52_0, R52_1, R52_2, R52_3, R52_4, R52_5, R52_6, R52_7, Tryd.f52, hun, i1, ha, h, w0, e1, e2, r1, r2, sgnL, lit0, lit1, bs_size, bs_append, m1, m2, m3, m4, m5, m6, m7, m8, m9, m10, m11, m12, m13]
  · have m1 := big A.length (by omega)
    have m2 := big (A.length + 1) (by omega)
    have m3 := big (A.length + 1 + B.length) (by omega)
    have m4 := big (A.length + 1 + B.length + 1) (by omega)
    have m5 := big (A.length + 1 + B.length + 1 + D.length) (by omega)
    have m6 := big (A.length + (B.length + 1)) (by omega)
    have m7 := big (A.length + (B.length + 1) + 1) (by omega)
    have m8 := big (A.length + (B.length + 1 + 1) + D.length) (by omega)
    have m9 := big (A.length + (B.length + 1) + 1 + D.length) (by omega)
    simp [R52_0, R52_1, R52_2, R52_3, R52_4, R52_5, R52_6, R52_7, Tryd.f52, hun, i1, ha, h, w0, e1, e2, r1, r2, sgnL, lit0, lit1, bs_size, bs_append, m1, m2, m3, m4, m5, m6, m7, m8, m9]

end Go.Proofs.YthbekdccfleaoaaDoor.Eng
