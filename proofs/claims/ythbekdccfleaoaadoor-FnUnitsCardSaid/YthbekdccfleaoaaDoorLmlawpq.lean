/- A deterministic reading of Go code over plain data: what functions of the program compute. No conditions. -/
import Derived.Test.YthbekdccfleaoaaDoorLmbase
import Derived.Test.YthbekdccfleaoaaDoorLmimpl
import Derived.Test.YthbekdccfleaoaaDoorLmgood
import Derived.Test.YthbekdccfleaoaaDoorLmitoa
import Derived.Test.YthbekdccfleaoaaDoorLmappendck
import Derived.Test.YthbekdccfleaoaaDoorLmsplit
import Derived.Test.YthbekdccfleaoaaDoorLmquantity
import Derived.Test.YthbekdccfleaoaaDoorLmnumtext
import Derived.Test.YthbekdccfleaoaaDoorLmpq1
import Derived.Test.YthbekdccfleaoaaDoorLmpq2
import Derived.Test.YthbekdccfleaoaaDoorLmpq3
import Derived.Test.YthbekdccfleaoaaDoorEngT
import Derived.Lib.IndexLaws
namespace Go.Proofs.YthbekdccfleaoaaDoor.Eng
open Go Go.Proofs
set_option maxRecDepth 100000
set_option maxHeartbeats 2000000
set_option linter.unusedSimpArgs false
set_option linter.unusedVariables false
attribute [local simp] finK fin1 hpOf xi renQ isRoot runCode runOps Eng.step wantedV astep val ofO made loadV storeV find V.cells bin binT un1 setAt fieldAddrV fieldV indexAddrV indexV bounds sliceV convV lenV foldV max2V min2V callO bor rdsO wrsO seen_none okD_none loops keepIds resV resultsV St.ev TK.agg refs refsL refsO V.one V.isC Value.oneCell' ren renL renO noTag noTagL noTagR noTagO nodup mapO passV frs psi refsR newD loopNext opsAt idx flatAt rootOf backR newsV appendV copyV clearV strV bytesOf nilCmp buildV fillF chunk
attribute [local simp] cT cF cX cWR cOW cK X ints_length ints_get ints_getElem ints_drop ints_take ints_append ints_nil ints_set
attribute [local simp] ints_replicate
attribute [local simp] putV_some putV_none putH_app applyD_nil applyD_cons seen_app gc_ρ gc_H gc_tick st0_ρ st0_H st0_tick retV callRo callV_if borL_nil borL_cons ints_snoc take_self callWr cutH_app findQ afterV exportV_0 exportV_n okD_nil okD_cons sub_seq0 sub_seq1 sub_cond0 sub_cond1 sub_block sub_loop sub_nil young_far young_none hidW_nil mayW_nil pairs okI ok_0 ok_1 ok_2
attribute [local simp] T3 T4 T5 T9 T22 T28 T41 T45 T89 T97 T102 T103 T105 T120 T126 T137 T141 T143 T144
attribute [local simp] young_near clo cloF Region.binds Nat.testBit hidW declW mayW
theorem split_len {l : List UInt8} {b : UInt8} {p q : List UInt8} (h : splitL l b = [p, q]) : p.length ≤ l.length ∧ q.length ≤ l.length := by
  constructor
  · obtain ⟨r, hr⟩ := split_head l b
    rw [hr] at h
    injection h with h1 _
    rw [← h1]
    exact headG_len l b
  · unfold splitL at h
    have h2 : (spS l b l.length).1 ++ [l.drop (spS l b l.length).2] = [p] ++ [q] := by rw [h]; rfl
    have h3 := (List.append_inj' h2 rfl).2
    injection h3 with h4 _
    rw [← h4, List.length_drop]
    omega
theorem c_specPQ0 (k : Nat) (l p0 p1 : List UInt8) (hl : l.length ≤ 20) (hs : splitL l 32 = [p0, p1]) (un : Int) (ok : Bool)
    (pu : ∀ k, 40 ≤ k → callK C k 110 [.c (.string (bs p1))] [] = some (.tp [.c (.int .i64 un), .c (.bool ok)], hpOf [] [])) (hbad : ok = false ∨ ¬ (splitL (unN p0) 46).length = 2) (hk : 400 ≤ k) :
    callK C k 48 [.c (.string (bs l))] [] = some (.tp [.c (.int .i64 0), .c (.int .i64 0), .c (.bool false)], hpOf [] []) := by
  obtain ⟨k, rfl⟩ : ∃ m, k = m + 9 := ⟨k - 9, by omega⟩
  rw [callK_fn rfl F48 code48]
  have h0 := (split_len hs).1
  have s1 := c_l1Split (k + 8) l 32 (by omega) (by omega)
  rw [hs, show (((32 : UInt8).toNat : Nat) : Int) = 32 from rfl] at s1
  have pu := pu (k + 8) (by omega)
  have s2 := c_l1Split (k + 8) (unN p0) 46 (by have := un_len p0; omega) (by have := un_len p0; omega)
  rw [show (((46 : UInt8).toNat : Nat) : Int) = 46 from rfl] at s2
  obtain ⟨D, hD⟩ : ∃ D, splitL (unN p0) 46 = D := ⟨_, rfl⟩
  rw [hD] at s2 hbad
  have g0 : ¬ (20 : Int) < (l.length : Int) := by omega
  have g0' : ¬ 20 < l.length := by omega
  simp [strsO, strs] at s1 s2
  have fin : ok = false ∨ (ok = true ∧ ¬ D.length = 2) := by
    cases ok
    · exact .inl rfl
    · exact .inr ⟨rfl, hbad.resolve_left (by decide)⟩
  have d1 : ¬ D.length = 2 → ¬ (D.length : Int) = 2 ∧ ((D.length : Int) == 2) = false ∧ ((D.length : Int) != 2) = true := by
    intro h
    have : ¬ (D.length : Int) = 2 := by omega
    exact ⟨this, by simpa using this, by simpa using this⟩
  cases p0 with
  | nil =>
    have hu : unN [] = [] := rfl
    rw [hu] at s2
    rcases fin with rfl | ⟨rfl, hn2⟩
    · simp [R48_0, R48_1, R48_2, R48_3, R48_4, R48_5, R48_6, R48_7, R48_8, R48_9, R48_10, R48_11, R48_12, R48_13, R48_14, R48_15, R48_16, R48_17, R48_18, R48_19, R48_20, R48_21, Tryd.f48, undef, lit0, bs_size, g0, g0', s1, pu, s2]
    · obtain ⟨e1, e2, e3⟩ := d1 hn2
      simp [R48_0, R48_1, R48_2, R48_3, R48_4, R48_5, R48_6, R48_7, R48_8, R48_9, R48_10, R48_11, R48_12, R48_13, R48_14, R48_15, R48_16, R48_17, R48_18, R48_19, R48_20, R48_21, Tryd.f48, undef, lit0, bs_size, g0, g0', s1, pu, s2, hn2, e1, e2, e3]
  | cons a q =>
    have ga : (0 : Int) < (q.length : Int) + 1 := by omega
    have gb : (1 : Int) ≤ (q.length : Int) + 1 := by omega
    have bt := byteAt_bs (l := a :: q) (i := 0) (by simp)
    simp at bt
    cases hn : negB (a :: q)
    · have hu : unN (a :: q) = a :: q := by simp [unN, hn]
      have na := neg_of a q hn
      have na' : (((a.toNat : Nat) : Int) == 45) = false := by simpa using na
      rw [hu] at s2
      rcases fin with rfl | ⟨rfl, hn2⟩
      · simp [R48_0, R48_1, R48_2, R48_3, R48_4, R48_5, R48_6, R48_7, R48_8, R48_9, R48_10, R48_11, R48_12, R48_13, R48_14, R48_15, R48_16, R48_17, R48_18, R48_19, R48_20, R48_21, Tryd.f48, undef, lit0, bs_size, g0, g0', s1, pu, s2, ga, gb, bt, na, na']
      · obtain ⟨e1, e2, e3⟩ := d1 hn2
        simp [R48_0, R48_1, R48_2, R48_3, R48_4, R48_5, R48_6, R48_7, R48_8, R48_9, R48_10, R48_11, R48_12, R48_13, R48_14, R48_15, R48_16, R48_17, R48_18, R48_19, R48_20, R48_21, Tryd.f48, undef, lit0, bs_size, g0, g0', s1, pu, s2, ga, gb, bt, na, na', hn2, e1, e2, e3]
    · have hu : unN (a :: q) = q := by simp [unN, hn]
      have ha : a = 45 := by unfold negB at hn; simpa using hn
      subst ha
      rw [hu] at s2
      have ht' : q.take q.length = q := List.take_length
      rcases fin with rfl | ⟨rfl, hn2⟩
      · simp [R48_0, R48_1, R48_2, R48_3, R48_4, R48_5, R48_6, R48_7, R48_8, R48_9, R48_10, R48_11, R48_12, R48_13, R48_14, R48_15, R48_16, R48_17, R48_18, R48_19, R48_20, R48_21, Tryd.f48, undef, lit0, bs_size, bs_extract, g0, g0', s1, pu, s2, ga, gb, bt, ht']
      · obtain ⟨e1, e2, e3⟩ := d1 hn2
        simp [R48_0, R48_1, R48_2, R48_3, R48_4, R48_5, R48_6, R48_7, R48_8, R48_9, R48_10, R48_11, R48_12, R48_13, R48_14, R48_15, R48_16, R48_17, R48_18, R48_19, R48_20, R48_21, Tryd.f48, undef, lit0, bs_size, bs_extract, g0, g0', s1, pu, s2, ga, gb, bt, ht', hn2, e1, e2, e3]
theorem c_specPQn (k : Nat) (l : List UInt8) (h20 : l.length ≤ 1048576) (hno : ¬ MT l) (hk : l.length + 500 ≤ k) : callK C k 48 [.c (.string (bs l))] [] = some (.tp [.c (.int .i64 0), .c (.int .i64 0), .c (.bool false)], hpOf [] []) := by
  by_cases hl : l.length ≤ 20
  · by_cases h2 : (splitL l 32).length = 2
    · obtain ⟨p0, p1, hs⟩ := len2 h2
      obtain ⟨l0, l1⟩ := split_len hs
      rcases pu_cases p1 with ⟨n, h8, hpre, hat⟩ | hnone
      · by_cases hd2 : (splitL (unN p0) 46).length = 2
        · obtain ⟨d0, d1, hd⟩ := len2 hd2
          obtain ⟨m0, m1⟩ := split_len hd
          have lu := un_len p0
          obtain ⟨v, hv⟩ : ∃ v, sgnI p0 * (10 * pV d0 + pV d1) = v := ⟨_, rfl⟩
          by_cases hr : ((decide (-99999 ≤ v) && decide (v ≤ 99999)) && (decide ((1 : Int) ≤ 1 + (n : Int)) && decide ((1 : Int) + (n : Int) ≤ 8))) = true
          · have h := c_specPQ k l p0 p1 hl hs (by omega) (1 + (n : Int)) true (fun k hk => c_specPUy k p1 n h8 hpre hat hk) .un d0 d1 hd ⟨by omega, by omega⟩ rfl (quaL v (1 + (n : Int))) true
              (fun k hk => by rw [hv]; have := c_specQua k v (1 + (n : Int)) hk; rw [if_pos hr] at this; exact this) (by omega)
            have hne : ¬ quaL v (1 + (n : Int)) = l := by
              intro e
              simp only [Bool.and_eq_true, decide_eq_true_eq] at hr
              exact hno ⟨v, 1 + (n : Int), hr.1, by omega, e⟩
            rw [h, if_neg (by simp [hne])]
          · have h := c_specPQ k l p0 p1 hl hs (by omega) (1 + (n : Int)) true (fun k hk => c_specPUy k p1 n h8 hpre hat hk) .un d0 d1 hd ⟨by omega, by omega⟩ rfl [] false
              (fun k hk => by rw [hv]; have := c_specQua k v (1 + (n : Int)) hk; rw [if_neg hr] at this; exact this) (by omega)
            rw [h, if_neg (by simp)]
        · exact c_specPQ0 k l p0 p1 hl hs (1 + (n : Int)) true (fun k hk => c_specPUy k p1 n h8 hpre hat hk) (.inr hd2) (by omega)
      · exact c_specPQ0 k l p0 p1 hl hs 0 false (fun k hk => c_specPUn k p1 hnone hk) (.inl rfl) (by omega)
    · obtain ⟨k, rfl⟩ : ∃ m, k = m + 9 := ⟨k - 9, by omega⟩
      rw [callK_fn rfl F48 code48]
      have s1 := c_l1Split (k + 8) l 32 (by omega) (by omega)
      rw [show (((32 : UInt8).toNat : Nat) : Int) = 32 from rfl] at s1
      obtain ⟨D, hD⟩ : ∃ D, splitL l 32 = D := ⟨_, rfl⟩
      rw [hD] at s1 h2
      simp [strsO, strs] at s1
      have g0 : ¬ (20 : Int) < (l.length : Int) := by omega
      have g0' : ¬ 20 < l.length := by omega
      have e1 : ¬ (D.length : Int) = 2 := by omega
      have e2 : ((D.length : Int) == 2) = false := by simpa using e1
      have e3 : ((D.length : Int) != 2) = true := by simpa using e1
      simp [R48_0, R48_1, R48_2, R48_3, R48_4, R48_5, R48_6, R48_7, R48_8, R48_9, R48_10, R48_11, R48_12, R48_13, R48_14, R48_15, R48_16, R48_17, R48_18, R48_19, R48_20, R48_21, Tryd.f48, undef, lit0, bs_size, g0, g0', s1, h2, e1, e2, e3]
  · obtain ⟨k, rfl⟩ : ∃ m, k = m + 9 := ⟨k - 9, by omega⟩
    rw [callK_fn rfl F48 code48]
    have g0 : (20 : Int) < (l.length : Int) := by omega
    have g0' : 20 < l.length := by omega
    simp [R48_0, R48_1, R48_2, R48_3, R48_4, R48_5, R48_6, R48_7, R48_8, R48_9, R48_10, R48_11, R48_12, R48_13, R48_14, R48_15, R48_16, R48_17, R48_18, R48_19, R48_20, R48_21, Tryd.f48, undef, lit0, bs_size, g0, g0']
theorem c_specPQy (k : Nat) (x u : Int) (hx : -99999 ≤ x ∧ x ≤ 99999) (hu : 1 ≤ u ∧ u ≤ 8) (hk : 600 ≤ k) : callK C k 48 [.c (.string (bs (quaL x u)))] [] = some (.tp [.c (.int .i64 x), .c (.int .i64 u), .c (.bool true)], hpOf [] []) := by
  obtain ⟨l1, l2⟩ := abs_len hx
  have ln : (qNum x).length ≤ 14 := by unfold qNum sgnL; split <;> simp <;> omega
  have lw := word_len u
  have lq : (quaL x u).length ≤ 20 := by rw [qua_is]; simp; omega
  obtain ⟨n, rfl⟩ : ∃ n : Nat, u = 1 + (n : Int) := ⟨(u - 1).toNat, by omega⟩
  have hs : splitL (quaL x (1 + (n : Int))) 32 = [qNum x, wordL (1 + (n : Int))] := by rw [qua_is]; exact split_of (num_no x) (word_no _)
  have hd : splitL (unN (qNum x)) 46 = [Lib.decDigits (x.natAbs / 10), Lib.decDigits (x.natAbs % 10)] := by rw [un_num]; exact split_of (dig_no _) (dig_no _)
  have e0 : pI (Lib.decDigits (x.natAbs / 10)) = some ((x.natAbs / 10 : Nat) : Int) := pI_dec _ (by omega)
  have e1 : pI (Lib.decDigits (x.natAbs % 10)) = some ((x.natAbs % 10 : Nat) : Int) := pI_dec _ (by omega)
  have hv : sgnI (qNum x) * (10 * pV (Lib.decDigits (x.natAbs / 10)) + pV (Lib.decDigits (x.natAbs % 10))) = x := by
    unfold pV sgnI
    rw [e0, e1, neg_num]
    simp only [Option.getD_some]
    by_cases h : x < 0
    · rw [if_pos (by simpa using h)]; omega
    · rw [if_neg (by simpa using h)]; omega
  have h := c_specPQ k (quaL x (1 + (n : Int))) (qNum x) (wordL (1 + (n : Int))) (by omega) hs (by omega) (1 + (n : Int)) true
    (fun k hk => c_specPUy k (wordL (1 + (n : Int))) n (by omega) (fun i hi e => by have := word_inj i n (by omega) (by omega) e; omega) rfl hk) .un _ _ hd ⟨by omega, by omega⟩ rfl (quaL x (1 + (n : Int))) true
    (fun k hk => by rw [hv]; have := c_specQua k x (1 + (n : Int)) hk; rw [if_pos (by simp; omega)] at this; exact this) (by omega)
  rw [h, if_pos (by simp [pB, e0, e1]), hv]
theorem law_ParseQuantity (s : ByteArray) (w : s.size ≤ maxLen) : ∃ k, callK C k 9 [.c (.string s)] [] = some (.c (.bool true), hpOf [] []) := by
  obtain ⟨l, rfl⟩ : ∃ l, s = bs l := ⟨s.data.toList, by simp [bs]⟩
  rw [bs_size] at w
  refine ⟨2000000, ?_⟩
  rw [callK_fn (k := 1999999) rfl F9 code9]
  by_cases h : 1048576 < l.length
  · have h' : (1048576 : Int) < (l.length : Int) := by omega
    simp [R9_0, R9_1, R9_2, R9_3, R9_4, R9_5, R9_6, R9_7, Tryd.f9, bs_size, h, h']
  · have h' : ¬ (1048576 : Int) < (l.length : Int) := by omega
    by_cases hm : MT l
    · obtain ⟨x, u, hx, hu, rfl⟩ := hm
      have a := c_implPQy 1999999 x u hx hu (by omega)
      have b := c_specPQy 1999999 x u hx hu (by omega)
      simp [R9_0, R9_1, R9_2, R9_3, R9_4, R9_5, R9_6, R9_7, Tryd.f9, bs_size, h, h', a, b, undef]
    · have a := c_implPQn 1999999 l (by omega) hm (by omega)
      have b := c_specPQn 1999999 l (by omega) hm (by omega)
      simp [R9_0, R9_1, R9_2, R9_3, R9_4, R9_5, R9_6, R9_7, Tryd.f9, bs_size, h, h', a, b, undef]

end Go.Proofs.YthbekdccfleaoaaDoor.Eng
