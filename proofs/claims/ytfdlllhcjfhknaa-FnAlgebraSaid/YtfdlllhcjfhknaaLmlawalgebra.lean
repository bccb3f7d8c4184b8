/- A deterministic reading of Go code over plain data: what functions of the program compute. No conditions. -/
import Derived.Test.YtfdlllhcjfhknaaLmbase
import Derived.Test.YtfdlllhcjfhknaaLmimpl
import Derived.Test.YtfdlllhcjfhknaaLmimplc
import Derived.Test.YtfdlllhcjfhknaaLmgood
import Derived.Test.YtfdlllhcjfhknaaLmnbh
import Derived.Test.YtfdlllhcjfhknaaLmfcore
import Derived.Test.YtfdlllhcjfhknaaLmvals
import Derived.Test.YtfdlllhcjfhknaaLmtotals
import Derived.Test.YtfdlllhcjfhknaaLmspec
import Derived.Test.YtfdlllhcjfhknaaLmcombined
import Derived.Test.YtfdlllhcjfhknaaLmminmax
import Derived.Test.YtfdlllhcjfhknaaLmchanged
import Derived.Test.YtfdlllhcjfhknaaLmspeclp
import Derived.Test.YtfdlllhcjfhknaaLmimplch
import Derived.Test.YtfdlllhcjfhknaaLmcombfrom
import Derived.Test.YtfdlllhcjfhknaaLmcombspec
import Derived.Test.YtfdlllhcjfhknaaLmscale
import Derived.Test.YtfdlllhcjfhknaaLmdraws
import Derived.Test.YtfdlllhcjfhknaaLmrepeat
import Derived.Test.YtfdlllhcjfhknaaLmfieldby
import Derived.Test.YtfdlllhcjfhknaaLmfieldaux
import Derived.Test.YtfdlllhcjfhknaaLmdrawf
import Derived.Test.YtfdlllhcjfhknaaLmdrawa
import Derived.Test.YtfdlllhcjfhknaaLmdrawm
import Derived.Test.YtfdlllhcjfhknaaEngT
namespace Go.Proofs.Ytfdlllhcjfhknaa.Eng
open Go Go.Proofs
set_option maxRecDepth 100000
set_option maxHeartbeats 2000000
set_option linter.unusedSimpArgs false
set_option linter.unusedVariables false
attribute [local simp] finK fin1 hpOf xi renQ isRoot runCode runOps Eng.step wantedV astep val ofO made loadV storeV find V.cells bin binT un1 setAt fieldAddrV fieldV indexAddrV indexV bounds sliceV convV lenV foldV max2V min2V callO bor rdsO wrsO seen_none okD_none loops keepIds resV resultsV St.ev TK.agg refs refsL refsO V.one V.isC Value.oneCell' ren renL renO noTag noTagL noTagR noTagO nodup mapO passV frs psi refsR newD loopNext opsAt idx flatAt rootOf backR newsV appendV copyV clearV strV bytesOf nilCmp buildV fillF chunk
attribute [local simp] cT cF cX cWR cOW cK X ints_length ints_get ints_getElem ints_drop ints_take ints_append ints_nil ints_set
attribute [local simp] ints_replicate
attribute [local simp] putV_some putV_none putH_app applyD_nil applyD_cons seen_app gc_ρ gc_H gc_tick st0_ρ st0_H st0_tick retV callRo callV_if borL_nil borL_cons ints_snoc take_self callWr cutH_app findQ afterV exportV_0 exportV_n okD_nil okD_cons sub_seq0 sub_seq1 sub_cond0 sub_cond1 sub_block sub_loop sub_nil young_far young_none hidW_nil mayW_nil pairs okI ok_0 ok_1 ok_2
attribute [local simp] T3 T4 T5 T9 T22 T24 T26 T29 T36 T73 T75 T86 T89 T103 T104 T106 T108 T109 T111 T114 T118 T134 T136 T157 T161 T168
attribute [local simp] young_near clo cloF Region.binds Nat.testBit hidW declW mayW List.findIdx?_cons
def sgB (w1 h1 : Int) (l1 : List Int) (w2 h2 : Int) (l2 : List Int) : Bool := goodB w1 h1 l1 && (goodB w2 h2 l2 && (w1 == w2 && h1 == h2))
def cmbB (op w1 h1 : Int) (l1 : List Int) (w2 h2 : Int) (l2 : List Int) : Bool := (decide (1 ≤ op) && decide (op ≤ 4)) && (sgB w1 h1 l1 w2 h2 l2 && goodB w1 h1 (List.zipWith (combG op) l1 l2))
theorem res_Comb (k : Nat) (op : Int) (w1 h1 : Int) (l1 : List Int) (w2 h2 : Int) (l2 : List Int) (hk : 3000 ≤ k) :
    callK C k 48 [.c (.int .i64 op), fldV true w1 h1 l1, fldV true w2 h2 l2] [] = optV (cmbB op w1 h1 l1 w2 h2 l2) w1 h1 (List.zipWith (combG op) l1 l2) ∧ callK C k 47 [.c (.int .i64 op), fldV true w1 h1 l1, fldV true w2 h2 l2] [] = optV (cmbB op w1 h1 l1 w2 h2 l2) w1 h1 (List.zipWith (combG op) l1 l2) := by
  obtain ⟨k, rfl⟩ : ∃ m, k = m + 20 := ⟨k - 20, by omega⟩
  rw [callK_fn rfl F48 code48, callK_fn rfl F47 code47]
  have i1 := c_l1In (k + 19) op 1 4 (by omega)
  have i2 := c_within (k + 19) op 1 4 (by omega)
  have h1' := c_l2Same (k + 19) true true w1 h1 w2 h2 l1 l2 (by omega)
  unfold cmbB sgB
  rcases opIn op with hop | hop
  · rw [hop] at i1 i2 ⊢
    cases hs : (goodB w1 h1 l1 && (goodB w2 h2 l2 && (w1 == w2 && h1 == h2)))
    · have n1 := c_combinedNoC op (k + 19) true true w1 h1 w2 h2 l1 l2 (by omega) (by rw [← hs, Bool.beq_comm (a := w1), Bool.beq_comm (a := h1)])
      rw [hs] at h1'
      refine ⟨?_, ?_⟩
      · simp [fldV] at h1'
        simp [R48_0, R48_1, R48_2, R48_3, Try.f48, fldV, h1', nilV, optV]
      · simp [fldV, nilV] at n1
        simp [R47_0, R47_1, R47_2, R47_3, Try.f47, fldV, i2, n1, nilV, optV]
    · rw [hs] at h1'
      simp only [Bool.and_eq_true, beq_iff_eq] at hs
      obtain ⟨g1, g2, rfl, rfl⟩ := hs
      have n1 := c_combinedComb op (k + 19) true true w1 h1 w1 h1 l1 l2 (by omega) (by simp [g1, g2])
      have n2 := c_l4Combine op (k + 19) true true w1 h1 l1 l2 (by omega) g1 g2
      obtain ⟨s1, e1, _, k1⟩ := good_length g1
      obtain ⟨s2, e2, _, k2⟩ := good_length g2
      have hz : (List.zipWith (combG op) l1 l2).length = l1.length := by rw [List.length_zipWith]; omega
      cases hg : goodB w1 h1 (List.zipWith (combG op) l1 l2)
      · rw [hg] at n1 n2
        refine ⟨?_, ?_⟩
        · simp [fldV, nilV] at h1' n2
          simp [R48_0, R48_1, R48_2, R48_3, Try.f48, fldV, h1', i1, n2, nilV, optV]
        · simp [fldV, nilV] at n1
          simp [R47_0, R47_1, R47_2, R47_3, Try.f47, fldV, i2, n1, nilV, optV]
      · rw [hg] at n1 n2
        refine ⟨?_, ?_⟩
        · simp [fldV, ownV, intsO] at h1' n2
          simp only [optV, hz]
          simp [R48_0, R48_1, R48_2, R48_3, Try.f48, fldV, h1', i1, n2, ownV, intsO]
        · simp [fldV, ownV, intsO] at n1
          simp only [optV, hz]
          simp [R47_0, R47_1, R47_2, R47_3, Try.f47, fldV, i2, n1, ownV, intsO]
  · rw [hop] at i1 i2 ⊢
    refine ⟨?_, ?_⟩
    · cases hs : (goodB w1 h1 l1 && (goodB w2 h2 l2 && (w1 == w2 && h1 == h2)))
      · rw [hs] at h1'
        simp [fldV] at h1'
        simp [R48_0, R48_1, R48_2, R48_3, Try.f48, fldV, h1', nilV, optV]
      · rw [hs] at h1'
        simp [fldV] at h1'
        simp [R48_0, R48_1, R48_2, R48_3, Try.f48, fldV, h1', i1, nilV, optV]
    · simp [R47_0, R47_1, R47_2, R47_3, Try.f47, fldV, i2, nilV, optV]
theorem good_zip2 {g : Int → Int → Int} {w h : Int} {l m : List Int} (h1 : goodB w h l = true) (h2 : goodB w h m = true) (hc : ∀ i (hi : i < l.length) (hj : i < m.length), cellB (g l[i] m[i]) = true) : goodB w h (List.zipWith g l m) = true := by
  obtain ⟨s1, n1, cl1, k1⟩ := good_length h1
  obtain ⟨s2, n2, cl2, k2⟩ := good_length h2
  unfold goodB
  rw [s1, List.length_zipWith]
  simp only [Bool.true_and, Bool.and_eq_true, beq_iff_eq]
  refine ⟨by omega, ?_⟩
  rw [List.all_eq_true]
  intro x hx
  obtain ⟨i, hi, rfl⟩ := List.getElem_of_mem hx
  rw [List.length_zipWith] at hi
  rw [List.getElem_zipWith]
  exact hc i (by omega) (by omega)
theorem good_cell {w h : Int} {l : List Int} (hg : goodB w h l = true) (i : Nat) (hi : i < l.length) : l[i] = -9999 ∨ (-9000 ≤ l[i] ∧ l[i] ≤ 9000) := by
  obtain ⟨_, _, cl1, _⟩ := good_length hg
  exact (cellB_iff _).1 (List.all_eq_true.1 cl1 _ (List.getElem_mem hi))
theorem least_most {w h : Int} {l m : List Int} (h1 : goodB w h l = true) (h2 : goodB w h m = true) : goodB w h (List.zipWith (combG 3) l m) = true ∧ goodB w h (List.zipWith (combG 4) l m) = true := by
  constructor <;> refine good_zip2 h1 h2 (fun i hi hj => ?_) <;>
  · have a := good_cell h1 i hi
    have b := good_cell h2 i hj
    rw [cellB_iff]
    unfold combG
    split
    · exact .inl rfl
    · simp only [show ¬ (3 : Int) = 1 by decide, show ¬ (3 : Int) = 2 by decide, show ¬ (4 : Int) = 1 by decide, show ¬ (4 : Int) = 2 by decide, show ¬ (4 : Int) = 3 by decide, if_false, if_true]
      split <;> omega
/-- What the first loop asks. -/
theorem add_back {w h : Int} {l m : List Int} (h1 : goodB w h l = true) (h2 : goodB w h m = true) (hc : goodB w h (List.zipWith (combG 1) l m) = true) :
    goodB w h (List.zipWith (combG 2) (List.zipWith (combG 1) l m) m) = true ∧ goodB w h (List.zipWith (combG 3) l (List.zipWith (combG 1) l m)) = true ∧
    ∀ i (hi : i < l.length) (hj : i < m.length), ((List.zipWith (combG 2) (List.zipWith (combG 1) l m) m)[i]'(by simp; omega) = -9999 ∧ (List.zipWith (combG 3) l (List.zipWith (combG 1) l m))[i]'(by simp; omega) = -9999) ∨
      ((List.zipWith (combG 2) (List.zipWith (combG 1) l m) m)[i]'(by simp; omega) = l[i] ∧ l[i] ≠ -9999 ∧ (List.zipWith (combG 3) l (List.zipWith (combG 1) l m))[i]'(by simp; omega) ≠ -9999) := by
  have key : ∀ i (hi : i < l.length) (hj : i < m.length), (combG 1 l[i] m[i] = -9999 ∧ (l[i] = -9999 ∨ m[i] = -9999)) ∨ (l[i] ≠ -9999 ∧ m[i] ≠ -9999 ∧ combG 1 l[i] m[i] = l[i] + m[i] ∧ -9000 ≤ l[i] + m[i] ∧ l[i] + m[i] ≤ 9000) := by
    intro i hi hj
    have a := good_cell h1 i hi
    have b := good_cell h2 i hj
    have c := good_cell hc i (by simp; omega)
    rw [List.getElem_zipWith] at c
    unfold combG at c ⊢
    by_cases hm : l[i] = -9999 ∨ m[i] = -9999
    · rw [if_pos hm]; exact .inl ⟨rfl, hm⟩
    · rw [if_neg hm, if_pos rfl] at c ⊢
      right
      unfold ckI at c ⊢
      by_cases hr : -9000 ≤ l[i] + m[i] ∧ l[i] + m[i] ≤ 9000
      · rw [if_pos hr]; omega
      · rw [if_neg hr] at c; omega
  have val : ∀ i (hi : i < l.length) (hj : i < m.length), (combG 2 (combG 1 l[i] m[i]) m[i] = -9999 ∧ combG 3 l[i] (combG 1 l[i] m[i]) = -9999) ∨ (combG 2 (combG 1 l[i] m[i]) m[i] = l[i] ∧ l[i] ≠ -9999 ∧ combG 3 l[i] (combG 1 l[i] m[i]) ≠ -9999 ∧ -9000 ≤ combG 3 l[i] (combG 1 l[i] m[i]) ∧ combG 3 l[i] (combG 1 l[i] m[i]) ≤ 9000) := by
    intro i hi hj
    have a := good_cell h1 i hi
    have b := good_cell h2 i hj
    rcases key i hi hj with ⟨e, e2⟩ | ⟨x0, y0, e, lo, hi'⟩
    · left
      rw [e]
      simp [combG]
    · right
      rw [e]
      have e2 : combG 2 (l[i] + m[i]) m[i] = l[i] := by
        unfold combG
        rw [if_neg (by omega)]
        simp only [show ¬ (2 : Int) = 1 by decide, if_false, if_true]
        unfold ckI
        rw [if_pos (by omega)]
        omega
      have e3 : combG 3 l[i] (l[i] + m[i]) = if l[i] + m[i] < l[i] then l[i] + m[i] else l[i] := by
        unfold combG
        rw [if_neg (by omega)]
        simp
      rw [e2, e3]
      refine ⟨rfl, x0, ?_⟩
      split <;> omega
  refine ⟨good_zip2 hc h2 (fun i hi hj => ?_), good_zip2 h1 hc (fun i hi hj => ?_), fun i hi hj => ?_⟩
  · rw [List.length_zipWith] at hi
    rw [List.getElem_zipWith, cellB_iff]
    have a := good_cell h1 i (by omega)
    rcases val i (by omega) hj with ⟨e, _⟩ | ⟨e, _⟩
    · exact .inl e
    · rw [e]; exact a
  · rw [List.length_zipWith] at hj
    rw [List.getElem_zipWith, cellB_iff]
    rcases val i hi (by omega) with ⟨_, e⟩ | ⟨_, _, _, e⟩
    · exact .inl e
    · exact .inr e
  · simp only [List.getElem_zipWith]
    rcases val i hi hj with h | ⟨e1, e2, e3, _⟩
    · exact .inl h
    · exact .inr ⟨e1, e2, e3⟩
theorem min_max {w h : Int} {l m : List Int} (h1 : goodB w h l = true) (h2 : goodB w h m = true) (i : Nat) (hi : i < l.length) (hj : i < m.length) : combG 3 l[i] m[i] = -9999 ∨ (combG 3 l[i] m[i] ≠ -9999 ∧ combG 3 l[i] m[i] + combG 4 l[i] m[i] = l[i] + m[i] ∧ -20000 ≤ l[i] + m[i] ∧ l[i] + m[i] ≤ 20000) := by
  have a := good_cell h1 i hi
  have b := good_cell h2 i hj
  unfold combG
  by_cases hm : l[i] = -9999 ∨ m[i] = -9999
  · rw [if_pos hm]; exact .inl rfl
  · rw [if_neg hm, if_neg hm]
    right
    simp only [show ¬ (3 : Int) = 1 by decide, show ¬ (3 : Int) = 2 by decide, show ¬ (4 : Int) = 1 by decide, show ¬ (4 : Int) = 2 by decide, show ¬ (4 : Int) = 3 by decide, if_false, if_true]
    split <;> split <;> omega
theorem alg_tail (code : List Int) (hb' : ∀ x ∈ code, 0 ≤ x ∧ x ≤ 255) (hl : code.length ≤ maxLen) (st : St) (q0 : st.ρ 0 = .sq false true 1 (u8s code)) : ∃ st', runCode C (callK C 4999) 4999 (K 6) M6_1 2 st = some (.ret, st') ∧ st'.ρ 2 = .c (.bool true) := by
  obtain ⟨w, h, l, off, n, x, y, D1, hon, h64⟩ := c_DrawScaleField 4999 code hb' hl (by omega)
  obtain ⟨L, hL⟩ : ∃ L, (l.drop off).take n = L := ⟨_, rfl⟩
  have hn : n = L.length := by rw [← hL, List.length_take, List.length_drop]; omega
  have VN := c_vFieldNil 4999 (by omega)
  have I1 := c_implScale 4999 true w h L x y (by omega)
  have S1 := c_specScale 4999 true w h L x y (by omega)
  have VC := c_vField 4999 true true w h (chgM (scG x y) L) (by rw [chgM_length]; omega) (by rw [chgM_length]; omega)
  have zc := chgM_length (scG x y) L
  have tc : (chgM (scG x y) L).take L.length = chgM (scG x y) L := by rw [← zc]; exact List.take_length
  simp [nilV] at VN
  simp [fldV] at VC
  simp [intsO] at D1
  cases hc : (scP x y && (goodB w h L && goodB w h (chgM (scG x y) L))) <;> rw [hc] at I1 S1
  · simp [optV, fldV, nilV] at I1 S1
    simp [R6_0, R6_1, R6_2, R6_3, R6_4, R6_5, R6_6, R6_7, R6_8, R6_9, R6_10, R6_11, R6_12, R6_13, R6_14, R6_15, R6_16, R6_17, R6_18, R6_19, R6_20, R6_21, R6_22, R6_23, R6_24, R6_25, R6_26, R6_27, R6_28, R6_29, R6_30, Try.f6, lpL6_0, lpL6_1, lpM6_0, lpM6_1, M6_0, M6_1, undef, q0, D1, hL, hon, I1, S1, VN]
  · simp [optV, fldV, ownV, intsO, zc] at I1 S1
    simp [R6_0, R6_1, R6_2, R6_3, R6_4, R6_5, R6_6, R6_7, R6_8, R6_9, R6_10, R6_11, R6_12, R6_13, R6_14, R6_15, R6_16, R6_17, R6_18, R6_19, R6_20, R6_21, R6_22, R6_23, R6_24, R6_25, R6_26, R6_27, R6_28, R6_29, R6_30, Try.f6, lpL6_0, lpL6_1, lpM6_0, lpM6_1, M6_0, M6_1, undef, q0, D1, hL, hon, I1, S1, VC, zc, tc]
theorem alg_mid (code : List Int) (hb' : ∀ x ∈ code, 0 ≤ x ∧ x ≤ 255) (hl : code.length ≤ maxLen) (w h : Int) (l : List Int) (off n : Nat) (w2 h2 : Int) (m L : List Int) (hon : off + n ≤ l.length) (h64 : l.length ≤ 64) (h64m : m.length ≤ 64) (hL : (l.drop off).take n = L) (st : St) (q0 : st.ρ 0 = .sq false true 1 (u8s code)) (q4 : st.ρ 4 = .p 3184 3 3 0 0) (q5 : st.ρ 5 = .p 3200 3 3 0 0)
    (H4 : st.H 3184 = some (3, ⟨29, 3, false, [[.c (.int .i64 w), .c (.int .i64 h), .s 3104 3 1 off n]]⟩)) (H5 : st.H 3200 = some (3, ⟨29, 3, false, [[.c (.int .i64 w2), .c (.int .i64 h2), .s 3105 3 1 0 m.length]]⟩)) (A4 : st.H 3104 = some (3, intsO l)) (A5 : st.H 3105 = some (3, intsO m)) :
    ∃ st', runCode C (callK C 4999) 4999 (K 6) M6_0 1 st = some (.ret, st') ∧ st'.ρ 2 = .c (.bool true) := by
  have hn : n = L.length := by rw [← hL, List.length_take, List.length_drop]; omega
  obtain ⟨_, X3⟩ := res_Comb 4999 3 w h L w2 h2 m (by omega)
  obtain ⟨_, X4⟩ := res_Comb 4999 4 w h L w2 h2 m (by omega)
  obtain ⟨tk, htk⟩ : ∃ tk, st.tick = tk := ⟨_, rfl⟩
  simp [intsO] at A4 A5
  have hL0 := loopHas (body := fun st => runCode C (callK C 4999) 4999 (K 6) L6_1 2 st) (keep := [0, 4, 5, 15, 16, 17, 19]) (.ex 2) (fun st => st.ρ 0 = .sq false true 1 (u8s code))
    (fun i st => st.ρ 0 = .sq false true 1 (u8s code) ∧ st.ρ 15 = .p 18544 tk 3 0 0 ∧ st.ρ 16 = .c (.bool false) ∧ st.ρ 19 = .c (.int .i64 0) ∧ st.H 18544 = some (tk, ⟨29, 3, false, [[.c (.int .i64 0), .c (.int .i64 0), .c (.slice none 0 0)]]⟩))
    0 4999 (by omega) (by intro i st next hi; omega)
    (by
      rintro st next ⟨q0, q15, q16, q19, H15⟩
      simp [L6_1, R6_0, R6_1, R6_2, R6_3, R6_4, R6_5, R6_6, R6_7, R6_8, R6_9, R6_10, R6_11, R6_12, R6_13, R6_14, R6_15, R6_16, R6_17, R6_18, R6_19, R6_20, R6_21, R6_22, R6_23, R6_24, R6_25, R6_26, R6_27, R6_28, R6_29, R6_30, Try.f6, lpL6_0, lpL6_1, lpM6_0, lpM6_1, undef, q0, q15, q16, q19, H15])
  by_cases hs : sgB w h L w2 h2 m = true
  · have hs' := hs
    simp only [sgB, Bool.and_eq_true, beq_iff_eq] at hs'
    obtain ⟨g1, g2, rfl, rfl⟩ := hs'
    obtain ⟨_, n1, _, k1⟩ := good_length g1
    obtain ⟨_, n2, _, k2⟩ := good_length g2
    obtain ⟨z3, z4⟩ := least_most g1 g2
    have b3 : cmbB 3 w h L w h m = true := by simp [cmbB, hs, z3]
    have b4 : cmbB 4 w h L w h m = true := by simp [cmbB, hs, z4]
    rw [b3] at X3
    rw [b4] at X4
    have l3 : (List.zipWith (combG 3) L m).length = n := by rw [List.length_zipWith]; omega
    have l4 : (List.zipWith (combG 4) L m).length = n := by rw [List.length_zipWith]; omega
    have hmm := fun i (hi : i < L.length) (hj : i < m.length) => min_max g1 g2 i hi hj
    obtain ⟨X, hX⟩ : ∃ X, List.zipWith (combG 3) L m = X := ⟨_, rfl⟩
    obtain ⟨Y, hY⟩ : ∃ Y, List.zipWith (combG 4) L m = Y := ⟨_, rfl⟩
    have vals : ∀ i (hi : i < n), X[i]'(by rw [← hX, l3]; exact hi) = -9999 ∨ (X[i]'(by rw [← hX, l3]; exact hi) ≠ -9999 ∧ X[i]'(by rw [← hX, l3]; exact hi) + Y[i]'(by rw [← hY, l4]; exact hi) = l[off + i]'(by omega) + m[i]'(by omega) ∧ -20000 ≤ l[off + i]'(by omega) + m[i]'(by omega) ∧ l[off + i]'(by omega) + m[i]'(by omega) ≤ 20000) := by
      intro i hi
      have hi3 : off + i < l.length := by omega
      have hgi : ((l.drop off).take n)[i]? = some l[off + i] := by
        rw [List.getElem?_take, if_pos hi, List.getElem?_drop, List.getElem?_eq_getElem hi3]
      rw [hL] at hgi
      have hLi : L[i]'(by omega) = l[off + i] := by
        rw [List.getElem?_eq_getElem (by omega)] at hgi
        exact Option.some.inj hgi
      have := hmm i (by omega) (by omega)
      rw [hLi] at this
      subst hX hY
      simpa [hLi] using this
    rw [hX] at X3 l3
    rw [hY] at X4 l4
    simp [optV, fldV, ownV, intsO, l3] at X3
    simp [optV, fldV, ownV, intsO, l4] at X4
    have hL1 := loopHas (body := fun st => runCode C (callK C 4999) 4999 (K 6) L6_1 2 st) (keep := [0, 4, 5, 15, 16, 17, 19]) (.ex 2) (fun st => st.ρ 0 = .sq false true 1 (u8s code))
      (fun i st => st.ρ 0 = .sq false true 1 (u8s code) ∧ st.ρ 4 = .p 3184 3 3 0 0 ∧ st.ρ 5 = .p 3200 3 3 0 0 ∧ st.ρ 15 = .p 18544 tk 3 0 0 ∧ st.ρ 16 = .c (.bool true) ∧ st.ρ 17 = .p 19568 (tk + 1) 3 0 0 ∧ st.ρ 19 = .c (.int .i64 (i : Int)) ∧
        st.H 3184 = some (3, ⟨29, 3, false, [[.c (.int .i64 w), .c (.int .i64 h), .s 3104 3 1 off n]]⟩) ∧ st.H 3200 = some (3, ⟨29, 3, false, [[.c (.int .i64 w), .c (.int .i64 h), .s 3105 3 1 0 m.length]]⟩) ∧ st.H 3104 = some (3, intsO l) ∧ st.H 3105 = some (3, intsO m) ∧
        st.H 18544 = some (tk, ⟨29, 3, false, [[.c (.int .i64 w), .c (.int .i64 h), .s 18480 tk 1 0 n]]⟩) ∧ st.H 18480 = some (tk, intsO X) ∧
        st.H 19568 = some (tk + 1, ⟨29, 3, false, [[.c (.int .i64 w), .c (.int .i64 h), .s 19504 (tk + 1) 1 0 n]]⟩) ∧ st.H 19504 = some (tk + 1, intsO Y))
      n 4999 (by omega)
      (by
        rintro i st next hi ⟨q0, q4, q5, q15, q16, q17, q19, H4, H5, A4, A5, H15, A15, H17, A17⟩ hx
        have hwn := wrap_next hi (by omega)
        have hi1 : i < X.length := by omega
        have hi2 : i < Y.length := by omega
        have hi3 : off + i < l.length := by omega
        have hi4 : i < m.length := by omega
        have hv := vals i hi
        simp [intsO] at A4 A5 A15 A17
        rcases hv with e | ⟨e, e2, e3, e4⟩
        · simp [L6_1, R6_0, R6_1, R6_2, R6_3, R6_4, R6_5, R6_6, R6_7, R6_8, R6_9, R6_10, R6_11, R6_12, R6_13, R6_14, R6_15, R6_16, R6_17, R6_18, R6_19, R6_20, R6_21, R6_22, R6_23, R6_24, R6_25, R6_26, R6_27, R6_28, R6_29, R6_30, Try.f6, lpL6_0, lpL6_1, lpM6_0, lpM6_1, undef, q0, q4, q5, q15, q16, q17, q19, H4, H5, A4, A5, H15, A15, H17, A17, hi, hi1, hi2, hi3, hi4, e, hwn]
          refine hx _ ⟨?_, ?_, ?_, ?_, ?_, ?_, ?_, ?_, ?_, ?_, ?_, ?_, ?_, ?_, ?_⟩ <;> simp [q0, q4, q5, q15, q16, q17, H4, H5, A4, A5, H15, A15, H17, A17, intsO]
        · have eb : (X[i] != -9999) = true := by simpa using e
          have w1 : IntKind.i64.wrap (X[i] + Y[i]) = l[off + i] + m[i] := by rw [e2]; exact wrap_small (by omega) (by omega)
          have w2 : IntKind.i64.wrap (l[off + i] + m[i]) = l[off + i] + m[i] := wrap_small (by omega) (by omega)
          simp [L6_1, R6_0, R6_1, R6_2, R6_3, R6_4, R6_5, R6_6, R6_7, R6_8, R6_9, R6_10, R6_11, R6_12, R6_13, R6_14, R6_15, R6_16, R6_17, R6_18, R6_19, R6_20, R6_21, R6_22, R6_23, R6_24, R6_25, R6_26, R6_27, R6_28, R6_29, R6_30, Try.f6, lpL6_0, lpL6_1, lpM6_0, lpM6_1, undef, q0, q4, q5, q15, q16, q17, q19, H4, H5, A4, A5, H15, A15, H17, A17, hi, hi1, hi2, hi3, hi4, e, eb, w1, w2, hwn]
          refine hx _ ⟨?_, ?_, ?_, ?_, ?_, ?_, ?_, ?_, ?_, ?_, ?_, ?_, ?_, ?_, ?_⟩ <;> simp [q0, q4, q5, q15, q16, q17, H4, H5, A4, A5, H15, A15, H17, A17, intsO])
      (by
        rintro st next ⟨q0, q4, q5, q15, q16, q17, q19, H4, H5, A4, A5, H15, A15, H17, A17⟩
        simp [L6_1, R6_0, R6_1, R6_2, R6_3, R6_4, R6_5, R6_6, R6_7, R6_8, R6_9, R6_10, R6_11, R6_12, R6_13, R6_14, R6_15, R6_16, R6_17, R6_18, R6_19, R6_20, R6_21, R6_22, R6_23, R6_24, R6_25, R6_26, R6_27, R6_28, R6_29, R6_30, Try.f6, lpL6_0, lpL6_1, lpM6_0, lpM6_1, undef, q0, q4, q5, q15, q16, q17, q19, H4, H5, A4, A5, H15, A15, H17, A17])
    simp [M6_0, R6_0, R6_1, R6_2, R6_3, R6_4, R6_5, R6_6, R6_7, R6_8, R6_9, R6_10, R6_11, R6_12, R6_13, R6_14, R6_15, R6_16, R6_17, R6_18, R6_19, R6_20, R6_21, R6_22, R6_23, R6_24, R6_25, R6_26, R6_27, R6_28, R6_29, R6_30, Try.f6, lpL6_0, lpL6_1, lpM6_0, lpM6_1, undef, q0, q4, q5, H4, H5, A4, A5, hL, hon, X3, X4, htk]
    generalize hr2 : loopRun _ _ _ _ = res
    obtain ⟨s1, rfl, f0⟩ := loop_at hL1 hr2 ⟨by simp [q0], by simp [q4], by simp [q5], by simp, by simp, by simp, by simp, by simp [H4], by simp [H5], by simp [A4, intsO], by simp [A5, intsO], by simp, by simp [intsO], by simp, by simp [intsO]⟩
    obtain ⟨s2, e2, f2⟩ := alg_tail code hb' hl s1 f0
    simp [e2, f2]
  · have hs0 : sgB w h L w2 h2 m = false := by simpa using hs
    have b3 : cmbB 3 w h L w2 h2 m = false := by simp [cmbB, hs0]
    have b4 : cmbB 4 w h L w2 h2 m = false := by simp [cmbB, hs0]
    rw [b3] at X3
    rw [b4] at X4
    simp [optV, fldV, nilV] at X3 X4
    simp [M6_0, R6_0, R6_1, R6_2, R6_3, R6_4, R6_5, R6_6, R6_7, R6_8, R6_9, R6_10, R6_11, R6_12, R6_13, R6_14, R6_15, R6_16, R6_17, R6_18, R6_19, R6_20, R6_21, R6_22, R6_23, R6_24, R6_25, R6_26, R6_27, R6_28, R6_29, R6_30, Try.f6, lpL6_0, lpL6_1, lpM6_0, lpM6_1, undef, q0, q4, q5, H4, H5, A4, A5, hL, hon, X3, X4, htk]
    generalize hr2 : loopRun _ _ _ _ = res
    obtain ⟨s1, rfl, f0⟩ := loop_at hL0 hr2 ⟨by simp [q0], by simp, by simp, by simp, by simp⟩
    obtain ⟨s2, e2, f2⟩ := alg_tail code hb' hl s1 f0
    simp [e2, f2]
theorem law_FnAlgebra (code : List Int) (hl : code.length ≤ maxLen) (hb : ∀ x ∈ code, (Lit.int .u8 x).wf = true) : ∃ k, callK C k 6 [.sq false true 1 (u8s code)] [] = some (.c (.bool true), hpOf [] []) := by
  have hb' : ∀ x ∈ code, 0 ≤ x ∧ x ≤ 255 := fun x hx => by
    have := hb x hx
    simpa [Lit.wf, IntKind.min, IntKind.max, IntKind.signed, IntKind.bits] using this
  refine ⟨5000, ?_⟩
  rw [callK_fn (k := 4999) rfl F6 code6]
  have v0 := c_vBig 4999 code (by omega)
  by_cases h16 : 65536 < code.length
  · simp [h16] at v0
    simp [R6_0, R6_1, R6_2, R6_3, R6_4, R6_5, R6_6, R6_7, R6_8, R6_9, R6_10, R6_11, R6_12, R6_13, R6_14, R6_15, R6_16, R6_17, R6_18, R6_19, R6_20, R6_21, R6_22, R6_23, R6_24, R6_25, R6_26, R6_27, R6_28, R6_29, R6_30, Try.f6, lpL6_0, lpL6_1, lpM6_0, lpM6_1, M6_0, M6_1, v0]
  simp [h16] at v0
  obtain ⟨op, w, h, l, off, n, w2, h2, m, D1, hon, h64, h64m⟩ := c_DrawCombine 4999 code hb' hl (by omega)
  obtain ⟨L, hL⟩ : ∃ L, (l.drop off).take n = L := ⟨_, rfl⟩
  have hn : n = L.length := by rw [← hL, List.length_take, List.length_drop]; omega
  have VN := c_vFieldNil 4999 (by omega)
  obtain ⟨S1, I1⟩ := res_Comb 4999 op w h L w2 h2 m (by omega)
  simp [nilV] at VN
  simp [intsO] at D1
  have mid : ∀ st : St, (st.ρ 0 = .sq false true 1 (u8s code) ∧ st.ρ 4 = .p 3184 3 3 0 0 ∧ st.ρ 5 = .p 3200 3 3 0 0 ∧ st.H 3184 = some (3, ⟨29, 3, false, [[.c (.int .i64 w), .c (.int .i64 h), .s 3104 3 1 off n]]⟩) ∧ st.H 3200 = some (3, ⟨29, 3, false, [[.c (.int .i64 w2), .c (.int .i64 h2), .s 3105 3 1 0 m.length]]⟩) ∧ st.H 3104 = some (3, intsO l) ∧ st.H 3105 = some (3, intsO m)) →
      ∃ s, runCode C (callK C 4999) 4999 (K 6) M6_0 1 st = some (.ret, s) ∧ s.ρ 2 = .c (.bool true) := fun st ⟨q0, q4, q5, H4, H5, A4, A5⟩ => alg_mid code hb' hl w h l off n w2 h2 m L hon h64 h64m hL st q0 q4 q5 H4 H5 A4 A5
  cases hc : cmbB op w h L w2 h2 m
  · rw [hc] at S1 I1
    simp [optV, fldV, nilV] at S1 I1
    simp [R6_0, R6_1, R6_2, R6_3, R6_4, R6_5, R6_6, R6_7, R6_8, R6_9, R6_10, R6_11, R6_12, R6_13, R6_14, R6_15, R6_16, R6_17, R6_18, R6_19, R6_20, R6_21, R6_22, R6_23, R6_24, R6_25, R6_26, R6_27, R6_28, R6_29, R6_30, Try.f6, lpL6_0, lpL6_1, lpM6_0, lpM6_1, undef, v0, D1, hL, hon, S1, I1, VN]
    generalize hst : runCode _ _ _ _ M6_0 _ _ = res
    obtain ⟨s2, rfl, f2⟩ := loop_at mid hst ⟨by simp, by simp, by simp, by simp, by simp, by simp [intsO], by simp [intsO]⟩
    simp [f2]
  · rw [hc] at S1 I1
    have hc' := hc
    simp only [cmbB, sgB, Bool.and_eq_true, beq_iff_eq] at hc'
    obtain ⟨_, ⟨g1, g2, rfl, rfl⟩, gz⟩ := hc'
    obtain ⟨_, n1, _, k1⟩ := good_length g1
    obtain ⟨_, n2, _, k2⟩ := good_length g2
    have lz : (List.zipWith (combG op) L m).length = n := by rw [List.length_zipWith]; omega
    have VC := c_vField 4999 true true w h (List.zipWith (combG op) L m) (by omega) (by omega)
    by_cases h1 : op = 1
    · subst h1
      obtain ⟨zb, zm, hi0⟩ := add_back g1 g2 gz
      obtain ⟨_, B1⟩ := res_Comb 4999 2 w h (List.zipWith (combG 1) L m) w h m (by omega)
      obtain ⟨_, K1⟩ := res_Comb 4999 3 w h L w h (List.zipWith (combG 1) L m) (by omega)
      rw [show cmbB 2 w h (List.zipWith (combG 1) L m) w h m = true by simp [cmbB, sgB, gz, g2, zb]] at B1
      rw [show cmbB 3 w h L w h (List.zipWith (combG 1) L m) = true by simp [cmbB, sgB, gz, g1, zm]] at K1
      have lb : (List.zipWith (combG 2) (List.zipWith (combG 1) L m) m).length = n := by rw [List.length_zipWith]; omega
      have lm : (List.zipWith (combG 3) L (List.zipWith (combG 1) L m)).length = n := by rw [List.length_zipWith]; omega
      obtain ⟨Bk, hB⟩ : ∃ A, List.zipWith (combG 2) (List.zipWith (combG 1) L m) m = A := ⟨_, rfl⟩
      obtain ⟨Mk, hM⟩ : ∃ A, List.zipWith (combG 3) L (List.zipWith (combG 1) L m) = A := ⟨_, rfl⟩
      have vals : ∀ i (hi : i < n) (h1 : i < Bk.length) (h2 : i < Mk.length) (h3 : off + i < l.length), (Bk[i] = -9999 ∧ Mk[i] = -9999) ∨ (Bk[i] = l[off + i] ∧ l[off + i] ≠ -9999 ∧ Mk[i] ≠ -9999) := by
        intro i hi h1 h2 h3
        have hgi : ((l.drop off).take n)[i]? = some l[off + i] := by
          rw [List.getElem?_take, if_pos hi, List.getElem?_drop, List.getElem?_eq_getElem h3]
        rw [hL] at hgi
        have hLi : L[i]'(by omega) = l[off + i] := by
          rw [List.getElem?_eq_getElem (by omega)] at hgi
          exact Option.some.inj hgi
        have := hi0 i (by omega) (by omega)
        rw [hLi] at this
        subst hB hM
        exact this
      rw [hB] at B1 lb
      rw [hM] at K1 lm
      obtain ⟨A, hA⟩ : ∃ A, List.zipWith (combG 1) L m = A := ⟨_, rfl⟩
      rw [hA] at S1 I1 VC B1 K1 lz
      have tA : A.take n = A := by rw [← lz]; exact List.take_length
      simp [optV, fldV, ownV, intsO, lz] at S1 I1
      simp [optV, fldV, ownV, intsO, lb] at B1
      simp [optV, fldV, ownV, intsO, lm] at K1
      simp [fldV] at VC
      have hL1 := loopHas (body := fun st => runCode C (callK C 4999) 4999 (K 6) L6_0 1 st) (keep := [0, 4, 5, 10, 12, 14]) (.ex 0) (fun st => st.ρ 0 = .sq false true 1 (u8s code) ∧ st.ρ 4 = .p 3184 3 3 0 0 ∧ st.ρ 5 = .p 3200 3 3 0 0 ∧ st.H 3184 = some (3, ⟨29, 3, false, [[.c (.int .i64 w), .c (.int .i64 h), .s 3104 3 1 off n]]⟩) ∧ st.H 3200 = some (3, ⟨29, 3, false, [[.c (.int .i64 w), .c (.int .i64 h), .s 3105 3 1 0 m.length]]⟩) ∧ st.H 3104 = some (3, intsO l) ∧ st.H 3105 = some (3, intsO m))
        (fun i st => st.ρ 0 = .sq false true 1 (u8s code) ∧ st.ρ 4 = .p 3184 3 3 0 0 ∧ st.ρ 5 = .p 3200 3 3 0 0 ∧ st.ρ 10 = .p 9328 8 3 0 0 ∧ st.ρ 12 = .p 10352 9 3 0 0 ∧ st.ρ 14 = .c (.int .i64 (i : Int)) ∧ st.H 3184 = some (3, ⟨29, 3, false, [[.c (.int .i64 w), .c (.int .i64 h), .s 3104 3 1 off n]]⟩) ∧ st.H 3200 = some (3, ⟨29, 3, false, [[.c (.int .i64 w), .c (.int .i64 h), .s 3105 3 1 0 m.length]]⟩) ∧ st.H 3104 = some (3, intsO l) ∧ st.H 3105 = some (3, intsO m) ∧
          st.H 9328 = some (8, ⟨29, 3, false, [[.c (.int .i64 w), .c (.int .i64 h), .s 9264 8 1 0 n]]⟩) ∧ st.H 9264 = some (8, intsO Bk) ∧
          st.H 10352 = some (9, ⟨29, 3, false, [[.c (.int .i64 w), .c (.int .i64 h), .s 10288 9 1 0 n]]⟩) ∧ st.H 10288 = some (9, intsO Mk))
        n 4999 (by omega)
        (by
          rintro i st next hi ⟨q0, q4, q5, q10, q12, q14, H4, H5, A4, A5, H10, A10, H12, A12⟩ hx
          have hwn := wrap_next hi (by omega)
          have hi1 : i < Bk.length := by omega
          have hi2 : i < Mk.length := by omega
          have hi3 : off + i < l.length := by omega
          have hv := vals i hi hi1 hi2 hi3
          simp [intsO] at A4 A5 A10 A12
          rcases hv with ⟨e, e2⟩ | ⟨e, e2, e3⟩
          · simp [L6_0, R6_0, R6_1, R6_2, R6_3, R6_4, R6_5, R6_6, R6_7, R6_8, R6_9, R6_10, R6_11, R6_12, R6_13, R6_14, R6_15, R6_16, R6_17, R6_18, R6_19, R6_20, R6_21, R6_22, R6_23, R6_24, R6_25, R6_26, R6_27, R6_28, R6_29, R6_30, Try.f6, lpL6_0, lpL6_1, lpM6_0, lpM6_1, undef, q0, q4, q5, q10, q12, q14, H4, H5, A4, A5, H10, A10, H12, A12, hi, hi1, hi2, hi3, e, e2, hwn]
            refine hx _ ⟨?_, ?_, ?_, ?_, ?_, ?_, ?_, ?_, ?_, ?_, ?_, ?_, ?_, ?_⟩ <;> simp [q0, q4, q5, q10, q12, H4, H5, A4, A5, H10, A10, H12, A12, intsO]
          · have e2b : (l[off + i] == -9999) = false := by simpa using e2
            have e2c : (l[off + i] != -9999) = true := by simpa using e2
            have e3b : (Mk[i] == -9999) = false := by simpa using e3
            simp [L6_0, R6_0, R6_1, R6_2, R6_3, R6_4, R6_5, R6_6, R6_7, R6_8, R6_9, R6_10, R6_11, R6_12, R6_13, R6_14, R6_15, R6_16, R6_17, R6_18, R6_19, R6_20, R6_21, R6_22, R6_23, R6_24, R6_25, R6_26, R6_27, R6_28, R6_29, R6_30, Try.f6, lpL6_0, lpL6_1, lpM6_0, lpM6_1, undef, q0, q4, q5, q10, q12, q14, H4, H5, A4, A5, H10, A10, H12, A12, hi, hi1, hi2, hi3, e, e2, e2b, e2c, e3, e3b, hwn]
            refine hx _ ⟨?_, ?_, ?_, ?_, ?_, ?_, ?_, ?_, ?_, ?_, ?_, ?_, ?_, ?_⟩ <;> simp [q0, q4, q5, q10, q12, H4, H5, A4, A5, H10, A10, H12, A12, intsO])
        (by
          rintro st next ⟨q0, q4, q5, q10, q12, q14, H4, H5, A4, A5, H10, A10, H12, A12⟩
          simp [L6_0, R6_0, R6_1, R6_2, R6_3, R6_4, R6_5, R6_6, R6_7, R6_8, R6_9, R6_10, R6_11, R6_12, R6_13, R6_14, R6_15, R6_16, R6_17, R6_18, R6_19, R6_20, R6_21, R6_22, R6_23, R6_24, R6_25, R6_26, R6_27, R6_28, R6_29, R6_30, Try.f6, lpL6_0, lpL6_1, lpM6_0, lpM6_1, undef, q0, q4, q5, q10, q12, q14, H4, H5, A4, A5, H10, A10, H12, A12])
      simp [R6_0, R6_1, R6_2, R6_3, R6_4, R6_5, R6_6, R6_7, R6_8, R6_9, R6_10, R6_11, R6_12, R6_13, R6_14, R6_15, R6_16, R6_17, R6_18, R6_19, R6_20, R6_21, R6_22, R6_23, R6_24, R6_25, R6_26, R6_27, R6_28, R6_29, R6_30, Try.f6, lpL6_0, lpL6_1, lpM6_0, lpM6_1, undef, v0, D1, hL, hon, S1, I1, VC, B1, K1, lz, tA, lb, lm]
      generalize hr2 : loopRun _ _ _ _ = res
      obtain ⟨s1, rfl, f0, f4, f5, H4, H5, A4, A5⟩ := loop_at hL1 hr2 ⟨by simp, by simp, by simp, by simp, by simp, by simp, by simp, by simp, by simp [intsO], by simp [intsO], by simp, by simp [intsO], by simp, by simp [intsO]⟩
      simp
      generalize hst : runCode _ _ _ _ M6_0 _ _ = res
      obtain ⟨s2, rfl, f2⟩ := loop_at mid hst ⟨by simp [f0], by simp [f4], by simp [f5], by simp [H4], by simp [H5], by simp [A4], by simp [A5]⟩
      simp [f2]
    · have h1b : (op == 1) = false := by simpa using h1
      obtain ⟨A, hA⟩ : ∃ A, List.zipWith (combG op) L m = A := ⟨_, rfl⟩
      rw [hA] at S1 I1 VC lz
      have tA : A.take n = A := by rw [← lz]; exact List.take_length
      simp [optV, fldV, ownV, intsO, lz] at S1 I1
      simp [fldV] at VC
      simp [R6_0, R6_1, R6_2, R6_3, R6_4, R6_5, R6_6, R6_7, R6_8, R6_9, R6_10, R6_11, R6_12, R6_13, R6_14, R6_15, R6_16, R6_17, R6_18, R6_19, R6_20, R6_21, R6_22, R6_23, R6_24, R6_25, R6_26, R6_27, R6_28, R6_29, R6_30, Try.f6, lpL6_0, lpL6_1, lpM6_0, lpM6_1, undef, v0, D1, hL, hon, S1, I1, VC, lz, tA, h1, h1b]
      generalize hst : runCode _ _ _ _ M6_0 _ _ = res
      obtain ⟨s2, rfl, f2⟩ := loop_at mid hst ⟨by simp, by simp, by simp, by simp, by simp, by simp [intsO], by simp [intsO]⟩
      simp [f2]

end Go.Proofs.Ytfdlllhcjfhknaa.Eng
