/- A deterministic reading of Go code over plain data: what functions of the program compute. No conditions. -/
import Derived.Test.YthbekdccfleaoaaDoorLmbase
import Derived.Test.YthbekdccfleaoaaDoorLmimpl
import Derived.Test.YthbekdccfleaoaaDoorLmgood
import Derived.Test.YthbekdccfleaoaaDoorLmitoa
import Derived.Test.YthbekdccfleaoaaDoorLmappendck
import Derived.Test.YthbekdccfleaoaaDoorLmsplit
import Derived.Test.YthbekdccfleaoaaDoorLmquantity
import Derived.Test.YthbekdccfleaoaaDoorEngT
import Derived.Lib.IndexLaws
namespace Go.Proofs.YthbekdccfleaoaaDoor.Eng
open Go Go.Proofs
set_option maxRecDepth 100000
set_option maxHeartbeats 2000000
set_option linter.unusedSimpArgs false
set_option linter.unusedVariables false
attribute [local simp] finK fin1 hpOf xi renQ isRoot runCode runOps Eng.step wantedV astep val ofO made loadV storeV find V.cells bin binT un1 setAt fieldAddrV fieldV indexAddrV indexV bounds sliceV convV lenV foldV max2V min2V callO bor rdsO wrsO seen_none okD_none loops keepIds resV resultsV St.ev TK.agg refs refsL refsO V.one V.isC Value.oneCell' ren renL renO noTag noTagL noTagR noTagO nodup mapO passV frs psi refsR newD loopNext opsAt idx flatAt rootOf backR newsV appendV copyV clearV strV bytesOf nilCmp buildV fillF chunk
attribute [local simp] cT cF cX cWR cOW cK X ints_length ints_get ints_getElem ints_drop ints_take ints_append ints_nil ints_set
attribute [local simp] ints_replicate
attribute [local simp] putV_some putV_none putH_app applyD_nil applyD_cons seen_app gc_ρ gc_H gc_tick st0_ρ st0_H st0_tick retV callRo callV_if borL_nil borL_cons ints_snoc take_self callWr cutH_app findQ afterV exportV_0 exportV_n okD_nil okD_cons sub_seq0 sub_seq1 sub_cond0 sub_cond1 sub_block sub_loop sub_nil young_far young_none hidW_nil mayW_nil pairs okI ok_0 ok_1 ok_2
attribute [local simp] T3 T4 T5 T9 T22 T28 T41 T45 T89 T97 T102 T103 T105 T120 T126 T137 T141 T143 T144
attribute [local simp] young_near clo cloF Region.binds Nat.testBit hidW declW mayW
theorem c_lIndexG (k : Nat) (l : List UInt8) (c : UInt8) (hk : 1 ≤ k) : callK C k 176 [.c (.string (bs l)), .c (.string (bs [c]))] [] = some (.c (.int .i64 (Lib.indexByte l c)), hpOf [] []) := by
  obtain ⟨k, rfl⟩ : ∃ m, k = m + 1 := ⟨k - 1, by omega⟩
  simp only [callK]
  have hx : C.ext 176 = some ext176 := rfl
  rw [hx]
  simp [ext176, bs_data]
def tailL (l : List UInt8) (b : UInt8) : List UInt8 := if Lib.indexByte l b = -1 then [] else l.drop ((Lib.indexByte l b).toNat + 1)
def hasG (l : List UInt8) (b : UInt8) : Bool := !decide (Lib.indexByte l b = -1)
theorem c_lCutG (k : Nat) (l : List UInt8) (c : UInt8) (h20 : l.length ≤ 1048576) (hk : 5 ≤ k) : callK C k 160 [.c (.string (bs l)), .c (.string (bs [c]))] [] = some (.tp [.c (.string (bs (headL l c))), .c (.string (bs (tailL l c))), .c (.bool (hasG l c))], hpOf [] []) := by
  obtain ⟨k, rfl⟩ : ∃ m, k = m + 1 := ⟨k - 1, by omega⟩
  rw [callK_fn rfl F160 code160]
  have h1 := c_lIndexG k l c (by omega)
  by_cases hn : Lib.indexByte l c = -1
  · rw [hn] at h1
    simp [R160_0, R160_1, R160_2, R160_3, R160_4, Tryd.f160, h1, lit0, headL, tailL, hasG, hn]
  · have hge := Lib.indexByte_ge l c
    obtain ⟨o, ho⟩ : ∃ o : Nat, Lib.indexByte l c = o := ⟨(Lib.indexByte l c).toNat, by omega⟩
    obtain ⟨h2, _⟩ := Lib.indexByte_some ho
    have hol : o < l.length := (List.getElem?_eq_some_iff.1 h2).1
    rw [ho] at h1
    have w1 : IntKind.i64.wrap ((o : Int) + 1) = (o : Int) + 1 := wrap_small (by omega) (by omega)
    have g1 : (o : Int) ≤ (l.length : Int) := by omega
    have g2 : (o : Int) + 1 ≤ (l.length : Int) := by omega
    have g3 : (0 : Int) ≤ (o : Int) + 1 := by omega
    have g4 : ((o : Int) + 1).toNat = o + 1 := by omega
    have g5 : o ≤ l.length := by omega
    have g6 : o + 1 ≤ l.length := by omega
    have hm : ¬ (o : Int) = -1 := by omega
    have ht : (l.drop (o + 1)).take (l.length - (o + 1)) = l.drop (o + 1) := List.take_of_length_le (by simp)
    simp [R160_0, R160_1, R160_2, R160_3, R160_4, Tryd.f160, h1, lit0, headL, tailL, hasG, ho, hm, w1, g1, g2, g3, g4, g5, g6, hol, bs_size, bs_extract, ht]
theorem c_CutG (k : Nat) (l : List UInt8) (c : UInt8) (h20 : l.length ≤ 1048576) (hk : 6 ≤ k) : callK C k 109 [.c (.string (bs l)), .c (.string (bs [c]))] [] = some (.tp [.c (.string (bs (headL l c))), .c (.string (bs (tailL l c))), .c (.bool (hasG l c))], hpOf [] []) := by
  obtain ⟨k, rfl⟩ : ∃ m, k = m + 1 := ⟨k - 1, by omega⟩
  rw [callK_fn rfl F109 code109]
  have h := c_lCutG k l c h20 (by omega)
  simp [R109_0, R109_1, Tryd.f109, h]
def negB (l : List UInt8) : Bool := decide (l[0]? = some 45)
def unN (l : List UInt8) : List UInt8 := if negB l = true then l.drop 1 else l
theorem c_lHas (k : Nat) (l : List UInt8) (hk : 1 ≤ k) : callK C k 162 [.c (.string (bs l)), .c (.string (bs [45]))] [] = some (.c (.bool (negB l)), hpOf [] []) := by
  obtain ⟨k, rfl⟩ : ∃ m, k = m + 1 := ⟨k - 1, by omega⟩
  rw [callK_fn rfl F162 code162]
  cases l with
  | nil => simp [R162_0, R162_1, Tryd.f162, bs_size, negB, undef]
  | cons a r =>
    have g1 : (1 : Int) ≤ (r.length : Int) + 1 := by omega
    by_cases h : a = 45
    · subst h
      simp [R162_0, R162_1, Tryd.f162, bs_size, bs_extract, bs_neq, negB, undef, g1]
    · simp [R162_0, R162_1, Tryd.f162, bs_size, bs_extract, bs_neq, negB, undef, g1, h]
theorem c_lTrim (k : Nat) (l : List UInt8) (h20 : l.length ≤ 1048576) (hk : 2 ≤ k) : callK C k 161 [.c (.string (bs l)), .c (.string (bs [45]))] [] = some (.c (.string (bs (unN l))), hpOf [] []) := by
  obtain ⟨k, rfl⟩ : ∃ m, k = m + 1 := ⟨k - 1, by omega⟩
  rw [callK_fn rfl F161 code161]
  have h := c_lHas k l (by omega)
  unfold unN
  cases hn : negB l
  · rw [hn] at h
    simp [R161_0, R161_1, R161_2, R161_3, Tryd.f161, h, lit0]
  · rw [hn] at h
    have hl : 0 < l.length := by
      cases l with
      | nil => simp [negB] at hn
      | cons a r => simp
    have g1 : (1 : Int) ≤ (l.length : Int) := by omega
    have g2 : 1 ≤ l.length := by omega
    have ht : (l.drop 1).take (l.length - 1) = l.drop 1 := List.take_of_length_le (by simp)
    simp at ht
    simp [R161_0, R161_1, R161_2, R161_3, Tryd.f161, h, lit0, bs_size, bs_extract, g1, g2, ht]
theorem c_Trim (k : Nat) (l : List UInt8) (h20 : l.length ≤ 1048576) (hk : 3 ≤ k) : callK C k 111 [.c (.string (bs l)), .c (.string (bs [45]))] [] = some (.c (.string (bs (unN l))), hpOf [] []) := by
  obtain ⟨k, rfl⟩ : ∃ m, k = m + 1 := ⟨k - 1, by omega⟩
  rw [callK_fn rfl F111 code111]
  have h := c_lTrim k l h20 (by omega)
  simp [R111_0, R111_1, Tryd.f111, h, lit0]
theorem c_Has (k : Nat) (l : List UInt8) (hk : 2 ≤ k) : callK C k 112 [.c (.string (bs l)), .c (.string (bs [45]))] [] = some (.c (.bool (negB l)), hpOf [] []) := by
  obtain ⟨k, rfl⟩ : ∃ m, k = m + 1 := ⟨k - 1, by omega⟩
  rw [callK_fn rfl F112 code112]
  have h := c_lHas k l (by omega)
  simp [R112_0, R112_1, Tryd.f112, h]
theorem unit_ok {i : Nat} (h : i < 8) : (decide ((1 : Int) ≤ 1 + (i : Int)) && decide ((1 : Int) + (i : Int) ≤ 8)) = true := by
  simp; omega
theorem c_implPUy (k : Nat) (l : List UInt8) (n : Nat) (hn : n < 8) (h1 : ∀ i, i < n → ¬ wordL (1 + (i : Int)) = l) (h2 : wordL (1 + (n : Int)) = l) (hk : 40 ≤ k) : callK C k 56 [.c (.string (bs l))] [] = some (.tp [.c (.int .i64 (1 + (n : Int))), .c (.bool true)], hpOf [] []) := by
  obtain ⟨k, rfl⟩ : ∃ m, k = m + 9 := ⟨k - 9, by omega⟩
  rw [callK_fn rfl F56 code56]
  have hL := loopHas (body := fun st => runCode C (callK C (k + 8)) (k + 8) (K 56) L56_0 1 st) (keep := [0, 4]) .ret (fun st => st.ρ 2 = .c (.int .i64 (1 + (n : Int))) ∧ st.ρ 3 = .c (.bool true))
    (fun i st => st.ρ 0 = .c (.string (bs l)) ∧ st.ρ 4 = .c (.int .i64 (1 + (i : Int)))) n (k + 8) (by omega)
    (by
      rintro i st next hi ⟨q0, q4⟩ hx
      obtain ⟨kd, nm, ad, dn, hu⟩ := c_unitOf (k + 8) (1 + (i : Int)) (by omega)
      rw [unit_ok (by omega), if_pos rfl] at hu
      have hne := h1 i hi
      have g1 : (1 : Int) + (i : Int) ≤ 8 := by omega
      have w1 : IntKind.i64.wrap ((1 : Int) + (i : Int) + 1) = 1 + ((i + 1 : Nat) : Int) := by rw [wrap_small (by omega) (by omega)]; omega
      simp at w1
      simp [L56_0, R56_0, R56_1, R56_2, R56_3, R56_4, R56_5, R56_6, R56_7, Tryd.f56, lpL56_0, lpM56_0, M56_0, q0, q4, hu, bs_neq, hne, g1, w1]
      refine hx _ ⟨?_, ?_⟩ <;> simp [q0, q4, w1])
    (by
      rintro st next ⟨q0, q4⟩
      obtain ⟨kd, nm, ad, dn, hu⟩ := c_unitOf (k + 8) (1 + (n : Int)) (by omega)
      rw [unit_ok (by omega), if_pos rfl] at hu
      have g1 : (1 : Int) + (n : Int) ≤ 8 := by omega
      simp [L56_0, R56_0, R56_1, R56_2, R56_3, R56_4, R56_5, R56_6, R56_7, Tryd.f56, lpL56_0, lpM56_0, M56_0, q0, q4, hu, bs_neq, h2, g1])
  simp [R56_0, R56_1, R56_2, R56_3, R56_4, R56_5, R56_6, R56_7, Tryd.f56, lpL56_0, lpM56_0]
  generalize hr2 : loopRun _ _ _ _ = res
  obtain ⟨s1, rfl, f2, f3⟩ := loop_at hL hr2 ⟨by simp, by simp⟩
  simp [R56_0, R56_1, R56_2, R56_3, R56_4, R56_5, R56_6, R56_7, Tryd.f56, lpL56_0, lpM56_0, M56_0, f2, f3]
theorem c_implPUn (k : Nat) (l : List UInt8) (h1 : ∀ i : Nat, i < 8 → ¬ wordL (1 + (i : Int)) = l) (hk : 40 ≤ k) : callK C k 56 [.c (.string (bs l))] [] = some (.tp [.c (.int .i64 0), .c (.bool false)], hpOf [] []) := by
  obtain ⟨k, rfl⟩ : ∃ m, k = m + 9 := ⟨k - 9, by omega⟩
  rw [callK_fn rfl F56 code56]
  have hL := loopHas (body := fun st => runCode C (callK C (k + 8)) (k + 8) (K 56) L56_0 1 st) (keep := [0, 4]) (.ex 0) (fun st => st.ρ 0 = .c (.string (bs l)))
    (fun i st => st.ρ 0 = .c (.string (bs l)) ∧ st.ρ 4 = .c (.int .i64 (1 + (i : Int)))) 8 (k + 8) (by omega)
    (by
      rintro i st next hi ⟨q0, q4⟩ hx
      obtain ⟨kd, nm, ad, dn, hu⟩ := c_unitOf (k + 8) (1 + (i : Int)) (by omega)
      rw [unit_ok (by omega), if_pos rfl] at hu
      have hne := h1 i hi
      have g1 : (1 : Int) + (i : Int) ≤ 8 := by omega
      have w1 : IntKind.i64.wrap ((1 : Int) + (i : Int) + 1) = 1 + ((i + 1 : Nat) : Int) := by rw [wrap_small (by omega) (by omega)]; omega
      simp at w1
      simp [L56_0, R56_0, R56_1, R56_2, R56_3, R56_4, R56_5, R56_6, R56_7, Tryd.f56, lpL56_0, lpM56_0, M56_0, q0, q4, hu, bs_neq, hne, g1, w1]
      refine hx _ ⟨?_, ?_⟩ <;> simp [q0, q4, w1])
    (by
      rintro st next ⟨q0, q4⟩
      simp [L56_0, R56_0, R56_1, R56_2, R56_3, R56_4, R56_5, R56_6, R56_7, Tryd.f56, lpL56_0, lpM56_0, M56_0, q0, q4])
  simp [R56_0, R56_1, R56_2, R56_3, R56_4, R56_5, R56_6, R56_7, Tryd.f56, lpL56_0, lpM56_0]
  generalize hr2 : loopRun _ _ _ _ = res
  obtain ⟨s1, rfl, _⟩ := loop_at hL hr2 ⟨by simp, by simp⟩
  simp [R56_0, R56_1, R56_2, R56_3, R56_4, R56_5, R56_6, R56_7, Tryd.f56, lpL56_0, lpM56_0, M56_0]
theorem words_run (k : Nat) (hk : 2 ≤ k) : ∃ r, callK C k 121 [] [] = some (.s 0 2 1 0 9, hpOf [] [⟨9, 1, true, r⟩]) ∧ (∀ i : Nat, i < 8 → r[1 + i]? = some [.c (.string (bs (wordL (1 + (i : Int)))))]) ∧ r.length = 9 := by
  obtain ⟨k, rfl⟩ : ∃ m, k = m + 1 := ⟨k - 1, by omega⟩
  refine ⟨[[.c (.string (bs []))], [.c (.string (bs [67]))], [.c (.string (bs [70]))], [.c (.string (bs [75]))], [.c (.string (bs [109, 47, 115]))], [.c (.string (bs [107, 116]))], [.c (.string (bs [107, 109, 47, 104]))], [.c (.string (bs [109, 109]))], [.c (.string (bs [105, 110]))]], ?_, ?_, rfl⟩
  · rw [callK_fn rfl F121 code121]
    simp [R121_0, R121_1, Tryd.f121, lit0, lit1, lit2, lit3, lit4, okObj]
  · intro i hi
    have : i = 0 ∨ i = 1 ∨ i = 2 ∨ i = 3 ∨ i = 4 ∨ i = 5 ∨ i = 6 ∨ i = 7 := by omega
    rcases this with rfl | rfl | rfl | rfl | rfl | rfl | rfl | rfl <;> rfl
theorem c_specPUy (k : Nat) (l : List UInt8) (n : Nat) (hn : n < 8) (h1 : ∀ i, i < n → ¬ wordL (1 + (i : Int)) = l) (h2 : wordL (1 + (n : Int)) = l) (hk : 40 ≤ k) : callK C k 110 [.c (.string (bs l))] [] = some (.tp [.c (.int .i64 (1 + (n : Int))), .c (.bool true)], hpOf [] []) := by
  obtain ⟨k, rfl⟩ : ∃ m, k = m + 9 := ⟨k - 9, by omega⟩
  rw [callK_fn rfl F110 code110]
  obtain ⟨r, hw, hr, hrl⟩ := words_run (k + 8) (by omega)
  have hL := loopHas (body := fun st => runCode C (callK C (k + 8)) (k + 8) (K 110) L110_0 1 st) (keep := [0, 4]) .ret (fun st => st.ρ 2 = .c (.int .i64 (1 + (n : Int))) ∧ st.ρ 3 = .c (.bool true))
    (fun i st => st.ρ 0 = .c (.string (bs l)) ∧ st.ρ 4 = .c (.int .i64 (1 + (i : Int)))) n (k + 8) (by omega)
    (by
      rintro i st next hi ⟨q0, q4⟩ hx
      have hne := h1 i hi
      have hri := hr i (by omega)
      have g1 : (1 : Int) + (i : Int) ≤ 8 := by omega
      have g2 : (0 : Int) ≤ (1 : Int) + (i : Int) := by omega
      have g3 : (1 : Int) + (i : Int) < 9 := by omega
      have g4 : ((1 : Int) + (i : Int)).toNat = 1 + i := by omega
      have g5 : 1 + i < 9 := by omega
      have w1 : IntKind.i64.wrap ((1 : Int) + (i : Int) + 1) = 1 + ((i + 1 : Nat) : Int) := by rw [wrap_small (by omega) (by omega)]; omega
      simp at w1
      simp [L110_0, R110_0, R110_1, R110_2, R110_3, R110_4, R110_5, R110_6, Tryd.f110, lpL110_0, lpM110_0, M110_0, q0, q4, hw, hri, bs_neq, hne, g1, g2, g3, g4, g5, w1]
      refine hx _ ⟨?_, ?_⟩ <;> simp [q0, q4, w1])
    (by
      rintro st next ⟨q0, q4⟩
      have hri := hr n hn
      have g1 : (1 : Int) + (n : Int) ≤ 8 := by omega
      have g2 : (0 : Int) ≤ (1 : Int) + (n : Int) := by omega
      have g3 : (1 : Int) + (n : Int) < 9 := by omega
      have g4 : ((1 : Int) + (n : Int)).toNat = 1 + n := by omega
      have g5 : 1 + n < 9 := by omega
      simp [L110_0, R110_0, R110_1, R110_2, R110_3, R110_4, R110_5, R110_6, Tryd.f110, lpL110_0, lpM110_0, M110_0, q0, q4, hw, hri, bs_neq, h2, g1, g2, g3, g4, g5])
  simp [R110_0, R110_1, R110_2, R110_3, R110_4, R110_5, R110_6, Tryd.f110, lpL110_0, lpM110_0]
  generalize hr2 : loopRun _ _ _ _ = res
  obtain ⟨s1, rfl, f2, f3⟩ := loop_at hL hr2 ⟨by simp, by simp⟩
  simp [R110_0, R110_1, R110_2, R110_3, R110_4, R110_5, R110_6, Tryd.f110, lpL110_0, lpM110_0, M110_0, f2, f3]
theorem c_specPUn (k : Nat) (l : List UInt8) (h1 : ∀ i : Nat, i < 8 → ¬ wordL (1 + (i : Int)) = l) (hk : 40 ≤ k) : callK C k 110 [.c (.string (bs l))] [] = some (.tp [.c (.int .i64 0), .c (.bool false)], hpOf [] []) := by
  obtain ⟨k, rfl⟩ : ∃ m, k = m + 9 := ⟨k - 9, by omega⟩
  rw [callK_fn rfl F110 code110]
  obtain ⟨r, hw, hr, hrl⟩ := words_run (k + 8) (by omega)
  have hL := loopHas (body := fun st => runCode C (callK C (k + 8)) (k + 8) (K 110) L110_0 1 st) (keep := [0, 4]) (.ex 0) (fun st => st.ρ 0 = .c (.string (bs l)))
    (fun i st => st.ρ 0 = .c (.string (bs l)) ∧ st.ρ 4 = .c (.int .i64 (1 + (i : Int)))) 8 (k + 8) (by omega)
    (by
      rintro i st next hi ⟨q0, q4⟩ hx
      have hne := h1 i hi
      have hri := hr i (by omega)
      have g1 : (1 : Int) + (i : Int) ≤ 8 := by omega
      have g2 : (0 : Int) ≤ (1 : Int) + (i : Int) := by omega
      have g3 : (1 : Int) + (i : Int) < 9 := by omega
      have g4 : ((1 : Int) + (i : Int)).toNat = 1 + i := by omega
      have g5 : 1 + i < 9 := by omega
      have w1 : IntKind.i64.wrap ((1 : Int) + (i : Int) + 1) = 1 + ((i + 1 : Nat) : Int) := by rw [wrap_small (by omega) (by omega)]; omega
      simp at w1
      simp [L110_0, R110_0, R110_1, R110_2, R110_3, R110_4, R110_5, R110_6, Tryd.f110, lpL110_0, lpM110_0, M110_0, q0, q4, hw, hri, bs_neq, hne, g1, g2, g3, g4, g5, w1]
      refine hx _ ⟨?_, ?_⟩ <;> simp [q0, q4, w1])
    (by
      rintro st next ⟨q0, q4⟩
      simp [L110_0, R110_0, R110_1, R110_2, R110_3, R110_4, R110_5, R110_6, Tryd.f110, lpL110_0, lpM110_0, M110_0, q0, q4])
  simp [R110_0, R110_1, R110_2, R110_3, R110_4, R110_5, R110_6, Tryd.f110, lpL110_0, lpM110_0]
  generalize hr2 : loopRun _ _ _ _ = res
  obtain ⟨s1, rfl, _⟩ := loop_at hL hr2 ⟨by simp, by simp⟩
  simp [R110_0, R110_1, R110_2, R110_3, R110_4, R110_5, R110_6, Tryd.f110, lpL110_0, lpM110_0, M110_0]

end Go.Proofs.YthbekdccfleaoaaDoor.Eng
