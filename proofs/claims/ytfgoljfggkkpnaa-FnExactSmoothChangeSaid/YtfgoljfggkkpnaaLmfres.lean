/- A deterministic reading of Go code over plain data: what functions of the program compute. No conditions. -/
import Derived.Test.YtfgoljfggkkpnaaLmbase
import Derived.Test.YtfgoljfggkkpnaaLmimpl
import Derived.Test.YtfgoljfggkkpnaaLmgood
import Derived.Test.YtfgoljfggkkpnaaLmrepeat
import Derived.Test.YtfgoljfggkkpnaaLmfieldby
import Derived.Test.YtfgoljfggkkpnaaLmnbh
import Derived.Test.YtfgoljfggkkpnaaLmneigh
import Derived.Test.YtfgoljfggkkpnaaLmminmax
import Derived.Test.YtfgoljfggkkpnaaLml6values
import Derived.Test.YtfgoljfggkkpnaaLml6main
import Derived.Test.YtfgoljfggkkpnaaLmfcore
import Derived.Test.YtfgoljfggkkpnaaLmfmain
import Derived.Test.YtfgoljfggkkpnaaLml6filter
import Derived.Test.YtfgoljfggkkpnaaEngT
namespace Go.Proofs.Ytfgoljfggkkpnaa.Eng
open Go Go.Proofs
set_option maxRecDepth 100000
set_option maxHeartbeats 2000000
set_option linter.unusedSimpArgs false
set_option linter.unusedVariables false
attribute [local simp] finK fin1 hpOf xi renQ isRoot runCode runOps Eng.step wantedV astep val ofO made loadV storeV find V.cells bin binT un1 setAt fieldAddrV fieldV indexAddrV indexV bounds sliceV convV lenV foldV max2V min2V callO bor rdsO wrsO seen_none okD_none loops keepIds resV resultsV St.ev TK.agg refs refsL refsO V.one V.isC Value.oneCell' ren renL renO noTag noTagL noTagR noTagO nodup mapO passV frs psi refsR newD loopNext opsAt idx flatAt rootOf backR newsV appendV copyV buildV fillF chunk
attribute [local simp] cT cF cX cWR cOW cK X WR OW K ints_length ints_get ints_getElem ints_drop ints_take ints_append ints_nil ints_set
attribute [local simp] ints_replicate
attribute [local simp] putV_some putV_none putH_app applyD_nil applyD_cons seen_app gc_ρ gc_H gc_tick st0_ρ st0_H st0_tick retV callRo callV_ro borL_nil borL_cons ints_snoc take_self callV_wr callWr cutH_app findQ afterV exportV_0 exportV_n okD_nil okD_cons sub_seq0 sub_seq1 sub_cond0 sub_cond1 sub_block sub_loop sub_nil young_far young_none okI ok_0 ok_1 ok_2
attribute [local simp] T3 T4 T22 T24 T26 T57 T59 T63 T67 T87 T92
theorem res_MaximumFilter (k : Nat) (w1 h1 : Int) (l1 : List Int) (r : Int) (hk : 3000 ≤ k) :
    (callK C k 11 [fldV true w1 h1 l1, .c (.int .i64 r)] [] = some (.tp [nilV, .c (.bool false)], hpOf [] []) ∧ callK C k 13 [fldV true w1 h1 l1, .c (.int .i64 r)] [] = some (.tp [nilV, .c (.bool false)], hpOf [] [])) ∨
    ∃ (rW rH : Int) (r' : List Int), r'.length ≤ 64 ∧ callK C k 11 [fldV true w1 h1 l1, .c (.int .i64 r)] [] = some (.tp [ownV rW rH 0 2 r'.length, .c (.bool true)], hpOf [] [intsO r']) ∧ callK C k 13 [fldV true w1 h1 l1, .c (.int .i64 r)] [] = some (.tp [ownV rW rH 0 2 r'.length, .c (.bool true)], hpOf [] [intsO r']) := by
  obtain ⟨k, rfl⟩ : ∃ m, k = m + 21 := ⟨k - 21, by omega⟩
  have hi := c_filteredField k w1 h1 l1 r 47 none (resG 1 0) (by decide) (fun nb a1 a2 a3 => by
      have := c_Max (k + 10 + 8 - 1) nb a2 a3 (by omega)
      simpa [resG, rcOf] using this) (by omega)
  rw [callK_fn rfl F11 code11, callK_fn rfl F13 code13]
  cases hg : (goodB w1 h1 l1 && (decide (0 ≤ r) && decide (r ≤ 3)))
  · have hs := c_l6FilterNo (k + 20) true w1 h1 l1 r 1 0 hg (by omega)
    rw [hg] at hi
    simp [fldV, nilV, rcOf] at hs hi
    exact .inl ⟨by simp [R11_0, R11_1, Try.f11, fldV, hs, nilV], by simp [R13_0, R13_1, Try.f13, fldV, hi, nilV]⟩
  · rw [hg] at hi
    have hg' := hg
    simp only [Bool.and_eq_true, decide_eq_true_eq] at hg'
    obtain ⟨s1, _, _, _⟩ := good_length hg'.1
    obtain ⟨_, _, a3, a4, a5, a6⟩ := shape_area s1
    obtain ⟨W, rfl⟩ : ∃ W : Nat, w1 = W := ⟨w1.toNat, by omega⟩
    obtain ⟨Hn, rfl⟩ : ∃ Hn : Nat, h1 = Hn := ⟨h1.toNat, by omega⟩
    have e : ((W : Int) * (Hn : Int)).toNat = W * Hn := by rw [← Int.natCast_mul]; rfl
    have hs := c_l6Filter (k + 20) true W Hn l1 r 1 0 (by simp) hg'.1 hg'.2.1 hg'.2.2 (by omega)
    have hfe : (fun (x y : Int) => if nbL (cellOf l1 W) W Hn x y r = [] then -9999 else resG 1 0 (nbL (cellOf l1 W) W Hn x y r)) = flt l1 W Hn r 1 0 := rfl
    rw [e, hfe] at hi
    have hl := tabL_length (W * Hn) W (flt l1 W Hn r 1 0)
    simp [fldV, ownV, intsO, rcOf] at hs hi
    refine .inr ⟨W, Hn, tabL (W * Hn) W (flt l1 W Hn r 1 0), ?_, ?_, ?_⟩
    · rw [hl]
      have := Nat.mul_le_mul (by omega : W ≤ 8) (by omega : Hn ≤ 8)
      omega
    · rw [hl]
      simp [R11_0, R11_1, Try.f11, fldV, hs, ownV, intsO]
    · rw [hl]
      simp [R13_0, R13_1, Try.f13, fldV, hi, ownV, intsO]
theorem res_MinimumFilter (k : Nat) (w1 h1 : Int) (l1 : List Int) (r : Int) (hk : 3000 ≤ k) :
    (callK C k 17 [fldV true w1 h1 l1, .c (.int .i64 r)] [] = some (.tp [nilV, .c (.bool false)], hpOf [] []) ∧ callK C k 18 [fldV true w1 h1 l1, .c (.int .i64 r)] [] = some (.tp [nilV, .c (.bool false)], hpOf [] [])) ∨
    ∃ (rW rH : Int) (r' : List Int), r'.length ≤ 64 ∧ callK C k 17 [fldV true w1 h1 l1, .c (.int .i64 r)] [] = some (.tp [ownV rW rH 0 2 r'.length, .c (.bool true)], hpOf [] [intsO r']) ∧ callK C k 18 [fldV true w1 h1 l1, .c (.int .i64 r)] [] = some (.tp [ownV rW rH 0 2 r'.length, .c (.bool true)], hpOf [] [intsO r']) := by
  obtain ⟨k, rfl⟩ : ∃ m, k = m + 21 := ⟨k - 21, by omega⟩
  have hi := c_filteredField k w1 h1 l1 r 51 none (resG 2 0) (by decide) (fun nb a1 a2 a3 => by
      have := c_Min (k + 10 + 8 - 1) nb a2 a3 (by omega)
      simpa [resG, rcOf] using this) (by omega)
  rw [callK_fn rfl F17 code17, callK_fn rfl F18 code18]
  cases hg : (goodB w1 h1 l1 && (decide (0 ≤ r) && decide (r ≤ 3)))
  · have hs := c_l6FilterNo (k + 20) true w1 h1 l1 r 2 0 hg (by omega)
    rw [hg] at hi
    simp [fldV, nilV, rcOf] at hs hi
    exact .inl ⟨by simp [R17_0, R17_1, Try.f17, fldV, hs, nilV], by simp [R18_0, R18_1, Try.f18, fldV, hi, nilV]⟩
  · rw [hg] at hi
    have hg' := hg
    simp only [Bool.and_eq_true, decide_eq_true_eq] at hg'
    obtain ⟨s1, _, _, _⟩ := good_length hg'.1
    obtain ⟨_, _, a3, a4, a5, a6⟩ := shape_area s1
    obtain ⟨W, rfl⟩ : ∃ W : Nat, w1 = W := ⟨w1.toNat, by omega⟩
    obtain ⟨Hn, rfl⟩ : ∃ Hn : Nat, h1 = Hn := ⟨h1.toNat, by omega⟩
    have e : ((W : Int) * (Hn : Int)).toNat = W * Hn := by rw [← Int.natCast_mul]; rfl
    have hs := c_l6Filter (k + 20) true W Hn l1 r 2 0 (by simp) hg'.1 hg'.2.1 hg'.2.2 (by omega)
    have hfe : (fun (x y : Int) => if nbL (cellOf l1 W) W Hn x y r = [] then -9999 else resG 2 0 (nbL (cellOf l1 W) W Hn x y r)) = flt l1 W Hn r 2 0 := rfl
    rw [e, hfe] at hi
    have hl := tabL_length (W * Hn) W (flt l1 W Hn r 2 0)
    simp [fldV, ownV, intsO, rcOf] at hs hi
    refine .inr ⟨W, Hn, tabL (W * Hn) W (flt l1 W Hn r 2 0), ?_, ?_, ?_⟩
    · rw [hl]
      have := Nat.mul_le_mul (by omega : W ≤ 8) (by omega : Hn ≤ 8)
      omega
    · rw [hl]
      simp [R17_0, R17_1, Try.f17, fldV, hs, ownV, intsO]
    · rw [hl]
      simp [R18_0, R18_1, Try.f18, fldV, hi, ownV, intsO]
theorem res_MeanFilter (k : Nat) (w1 h1 : Int) (l1 : List Int) (r : Int) (hk : 3000 ≤ k) :
    (callK C k 19 [fldV true w1 h1 l1, .c (.int .i64 r)] [] = some (.tp [nilV, .c (.bool false)], hpOf [] []) ∧ callK C k 20 [fldV true w1 h1 l1, .c (.int .i64 r)] [] = some (.tp [nilV, .c (.bool false)], hpOf [] [])) ∨
    ∃ (rW rH : Int) (r' : List Int), r'.length ≤ 64 ∧ callK C k 19 [fldV true w1 h1 l1, .c (.int .i64 r)] [] = some (.tp [ownV rW rH 0 2 r'.length, .c (.bool true)], hpOf [] [intsO r']) ∧ callK C k 20 [fldV true w1 h1 l1, .c (.int .i64 r)] [] = some (.tp [ownV rW rH 0 2 r'.length, .c (.bool true)], hpOf [] [intsO r']) := by
  obtain ⟨k, rfl⟩ : ∃ m, k = m + 21 := ⟨k - 21, by omega⟩
  have hi := c_filteredField k w1 h1 l1 r 52 none (resG 3 0) (by decide) (fun nb a1 a2 a3 => by
      have := c_meanOf (k + 10 + 8 - 1) nb a1 a2 a3 (by omega)
      simpa [resG, rcOf] using this) (by omega)
  rw [callK_fn rfl F19 code19, callK_fn rfl F20 code20]
  cases hg : (goodB w1 h1 l1 && (decide (0 ≤ r) && decide (r ≤ 3)))
  · have hs := c_l6FilterNo (k + 20) true w1 h1 l1 r 3 0 hg (by omega)
    rw [hg] at hi
    simp [fldV, nilV, rcOf] at hs hi
    exact .inl ⟨by simp [R19_0, R19_1, Try.f19, fldV, hs, nilV], by simp [R20_0, R20_1, Try.f20, fldV, hi, nilV]⟩
  · rw [hg] at hi
    have hg' := hg
    simp only [Bool.and_eq_true, decide_eq_true_eq] at hg'
    obtain ⟨s1, _, _, _⟩ := good_length hg'.1
    obtain ⟨_, _, a3, a4, a5, a6⟩ := shape_area s1
    obtain ⟨W, rfl⟩ : ∃ W : Nat, w1 = W := ⟨w1.toNat, by omega⟩
    obtain ⟨Hn, rfl⟩ : ∃ Hn : Nat, h1 = Hn := ⟨h1.toNat, by omega⟩
    have e : ((W : Int) * (Hn : Int)).toNat = W * Hn := by rw [← Int.natCast_mul]; rfl
    have hs := c_l6Filter (k + 20) true W Hn l1 r 3 0 (by simp) hg'.1 hg'.2.1 hg'.2.2 (by omega)
    have hfe : (fun (x y : Int) => if nbL (cellOf l1 W) W Hn x y r = [] then -9999 else resG 3 0 (nbL (cellOf l1 W) W Hn x y r)) = flt l1 W Hn r 3 0 := rfl
    rw [e, hfe] at hi
    have hl := tabL_length (W * Hn) W (flt l1 W Hn r 3 0)
    simp [fldV, ownV, intsO, rcOf] at hs hi
    refine .inr ⟨W, Hn, tabL (W * Hn) W (flt l1 W Hn r 3 0), ?_, ?_, ?_⟩
    · rw [hl]
      have := Nat.mul_le_mul (by omega : W ≤ 8) (by omega : Hn ≤ 8)
      omega
    · rw [hl]
      simp [R19_0, R19_1, Try.f19, fldV, hs, ownV, intsO]
    · rw [hl]
      simp [R20_0, R20_1, Try.f20, fldV, hi, ownV, intsO]
theorem res_CoverageFilter (k : Nat) (w1 h1 : Int) (l1 : List Int) (r : Int) (thr : Int) (hk : 3000 ≤ k) :
    (callK C k 23 [fldV true w1 h1 l1, .c (.int .i64 r), .c (.int .i64 thr)] [] = some (.tp [nilV, .c (.bool false)], hpOf [] []) ∧ callK C k 24 [fldV true w1 h1 l1, .c (.int .i64 r), .c (.int .i64 thr)] [] = some (.tp [nilV, .c (.bool false)], hpOf [] [])) ∨
    ∃ (rW rH : Int) (r' : List Int), r'.length ≤ 64 ∧ callK C k 23 [fldV true w1 h1 l1, .c (.int .i64 r), .c (.int .i64 thr)] [] = some (.tp [ownV rW rH 0 2 r'.length, .c (.bool true)], hpOf [] [intsO r']) ∧ callK C k 24 [fldV true w1 h1 l1, .c (.int .i64 r), .c (.int .i64 thr)] [] = some (.tp [ownV rW rH 0 2 r'.length, .c (.bool true)], hpOf [] [intsO r']) := by
  obtain ⟨k, rfl⟩ : ∃ m, k = m + 21 := ⟨k - 21, by omega⟩
  have hi := c_filteredField k w1 h1 l1 r 57 (some thr) (resG 5 thr) (by decide) (fun nb a1 a2 a3 => by
      have := c_Coverage1 (k + 10 + 8 - 1) thr nb a2 a3 (by omega)
      simpa [resG, rcOf] using this) (by omega)
  rw [callK_fn rfl F23 code23, callK_fn rfl F24 code24]
  have t1 := c_l1In (k + 20) thr (-9000) 9000 (by omega)
  have t2 := c_within (k + 20) thr (-9000) 9000 (by omega)
  cases ht : (decide (-9000 ≤ thr) && decide (thr ≤ 9000))
  · rw [ht] at t1 t2
    exact .inl ⟨by simp [R23_0, R23_1, R23_2, R23_3, Try.f23, fldV, t1, nilV], by simp [R24_0, R24_1, R24_2, R24_3, Try.f24, fldV, t2, nilV]⟩
  rw [ht] at t1 t2
  cases hg : (goodB w1 h1 l1 && (decide (0 ≤ r) && decide (r ≤ 3)))
  · have hs := c_l6FilterNo (k + 20) true w1 h1 l1 r 5 thr hg (by omega)
    rw [hg] at hi
    simp [fldV, nilV, rcOf] at hs hi
    exact .inl ⟨by simp [R23_0, R23_1, R23_2, R23_3, Try.f23, fldV, hs, nilV, t1, t2], by simp [R24_0, R24_1, R24_2, R24_3, Try.f24, fldV, hi, nilV, t1, t2]⟩
  · rw [hg] at hi
    have hg' := hg
    simp only [Bool.and_eq_true, decide_eq_true_eq] at hg'
    obtain ⟨s1, _, _, _⟩ := good_length hg'.1
    obtain ⟨_, _, a3, a4, a5, a6⟩ := shape_area s1
    obtain ⟨W, rfl⟩ : ∃ W : Nat, w1 = W := ⟨w1.toNat, by omega⟩
    obtain ⟨Hn, rfl⟩ : ∃ Hn : Nat, h1 = Hn := ⟨h1.toNat, by omega⟩
    have e : ((W : Int) * (Hn : Int)).toNat = W * Hn := by rw [← Int.natCast_mul]; rfl
    have hs := c_l6Filter (k + 20) true W Hn l1 r 5 thr (by simp) hg'.1 hg'.2.1 hg'.2.2 (by omega)
    have hfe : (fun (x y : Int) => if nbL (cellOf l1 W) W Hn x y r = [] then -9999 else resG 5 thr (nbL (cellOf l1 W) W Hn x y r)) = flt l1 W Hn r 5 thr := rfl
    rw [e, hfe] at hi
    have hl := tabL_length (W * Hn) W (flt l1 W Hn r 5 thr)
    simp [fldV, ownV, intsO, rcOf] at hs hi
    refine .inr ⟨W, Hn, tabL (W * Hn) W (flt l1 W Hn r 5 thr), ?_, ?_, ?_⟩
    · rw [hl]
      have := Nat.mul_le_mul (by omega : W ≤ 8) (by omega : Hn ≤ 8)
      omega
    · rw [hl]
      simp [R23_0, R23_1, R23_2, R23_3, Try.f23, fldV, hs, ownV, intsO, t1, t2]
    · rw [hl]
      simp [R24_0, R24_1, R24_2, R24_3, Try.f24, fldV, hi, ownV, intsO, t1, t2]
theorem res_MeanNo (k : Nat) (w1 h1 : Int) (l1 : List Int) (r : Int) (hg : (goodB w1 h1 l1 && (decide (0 ≤ r) && decide (r ≤ 3))) = false) (hk : 3000 ≤ k) : callK C k 19 [fldV true w1 h1 l1, .c (.int .i64 r)] [] = some (.tp [nilV, .c (.bool false)], hpOf [] []) ∧ callK C k 20 [fldV true w1 h1 l1, .c (.int .i64 r)] [] = some (.tp [nilV, .c (.bool false)], hpOf [] []) := by
  rcases res_MeanFilter k w1 h1 l1 r hk with h | ⟨rW, rH, rL, _, S, _⟩
  · exact h
  · obtain ⟨k, rfl⟩ : ∃ m, k = m + 21 := ⟨k - 21, by omega⟩
    have hs := c_l6FilterNo (k + 20) true w1 h1 l1 r 3 0 hg (by omega)
    rw [callK_fn rfl F19 code19] at S
    simp [fldV, nilV] at hs
    simp [R19_0, R19_1, Try.f19, fldV, hs, nilV] at S
theorem res_MeanYes (k : Nat) (W Hn : Nat) (l1 : List Int) (r : Int) (g1 : goodB W Hn l1 = true) (hr : 0 ≤ r) (hr' : r ≤ 3) (hk : 3000 ≤ k) : callK C k 19 [fldV true (W : Int) (Hn : Int) l1, .c (.int .i64 r)] [] = some (.tp [ownV W Hn 0 2 (W * Hn), .c (.bool true)], hpOf [] [intsO (tabL (W * Hn) W (flt l1 W Hn r 3 0))]) ∧ callK C k 20 [fldV true (W : Int) (Hn : Int) l1, .c (.int .i64 r)] [] = some (.tp [ownV W Hn 0 2 (W * Hn), .c (.bool true)], hpOf [] [intsO (tabL (W * Hn) W (flt l1 W Hn r 3 0))]) := by
  obtain ⟨k, rfl⟩ : ∃ m, k = m + 21 := ⟨k - 21, by omega⟩
  have hi := c_filteredField k W Hn l1 r 52 none (resG 3 0) (by decide) (fun nb a1 a2 a3 => by
      have := c_meanOf (k + 10 + 8 - 1) nb a1 a2 a3 (by omega)
      simpa [resG, rcOf] using this) (by omega)
  rw [callK_fn rfl F19 code19, callK_fn rfl F20 code20]
  rw [show (goodB W Hn l1 && (decide (0 ≤ r) && decide (r ≤ 3))) = true by simp [g1, hr, hr']] at hi
  have e : ((W : Int) * (Hn : Int)).toNat = W * Hn := by rw [← Int.natCast_mul]; rfl
  have hs := c_l6Filter (k + 20) true W Hn l1 r 3 0 (by simp) g1 hr hr' (by omega)
  have hfe : (fun (x y : Int) => if nbL (cellOf l1 W) W Hn x y r = [] then -9999 else resG 3 0 (nbL (cellOf l1 W) W Hn x y r)) = flt l1 W Hn r 3 0 := rfl
  rw [e, hfe] at hi
  simp [fldV, ownV, intsO, rcOf] at hs hi
  exact ⟨by simp [R19_0, R19_1, Try.f19, fldV, hs, ownV, intsO], by simp [R20_0, R20_1, Try.f20, fldV, hi, ownV, intsO]⟩

end Go.Proofs.Ytfgoljfggkkpnaa.Eng
