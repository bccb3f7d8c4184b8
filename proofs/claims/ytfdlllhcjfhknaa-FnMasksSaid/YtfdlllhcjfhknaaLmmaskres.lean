/- A deterministic reading of Go code over plain data: what functions of the program compute. No conditions. -/
import Derived.Test.YtfdlllhcjfhknaaLmbase
import Derived.Test.YtfdlllhcjfhknaaLmimpl
import Derived.Test.YtfdlllhcjfhknaaLmimplc
import Derived.Test.YtfdlllhcjfhknaaLmgood
import Derived.Test.YtfdlllhcjfhknaaLmspec
import Derived.Test.YtfdlllhcjfhknaaLmcombined
import Derived.Test.YtfdlllhcjfhknaaLmfillcl
import Derived.Test.YtfdlllhcjfhknaaLmmaskcl
import Derived.Test.YtfdlllhcjfhknaaLmfillfrom
import Derived.Test.YtfdlllhcjfhknaaLmmaskfrom
import Derived.Test.YtfdlllhcjfhknaaLmspecmask
import Derived.Test.YtfdlllhcjfhknaaLmchspec
import Derived.Test.YtfdlllhcjfhknaaEngT
namespace Go.Proofs.Ytfdlllhcjfhknaa.Eng
open Go Go.Proofs
set_option maxRecDepth 100000
set_option maxHeartbeats 2000000
set_option linter.unusedSimpArgs false
set_option linter.unusedVariables false
attribute [local simp] finK fin1 hpOf xi renQ isRoot runCode runOps Eng.step wantedV astep val ofO made loadV storeV find V.cells bin binT un1 setAt fieldAddrV fieldV indexAddrV indexV bounds sliceV convV lenV foldV max2V min2V callO bor rdsO wrsO seen_none okD_none loops keepIds resV resultsV St.ev TK.agg refs refsL refsO V.one V.isC Value.oneCell' ren renL renO noTag noTagL noTagR noTagO nodup mapO passV frs psi refsR newD loopNext opsAt idx flatAt rootOf backR newsV appendV copyV clearV strV bytesOf buildV fillF chunk
attribute [local simp] cT cF cX cWR cOW cK X ints_length ints_get ints_getElem ints_drop ints_take ints_append ints_nil ints_set
attribute [local simp] ints_replicate
attribute [local simp] putV_some putV_none putH_app applyD_nil applyD_cons seen_app gc_ρ gc_H gc_tick st0_ρ st0_H st0_tick retV callRo callV_if borL_nil borL_cons ints_snoc take_self callWr cutH_app findQ afterV exportV_0 exportV_n okD_nil okD_cons sub_seq0 sub_seq1 sub_cond0 sub_cond1 sub_block sub_loop sub_nil young_far young_none hidW_nil mayW_nil pairs okI ok_0 ok_1 ok_2
attribute [local simp] T3 T4 T5 T9 T22 T24 T26 T29 T36 T73 T75 T86 T89 T103 T104 T106 T108 T109 T111 T114 T118 T134 T136 T157 T161 T168
attribute [local simp] young_near clo cloF Region.binds Nat.testBit
theorem good_zip {g : Int → Int → Int} {w h : Int} {l m : List Int} (h1 : goodB w h l = true) (h2 : goodB w h m = true) (hc : ∀ x y, cellB x = true → cellB y = true → cellB (g x y) = true) : goodB w h (List.zipWith g l m) = true := by
  obtain ⟨s1, n1, cl1, k1⟩ := good_length h1
  obtain ⟨s2, n2, cl2, k2⟩ := good_length h2
  unfold goodB
  rw [s1, List.length_zipWith]
  simp only [Bool.true_and, Bool.and_eq_true, beq_iff_eq]
  refine ⟨by omega, ?_⟩
  rw [List.all_eq_true] at cl1 cl2 ⊢
  intro x hx
  obtain ⟨i, hi, rfl⟩ := List.getElem_of_mem hx
  rw [List.length_zipWith] at hi
  rw [List.getElem_zipWith]
  exact hc _ _ (cl1 _ (List.getElem_mem _)) (cl2 _ (List.getElem_mem _))
theorem pairs_comm (w h w' h' : Int) (l m : List Int) : (goodB w h l && (goodB w' h' m && (w == w' && h == h'))) = (goodB w h l && (goodB w' h' m && (w' == w && h' == h))) := by
  rw [Bool.beq_comm (a := w'), Bool.beq_comm (a := h')]
theorem res_Mask (k : Nat) (w h w' h' : Int) (l m : List Int) (hk : 3000 ≤ k) :
    (callK C k 54 [fldV true w h l, fldV true w' h' m] [] = some (.tp [nilV, .c (.bool false)], hpOf [] []) ∧ callK C k 53 [fldV true w h l, fldV true w' h' m] [] = some (.tp [nilV, .c (.bool false)], hpOf [] [])) ∨
    (w' = w ∧ h' = h ∧ goodB w h l = true ∧ goodB w h m = true ∧ goodB w h (List.zipWith maskG l m) = true ∧ callK C k 54 [fldV true w h l, fldV true w' h' m] [] = some (.tp [ownV w h 0 2 l.length, .c (.bool true)], hpOf [] [intsO (List.zipWith maskG l m)]) ∧ callK C k 53 [fldV true w h l, fldV true w' h' m] [] = some (.tp [ownV w h 0 2 l.length, .c (.bool true)], hpOf [] [intsO (List.zipWith maskG l m)])) := by
  obtain ⟨k, rfl⟩ : ∃ m, k = m + 9 := ⟨k - 9, by omega⟩
  cases hb : (goodB w h l && (goodB w' h' m && (w == w' && h == h')))
  · have s1 := c_specMaskNo (k + 9) true true w h w' h' l m (by omega) hb
    rw [pairs_comm] at hb
    exact .inl ⟨s1, c_implMaskNo (k + 9) true true w h w' h' l m (by omega) hb⟩
  · have hb2 := hb
    simp only [Bool.and_eq_true, beq_iff_eq] at hb2
    obtain ⟨g1, g2, rfl, rfl⟩ := hb2
    have hz := good_zip (g := maskG) g1 g2 (fun x y hx hy => by unfold maskG; split; · rfl
                                                                · exact hx)
    have s1 := c_specMask (k + 9) true true w h l m (by omega) (by simp [g1, g2])
    rw [pairs_comm] at hb
    exact .inr ⟨rfl, rfl, g1, g2, hz, s1, c_implMask (k + 9) true true w h w h l m (by omega) hb hz⟩
theorem fill_mask (l m : List Int) (h : m.length = l.length) : List.zipWith fillG (List.zipWith maskG l m) l = l := by
  apply List.ext_getElem
  · simp [h]
  · intro i h1 h2
    rw [List.getElem_zipWith, List.getElem_zipWith]
    unfold fillG maskG
    by_cases hc : m[i] = 0 ∨ m[i] = -9999
    · simp [hc]
    · simp [hc]
theorem res_Fill (k : Nat) (w h : Int) (l m : List Int) (g1 : goodB w h l = true) (g2 : goodB w h m = true) (hz : goodB w h (List.zipWith fillG l m) = true) (hk : 3000 ≤ k) :
    callK C k 55 [fldV true w h l, fldV true w h m] [] = some (.tp [ownV w h 0 2 l.length, .c (.bool true)], hpOf [] [intsO (List.zipWith fillG l m)]) := by
  have hb : (goodB w h l && (goodB w h m && (w == w && h == h))) = true := by simp [g1, g2]
  exact c_implFill k true true w h w h l m (by omega) hb hz
theorem res_Choose (k : Nat) (w1 h1 : Int) (l1 : List Int) (w2 h2 : Int) (l2 : List Int) (w3 h3 : Int) (l3 : List Int) (hk : 3000 ≤ k) :
    (callK C k 59 [fldV true w1 h1 l1, fldV true w2 h2 l2, fldV true w3 h3 l3] [] = some (.tp [nilV, .c (.bool false)], hpOf [] []) ∧ callK C k 58 [fldV true w1 h1 l1, fldV true w2 h2 l2, fldV true w3 h3 l3] [] = some (.tp [nilV, .c (.bool false)], hpOf [] [])) ∨
    (w2 = w1 ∧ h2 = h1 ∧ w3 = w1 ∧ h3 = h1 ∧ l2.length = l1.length ∧ l3.length = l1.length ∧ l1.length ≤ 64 ∧ callK C k 59 [fldV true w1 h1 l1, fldV true w2 h2 l2, fldV true w3 h3 l3] [] = some (.tp [ownV w1 h1 0 2 l1.length, .c (.bool true)], hpOf [] [intsO (chL l1 l2 l3)]) ∧ callK C k 58 [fldV true w1 h1 l1, fldV true w2 h2 l2, fldV true w3 h3 l3] [] = some (.tp [ownV w1 h1 0 2 l1.length, .c (.bool true)], hpOf [] [intsO (chL l1 l2 l3)])) := by
  obtain ⟨k, rfl⟩ : ∃ m, k = m + 9 := ⟨k - 9, by omega⟩
  have e1 := c_l2Same (k + 8) true true w1 h1 w2 h2 l1 l2 (by omega)
  have e2 := c_l2Same (k + 8) true true w1 h1 w3 h3 l1 l3 (by omega)
  have hal := c_areAlike (k + 8) true ⟨true, w1, h1, l1⟩ [⟨true, w2, h2, l2⟩, ⟨true, w3, h3, l3⟩] (by simp) (by simp; omega)
  have eq1 : ([(⟨true, w1, h1, l1⟩ : Fd), ⟨true, w2, h2, l2⟩, ⟨true, w3, h3, l3⟩].all (likeB ⟨true, w1, h1, l1⟩)) = ((goodB w1 h1 l1 && (goodB w2 h2 l2 && (w1 == w2 && h1 == h2))) && (goodB w1 h1 l1 && (goodB w3 h3 l3 && (w1 == w3 && h1 == h3)))) := by
    simp only [List.all_cons, List.all_nil, likeB, beq_self_eq_true, Bool.and_true, Fd.good]
    rw [Bool.beq_comm (a := w2), Bool.beq_comm (a := h2), Bool.beq_comm (a := w3), Bool.beq_comm (a := h3)]
    cases goodB w1 h1 l1 <;> simp
  rw [eq1] at hal
  cases c1 : (goodB w1 h1 l1 && (goodB w2 h2 l2 && (w1 == w2 && h1 == h2)))
  · rw [c1] at e1 hal
    simp [fldV, Fd.cells] at e1 hal
    refine .inl ⟨?_, ?_⟩
    · rw [callK_fn rfl F59 code59]
      simp [R59_0, R59_1, R59_2, R59_3, R59_4, R59_5, R59_6, R59_7, R59_8, R59_9, R59_10, R59_11, Try.f59, lpL59_0, lpM59_0, M59_0, fldV, e1, nilV]
    · rw [callK_fn rfl F58 code58]
      simp [R58_0, R58_1, R58_2, R58_3, R58_4, R58_5, R58_6, R58_7, R58_8, R58_9, R58_10, R58_11, R58_12, Try.f58, lpL58_0, lpM58_0, M58_0, ok_3, fldV, hal, nilV]
  cases c2 : (goodB w1 h1 l1 && (goodB w3 h3 l3 && (w1 == w3 && h1 == h3)))
  · rw [c1] at e1
    rw [c2] at e2
    rw [c1, c2] at hal
    simp [fldV, Fd.cells] at e1 e2 hal
    refine .inl ⟨?_, ?_⟩
    · rw [callK_fn rfl F59 code59]
      simp [R59_0, R59_1, R59_2, R59_3, R59_4, R59_5, R59_6, R59_7, R59_8, R59_9, R59_10, R59_11, Try.f59, lpL59_0, lpM59_0, M59_0, fldV, e1, e2, nilV]
    · rw [callK_fn rfl F58 code58]
      simp [R58_0, R58_1, R58_2, R58_3, R58_4, R58_5, R58_6, R58_7, R58_8, R58_9, R58_10, R58_11, R58_12, Try.f58, lpL58_0, lpM58_0, M58_0, ok_3, fldV, hal, nilV]
  simp only [Bool.and_eq_true, beq_iff_eq] at c1 c2
  obtain ⟨g1, g2, rfl, rfl⟩ := c1
  obtain ⟨_, g3, rfl, rfl⟩ := c2
  obtain ⟨_, n1, _, k1⟩ := good_length g1
  obtain ⟨_, n2, _, k2⟩ := good_length g2
  obtain ⟨_, n3, _, k3⟩ := good_length g3
  exact .inr ⟨rfl, rfl, rfl, rfl, by omega, by omega, by omega, c_specCh k w1 h1 l1 l2 l3 g1 g2 g3 (by omega), c_implCh k w1 h1 l1 l2 l3 g1 g2 g3 (by omega)⟩

end Go.Proofs.Ytfdlllhcjfhknaa.Eng
