/- A deterministic reading of Go code over plain data: what functions of the program compute. No conditions. -/
import Derived.Test.YtmbjhcdmnjhnoaaLmbase
import Derived.Test.YtmbjhcdmnjhnoaaLmgood
import Derived.Test.YtmbjhcdmnjhnoaaLmlawmask
import Derived.Test.YtmbjhcdmnjhnoaaLmlawmask2
import Derived.Test.YtmbjhcdmnjhnoaaEngT
namespace Go.Proofs.Ytmbjhcdmnjhnoaa.Eng
open Go Go.Proofs
set_option maxRecDepth 100000
set_option maxHeartbeats 2000000
set_option linter.unusedSimpArgs false
set_option linter.unusedVariables false
theorem mask_cells : ∀ (l m : List Int), l.all cellB = true → m.all cellB = true → (List.zipWith maskG l m).all cellB = true
  | [], _, _, _ => by simp
  | _ :: _, [], _, _ => by simp
  | x :: l, y :: m, hl, hm => by
    simp only [List.all_cons, Bool.and_eq_true] at hl hm
    simp only [List.zipWith_cons_cons, List.all_cons, Bool.and_eq_true]
    refine ⟨?_, mask_cells l m hl.2 hm.2⟩
    unfold maskG
    split
    · rfl
    · exact hl.1
theorem law_MaskField (w h : Int) (l : List Int) (w' h' : Int) (m : List Int) (_ : (Lit.int .i64 w).wf = true) (_ : (Lit.int .i64 h).wf = true) (hl : l.length ≤ maxLen) (_ : (Lit.int .i64 w').wf = true) (_ : (Lit.int .i64 h').wf = true) (hm : m.length ≤ maxLen) :
    ∃ k, callK C k 5 [lfldV false w h l, lfldV false w' h' m] [] = some (.c (.bool true), hpOf [] []) := by
  refine ⟨l.length + m.length + 1200, ?_⟩
  unfold maxLen at hl hm
  by_cases ho : (1048576 : Int) - l.length < 0
  · exact wm_over1 _ false false w h w' h' l m (by omega) ho (by omega)
  by_cases ho' : (1048576 : Int) - l.length - m.length < 0
  · exact wm_over2 _ false false w h w' h' l m (by omega) ho ho' (by omega)
  cases hg : (goodB w h l && (goodB w' h' m && (w == w' && h == h')))
  · exact wm_no _ false false w h w' h' l m ho ho' hg (by omega)
  · have hg2 := hg
    simp only [Bool.and_eq_true, beq_iff_eq] at hg2
    obtain ⟨g1, g2, rfl, rfl⟩ := hg2
    obtain ⟨s1, n1, a1, _⟩ := good_length g1
    obtain ⟨_, n2, a2, _⟩ := good_length g2
    refine wm_yes _ false false w h l m _ rfl ?_ (by rw [g1, g2]; rfl) (by omega)
    unfold goodB
    rw [s1, mask_cells l m a1 a2]
    have : ((List.zipWith maskG l m).length : Int) = w * h := by simp; omega
    rw [this]
    simp

end Go.Proofs.Ytmbjhcdmnjhnoaa.Eng
