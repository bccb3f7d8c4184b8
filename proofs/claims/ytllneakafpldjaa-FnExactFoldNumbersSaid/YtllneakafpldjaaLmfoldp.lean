/- A deterministic reading of Go code over plain data: what functions of the program compute. No conditions. -/
import Derived.Test.YtllneakafpldjaaLmbase
import Derived.Test.YtllneakafpldjaaLmnodes
import Derived.Test.YtllneakafpldjaaEngT
namespace Go.Proofs.Ytllneakafpldjaa.Eng
open Go Go.Proofs
set_option maxRecDepth 100000
set_option maxHeartbeats 2000000
set_option linter.unusedSimpArgs false
set_option linter.unusedVariables false
/-- What a node with numbers ahead of it comes to: how many they are, the value. -/
def opF (k a b : Int) : Int := if k = 3 then a + b else if k = 4 then a - b else if k = 5 then (if a < b then a else b) else (if a > b then a else b)
def fv (l : List (Int × Int)) (i : Nat) : Option (Nat × Int) :=
  if (l.getD i (0, 0)).1 = 7 then (if (l.getD (i - 1) (0, 0)).1 = 2 then some (1, if (l.getD (i - 1) (0, 0)).2 > (l.getD i (0, 0)).2 then 1 else 0) else none)
  else if 3 ≤ (l.getD i (0, 0)).1 ∧ (l.getD i (0, 0)).1 ≤ 6 then
    (if (l.getD (i - 2) (0, 0)).1 = 2 ∧ (l.getD (i - 1) (0, 0)).1 = 2 ∧ 0 ≤ opF (l.getD i (0, 0)).1 (l.getD (i - 2) (0, 0)).2 (l.getD (i - 1) (0, 0)).2 ∧ opF (l.getD i (0, 0)).1 (l.getD (i - 2) (0, 0)).2 (l.getD (i - 1) (0, 0)).2 ≤ 9000 then
      some (2, opF (l.getD i (0, 0)).1 (l.getD (i - 2) (0, 0)).2 (l.getD (i - 1) (0, 0)).2) else none)
  else none
/-- The nodes with that one in their place. -/
def fo (l : List (Int × Int)) (i c : Nat) (v : Int) : List (Int × Int) := l.take (i - c) ++ (2, v) :: l.drop (i + 1)
theorem runAt {l : List (Int × Int)} (hg : 0 ≤ runO l l.length) (i : Nat) (hi : i < l.length) : 0 ≤ runO l i ∧ 0 ≤ arI (l.getD i (0, 0)) ∧ arI (l.getD i (0, 0)) ≤ runO l i ∧ runO l (i + 1) = runO l i - arI (l.getD i (0, 0)) + 1 :=
  runO_back (runO_mono hg (l.length - (i + 1)) (i + 1) (by omega))
theorem ar_num {q : Int × Int} (h : 0 ≤ arI q) (h2 : q.1 = 2) : arI q = 0 ∧ 0 ≤ q.2 ∧ q.2 ≤ 9000 := by
  unfold arI at h ⊢
  split
  · omega
  · split at h
    · omega
    · split at h <;> omega
theorem ar_above {q : Int × Int} (h : 0 ≤ arI q) (h2 : q.1 = 7) : arI q = 1 := by
  unfold arI at h ⊢
  split
  · omega
  all_goals (split at h <;> omega)
theorem ar_two {q : Int × Int} (h : 0 ≤ arI q) (h2 : 3 ≤ q.1 ∧ q.1 ≤ 6) : arI q = 2 := by
  unfold arI at h ⊢
  split
  · omega
  all_goals (split at h <;> omega)
theorem fv_facts {l : List (Int × Int)} (hg : 0 ≤ runO l l.length) {i c : Nat} {v : Int} (hi : i < l.length) (h : fv l i = some (c, v)) :
    arI (l.getD i (0, 0)) = c ∧ (∀ q, i - c ≤ q → q < i → arI (l.getD q (0, 0)) = 0) ∧ c ≤ i ∧ 1 ≤ c ∧ c ≤ 2 ∧ 0 ≤ v ∧ v ≤ 9000 := by
  obtain ⟨h1, h2, h3, h4⟩ := runAt hg i hi
  have hle := runO_le l i
  unfold fv at h
  split at h
  · rename_i hk
    split at h
    · rename_i hn
      cases h
      have ha := ar_above h2 hk
      refine ⟨by omega, fun q q1 q2 => ?_, by omega, by omega, by omega, by split <;> omega, by split <;> omega⟩
      obtain rfl : q = i - 1 := by omega
      exact (ar_num (runAt hg (i - 1) (by omega)).2.1 hn).1
    · cases h
  · split at h
    · rename_i hk
      split at h
      · rename_i hn
        obtain ⟨n1, n2, n3, n4⟩ := hn
        simp only [Option.some.injEq, Prod.mk.injEq] at h
        obtain ⟨rfl, rfl⟩ := h
        have ha := ar_two h2 hk
        refine ⟨by omega, fun q q1 q2 => ?_, by omega, by omega, by omega, n3, n4⟩
        rcases (show q = i - 1 ∨ q = i - 2 by omega) with rfl | rfl
        · exact (ar_num (runAt hg (i - 1) (by omega)).2.1 n2).1
        · exact (ar_num (runAt hg (i - 2) (by omega)).2.1 n1).1
      · cases h
    · cases h
theorem fv_run {l : List (Int × Int)} (hg : 0 ≤ runO l l.length) {i c : Nat} {v : Int} (hi : i < l.length) (h : fv l i = some (c, v)) : runO l i = runO l (i - c) + c := by
  obtain ⟨f1, f2, f3, f4, f5, f6, f7⟩ := fv_facts hg hi h
  rcases (show c = 1 ∨ c = 2 by omega) with rfl | rfl
  · have a := runAt hg (i - 1) (by omega)
    have b := f2 (i - 1) (by omega) (by omega)
    rw [show i - 1 + 1 = i by omega] at a
    omega
  · have a := runAt hg (i - 1) (by omega)
    have b := f2 (i - 1) (by omega) (by omega)
    have a' := runAt hg (i - 2) (by omega)
    have b' := f2 (i - 2) (by omega) (by omega)
    rw [show i - 1 + 1 = i by omega] at a
    rw [show i - 2 + 1 = i - 1 by omega] at a'
    omega
theorem fo_len {l : List (Int × Int)} {i c : Nat} {v : Int} (hi : i < l.length) (hc : c ≤ i) : (fo l i c v).length = l.length - c := by
  simp only [fo, List.length_append, List.length_take, List.length_cons, List.length_drop]
  omega
theorem fo_get {l : List (Int × Int)} {i c : Nat} {v : Int} (hi : i < l.length) (hc : c ≤ i) :
    (∀ q, q < i - c → (fo l i c v).getD q (0, 0) = l.getD q (0, 0)) ∧ (fo l i c v).getD (i - c) (0, 0) = (2, v) ∧ ∀ t, (fo l i c v).getD (i - c + 1 + t) (0, 0) = l.getD (i + 1 + t) (0, 0) := by
  have hl : (l.take (i - c)).length = i - c := by rw [List.length_take]; omega
  refine ⟨fun q hq => ?_, ?_, fun t => ?_⟩
  · unfold fo
    rw [List.getD_eq_getElem?_getD, List.getD_eq_getElem?_getD, List.getElem?_append_left (by omega), List.getElem?_take, if_pos hq]
  · unfold fo
    rw [List.getD_eq_getElem?_getD, List.getElem?_append_right (by omega), hl, Nat.sub_self]
    rfl
  · unfold fo
    rw [List.getD_eq_getElem?_getD, List.getD_eq_getElem?_getD, List.getElem?_append_right (by omega), hl, show i - c + 1 + t - (i - c) = t + 1 by omega, List.getElem?_cons_succ, List.getElem?_drop]
theorem fo_run {l : List (Int × Int)} (hg : 0 ≤ runO l l.length) {i c : Nat} {v : Int} (hi : i < l.length) (h : fv l i = some (c, v)) : runO (fo l i c v) (fo l i c v).length = runO l l.length := by
  obtain ⟨f1, f2, f3, f4, f5, f6, f7⟩ := fv_facts hg hi h
  obtain ⟨g1, g2, g3⟩ := fo_get (v := v) hi f3
  have e1 : ∀ q, q ≤ i - c → runO (fo l i c v) q = runO l q := by
    intro q
    induction q with
    | zero => intro _; rfl
    | succ q ih => intro hq; rw [runO_succ, runO_succ, ih (by omega), g1 q (by omega)]
  obtain ⟨r1, r2, r3, r4⟩ := runAt hg i hi
  have e2 : runO l i = runO l (i - c) + c := by
    rcases (show c = 1 ∨ c = 2 by omega) with rfl | rfl
    · have a := runAt hg (i - 1) (by omega)
      have b := f2 (i - 1) (by omega) (by omega)
      rw [show i - 1 + 1 = i by omega] at a
      omega
    · have a := runAt hg (i - 1) (by omega)
      have b := f2 (i - 1) (by omega) (by omega)
      have a' := runAt hg (i - 2) (by omega)
      have b' := f2 (i - 2) (by omega) (by omega)
      rw [show i - 1 + 1 = i by omega] at a
      rw [show i - 2 + 1 = i - 1 by omega] at a'
      omega
  have e3 : runO l (i + 1) = runO l (i - c) + 1 := by omega
  have a0 := (runAt hg (i - c) (by omega)).1
  have hn : arI (2, v) = 0 := by simp [arI]; omega
  have e4 : runO (fo l i c v) (i - c + 1) = runO l (i - c) + 1 := by
    rw [runO_succ, e1 _ (Nat.le_refl _), g2, hn, if_neg (by omega)]
    omega
  have e5 : ∀ t, runO (fo l i c v) (i - c + 1 + t) = runO l (i + 1 + t) := by
    intro t
    induction t with
    | zero => rw [Nat.add_zero, Nat.add_zero, e4, e3]
    | succ t ih => rw [← Nat.add_assoc, ← Nat.add_assoc, runO_succ, runO_succ, ih, g3 t]
  have := e5 (l.length - (i + 1))
  rw [show i + 1 + (l.length - (i + 1)) = l.length by omega] at this
  rw [fo_len hi f3, ← this]
  congr 1
  omega
theorem fo_good {l : List (Int × Int)} (hg : goodE l = true) {i c : Nat} {v : Int} (hi : i < l.length) (h : fv l i = some (c, v)) : goodE (fo l i c v) = true := by
  simp only [goodE, Bool.and_eq_true, decide_eq_true_eq] at hg ⊢
  have hr : 0 ≤ runO l l.length := by omega
  obtain ⟨_, _, f3, _⟩ := fv_facts hr hi h
  rw [fo_run hr hi h, fo_len hi f3]
  omega
/-- The first node that can be folded, from i on. -/
def srch (l : List (Int × Int)) : Nat → Option (Nat × Nat × Int)
  | 0 => none
  | m + 1 => match fv l (l.length - (m + 1)) with
    | some q => some (l.length - (m + 1), q)
    | none => srch l m
theorem srch_at {l : List (Int × Int)} {i : Nat} (h : i < l.length) : srch l (l.length - i) = match fv l i with
    | some q => some (i, q)
    | none => srch l (l.length - (i + 1)) := by
  obtain ⟨m, hm⟩ : ∃ m, l.length - i = m + 1 := ⟨l.length - i - 1, by omega⟩
  rw [hm, srch, show l.length - (m + 1) = i by omega, show l.length - (i + 1) = m by omega]
/-- All folded, in at most n steps. -/
def fAll : Nat → List (Int × Int) → List (Int × Int)
  | 0, l => l
  | n + 1, l => match srch l l.length with
    | none => l
    | some (i, c, v) => fAll n (fo l i c v)
theorem srch_facts {l : List (Int × Int)} : ∀ m, m ≤ l.length → ∀ i c v, srch l m = some (i, c, v) → i < l.length ∧ fv l i = some (c, v)
  | 0, _, i, c, v, h => by cases h
  | m + 1, hm, i, c, v, h => by
    unfold srch at h
    split at h
    · rename_i q hq
      cases h
      exact ⟨by omega, hq⟩
    · exact srch_facts m (by omega) i c v h
theorem fAll_more : ∀ n m l, goodE l = true → l.length ≤ n → l.length ≤ m → fAll n l = fAll m l
  | 0, m, l, hg, h, _ => by
    have : l = [] := List.eq_nil_of_length_eq_zero (by omega)
    subst this
    simp [goodE, runO] at hg
  | n + 1, 0, l, hg, _, h => by
    have : l = [] := List.eq_nil_of_length_eq_zero (by omega)
    subst this
    simp [goodE, runO] at hg
  | n + 1, m + 1, l, hg, h1, h2 => by
    unfold fAll
    split
    · rfl
    · rename_i i c v hs
      obtain ⟨hi, hv⟩ := srch_facts l.length (Nat.le_refl _) i c v hs
      have hr : 0 ≤ runO l l.length := by
        simp only [goodE, Bool.and_eq_true, decide_eq_true_eq] at hg
        omega
      obtain ⟨_, _, f3, f4, _⟩ := fv_facts hr hi hv
      have hl := fo_len (v := v) hi f3
      exact fAll_more n m _ (fo_good hg hi hv) (by omega) (by omega)

end Go.Proofs.Ytllneakafpldjaa.Eng
