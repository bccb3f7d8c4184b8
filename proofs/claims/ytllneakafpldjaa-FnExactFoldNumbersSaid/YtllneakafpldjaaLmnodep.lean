/- A deterministic reading of Go code over plain data: what functions of the program compute. No conditions. -/
import Derived.Test.YtllneakafpldjaaLmbase
import Derived.Test.YtllneakafpldjaaLmnodes
import Derived.Test.YtllneakafpldjaaEngT
namespace Go.Proofs.Ytllneakafpldjaa.Eng
open Go Go.Proofs
set_option maxRecDepth 100000
set_option maxHeartbeats 2000000
set_option linter.unusedSimpArgs false
set_option linter.unusedVariables false
/-- The depths on the stack, the lowest one ahead. -/
def depL (l : List (Int × Int)) (i : Nat) : List Int := ((stk l i).map (·.2)).reverse
def mxf (L : List Int) : Int := L.foldl (fun m d => max m (d + 1)) 1
theorem mxf_snoc (L : List Int) (d : Int) : mxf (L ++ [d]) = max (mxf L) (d + 1) := by simp [mxf, List.foldl_append]
theorem mxf_pos (L : List Int) : 1 ≤ mxf L := by
  unfold mxf
  suffices h : ∀ (L : List Int) (m : Int), 1 ≤ m → 1 ≤ L.foldl (fun m d => max m (d + 1)) m from h L 1 (by omega)
  intro L
  induction L with
  | nil => intro m h; exact h
  | cons a L ih => intro m h; exact ih _ (Int.le_trans h (Int.le_max_left _ _))
theorem stk_pos {l : List (Int × Int)} : ∀ i, ∀ x ∈ stk l i, 1 ≤ x.2 ∧ x.2 ≤ i
  | 0, x, h => by simp [stk] at h
  | i + 1, x, h => by
    have ih := stk_pos (l := l) i
    unfold stk at h
    split at h
    · rcases List.mem_cons.1 h with e | e
      · subst e; simp only []; omega
      · have := ih x e; omega
    split at h
    · split at h
      · rename_i a d s hs
        rw [hs] at ih
        rcases List.mem_cons.1 h with e | e
        · subst e
          have := ih (a, d) (by simp)
          simp only [] at this ⊢
          omega
        · have := ih x (by simp [e]); omega
      · simp at h
    · split at h
      · rename_i a2 d2 a d1 s hs
        rw [hs] at ih
        rcases List.mem_cons.1 h with e | e
        · subst e
          have h1 := ih (a2, d2) (by simp)
          have h2 := ih (a, d1) (by simp)
          simp only [] at h1 h2 ⊢
          split <;> omega
        · have := ih x (by simp [e]); omega
      · have := ih x h; omega
theorem depL_len {l : List (Int × Int)} {i : Nat} (h : 0 ≤ runO l i) : ((depL l i).length : Int) = runO l i := by
  rw [← stk_len i h]; simp [depL]
theorem depL_bound {l : List (Int × Int)} {i : Nat} {x : Int} (h : x ∈ depL l i) : 1 ≤ x ∧ x ≤ i := by
  simp only [depL, List.mem_reverse, List.mem_map] at h
  obtain ⟨q, hq, rfl⟩ := h
  exact stk_pos i q hq
theorem mxf_bound {l : List (Int × Int)} {i : Nat} {L : List Int} (h : ∀ x ∈ L, x ∈ depL l i) : mxf L ≤ i + 1 := by
  unfold mxf
  suffices hs : ∀ (L : List Int) (m : Int), (∀ x ∈ L, x ≤ (i : Int)) → m ≤ i + 1 → L.foldl (fun m d => max m (d + 1)) m ≤ i + 1 from hs L 1 (fun x hx => (depL_bound (h x hx)).2) (by omega)
  intro L
  induction L with
  | nil => intro m _ h; exact h
  | cons a L ih => intro m hl h; exact ih _ (fun x hx => hl x (by simp [hx])) (by have := hl a (by simp); exact Int.max_le.2 ⟨h, by omega⟩)
theorem dep_step {l : List (Int × Int)} {i : Nat} (h : 0 ≤ runO l (i + 1)) : depL l (i + 1) = (depL l i).take ((depL l i).length - (arI (l.getD i (0, 0))).toNat) ++ [mxf ((depL l i).drop ((depL l i).length - (arI (l.getD i (0, 0))).toNat))] := by
  obtain ⟨h1, h2, h3, h4⟩ := runO_back h
  have hl := stk_len i h1
  have hp := stk_pos (l := l) i
  unfold depL
  rcases ar_cases (l.getD i (0, 0)) with e | e | e | e
  · rw [stk_0 e, e]
    have hn : (List.map (·.2) (stk l i)).reverse.length = (stk l i).length := by simp
    simp only [List.map_cons, List.reverse_cons, hn, Int.toNat_zero, Nat.sub_zero]
    rw [List.take_of_length_le (by omega), List.drop_eq_nil_of_le (by omega)]
    simp [mxf]
  · cases hs : stk l i with
    | nil => rw [hs] at hl; simp only [List.length_nil] at hl; omega
    | cons x s =>
      obtain ⟨a, d⟩ := x
      have := hp (a, d) (by rw [hs]; simp)
      simp only [] at this
      rw [stk_1 e hs, e]
      simp [mxf]
      omega
  · cases hs : stk l i with
    | nil => rw [hs] at hl; simp only [List.length_nil] at hl; omega
    | cons x s =>
      cases s with
      | nil => rw [hs] at hl; simp only [List.length_cons, List.length_nil] at hl; omega
      | cons y s =>
        obtain ⟨a2, d2⟩ := x
        obtain ⟨a, d1⟩ := y
        have p1 := hp (a2, d2) (by rw [hs]; simp)
        have p2 := hp (a, d1) (by rw [hs]; simp)
        simp only [] at p1 p2
        rw [stk_2 e hs, e]
        simp [mxf]
        split <;> omega
  · omega
/-- How deep an expression is. -/
def depthI (l : List (Int × Int)) : Int := if goodE l then (depL l l.length).headD 0 else 0
theorem good_run {l : List (Int × Int)} (h : goodE l = true) : l.length ≤ 15 ∧ runO l l.length = 1 := by simpa [goodE] using h
theorem depth_top {l : List (Int × Int)} {a : Nat} {d : Int} {s : List (Nat × Int)} (h : goodE l = true) (hs : stk l l.length = (a, d) :: s) : depthI l = d ∧ depL l l.length = [d] := by
  obtain ⟨h1, h2⟩ := good_run h
  have hl := stk_len (l := l) l.length (by omega)
  rw [hs] at hl
  have : s = [] := by
    cases s with
    | nil => rfl
    | cons x s => simp at hl; omega
  subst this
  simp [depthI, h, depL, hs]

end Go.Proofs.Ytllneakafpldjaa.Eng
