/- A deterministic reading of Go code over plain data: what functions of the program compute. No conditions. -/
import Derived.Test.YtgegdikmmlinfaaDoorLmbase
import Derived.Test.YtgegdikmmlinfaaDoorLmnodes
import Derived.Test.YtgegdikmmlinfaaDoorLmitoa
import Derived.Test.YtgegdikmmlinfaaDoorEngT
import Derived.Lib.ItoaLen
namespace Go.Proofs.YtgegdikmmlinfaaDoor.Eng
open Go Go.Proofs
set_option maxRecDepth 100000
set_option maxHeartbeats 2000000
set_option linter.unusedSimpArgs false
set_option linter.unusedVariables false
attribute [local simp] finK fin1 hpOf xi renQ isRoot runCode runOps Eng.step wantedV astep val ofO made loadV storeV find V.cells bin binT binA numT numFs eqCells un1 setAt fieldAddrV fieldV indexAddrV indexV bounds sliceV convV lenV foldV max2V min2V callO bor rdsO wrsO seen_none okD_none loops keepIds resV resultsV St.ev TK.agg refs refsL refsO V.one V.isC Value.oneCell' ren renL renO noTag noTagL noTagR noTagO nodup mapO passV frs psi refsR newD loopNext opsAt idx flatAt rootOf backR newsV appendV copyV clearV strV bytesOf nilCmp buildV fillF chunk
attribute [local simp] cT cF cX cWR cOW cK X ints_length ints_get ints_getElem ints_drop ints_take ints_append ints_nil ints_set
attribute [local simp] ints_replicate
attribute [local simp] putV_some putV_none putH_app applyD_nil applyD_cons seen_app gc_ρ gc_H gc_tick st0_ρ st0_H st0_tick retV callRo callV_if borL_nil borL_cons ints_snoc take_self callWr cutH_app findQ afterV exportV_0 exportV_n okD_nil okD_cons sub_seq0 sub_seq1 sub_cond0 sub_cond1 sub_block sub_loop sub_nil young_far young_none hidW_nil mayW_nil pairs okI ok_0 ok_1 ok_2
attribute [local simp] T3 T4 T9 T22 T26 T33 T35 T42 T43
/-- A sum or a difference. -/
def smB (q : Int × Int) : Bool := decide (q.1 = 3) || decide (q.1 = 4)
/-- A field's name, or a number. -/
def atT (q : Int × Int) : List UInt8 := if q.1 = 1 then [UInt8.ofNat (97 + q.2.toNat)] else Lib.decDigits q.2.toNat
/-- above(.., n) -/
def abT (q : Int × Int) (t : List UInt8) : List UInt8 := [97, 98, 111, 118, 101, 40] ++ t ++ [44] ++ Lib.decDigits q.2.toNat ++ [41]
/-- A node of two arguments: the left one, the right one, whether that is a sum. -/
def biT (q : Int × Int) (x y : List UInt8) (s : Bool) : List UInt8 := if q.1 = 5 then [109, 105, 110, 40] ++ x ++ [44] ++ y ++ [41] else if q.1 = 6 then [109, 97, 120, 40] ++ x ++ [44] ++ y ++ [41] else x ++ [if q.1 = 3 then 43 else 45] ++ (if s then [40] ++ y ++ [41] else y)
/-- The texts behind i nodes, the last one ahead, each with whether it is a sum. -/
def tks (l : List (Int × Int)) : Nat → List (List UInt8 × Bool)
  | 0 => []
  | i + 1 => if arI (l.getD i (0, 0)) = 0 then (atT (l.getD i (0, 0)), smB (l.getD i (0, 0))) :: tks l i else if arI (l.getD i (0, 0)) = 1 then (match tks l i with
    | (t, _) :: s => (abT (l.getD i (0, 0)) t, smB (l.getD i (0, 0))) :: s
    | [] => []) else (match tks l i with
    | (y, b) :: (x, _) :: s => (biT (l.getD i (0, 0)) x y b, smB (l.getD i (0, 0))) :: s
    | s => s)
theorem tks_0 {l : List (Int × Int)} {i : Nat} (h : arI (l.getD i (0, 0)) = 0) : tks l (i + 1) = (atT (l.getD i (0, 0)), smB (l.getD i (0, 0))) :: tks l i := by rw [tks, if_pos h]
theorem tks_1 {l : List (Int × Int)} {i : Nat} {t : List UInt8} {b : Bool} {s : List (List UInt8 × Bool)} (h : arI (l.getD i (0, 0)) = 1) (hs : tks l i = (t, b) :: s) : tks l (i + 1) = (abT (l.getD i (0, 0)) t, smB (l.getD i (0, 0))) :: s := by rw [tks, if_neg (by omega), if_pos h, hs]
theorem tks_2 {l : List (Int × Int)} {i : Nat} {x y : List UInt8} {b c : Bool} {s : List (List UInt8 × Bool)} (h : arI (l.getD i (0, 0)) = 2) (hs : tks l i = (y, b) :: (x, c) :: s) : tks l (i + 1) = (biT (l.getD i (0, 0)) x y b, smB (l.getD i (0, 0))) :: s := by rw [tks, if_neg (by omega), if_neg (by omega), hs]
theorem tks_len {l : List (Int × Int)} : ∀ i, 0 ≤ runO l i → ((tks l i).length : Int) = runO l i
  | 0, _ => by simp [tks, runO]
  | i + 1, h => by
    obtain ⟨h1, h2, h3, h4⟩ := runO_back h
    have ih := tks_len i h1
    rw [h4]
    rcases ar_cases (l.getD i (0, 0)) with e | e | e | e
    · rw [tks_0 e, e]; simp only [List.length_cons]; omega
    · cases hs : tks l i with
      | nil => rw [hs] at ih; simp only [List.length_nil] at ih; omega
      | cons x s => obtain ⟨a, d⟩ := x; rw [tks_1 e hs, e]; rw [hs] at ih; simp only [List.length_cons] at ih ⊢; omega
    · cases hs : tks l i with
      | nil => rw [hs] at ih; simp only [List.length_nil] at ih; omega
      | cons x s =>
        cases s with
        | nil => rw [hs] at ih; simp only [List.length_cons, List.length_nil] at ih; omega
        | cons y s => obtain ⟨a2, d2⟩ := x; obtain ⟨a, d1⟩ := y; rw [tks_2 e hs, e]; rw [hs] at ih; simp only [List.length_cons] at ih ⊢; omega
    · omega
/-- Behind a node: its text, on what lay there where its expression begins. -/
theorem tks_top {l : List (Int × Int)} : ∀ i, 0 ≤ runO l (i + 1) → ∀ a d s, stk l (i + 1) = (a, d) :: s → ∃ t, tks l (i + 1) = (t, smB (l.getD i (0, 0))) :: tks l a := by
  intro i
  induction i using Nat.strongRecOn with
  | _ i ih =>
    intro h a d s hst
    obtain ⟨h1, h2, h3, h4⟩ := runO_back h
    rcases ar_cases (l.getD i (0, 0)) with e | e | e | e
    · rw [stk_0 e] at hst
      injection hst with e1 _
      injection e1 with e1 _
      subst e1
      exact ⟨_, tks_0 e⟩
    · obtain ⟨j, rfl⟩ : ∃ j, i = j + 1 := by
        cases i with
        | zero => rw [e] at h3; exact absurd h3 (by simp [runO])
        | succ j => exact ⟨j, rfl⟩
      obtain ⟨a1, d1, ha, hs⟩ := stk_top j h1
      rw [stk_1 e hs] at hst
      injection hst with e1 _
      injection e1 with e1 _
      subst e1
      obtain ⟨t, ht⟩ := ih j (by omega) h1 _ _ _ hs
      exact ⟨_, tks_1 e ht⟩
    · obtain ⟨j, rfl⟩ : ∃ j, i = j + 1 := by
        cases i with
        | zero => rw [e] at h3; exact absurd h3 (by simp [runO])
        | succ j => exact ⟨j, rfl⟩
      obtain ⟨a1, d1, ha, hs⟩ := stk_top j h1
      have hl := stk_len (j + 1) h1
      have ha0 : 0 ≤ runO l a1 := runO_mono h1 (j + 1 - a1) a1 (by omega)
      have hla := stk_len a1 ha0
      rw [hs] at hl
      simp only [List.length_cons] at hl
      obtain ⟨b, rfl⟩ : ∃ b, a1 = b + 1 := by
        cases a1 with
        | zero => simp only [stk, List.length_nil] at hl; omega
        | succ b => exact ⟨b, rfl⟩
      obtain ⟨a2, d2, hc, hs'⟩ := stk_top b ha0
      rw [stk_2 e (by rw [hs, hs'])] at hst
      injection hst with e1 _
      injection e1 with e1 _
      subst e1
      obtain ⟨t, ht⟩ := ih j (by omega) h1 _ _ _ hs
      obtain ⟨t2, ht2⟩ := ih b (by omega) ha0 _ _ _ hs'
      rw [ht2] at ht
      exact ⟨_, tks_2 e ht⟩
    · omega
def lenT (s : List (List UInt8 × Bool)) : Nat := (s.map fun x => x.1.length).sum
theorem dig_short {v : Int} (h0 : 0 ≤ v) (h : v ≤ 9000) : (Lib.decDigits v.toNat).length ≤ 21 := by
  have := Lib.itoa_length_le v (by omega) (by omega)
  rw [show v = ((v.toNat : Nat) : Int) by omega, Lib.itoa_nonneg] at this
  exact this
theorem ar_range {q : Int × Int} : (arI q = 0 → (q.1 = 1 ∧ 0 ≤ q.2 ∧ q.2 ≤ 3) ∨ (q.1 = 2 ∧ 0 ≤ q.2 ∧ q.2 ≤ 9000)) ∧ (arI q = 1 → q.1 = 7 ∧ 0 ≤ q.2 ∧ q.2 ≤ 9000) ∧ (arI q = 2 → 3 ≤ q.1 ∧ q.1 ≤ 6 ∧ q.2 = 0) := by
  unfold arI
  split
  · rename_i h
    refine ⟨fun _ => h, fun e => absurd e (by decide), fun e => absurd e (by decide)⟩
  · split
    · rename_i h
      exact ⟨fun e => absurd e (by decide), fun e => absurd e (by decide), fun _ => ⟨h.1.1, h.1.2, h.2⟩⟩
    · split
      · rename_i h
        exact ⟨fun e => absurd e (by decide), fun _ => ⟨h.1, h.2.1, h.2.2⟩, fun e => absurd e (by decide)⟩
      · exact ⟨fun e => absurd e (by decide), fun e => absurd e (by decide), fun e => absurd e (by decide)⟩
theorem tks_bound {l : List (Int × Int)} : ∀ i, 0 ≤ runO l i → lenT (tks l i) ≤ 40 * i
  | 0, _ => by simp [tks, lenT]
  | i + 1, h => by
    obtain ⟨h1, h2, h3, h4⟩ := runO_back h
    have ih := tks_bound i h1
    obtain ⟨r0, r1, r2⟩ := ar_range (q := l.getD i (0, 0))
    rcases ar_cases (l.getD i (0, 0)) with e | e | e | e
    · rw [tks_0 e]
      have hat : (atT (l.getD i (0, 0))).length ≤ 21 := by
        unfold atT
        split
        · simp
        · rename_i hn
          rcases r0 e with hr | hr
          · exact absurd hr.1 hn
          · exact dig_short hr.2.1 hr.2.2
      simp only [lenT, List.map_cons, List.sum_cons] at ih ⊢
      omega
    · have hl := tks_len i h1
      cases hs : tks l i with
      | nil => rw [hs] at hl; simp only [List.length_nil] at hl; omega
      | cons x s =>
        obtain ⟨t, b⟩ := x
        rw [tks_1 e hs]
        rw [hs] at ih
        have hd := dig_short (r1 e).2.1 (r1 e).2.2
        simp only [lenT, List.map_cons, List.sum_cons, abT, List.length_append, List.length_cons, List.length_nil] at ih ⊢
        omega
    · have hl := tks_len i h1
      cases hs : tks l i with
      | nil => rw [hs] at hl; simp only [List.length_nil] at hl; omega
      | cons x s =>
        cases s with
        | nil => rw [hs] at hl; simp only [List.length_cons, List.length_nil] at hl; omega
        | cons y s =>
          obtain ⟨t, b⟩ := x
          obtain ⟨u, c⟩ := y
          rw [tks_2 e hs]
          rw [hs] at ih
          have hb : (biT (l.getD i (0, 0)) u t b).length ≤ u.length + t.length + 6 := by
            unfold biT
            split
            · simp only [List.length_append, List.length_cons, List.length_nil]; omega
            · split
              · simp only [List.length_append, List.length_cons, List.length_nil]; omega
              · cases b
                · simp only [List.length_append, List.length_cons, List.length_nil, Bool.false_eq_true, if_false]; omega
                · simp only [List.length_append, List.length_cons, List.length_nil, if_true]; omega
          simp only [lenT, List.map_cons, List.sum_cons] at ih ⊢
          omega
    · omega

end Go.Proofs.YtgegdikmmlinfaaDoor.Eng
