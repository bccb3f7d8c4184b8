/- A deterministic reading of Go code over plain data: what functions of the program compute. No conditions. -/
import Derived.Test.YtllneakafpldjaaLmbase
import Derived.Test.YtllneakafpldjaaLmimpl
import Derived.Test.YtllneakafpldjaaLmgood
import Derived.Test.YtllneakafpldjaaLmminmax
import Derived.Test.YtllneakafpldjaaLmnodes
import Derived.Test.YtllneakafpldjaaLmnodep
import Derived.Test.YtllneakafpldjaaLmnodefn
import Derived.Test.YtllneakafpldjaaLmisexpr
import Derived.Test.YtllneakafpldjaaLmnodelaw
import Derived.Test.YtllneakafpldjaaLmcombspec
import Derived.Test.YtllneakafpldjaaLmfoldp
import Derived.Test.YtllneakafpldjaaLmfoldc
import Derived.Test.YtllneakafpldjaaEngT
namespace Go.Proofs.Ytllneakafpldjaa.Eng
open Go Go.Proofs
set_option maxRecDepth 100000
set_option maxHeartbeats 2000000
set_option linter.unusedSimpArgs false
set_option linter.unusedVariables false
attribute [local simp] finK fin1 hpOf xi renQ isRoot runCode runOps Eng.step wantedV astep val ofO made loadV storeV find V.cells bin binT binA numT numFs eqCells un1 setAt fieldAddrV fieldV indexAddrV indexV bounds sliceV convV lenV foldV max2V min2V callO bor rdsO wrsO seen_none okD_none loops keepIds resV resultsV St.ev TK.agg refs refsL refsO V.one V.isC Value.oneCell' ren renL renO noTag noTagL noTagR noTagO nodup mapO passV frs psi refsR newD loopNext opsAt idx flatAt rootOf backR newsV appendV copyV clearV strV bytesV bldV bufV selfV bytesOf nilCmp buildV fillF chunk
attribute [local simp] cT cF cX cWR cOW cK cBL X ints_length ints_get ints_getElem ints_drop ints_take ints_append ints_nil ints_set
attribute [local simp] ints_replicate
attribute [local simp] putV_some putV_none putH_app applyD_nil applyD_cons seen_app gc_ρ gc_H gc_tick st0_ρ st0_H st0_tick retV callRo callV_if borL_nil borL_cons ints_snoc take_self callWr cutH_app findQ afterV exportV_0 exportV_n okD_nil okD_cons sub_seq0 sub_seq1 sub_cond0 sub_cond1 sub_block sub_loop sub_nil young_far young_none hidW_nil mayW_nil pairs okI ok_0 ok_1 ok_2
attribute [local simp] T3 T4 T22 T24 T35 T37
attribute [local simp] young_near clo cloF Region.binds Nat.testBit hidW declW mayW List.findIdx?_cons
/-- What stands behind the folding of one node, and behind all of it. -/
def Fs (s : St) (l : List (Int × Int)) (f : Bool) : Prop := ∃ id tk, (id = 3104 ∨ id = 12472) ∧ s.ρ 4 = .s id tk 2 0 l.length ∧ s.H id = some (tk, ndO l) ∧ s.ρ 5 = .c (.bool f)
theorem c_cloneN (k : Nat) (b : Bool) (l : List (Int × Int)) (hl : l.length ≤ 1048576) (h0 : l ≠ []) (hk : 1 ≤ k) : callK C k 15 [.sq b true 2 (ndL l)] [] = some (.s 0 2 2 0 l.length, hpOf [] [ndO l]) := by
  obtain ⟨k, rfl⟩ : ∃ m, k = m + 1 := ⟨k - 1, by omega⟩
  rw [callK_fn rfl F15 code15]
  have hn : ndL l ≠ [] := by simp [ndL, h0]
  have b2 : l.length * 16 ≤ 140737488355328 := by omega
  have b3 : l.length ≤ maxLen := by unfold maxLen; omega
  simp [R15_0, R15_1, R15_2, R15_3, Try.f15, hn, ndL_length, ndO, okN, b2, b3]
theorem fold_in (k : Nat) (l : List (Int × Int)) (hg : goodE l = true) (hk : 300 ≤ k) (id tk : Nat) (hid : id = 3104 ∨ id = 12472) (st : St)
    (h : st.ρ 4 = .s id tk 2 0 l.length ∧ st.ρ 5 = .c (.bool false) ∧ st.ρ 16 = .s id tk 2 0 l.length ∧ st.ρ 17 = .c (.int .i64 (l.length : Int)) ∧ st.ρ 18 = .c (.int .i64 0) ∧ st.H id = some (tk, ndO l)) :
    ∃ s, loopRun (fun st => runCode C (callK C k) k (K 7) L7_1 2 st) [4, 5, 16, 17, 18] k st = some (.ex 2, s) ∧ ((srch l l.length = none ∧ Fs s l false) ∨ ∃ i c v, srch l l.length = some (i, c, v) ∧ Fs s (fo l i c v) true) := by
  have hg' := hg
  simp only [goodE, Bool.and_eq_true, decide_eq_true_eq] at hg'
  obtain ⟨h15, hr1⟩ := hg'
  have hr : 0 ≤ runO l l.length := by omega
  refine loopHas (body := fun st => runCode C (callK C k) k (K 7) L7_1 2 st) (keep := [4, 5, 16, 17, 18]) (.ex 2) (fun s => (srch l l.length = none ∧ Fs s l false) ∨ ∃ i c v, srch l l.length = some (i, c, v) ∧ Fs s (fo l i c v) true)
    (fun i s => s.ρ 4 = .s id tk 2 0 l.length ∧ s.ρ 5 = .c (.bool false) ∧ s.ρ 16 = .s id tk 2 0 l.length ∧ s.ρ 17 = .c (.int .i64 (l.length : Int)) ∧ s.ρ 18 = .c (.int .i64 (i : Int)) ∧ s.H id = some (tk, ndO l) ∧ srch l (l.length - i) = srch l l.length)
    l.length k (by omega) ?_ ?_ st ?_
  · rintro i s next hi ⟨q4, q5, q16, q17, q18, H1, hsr⟩ hn
    have hwn := wrap_next hi (by omega : l.length ≤ 9000000000000000000)
    have hi2 : (i : Int) < (l.length : Int) := by omega
    have gi := ndL_get l i hi
    have gd := getD_nd hi
    have hat := srch_at hi
    obtain ⟨v, ok, E, hE⟩ := c_foldedValue k true l i hi h15 hr (by omega)
    have hA := c_arguments k (l.getD i (0, 0)) (by omega)
    have hra := runAt hr i hi
    rw [argI_eq hra.2.1] at hA
    rw [gd] at E hA
    obtain ⟨q, hq⟩ : ∃ q, l[i] = q := ⟨_, rfl⟩
    rw [hq] at gi E hA
    have hle : (i : Int) ≤ (l.length : Int) := by omega
    have hle2 : i ≤ l.length := by omega
    rcases hE with ⟨rfl, c, hf⟩ | ⟨rfl, hf⟩
    · obtain ⟨f1, f2, f3, f4, f5, f6, f7⟩ := fv_facts hr hi hf
      rw [gd, hq] at f1
      rw [f1] at hA
      rw [hf] at hat
      have hfl := fo_len (v := v) hi f3
      have w1 : IntKind.i64.wrap ((i : Int) - (c : Int)) = (i : Int) - (c : Int) := wrap_small (by omega) (by omega)
      have g1 : (0 : Int) ≤ (i : Int) - (c : Int) := by omega
      have g2 : (i : Int) - (c : Int) + 1 < (i : Int) + 1 := by omega
      have g3 : (i : Int) + 1 ≤ (l.length : Int) := by omega
      have g4 : ((i : Int) - (c : Int)).toNat = i - c := by omega
      have g5 : ((i : Int) + 1).toNat = i + 1 := by omega
      have g6 : i - c + 1 + (l.length - (i + 1)) = (fo l i c v).length := by rw [hfl]; omega
      have g7 : ndL (l.take (i - c)) ++ [V.c (.int .i64 2), V.c (.int .i64 v)] :: ndL (l.drop (i + 1)) = ndL (fo l i c v) := by simp [fo, ndL, ndE]
      have hpost : ∀ s' : St, Fs s' (fo l i c v) true → (srch l l.length = none ∧ Fs s' l false) ∨ ∃ i c v, srch l l.length = some (i, c, v) ∧ Fs s' (fo l i c v) true := fun s' h => .inr ⟨i, c, v, by rw [← hsr, hat], h⟩
      simp [ndE] at E hA gi
      simp [ndO] at H1
      rcases hid with rfl | rfl <;> simp [L7_1, R7_0, R7_1, R7_2, R7_3, R7_4, R7_5, R7_6, R7_7, R7_8, R7_9, R7_10, R7_11, R7_12, R7_13, R7_14, R7_15, Try.f7, lpL7_0, lpL7_1, lpM7_0, M7_0, q4, q5, q16, q17, q18, H1, ndO, hi2, gi, ndL_takeI, ndL_dropI, ndL_length, hle, hle2, E, hA, w1, hwn, g1, g2, g3, g4, f3, g5, g6, g7, okN]
      all_goals exact hpost _ ⟨12472, s.tick + 1 + 1 + 1 + 1, .inr rfl, by simp, by simp [ndO], by simp⟩
    · rw [hf] at hat
      simp [ndE] at E gi
      simp [ndO] at H1
      rcases hid with rfl | rfl <;> simp [L7_1, R7_0, R7_1, R7_2, R7_3, R7_4, R7_5, R7_6, R7_7, R7_8, R7_9, R7_10, R7_11, R7_12, R7_13, R7_14, R7_15, Try.f7, lpL7_0, lpL7_1, lpM7_0, M7_0, q4, q5, q16, q17, q18, H1, ndO, hi2, gi, ndL_takeI, ndL_length, hle, hle2, E, hwn]
      all_goals exact hn _ ⟨by simp [q4], by simp [q5], by simp [q16], by simp [q17], by simp, by simp [q4, q16, H1, ndO], by rw [← hsr, hat]⟩
  · rintro s next ⟨q4, q5, q16, q17, q18, H1, hsr⟩
    rw [Nat.sub_self] at hsr
    rcases hid with rfl | rfl <;> simp [L7_1, R7_0, R7_1, R7_2, R7_3, R7_4, R7_5, R7_6, R7_7, R7_8, R7_9, R7_10, R7_11, R7_12, R7_13, R7_14, R7_15, Try.f7, lpL7_0, lpL7_1, lpM7_0, M7_0, q4, q5, q16, q17, q18]
    · exact .inl ⟨by rw [← hsr]; rfl, 3104, tk, .inl rfl, by simp [q4], by simp [q4, q16, H1], by simp [q5]⟩
    · exact .inl ⟨by rw [← hsr]; rfl, 12472, tk, .inr rfl, by simp [q4], by simp [q4, q16, H1], by simp [q5]⟩
  · obtain ⟨q4, q5, q16, q17, q18, H1⟩ := h
    exact ⟨q4, q5, q16, q17, by simp [q18], H1, by simp⟩
theorem fold_out (k : Nat) (hk : 300 ≤ k) : ∀ (n : Nat) (l : List (Int × Int)) (_ : l.length ≤ n) (_ : goodE l = true) (m : Nat) (_ : n + 2 ≤ m) (st : St) (_ : Fs st l true),
    ∃ s, loopRun (fun st => runCode C (callK C k) k (K 7) L7_0 1 st) [4, 5] m st = some (.ex 0, s) ∧ Fs s (fAll n l) false
  | 0, l, hl, hg, _, _, _, _ => by
    have : l = [] := List.eq_nil_of_length_eq_zero (by omega)
    subst this
    simp [goodE, runO] at hg
  | n + 1, l, hl, hg, m, hm, st, h => by
    obtain ⟨m, rfl⟩ : ∃ q, m = q + 1 := ⟨m - 1, by omega⟩
    obtain ⟨id, tk, hid, q4, H1, q5⟩ := h
    have hg' := hg
    simp only [goodE, Bool.and_eq_true, decide_eq_true_eq] at hg'
    have hr : 0 ≤ runO l l.length := by omega
    rw [loopRun_succ]
    have hgc : ∀ s, Fs s l false → ∃ s1, loopRun (fun st => runCode C (callK C k) k (K 7) L7_0 1 st) [4, 5] m s = some (.ex 0, s1) ∧ Fs s1 l false := by
      rintro s ⟨id, tk, hid, q4, H1, q5⟩
      obtain ⟨m, rfl⟩ : ∃ q, m = q + 1 := ⟨m - 1, by omega⟩
      rw [loopRun_succ]
      rcases hid with rfl | rfl
      · simp [L7_0, R7_0, R7_1, R7_2, R7_3, R7_4, R7_5, R7_6, R7_7, R7_8, R7_9, R7_10, R7_11, R7_12, R7_13, R7_14, R7_15, Try.f7, lpL7_0, lpL7_1, lpM7_0, q4, q5]
        exact ⟨3104, tk, .inl rfl, by simp [q4], by simp [q4, H1], by simp [q5]⟩
      · simp [L7_0, R7_0, R7_1, R7_2, R7_3, R7_4, R7_5, R7_6, R7_7, R7_8, R7_9, R7_10, R7_11, R7_12, R7_13, R7_14, R7_15, Try.f7, lpL7_0, lpL7_1, lpM7_0, q4, q5]
        exact ⟨12472, tk, .inr rfl, by simp [q4], by simp [q4, H1], by simp [q5]⟩
    have hI := fold_in k l hg hk id tk hid
    have hIh := fun l' h1 h2 => fold_out k hk n l' h1 h2 m (by omega)
    obtain ⟨nx, hN⟩ : ∃ nx, loopRun (fun st => runCode C (callK C k) k (K 7) L7_0 1 st) [4, 5] m = nx := ⟨_, rfl⟩
    rw [hN] at hgc
    simp only [hN] at hIh
    rw [hN]
    unfold fAll
    have fin : ∀ s1, (srch l l.length = none ∧ Fs s1 l false) ∨ (∃ i c v, srch l l.length = some (i, c, v) ∧ Fs s1 (fo l i c v) true) → ∃ s, nx s1 = some (.ex 0, s) ∧ Fs s (match srch l l.length with
        | none => l
        | some (i, c, v) => fAll n (fo l i c v)) false := by
      rintro s1 (⟨e, F⟩ | ⟨i, c, v, e, F⟩)
      · rw [e]
        exact hgc s1 F
      · rw [e]
        obtain ⟨hi, hf⟩ := srch_facts l.length (Nat.le_refl _) i c v e
        obtain ⟨_, _, f3, f4, _⟩ := fv_facts hr hi hf
        have hl2 := fo_len (v := v) hi f3
        exact hIh _ (by omega) (fo_good hg hi hf) s1 F
    rcases hid with rfl | rfl
    all_goals (
      simp [ndO] at H1
      simp [L7_0, R7_0, R7_1, R7_2, R7_3, R7_4, R7_5, R7_6, R7_7, R7_8, R7_9, R7_10, R7_11, R7_12, R7_13, R7_14, R7_15, Try.f7, lpL7_0, lpL7_1, lpM7_0, q4, q5, H1]
      generalize hr2 : loopRun _ _ _ _ = res
      obtain ⟨s1, rfl, P1⟩ := loop_at hI hr2 ⟨by simp [q4], by simp, by simp [q4], by simp, by simp, by simp [q4, H1, ndO]⟩
      exact fin s1 P1)
theorem c_implFold (k : Nat) (b : Bool) (l : List (Int × Int)) (hg : goodE l = true) (hk : 400 ≤ k) : callK C k 7 [.sq b true 2 (ndL l)] [] = some (.tp [.s 0 2 2 0 (fAll l.length l).length, .c (.bool true)], hpOf [] [ndO (fAll l.length l)]) := by
  obtain ⟨k, rfl⟩ : ∃ m, k = m + 9 := ⟨k - 9, by omega⟩
  rw [callK_fn rfl F7 code7]
  have gd := c_IsExpression (k + 8) b l (by omega)
  rw [hg] at gd
  have hg' := hg
  simp only [goodE, Bool.and_eq_true, decide_eq_true_eq] at hg'
  have h0 : l ≠ [] := by intro e; subst e; simp [goodE, runO] at hg
  have cl := c_cloneN (k + 8) b l (by omega) h0 (by omega)
  have hL := fold_out (k + 8) (by omega) l.length l (Nat.le_refl _) hg (k + 8) (by omega)
  simp [ndO] at cl
  simp [R7_0, R7_1, R7_2, R7_3, R7_4, R7_5, R7_6, R7_7, R7_8, R7_9, R7_10, R7_11, R7_12, R7_13, R7_14, R7_15, Try.f7, lpL7_0, lpL7_1, lpM7_0, gd, cl]
  generalize hr2 : loopRun _ _ _ _ = res
  obtain ⟨s1, rfl, id, tk, hid, q4, H1, q5⟩ := loop_at hL hr2 ⟨3104, _, .inl rfl, by simp; rfl, by simp [ndO], by simp⟩
  simp [ndO] at H1
  rcases hid with rfl | rfl <;> simp [R7_0, R7_1, R7_2, R7_3, R7_4, R7_5, R7_6, R7_7, R7_8, R7_9, R7_10, R7_11, R7_12, R7_13, R7_14, R7_15, Try.f7, lpL7_0, lpL7_1, lpM7_0, M7_0, q4, q5, H1, ndO]
theorem c_implFoldNo (k : Nat) (b : Bool) (l : List (Int × Int)) (hg : goodE l = false) (hk : 400 ≤ k) : callK C k 7 [.sq b true 2 (ndL l)] [] = some (.tp [.c (.slice none 0 0), .c (.bool false)], hpOf [] []) := by
  obtain ⟨k, rfl⟩ : ∃ m, k = m + 9 := ⟨k - 9, by omega⟩
  rw [callK_fn rfl F7 code7]
  have gd := c_IsExpression (k + 8) b l (by omega)
  rw [hg] at gd
  simp [R7_0, R7_1, R7_2, R7_3, R7_4, R7_5, R7_6, R7_7, R7_8, R7_9, R7_10, R7_11, R7_12, R7_13, R7_14, R7_15, Try.f7, lpL7_0, lpL7_1, lpM7_0, gd]

end Go.Proofs.Ytllneakafpldjaa.Eng
