/- A deterministic reading of Go code over plain data: what functions of the program compute. No conditions. -/
import Derived.Test.YtllneakafpldjaaLmbase
import Derived.Test.YtllneakafpldjaaLmimpl
import Derived.Test.YtllneakafpldjaaLmgood
import Derived.Test.YtllneakafpldjaaLmminmax
import Derived.Test.YtllneakafpldjaaLmnodes
import Derived.Test.YtllneakafpldjaaLmnodep
import Derived.Test.YtllneakafpldjaaLmnodefn
import Derived.Test.YtllneakafpldjaaLmisexpr
import Derived.Test.YtllneakafpldjaaLmnodelaw
import Derived.Test.YtllneakafpldjaaLmcombspec
import Derived.Test.YtllneakafpldjaaLmfoldp
import Derived.Test.YtllneakafpldjaaLmfoldc
import Derived.Test.YtllneakafpldjaaEngT
namespace Go.Proofs.Ytllneakafpldjaa.Eng
open Go Go.Proofs
set_option maxRecDepth 100000
set_option maxHeartbeats 2000000
set_option linter.unusedSimpArgs false
set_option linter.unusedVariables false
attribute [local simp] finK fin1 hpOf xi renQ isRoot runCode runOps Eng.step wantedV astep val ofO made loadV storeV find V.cells bin binT binA numT numFs eqCells un1 setAt fieldAddrV fieldV indexAddrV indexV bounds sliceV convV lenV foldV max2V min2V callO bor rdsO wrsO seen_none okD_none loops keepIds resV resultsV St.ev TK.agg refs refsL refsO V.one V.isC Value.oneCell' ren renL renO noTag noTagL noTagR noTagO nodup mapO passV frs psi refsR newD loopNext opsAt idx flatAt rootOf backR newsV appendV copyV clearV strV bytesV bldV bufV selfV bytesOf nilCmp buildV fillF chunk
attribute [local simp] cT cF cX cWR cOW cK cBL X ints_length ints_get ints_getElem ints_drop ints_take ints_append ints_nil ints_set
attribute [local simp] ints_replicate
attribute [local simp] putV_some putV_none putH_app applyD_nil applyD_cons seen_app gc_ρ gc_H gc_tick st0_ρ st0_H st0_tick retV callRo callV_if borL_nil borL_cons ints_snoc take_self callWr cutH_app findQ afterV exportV_0 exportV_n okD_nil okD_cons sub_seq0 sub_seq1 sub_cond0 sub_cond1 sub_block sub_loop sub_nil young_far young_none hidW_nil mayW_nil pairs okI ok_0 ok_1 ok_2
attribute [local simp] T3 T4 T22 T24 T35 T37
attribute [local simp] young_near clo cloF Region.binds Nat.testBit hidW declW mayW List.findIdx?_cons
theorem ndL_app (a b : List (Int × Int)) : ndL (a ++ b) = ndL a ++ ndL b := by simp [ndL]
theorem okN1 (ty : TypeId) (a : List (Int × Int)) (v : Int) : okObj ⟨ty, 2, true, ndL a ++ [[V.c (.int .i64 2), V.c (.int .i64 v)]]⟩ = true := by
  rw [show ndL a ++ [[V.c (.int .i64 2), V.c (.int .i64 v)]] = ndL (a ++ [(2, v)]) by simp [ndL, ndE]]
  exact okN _ _
theorem okN2 (ty : TypeId) (a b : List (Int × Int)) (v : Int) : okObj ⟨ty, 2, true, ndL a ++ [V.c (.int .i64 2), V.c (.int .i64 v)] :: ndL b⟩ = true := by
  rw [show ndL a ++ [V.c (.int .i64 2), V.c (.int .i64 v)] :: ndL b = ndL (a ++ (2, v) :: b) by simp [ndL, ndE]]
  exact okN _ _
theorem okN3 (ty : TypeId) (b : List (Int × Int)) (v : Int) : okObj ⟨ty, 2, true, [V.c (.int .i64 2), V.c (.int .i64 v)] :: ndL b⟩ = true := by
  rw [show [V.c (.int .i64 2), V.c (.int .i64 v)] :: ndL b = ndL ((2, v) :: b) by simp [ndL, ndE]]
  exact okN _ _
def Ss (s : St) (l : List (Int × Int)) (i : Nat) : Prop := ∃ id tk, (id = 3128 ∨ (id = 10328 ∧ l.length = 1) ∨ id = 11368) ∧ s.ρ 4 = .s id tk 2 0 l.length ∧ s.H id = some (tk, ndO l) ∧ s.ρ 5 = .c (.int .i64 (i : Int))
def Se (s : St) (l : List (Int × Int)) : Prop := ∃ id tk, (id = 3128 ∨ (id = 10328 ∧ l.length = 1) ∨ id = 11368) ∧ s.ρ 4 = .s id tk 2 0 l.length ∧ s.H id = some (tk, ndO l)
/-- One round. -/
theorem fold_rnd (k : Nat) (l : List (Int × Int)) (hg : goodE l = true) (hk : 300 ≤ k) (i : Nat) (hi : i < l.length) (st : St) (h : Ss st l i) (nx : St → Option (Ex × St)) (R : Option (Ex × St) → Prop)
    (h1 : fv l i = none → ∀ s, Ss s l (i + 1) → R (nx s)) (h2 : ∀ c v, fv l i = some (c, v) → ∀ s, Ss s (fo l i c v) 0 → R (nx s)) :
    R (loopNext ((fun st => runCode C (callK C k) k (K 5) L5_0 1 st) (gc [4, 5] st)) nx) := by
  have hg' := hg
  simp only [goodE, Bool.and_eq_true, decide_eq_true_eq] at hg'
  obtain ⟨h15, hr1⟩ := hg'
  have hr : 0 ≤ runO l l.length := by omega
  obtain ⟨id, tk, hid, q4, H1, q5⟩ := h
  have hwn := wrap_next hi (by omega : l.length ≤ 9000000000000000000)
  have hi2 : (i : Int) < (l.length : Int) := by omega
  obtain ⟨v, sz, E, hE⟩ := c_l5Folded k true l i hi h15 hr (by omega)
  rcases hE with ⟨hf, rfl⟩ | ⟨c, hf, rfl⟩
  · have hp := h1 hf
    simp [ndO] at H1
    rcases hid with rfl | ⟨rfl, hid1⟩ | rfl
    all_goals simp [L5_0, R5_0, R5_1, R5_2, R5_3, R5_4, R5_5, R5_6, R5_7, R5_8, R5_9, R5_10, R5_11, R5_12, R5_13, Try.f5, lpL5_0, lpM5_0, M5_0, q4, q5, H1, hi2, E, hwn, ndL_length, ndL_take]
    · exact hp _ ⟨3128, tk, .inl rfl, by simp [q4], by simp [q4, H1, ndO], by simp⟩
    · exact hp _ ⟨10328, tk, .inr (.inl ⟨rfl, hid1⟩), by simp [q4], by simp [q4, H1, ndO], by simp⟩
    · exact hp _ ⟨11368, tk, .inr (.inr rfl), by simp [q4], by simp [q4, H1, ndO], by simp⟩
  · obtain ⟨f1, f2, f3, f4, f5, f6, f7⟩ := fv_facts hr hi hf
    have hp := h2 c v hf
    have hfl := fo_len (v := v) hi f3
    have hfo : fo l i c v = l.take (i - c) ++ (2, v) :: l.drop (i + 1) := rfl
    obtain ⟨F, hF⟩ : ∃ F, fo l i c v = F := ⟨_, rfl⟩
    rw [hF] at hp hfl hfo
    have w1 : IntKind.i64.wrap ((i : Int) - (c : Int)) = (i : Int) - (c : Int) := wrap_small (by omega) (by omega)
    have w3 : IntKind.i64.wrap ((i : Int) + 1 - ((c : Int) + 1)) = (i : Int) - (c : Int) := by rw [wrap_small (by omega) (by omega)]; omega
    have g1 : (0 : Int) ≤ (i : Int) - (c : Int) := by omega
    have g2 : (i : Int) - (c : Int) ≤ (l.length : Int) := by omega
    have g3 : (i : Int) + 1 ≤ (l.length : Int) := by omega
    have g4 : ((i : Int) - (c : Int)).toNat = i - c := by omega
    have g5 : ((i : Int) + 1).toNat = i + 1 := by omega
    have g6 : ¬ (c : Int) + 1 = 0 := by omega
    have g6b : ((c : Int) + 1 == 0) = false := by simpa using g6
    have hta : (l.take (i - c)).length = i - c := by rw [List.length_take]; omega
    have hdz : (l.drop (i + 1)).length = l.length - (i + 1) := List.length_drop
    have hdt : (l.drop (i + 1)).take (l.length - (i + 1)) = l.drop (i + 1) := by rw [← hdz]; exact List.take_length
    simp [ndO] at H1
    have n1 : (i - c) * 16 ≤ 140737488355328 := by omega
    have n2 : i - c ≤ 9223372036854775807 := by omega
    have n3 : (i - c + 1) * 16 ≤ 140737488355328 := by omega
    have n4 : i - c + 1 ≤ 9223372036854775807 := by omega
    have n5 : i - c ≤ 9223372036854775806 := by omega
    have n6 : (i - c + 1 + (l.length - (i + 1))) * 16 ≤ 140737488355328 := by omega
    have n7 : i - c + 1 + (l.length - (i + 1)) ≤ 9223372036854775807 := by omega
    have n8 : (1 + (l.length - (i + 1))) * 16 ≤ 140737488355328 := by omega
    have n9 : 1 + (l.length - (i + 1)) ≤ 9223372036854775807 := by omega
    have nC : (0 : Int) ≤ (i : Int) + 1 := by omega
    have nB : i ≤ l.length + c := by omega
    have nA : i + 1 + (l.length - (i + 1)) ≤ l.length := by omega
    have nD : i + 1 ≤ l.length := by omega
    have hA1 : (l.take (i - c)).take (i - c) = l.take (i - c) := by rw [List.take_take, Nat.min_self]
    have hA2 : ∀ x : List V, (ndL (l.take (i - c)) ++ [x]).take (i - c + 1) = ndL (l.take (i - c)) ++ [x] := fun x => List.take_of_length_le (by rw [List.length_append, ndL_length, hta]; exact Nat.le_refl _)
    by_cases ha : i - c = 0
    · have ha2 : l.take (i - c) = [] := by rw [ha]; rfl
      by_cases hz : l.length - (i + 1) = 0
      · have hz2 : l.drop (i + 1) = [] := List.eq_nil_of_length_eq_zero (by omega)
        rcases hid with rfl | ⟨rfl, hid1⟩ | rfl
        rotate_left
        · omega
        all_goals simp [L5_0, R5_0, R5_1, R5_2, R5_3, R5_4, R5_5, R5_6, R5_7, R5_8, R5_9, R5_10, R5_11, R5_12, R5_13, Try.f5, lpL5_0, lpM5_0, M5_0, q4, q5, H1, hi2, E, hwn, ndL_length, ndL_take, ndL_takeI, ndL_dropI, w1, w3, wrap_00, f3, g1, g2, g3, g4, g5, g6, g6b, maxLen, okN, okN1, okN2, okN3, nB, nC, hta, hdz, hdt, n1, n2, n3, n4, n5, n6, n7, n8, n9, nA, nD, ha, ha2, hz, hz2]
        all_goals exact hp _ ⟨10328, st.tick + 1 + 1 + 1 + 1, .inr (.inl ⟨rfl, by rw [hfl]; omega⟩), by simp [hfl]; omega, by simp [ndO, hfo, ha2, hz2, ndL_app, ndL_c, ndL_n, ndE], by simp⟩
      · have hzne : ndL (l.drop (i + 1)) ≠ [] := by intro e; have := congrArg List.length e; rw [ndL_length, hdz] at this; exact hz this
        rcases hid with rfl | ⟨rfl, hid1⟩ | rfl
        rotate_left
        · omega
        all_goals simp [L5_0, R5_0, R5_1, R5_2, R5_3, R5_4, R5_5, R5_6, R5_7, R5_8, R5_9, R5_10, R5_11, R5_12, R5_13, Try.f5, lpL5_0, lpM5_0, M5_0, q4, q5, H1, hi2, E, hwn, ndL_length, ndL_take, ndL_takeI, ndL_dropI, w1, w3, wrap_00, f3, g1, g2, g3, g4, g5, g6, g6b, maxLen, okN, okN1, okN2, okN3, nB, nC, hta, hdz, hdt, n1, n2, n3, n4, n5, n6, n7, n8, n9, nA, nD, ha, ha2, hz, hzne]
        all_goals exact hp _ ⟨11368, st.tick + 1 + 1 + 1 + 1 + 1, .inr (.inr rfl), by simp [hfl]; omega, by simp [ndO, hfo, ha2, ndL_app, ndL_c, ndL_n, ndE], by simp⟩
    · have hane : ndL (l.take (i - c)) ≠ [] := by intro e; have := congrArg List.length e; rw [ndL_length, hta] at this; exact ha this
      by_cases hz : l.length - (i + 1) = 0
      · exfalso
        have e2 := fv_run hr hi hf
        have e3 := (runAt hr i hi).2.2.2
        rw [show i + 1 = l.length by omega, hr1, f1] at e3
        obtain ⟨q, hq⟩ : ∃ q, i - c = q + 1 := ⟨i - c - 1, by omega⟩
        have e4 := runO_pos (l := l) (i := q) (by rw [← hq]; omega)
        rw [hq] at e2
        omega
      · have hzne : ndL (l.drop (i + 1)) ≠ [] := by intro e; have := congrArg List.length e; rw [ndL_length, hdz] at this; exact hz this
        rcases hid with rfl | ⟨rfl, hid1⟩ | rfl
        rotate_left
        · omega
        all_goals simp [L5_0, R5_0, R5_1, R5_2, R5_3, R5_4, R5_5, R5_6, R5_7, R5_8, R5_9, R5_10, R5_11, R5_12, R5_13, Try.f5, lpL5_0, lpM5_0, M5_0, q4, q5, H1, hi2, E, hwn, ndL_length, ndL_take, ndL_takeI, ndL_dropI, w1, w3, wrap_00, f3, g1, g2, g3, g4, g5, g6, g6b, maxLen, okN, okN1, okN2, okN3, nB, nC, hta, hdz, hdt, n1, n2, n3, n4, n5, n6, n7, n8, n9, nA, nD, hA1, hA2, ha, hane, hz, hzne]
        all_goals exact hp _ ⟨11368, st.tick + 1 + 1 + 1 + 1 + 1, .inr (.inr rfl), by simp [hfl]; omega, by simp [ndO, hfo, ndL_app, ndL_c, ndL_n, ndE], by simp⟩
theorem spec_out (k : Nat) (hk : 300 ≤ k) : ∀ (n : Nat) (l : List (Int × Int)) (_ : l.length ≤ n) (_ : goodE l = true) (d : Nat) (i : Nat) (_ : i + d = l.length) (_ : srch l d = srch l l.length) (m : Nat) (_ : n * 20 + d + 2 ≤ m) (st : St) (_ : Ss st l i),
    ∃ s, loopRun (fun st => runCode C (callK C k) k (K 5) L5_0 1 st) [4, 5] m st = some (.ex 0, s) ∧ Se s (fAll n l) := by
  intro n
  induction n with
  | zero =>
    intro l hl hg
    have : l = [] := List.eq_nil_of_length_eq_zero (by omega)
    subst this
    simp [goodE, runO] at hg
  | succ n ihn =>
    intro l hl hg d
    have hg' := hg
    simp only [goodE, Bool.and_eq_true, decide_eq_true_eq] at hg'
    have hr : 0 ≤ runO l l.length := by omega
    induction d with
    | zero =>
      intro i hd hsr m hm st h
      obtain ⟨id, tk, hid, q4, H1, q5⟩ := h
      obtain ⟨m, rfl⟩ : ∃ q, m = q + 1 := ⟨m - 1, by omega⟩
      have hf : fAll (n + 1) l = l := by
        unfold fAll
        rw [← hsr]
        rfl
      rw [hf, loopRun_succ]
      have hi : i = l.length := by omega
      subst hi
      rcases hid with rfl | ⟨rfl, hid1⟩ | rfl
      all_goals simp [L5_0, R5_0, R5_1, R5_2, R5_3, R5_4, R5_5, R5_6, R5_7, R5_8, R5_9, R5_10, R5_11, R5_12, R5_13, Try.f5, lpL5_0, lpM5_0, q4, q5]
      · exact ⟨3128, tk, .inl rfl, by simp [q4], by simp [q4, H1]⟩
      · exact ⟨10328, tk, .inr (.inl ⟨rfl, hid1⟩), by simp [q4], by simp [q4, H1]⟩
      · exact ⟨11368, tk, .inr (.inr rfl), by simp [q4], by simp [q4, H1]⟩
    | succ d ihd =>
      intro i hd hsr m hm st h
      obtain ⟨m, rfl⟩ : ∃ q, m = q + 1 := ⟨m - 1, by omega⟩
      have hi : i < l.length := by omega
      have hat := srch_at hi
      rw [show l.length - i = d + 1 by omega, show l.length - (i + 1) = d by omega] at hat
      rw [loopRun_succ]
      refine fold_rnd k l hg hk i hi st h _ (fun r => ∃ s, r = some (.ex 0, s) ∧ Se s (fAll (n + 1) l)) ?_ ?_
      · intro hf s hS
        rw [hf] at hat
        exact ihd (i + 1) (by omega) (by rw [← hsr, hat]) m (by omega) s hS
      · intro c v hf s hS
        rw [hf] at hat
        obtain ⟨_, _, f3, f4, _⟩ := fv_facts hr hi hf
        have hl2 := fo_len (v := v) hi f3
        have he : fAll (n + 1) l = fAll n (fo l i c v) := by
          conv => lhs; unfold fAll
          rw [← hsr, hat]
        rw [he]
        exact ihn (fo l i c v) (by omega) (fo_good hg hi hf) (fo l i c v).length 0 (by omega) rfl m (by omega) s hS
theorem c_specFold (k : Nat) (b : Bool) (l : List (Int × Int)) (hg : goodE l = true) (hk : 400 ≤ k) : callK C k 5 [.sq b true 2 (ndL l)] [] = some (.tp [.s 0 2 2 0 (fAll l.length l).length, .c (.bool true)], hpOf [] [ndO (fAll l.length l)]) := by
  obtain ⟨k, rfl⟩ : ∃ m, k = m + 9 := ⟨k - 9, by omega⟩
  rw [callK_fn rfl F5 code5]
  have gd := c_l5Good (k + 8) b l (by omega)
  rw [hg] at gd
  have hg' := hg
  simp only [goodE, Bool.and_eq_true, decide_eq_true_eq] at hg'
  have h0 : l ≠ [] := by intro e; subst e; simp [goodE, runO] at hg
  have hn : ndL l ≠ [] := by simp [ndL, h0]
  have b2 : l.length * 16 ≤ 140737488355328 := by omega
  have b3 : l.length ≤ 9223372036854775807 := by omega
  have hL := spec_out (k + 8) (by omega) l.length l (Nat.le_refl _) hg l.length 0 (by omega) rfl (k + 8) (by omega)
  simp [R5_0, R5_1, R5_2, R5_3, R5_4, R5_5, R5_6, R5_7, R5_8, R5_9, R5_10, R5_11, R5_12, R5_13, Try.f5, lpL5_0, lpM5_0, gd, hn, ndL_length, okN, b2, b3, maxLen]
  generalize hr2 : loopRun _ _ _ _ = res
  obtain ⟨s1, rfl, id, tk, hid, q4, H1⟩ := loop_at hL hr2 ⟨3128, _, .inl rfl, by simp; rfl, by simp [ndO], by simp⟩
  simp [ndO] at H1
  rcases hid with rfl | ⟨rfl, hid1⟩ | rfl <;> simp [R5_0, R5_1, R5_2, R5_3, R5_4, R5_5, R5_6, R5_7, R5_8, R5_9, R5_10, R5_11, R5_12, R5_13, Try.f5, lpL5_0, lpM5_0, M5_0, q4, H1, ndO]
theorem c_specFoldNo (k : Nat) (b : Bool) (l : List (Int × Int)) (hg : goodE l = false) (hk : 400 ≤ k) : callK C k 5 [.sq b true 2 (ndL l)] [] = some (.tp [.s 0 2 2 0 0, .c (.bool false)], hpOf [] [ndO []]) := by
  obtain ⟨k, rfl⟩ : ∃ m, k = m + 9 := ⟨k - 9, by omega⟩
  rw [callK_fn rfl F5 code5]
  have gd := c_l5Good (k + 8) b l (by omega)
  rw [hg] at gd
  simp [R5_0, R5_1, R5_2, R5_3, R5_4, R5_5, R5_6, R5_7, R5_8, R5_9, R5_10, R5_11, R5_12, R5_13, Try.f5, lpL5_0, lpM5_0, gd, ndO, ndL_n]

end Go.Proofs.Ytllneakafpldjaa.Eng
