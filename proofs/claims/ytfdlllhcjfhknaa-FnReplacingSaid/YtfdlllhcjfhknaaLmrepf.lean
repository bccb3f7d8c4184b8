/- A deterministic reading of Go code over plain data: what functions of the program compute. No conditions. -/
import Derived.Test.YtfdlllhcjfhknaaLmbase
import Derived.Test.YtfdlllhcjfhknaaLmimpl
import Derived.Test.YtfdlllhcjfhknaaLmgood
import Derived.Test.YtfdlllhcjfhknaaLmfield
import Derived.Test.YtfdlllhcjfhknaaLmnils
import Derived.Test.YtfdlllhcjfhknaaLmnodes
import Derived.Test.YtfdlllhcjfhknaaLmnodep
import Derived.Test.YtfdlllhcjfhknaaLmnodefn
import Derived.Test.YtfdlllhcjfhknaaLmisexpr
import Derived.Test.YtfdlllhcjfhknaaLmnodelaw
import Derived.Test.YtfdlllhcjfhknaaLmput
import Derived.Test.YtfdlllhcjfhknaaLmfused
import Derived.Test.YtfdlllhcjfhknaaLmfuplain
import Derived.Test.YtfdlllhcjfhknaaLmisort
import Derived.Test.YtfdlllhcjfhknaaLmpsort
import Derived.Test.YtfdlllhcjfhknaaLmcompact
import Derived.Test.YtfdlllhcjfhknaaLmfusedi
import Derived.Test.YtfdlllhcjfhknaaLmfuplain2
import Derived.Test.YtfdlllhcjfhknaaLmfuplain3
import Derived.Test.YtfdlllhcjfhknaaLmfrplain
import Derived.Test.YtfdlllhcjfhknaaEngT
namespace Go.Proofs.Ytfdlllhcjfhknaa.Eng
open Go Go.Proofs
set_option maxRecDepth 100000
set_option maxHeartbeats 2000000
set_option linter.unusedSimpArgs false
set_option linter.unusedVariables false
attribute [local simp] finK fin1 hpOf xi renQ isRoot runCode runOps Eng.step wantedV astep val ofO made loadV storeV find V.cells bin binT binA numT numFs eqCells un1 setAt fieldAddrV fieldV indexAddrV indexV bounds sliceV convV lenV foldV max2V min2V callO bor rdsO wrsO seen_none okD_none loops keepIds resV resultsV St.ev TK.agg refs refsL refsO V.one V.isC Value.oneCell' ren renL renO noTag noTagL noTagR noTagO nodup mapO passV frs psi refsR newD loopNext opsAt idx flatAt rootOf backR newsV appendV copyV clearV strV bytesOf nilCmp buildV fillF chunk
attribute [local simp] cT cF cX cWR cOW cK X ints_length ints_get ints_getElem ints_drop ints_take ints_append ints_nil ints_set
attribute [local simp] ints_replicate
attribute [local simp] putV_some putV_none putH_app applyD_nil applyD_cons seen_app gc_ρ gc_H gc_tick st0_ρ st0_H st0_tick retV callRo callV_if borL_nil borL_cons ints_snoc take_self callWr cutH_app findQ afterV exportV_0 exportV_n okD_nil okD_cons sub_seq0 sub_seq1 sub_cond0 sub_cond1 sub_block sub_loop sub_nil young_far young_none hidW_nil mayW_nil pairs okI ok_0 ok_1 ok_2
attribute [local simp] T3 T4 T5 T9 T22 T24 T29 T36 T73 T75 T86 T89 T103 T104 T106 T108 T109 T114 T134 T136 T157 T161 T168
attribute [local simp] young_near clo cloF Region.binds Nat.testBit hidW declW mayW List.findIdx?_cons
theorem good_pos {l : List (Int × Int)} (h : goodE l = true) : l ≠ [] := by
  intro e; subst e; simp [goodE, runO] at h
theorem ndL_append (l m : List (Int × Int)) : ndL l ++ ndL m = ndL (l ++ m) := by simp [ndL]
theorem ndL_snocP (l : List (Int × Int)) (q : Int × Int) : ndL l ++ [[.c (.int .i64 q.1), .c (.int .i64 q.2)]] = ndL (l ++ [q]) := by simp [ndL, ndE]
theorem ndL_one (q : Int × Int) : [[V.c (.int .i64 q.1), V.c (.int .i64 q.2)]] = ndL [q] := by simp [ndL, ndE]
def RpX (a b : Nat) (v : V) (H : Hp) (acc : List (Int × Int)) : Prop := (v = .c (.slice none 0 0) ∧ acc = []) ∨ (acc ≠ [] ∧ ∃ id tk, (id = a ∨ id = b) ∧ v = .s id tk 2 0 acc.length ∧ H id = some (tk, ndO acc))
theorem c_implRep (k : Nat) (b b2 : Bool) (l m : List (Int × Int)) (f : Int) (hl : goodE l = true) (hm : goodE m = true) (hf : 0 ≤ f ∧ f ≤ 3) (hk : 300 ≤ k) : callK C k 86 [.sq b true 2 (ndL l), .c (.int .i64 f), .sq b2 true 2 (ndL m)] [] = if (rpL f m l).length ≤ 15 then some (.tp [.s 0 2 2 0 (rpL f m l).length, .c (.bool true)], hpOf [] [ndO (rpL f m l)]) else some (.tp [.c (.slice none 0 0), .c (.bool false)], hpOf [] []) := by
  obtain ⟨k, rfl⟩ : ∃ m, k = m + 9 := ⟨k - 9, by omega⟩
  rw [callK_fn rfl F86 code86]
  obtain ⟨h15, _⟩ := good_run hl
  obtain ⟨m15, _⟩ := good_run hm
  have mpos := good_pos hm
  have g1 := c_IsExpression (k + 8) b l (by omega)
  have g2 := c_IsExpression (k + 8) b2 m (by omega)
  rw [hl] at g1
  rw [hm] at g2
  obtain ⟨hf0, hf3⟩ := hf
  have hL := loopHas (body := fun st => runCode C (callK C (k + 8)) (k + 8) (K 86) L86_0 1 st) (keep := [1, 2, 8, 24, 25, 26]) (.ex 0) (fun st => RpX 8248 9288 (st.ρ 8) st.H (rpL f m l))
    (fun i st => st.ρ 1 = .c (.int .i64 f) ∧ st.ρ 2 = .sq b2 true 2 (ndL m) ∧ st.ρ 24 = .sq b true 2 (ndL l) ∧ st.ρ 25 = .c (.int .i64 l.length) ∧ st.ρ 26 = .c (.int .i64 (i : Int)) ∧ RpX 8248 9288 (st.ρ 8) st.H (rpL f m (l.take i))) l.length (k + 8) (by omega)
    (by
      rintro i st next hi ⟨q1, q2, q24, q25, q26, hc⟩ hx
      have hwn := wrap_next hi (by omega)
      have hln := rpL_len f m (l.take i) m15
      rw [List.length_take] at hln
      have hft := rpL_take f m l i hi
      obtain ⟨acc, hacc⟩ : ∃ acc, rpL f m (l.take i) = acc := ⟨_, rfl⟩
      rw [hacc] at hc hln hft
      rw [hft] at hx
      have n1 : (acc.length + m.length) * 16 ≤ 140737488355328 := by omega
      have n2 : acc.length + m.length ≤ 9223372036854775807 := by omega
      have n3 : (acc.length + 1) * 16 ≤ 140737488355328 := by omega
      have n4 : acc.length + 1 ≤ 9223372036854775807 := by omega
      have n5 : m.length * 16 ≤ 140737488355328 := by omega
      have n6 : m.length ≤ 9223372036854775807 := by omega
      have mp : ¬ ndL m = [] := by
        intro e
        have := congrArg List.length e
        rw [ndL_length] at this
        exact mpos (List.length_eq_zero_iff.1 this)
      by_cases h1 : l[i].1 = 1 ∧ l[i].2 = f
      · rw [if_pos h1] at hx
        obtain ⟨h1a, h1b⟩ := h1
        rcases hc with ⟨hv, ha⟩ | ⟨ha, id, tk, hid, hv, hH⟩
        · subst ha
          simp [L86_0, R86_0, R86_1, R86_2, R86_3, R86_4, R86_5, R86_6, R86_7, R86_8, R86_9, R86_10, R86_11, R86_12, R86_13, Try.f86, lpL86_0, lpM86_0, M86_0, q1, q2, q24, q25, q26, hi, hv, ndL_at, ndE, h1a, h1b, ndL_length, hwn, maxLen, n5, n6, mp, okN]
          refine hx _ ⟨by simp [q1], by simp [q2], by simp [q24], by simp [q25], by simp, .inr ⟨by simpa using mpos, 8248, st.tick + 1 + 1 + 1, .inl rfl, ?_, ?_⟩⟩
          · simp
          · simp [ndO]
        · simp [ndO] at hH
          rcases hid with rfl | rfl
          · simp [L86_0, R86_0, R86_1, R86_2, R86_3, R86_4, R86_5, R86_6, R86_7, R86_8, R86_9, R86_10, R86_11, R86_12, R86_13, Try.f86, lpL86_0, lpM86_0, M86_0, q1, q2, q24, q25, q26, hi, hv, hH, ndL_at, ndE, h1a, h1b, ndL_length, ndL_take, ndL_append, hwn, maxLen, n1, n2, mp, okN]
            refine hx _ ⟨by simp [q1], by simp [q2], by simp [q24], by simp [q25], by simp, .inr ⟨by simp [ha], 8248, st.tick + 1 + 1 + 1, .inl rfl, ?_, ?_⟩⟩
            · simp
            · simp [ndO]
          · simp [L86_0, R86_0, R86_1, R86_2, R86_3, R86_4, R86_5, R86_6, R86_7, R86_8, R86_9, R86_10, R86_11, R86_12, R86_13, Try.f86, lpL86_0, lpM86_0, M86_0, q1, q2, q24, q25, q26, hi, hv, hH, ndL_at, ndE, h1a, h1b, ndL_length, ndL_take, ndL_append, hwn, maxLen, n1, n2, mp, okN]
            refine hx _ ⟨by simp [q1], by simp [q2], by simp [q24], by simp [q25], by simp, .inr ⟨by simp [ha], 8248, st.tick + 1 + 1 + 1, .inl rfl, ?_, ?_⟩⟩
            · simp
            · simp [ndO]
      · rw [if_neg h1] at hx
        have h1b : (l[i].1 == 1 && l[i].2 == f) = false := by
          cases hb : (l[i].1 == 1 && l[i].2 == f)
          · rfl
          · simp at hb; exact absurd hb h1
        have h1c : l[i].1 = 1 → ¬ l[i].2 = f := fun e1 e2 => h1 ⟨e1, e2⟩
        rcases hc with ⟨hv, ha⟩ | ⟨ha, id, tk, hid, hv, hH⟩
        · subst ha
          simp [L86_0, R86_0, R86_1, R86_2, R86_3, R86_4, R86_5, R86_6, R86_7, R86_8, R86_9, R86_10, R86_11, R86_12, R86_13, Try.f86, lpL86_0, lpM86_0, M86_0, q1, q2, q24, q25, q26, hi, hv, ndL_at, ndE, h1, h1b, h1c, ndL_length, hwn, maxLen]
          refine hx _ ⟨by simp [q1], by simp [q2], by simp [q24], by simp [q25], by simp, .inr ⟨by simp, 9288, st.tick + 1 + 1 + 1, .inr rfl, ?_, ?_⟩⟩
          · simp
          · simp [ndO, ndL, ndE]
        · simp [ndO] at hH
          rcases hid with rfl | rfl
          · simp [L86_0, R86_0, R86_1, R86_2, R86_3, R86_4, R86_5, R86_6, R86_7, R86_8, R86_9, R86_10, R86_11, R86_12, R86_13, Try.f86, lpL86_0, lpM86_0, M86_0, q1, q2, q24, q25, q26, hi, hv, hH, ndL_at, ndE, h1, h1b, h1c, ndL_length, ndL_take, ndL_snocP, hwn, maxLen, n3, n4, okN]
            refine hx _ ⟨by simp [q1], by simp [q2], by simp [q24], by simp [q25], by simp, .inr ⟨by simp, 9288, st.tick + 1 + 1 + 1, .inr rfl, ?_, ?_⟩⟩
            · simp
            · simp [ndO]
          · simp [L86_0, R86_0, R86_1, R86_2, R86_3, R86_4, R86_5, R86_6, R86_7, R86_8, R86_9, R86_10, R86_11, R86_12, R86_13, Try.f86, lpL86_0, lpM86_0, M86_0, q1, q2, q24, q25, q26, hi, hv, hH, ndL_at, ndE, h1, h1b, h1c, ndL_length, ndL_take, ndL_snocP, hwn, maxLen, n3, n4, okN]
            refine hx _ ⟨by simp [q1], by simp [q2], by simp [q24], by simp [q25], by simp, .inr ⟨by simp, 9288, st.tick + 1 + 1 + 1, .inr rfl, ?_, ?_⟩⟩
            · simp
            · simp [ndO])
    (by
      rintro st next ⟨q1, q2, q24, q25, q26, hc⟩
      rw [List.take_length] at hc
      simp [L86_0, R86_0, R86_1, R86_2, R86_3, R86_4, R86_5, R86_6, R86_7, R86_8, R86_9, R86_10, R86_11, R86_12, R86_13, Try.f86, lpL86_0, lpM86_0, M86_0, q1, q2, q24, q25, q26, ndL_length]
      rcases hc with ⟨hv, ha⟩ | ⟨ha, id, tk, hid, hv, hH⟩
      · exact .inl ⟨by simp [hv], ha⟩
      · exact .inr ⟨ha, id, tk, hid, by simp [hv], by rcases hid with rfl | rfl <;> simp [hv, hH]⟩)
  have hw1 := c_within (k + 8) f 0 3 (by omega)
  have hpos : rpL f m l ≠ [] := by
    cases l with
    | nil => exact absurd rfl (good_pos hl)
    | cons q r =>
      rw [rpL_cons]
      split
      · simp [mpos]
      · simp
  have hln := rpL_len f m l m15
  obtain ⟨A, hA⟩ : ∃ A, rpL f m l = A := ⟨_, rfl⟩
  rw [hA] at hL hpos hln ⊢
  simp [R86_0, R86_1, R86_2, R86_3, R86_4, R86_5, R86_6, R86_7, R86_8, R86_9, R86_10, R86_11, R86_12, R86_13, Try.f86, lpL86_0, lpM86_0, g1, g2, hw1, hf0, hf3]
  generalize hr2 : loopRun _ _ _ _ = res
  obtain ⟨s1, rfl, hc⟩ := loop_at hL hr2 ⟨by simp, by simp, by simp, by simp [ndL_length], by simp, .inl ⟨by simp, rfl⟩⟩
  rcases hc with ⟨hv, ha⟩ | ⟨ha, id, tk, hid, hv, hH⟩
  · exact absurd ha hpos
  · simp [ndO] at hH
    by_cases h15 : A.length ≤ 15
    · have h15' : ¬ (15 : Int) < (A.length : Int) := by omega
      rw [if_pos h15]
      rcases hid with rfl | rfl <;> simp [R86_0, R86_1, R86_2, R86_3, R86_4, R86_5, R86_6, R86_7, R86_8, R86_9, R86_10, R86_11, R86_12, R86_13, Try.f86, lpL86_0, lpM86_0, M86_0, hv, hH, h15', ndO]
    · have h15' : (15 : Int) < (A.length : Int) := by omega
      rw [if_neg h15]
      rcases hid with rfl | rfl <;> simp [R86_0, R86_1, R86_2, R86_3, R86_4, R86_5, R86_6, R86_7, R86_8, R86_9, R86_10, R86_11, R86_12, R86_13, Try.f86, lpL86_0, lpM86_0, M86_0, hv, hH, h15', ndO]
theorem ndL_snoc2 (l : List (Int × Int)) (a b : Int) : ndL l ++ [[.c (.int .i64 a), .c (.int .i64 b)]] = ndL (l ++ [(a, b)]) := by simp [ndL, ndE]
def SpX (v : V) (H : Hp) (acc : List (Int × Int)) : Prop := ∃ id tk, (id = 1040 ∨ id = 8248 ∨ id = 9336) ∧ v = .s id tk 2 0 acc.length ∧ H id = some (tk, ndO acc)
theorem c_specRep (k : Nat) (b b2 : Bool) (l m : List (Int × Int)) (f : Int) (hl : goodE l = true) (hm : goodE m = true) (hf : 0 ≤ f ∧ f ≤ 3) (hk : 300 ≤ k) : callK C k 87 [.sq b true 2 (ndL l), .c (.int .i64 f), .sq b2 true 2 (ndL m)] [] = if goodE (rpL f m l) = true then some (.tp [.s 0 2 2 0 (rpL f m l).length, .c (.bool true)], hpOf [] [ndO (rpL f m l)]) else some (.tp [.s 0 2 2 0 0, .c (.bool false)], hpOf [] [ndO []]) := by
  obtain ⟨k, rfl⟩ : ∃ m, k = m + 9 := ⟨k - 9, by omega⟩
  rw [callK_fn rfl F87 code87]
  obtain ⟨h15, _⟩ := good_run hl
  obtain ⟨m15, _⟩ := good_run hm
  have mpos := good_pos hm
  have g1 := c_l5Good (k + 8) b l (by omega)
  have g2 := c_l5Good (k + 8) b2 m (by omega)
  rw [hl] at g1
  rw [hm] at g2
  obtain ⟨hf0, hf3⟩ := hf
  have hL := loopHas (body := fun st => runCode C (callK C (k + 8)) (k + 8) (K 87) L87_0 1 st) (keep := [0, 1, 2, 8, 9]) (.ex 0) (fun st => SpX (st.ρ 8) st.H (rpL f m l))
    (fun i st => st.ρ 0 = .sq b true 2 (ndL l) ∧ st.ρ 1 = .c (.int .i64 f) ∧ st.ρ 2 = .sq b2 true 2 (ndL m) ∧ st.ρ 9 = .c (.int .i64 (i : Int)) ∧ SpX (st.ρ 8) st.H (rpL f m (l.take i))) l.length (k + 8) (by omega)
    (by
      rintro i st next hi ⟨q0, q1, q2, q9, hc⟩ hx
      have hwn := wrap_next hi (by omega)
      have hln := rpL_len f m (l.take i) m15
      rw [List.length_take] at hln
      have hft := rpL_take f m l i hi
      obtain ⟨acc, hacc⟩ : ∃ acc, rpL f m (l.take i) = acc := ⟨_, rfl⟩
      rw [hacc] at hc hln hft
      rw [hft] at hx
      have n1 : (acc.length + m.length) * 16 ≤ 140737488355328 := by omega
      have n2 : acc.length + m.length ≤ 9223372036854775807 := by omega
      have n3 : (acc.length + 1) * 16 ≤ 140737488355328 := by omega
      have n4 : acc.length + 1 ≤ 9223372036854775807 := by omega
      have mp : ¬ ndL m = [] := by
        intro e
        have := congrArg List.length e
        rw [ndL_length] at this
        exact mpos (List.length_eq_zero_iff.1 this)
      have nget := ndL_get l i hi
      obtain ⟨id, tk, hid, hv, hH⟩ := hc
      simp [ndO] at hH
      by_cases h1 : l[i].1 = 1
      · by_cases h2 : l[i].2 = f
        · rw [if_pos ⟨h1, h2⟩] at hx
          rcases hid with rfl | rfl | rfl
          all_goals
            simp [L87_0, R87_0, R87_1, R87_2, R87_3, R87_4, R87_5, R87_6, R87_7, R87_8, R87_9, R87_10, R87_11, R87_12, Try.f87, lpL87_0, lpM87_0, M87_0, q0, q1, q2, q9, hi, hv, hH, nget, ndL_at, ndE, h1, h2, ndL_length, ndL_take, ndL_append, hwn, maxLen, n1, n2, mp, okN]
            refine hx _ ⟨by simp [q0], by simp [q1], by simp [q2], by simp, 8248, st.tick + 1 + 1, .inr (.inl rfl), ?_, ?_⟩
            · simp
            · simp [ndO]
        · rw [if_neg (fun e => h2 e.2)] at hx
          have h2b : (l[i].2 == f) = false := by simpa using h2
          have hp : ((1 : Int), l[i].2) = l[i] := by rw [← h1]
          rcases hid with rfl | rfl | rfl
          all_goals
            simp [L87_0, R87_0, R87_1, R87_2, R87_3, R87_4, R87_5, R87_6, R87_7, R87_8, R87_9, R87_10, R87_11, R87_12, Try.f87, lpL87_0, lpM87_0, M87_0, q0, q1, q2, q9, hi, hv, hH, nget, ndL_at, ndE, h1, h2, h2b, ndL_length, ndL_take, ndL_snoc2, hp, hwn, maxLen, n3, n4, okN]
            refine hx _ ⟨by simp [q0], by simp [q1], by simp [q2], by simp, 9336, st.tick + 1 + 1, .inr (.inr rfl), ?_, ?_⟩
            · simp
            · simp [ndO]
      · rw [if_neg (fun e => h1 e.1)] at hx
        have h1b : (l[i].1 == 1) = false := by simpa using h1
        rcases hid with rfl | rfl | rfl
        all_goals
          simp [L87_0, R87_0, R87_1, R87_2, R87_3, R87_4, R87_5, R87_6, R87_7, R87_8, R87_9, R87_10, R87_11, R87_12, Try.f87, lpL87_0, lpM87_0, M87_0, q0, q1, q2, q9, hi, hv, hH, nget, ndL_at, ndE, h1, h1b, ndL_length, ndL_take, ndL_snocP, hwn, maxLen, n3, n4, okN]
          refine hx _ ⟨by simp [q0], by simp [q1], by simp [q2], by simp, 9336, st.tick + 1 + 1, .inr (.inr rfl), ?_, ?_⟩
          · simp
          · simp [ndO]
          )
    (by
      rintro st next ⟨q0, q1, q2, q9, id, tk, hid, hv, hH⟩
      rw [List.take_length] at hv hH
      simp [L87_0, R87_0, R87_1, R87_2, R87_3, R87_4, R87_5, R87_6, R87_7, R87_8, R87_9, R87_10, R87_11, R87_12, Try.f87, lpL87_0, lpM87_0, M87_0, q0, q1, q2, q9, ndL_length]
      exact ⟨id, tk, hid, by simp [hv], by rcases hid with rfl | rfl | rfl <;> simp [hv, hH]⟩)
  have hw1 := c_l1In (k + 8) f 0 3 (by omega)
  obtain ⟨A, hA⟩ : ∃ A, rpL f m l = A := ⟨_, rfl⟩
  rw [hA] at hL ⊢
  have g3 := c_l5Good (k + 8) true A (by omega)
  simp [R87_0, R87_1, R87_2, R87_3, R87_4, R87_5, R87_6, R87_7, R87_8, R87_9, R87_10, R87_11, R87_12, Try.f87, lpL87_0, lpM87_0, g1, g2, hw1, hf0, hf3]
  generalize hr2 : loopRun _ _ _ _ = res
  obtain ⟨s1, rfl, id, tk, hid, hv, hH⟩ := loop_at hL hr2 ⟨by simp, by simp, by simp, by simp, 1040, 2, .inl rfl, by simp [rpL], by simp [rpL, ndO, ndL]⟩
  simp [ndO] at hH
  cases hg : goodE A
  · rw [hg] at g3
    have hz : ndL [] = [] := rfl
    rcases hid with rfl | rfl | rfl <;> simp [R87_0, R87_1, R87_2, R87_3, R87_4, R87_5, R87_6, R87_7, R87_8, R87_9, R87_10, R87_11, R87_12, Try.f87, lpL87_0, lpM87_0, M87_0, hv, hH, g3, ndO, ndL_length, ndL_take, hz]
  · rw [hg] at g3
    rcases hid with rfl | rfl | rfl <;> simp [R87_0, R87_1, R87_2, R87_3, R87_4, R87_5, R87_6, R87_7, R87_8, R87_9, R87_10, R87_11, R87_12, Try.f87, lpL87_0, lpM87_0, M87_0, hv, hH, g3, ndO, ndL_length, ndL_take]

end Go.Proofs.Ytfdlllhcjfhknaa.Eng
