/- A deterministic reading of Go code over plain data: what functions of the program compute. No conditions. -/
import Derived.Test.YtfdlllhcjfhknaaLmbase
import Derived.Test.YtfdlllhcjfhknaaLmimpl
import Derived.Test.YtfdlllhcjfhknaaLmgood
import Derived.Test.YtfdlllhcjfhknaaLmfield
import Derived.Test.YtfdlllhcjfhknaaLmnils
import Derived.Test.YtfdlllhcjfhknaaLmnodes
import Derived.Test.YtfdlllhcjfhknaaLmnodep
import Derived.Test.YtfdlllhcjfhknaaLmnodefn
import Derived.Test.YtfdlllhcjfhknaaLmisexpr
import Derived.Test.YtfdlllhcjfhknaaLmnodelaw
import Derived.Test.YtfdlllhcjfhknaaLmdraws
import Derived.Test.YtfdlllhcjfhknaaEngT
namespace Go.Proofs.Ytfdlllhcjfhknaa.Eng
open Go Go.Proofs
set_option maxRecDepth 100000
set_option maxHeartbeats 2000000
set_option linter.unusedSimpArgs false
set_option linter.unusedVariables false
attribute [local simp] finK fin1 hpOf xi renQ isRoot runCode runOps Eng.step wantedV astep val ofO made loadV storeV find V.cells bin binT binA numT numFs eqCells un1 setAt fieldAddrV fieldV indexAddrV indexV bounds sliceV convV lenV foldV max2V min2V callO bor rdsO wrsO seen_none okD_none loops keepIds resV resultsV St.ev TK.agg refs refsL refsO V.one V.isC Value.oneCell' ren renL renO noTag noTagL noTagR noTagO nodup mapO passV frs psi refsR newD loopNext opsAt idx flatAt rootOf backR newsV appendV copyV clearV strV bytesOf nilCmp buildV fillF chunk
attribute [local simp] cT cF cX cWR cOW cK X ints_length ints_get ints_getElem ints_drop ints_take ints_append ints_nil ints_set
attribute [local simp] ints_replicate
attribute [local simp] putV_some putV_none putH_app applyD_nil applyD_cons seen_app gc_ρ gc_H gc_tick st0_ρ st0_H st0_tick retV callRo callV_if borL_nil borL_cons ints_snoc take_self callWr cutH_app findQ afterV exportV_0 exportV_n okD_nil okD_cons sub_seq0 sub_seq1 sub_cond0 sub_cond1 sub_block sub_loop sub_nil young_far young_none hidW_nil mayW_nil pairs okI ok_0 ok_1 ok_2
attribute [local simp] T3 T4 T5 T9 T22 T24 T29 T36 T73 T75 T86 T89 T103 T104 T106 T108 T109 T114 T134 T136 T157 T161 T168
attribute [local simp] young_near clo cloF Region.binds Nat.testBit hidW declW mayW List.findIdx?_cons
theorem lvE {c : Cur} {q m : Nat} (h : c.P q) (hq : q ≤ m) : c.P m := ⟨h.by8, h.len, by have := h.le; omega⟩
theorem ndL_snoc (l : List (Int × Int)) (a b : Int) : ndL l ++ [[.c (.int .i64 a), .c (.int .i64 b)]] = ndL (l ++ [(a, b)]) := by simp [ndL, ndE]
structure ExF (id : Nat) : Prop where
  a : ¬ id = 0
  b : ¬ id = 9312
  c : ¬ id = 12368
  d : ¬ id = 14384
  e : ¬ id = 14432
  f : ¬ id = 6224
  g : ¬ id = 17504
def ExX (m i : Nat) (st : St) : Prop := ∃ (c' : Cur) (acc : List (Int × Int)) (id tk o : Nat), c'.P (m + 8 * i) ∧ acc.length ≤ i ∧ o ≤ i ∧ ExF id ∧ st.H 0 = some (0, curO c') ∧ st.ρ 3 = .s id tk 2 0 acc.length ∧ st.H id = some (tk, ndO acc) ∧ st.ρ 4 = .c (.int .i64 (o : Int))
def ExY (m n i : Nat) (st : St) : Prop := ∃ (c' : Cur) (acc : List (Int × Int)) (id tk : Nat), c'.P (m + 2 * i) ∧ acc.length ≤ n + i ∧ ExF id ∧ st.H 0 = some (0, curO c') ∧ st.ρ 3 = .s id tk 2 0 acc.length ∧ st.H id = some (tk, ndO acc)
theorem c_expression (k : Nat) (c : Cur) (m : Nat) (h : c.P m) (hm : m ≤ 10000000) (hk : 400 ≤ k) : ∃ (l : List (Int × Int)) (c' : Cur), callK C k 193 [.p 0 0 3 0 0] [curO c] = some (.s 1 2 2 0 l.length, hpOf [some (curO c')] [ndO l]) ∧ l.length ≤ 40 ∧ c'.P (m + 200) := by
  obtain ⟨k, rfl⟩ : ∃ m, k = m + 9 := ⟨k - 9, by omega⟩
  rw [callK_fn rfl F193 code193]
  obtain ⟨r0, c0, e0, r0a, r0b, p0⟩ := c_pick (k + 8) c m 9 h (by omega) (by omega) (by omega)
  have hr9 : r0 < 9 := by omega
  obtain ⟨N, hN⟩ : ∃ N : Nat, 1 + r0 = (N : Int) := ⟨(1 + r0).toNat, by omega⟩
  have hL := loopHas (body := fun st => runCode C (callK C (k + 8)) (k + 8) (K 193) L193_0 1 st) (keep := [0, 3, 4, 5]) (.ex 0)
    (fun st => st.ρ 0 = .p 0 0 3 0 0 ∧ ExX (m + 2) N st)
    (fun i st => st.ρ 0 = .p 0 0 3 0 0 ∧ st.ρ 5 = .c (.int .i64 ((N : Int) - (i : Int))) ∧ ExX (m + 2) i st)
    N (k + 8) (by omega)
    (by
      rintro i st next hi ⟨q0, q5, c', acc, id, tk, o, pc, hl, ho, hf, H0, q3, Hid, q4⟩ hx
      obtain ⟨f1, f2, f3, f4, f5, f6, f7⟩ := hf
      have g0 : (0 : Int) < (N : Int) - (i : Int) := by omega
      have w5 : IntKind.i64.wrap ((N : Int) - (i : Int) - 1) = (N : Int) - ((i : Int) + 1) := by rw [wrap_small (by omega) (by omega)]; omega
      have n1 : (acc.length + 1) * 16 ≤ 140737488355328 := by omega
      have n2 : acc.length + 1 ≤ 9223372036854775807 := by omega
      obtain ⟨b1, c1, e1, p1⟩ := c_one (k + 8) c' _ 2 pc (by omega) (by omega) (by omega)
      obtain ⟨r2, c2, e2, r2a, r2b, p2⟩ := c_pick (k + 8) c1 _ 4 p1 (by omega) (by omega) (by omega)
      have wU : IntKind.i64.wrap ((o : Int) + 1) = ((o + 1 : Nat) : Int) := by rw [wrap_small (by omega) (by omega)]; omega
      by_cases hA : 1 < o ∧ b1 = true
      · obtain ⟨ho1, rfl⟩ := hA
        have ho1' : (1 : Int) < (o : Int) := by omega
        have w4 : IntKind.i64.wrap ((o : Int) - 1) = ((o - 1 : Nat) : Int) := by rw [wrap_small (by omega) (by omega)]; omega
        have w6 : IntKind.i64.wrap (3 + r2) = 3 + r2 := wrap_small (by omega) (by omega)
        simp [curO, curE] at e1 e2 H0
        simp [ndO] at Hid
        simp [L193_0, R193_0, R193_1, R193_2, R193_3, R193_4, R193_5, R193_6, R193_7, R193_8, R193_9, R193_10, R193_11, R193_12, R193_13, R193_14, R193_15, R193_16, R193_17, R193_18, R193_19, Try.f193, lpL193_0, lpL193_1, lpM193_0, lpM193_1, M193_0, M193_1, q0, q3, q4, q5, hi, g0, H0, Hid, f1, f2, f3, f4, f5, f6, f7, w5, ndL_length, ndL_take, ndL_snoc, okN, maxLen, n1, n2, ho1, ho1', e1, e2, w4, w6]
        refine hx _ ⟨by simp [q0], by simp, c2, acc ++ [(3 + r2, 0)], 9336, st.tick + 1 + 1, o - 1, lvE p2 (by omega), by simp; omega, by omega, ⟨by simp, by simp, by simp, by simp, by simp, by simp, by simp⟩, ?_, ?_, ?_, ?_⟩
        all_goals simp [f1, Ne.symm f1, f2, f3, f4, f5, f6, f7, H0, curO, curE, ndO, q0, q3, q4]
      · -- no node of two arguments: the cursor stands at d, and the code goes on there
        obtain ⟨d, hd⟩ : ∃ d : Cur, d = (if 1 < o then c1 else c') := ⟨_, rfl⟩
        have pd : d.P (m + 2 + 8 * i + 2) := by
          rw [hd]; split
          · exact p1
          · exact lvE pc (by omega)
        obtain ⟨b3, c3, e3, p3⟩ := c_one (k + 8) d _ 6 pd (by omega) (by omega) (by omega)
        obtain ⟨r4, c4, e4, r4a, r4b, p4⟩ := c_pick (k + 8) c3 _ 30 p3 (by omega) (by omega) (by omega)
        obtain ⟨x, hxd⟩ : ∃ x : Cur, x = (if 0 < o then c3 else d) := ⟨_, rfl⟩
        have px : x.P (m + 2 + 8 * i + 2 + 2) := by
          rw [hxd]; split
          · exact p3
          · exact lvE pd (by omega)
        obtain ⟨b5, c5, e5, p5⟩ := c_one (k + 8) x _ 3 px (by omega) (by omega) (by omega)
        obtain ⟨i6, hi6, c6, e6, p6⟩ := c_among (k + 8) c5 _ true [0, 1, 5, 20, 9000] p5 (by omega) (by simp) (by simp) (by omega)
        obtain ⟨v6, hv6⟩ : ∃ b, [(0 : Int), 1, 5, 20, 9000][i6] = b := ⟨_, rfl⟩
        rw [hv6] at e6
        obtain ⟨r7, c7, e7, r7a, r7b, p7⟩ := c_pick (k + 8) c5 _ 3 p5 (by omega) (by omega) (by omega)
        simp [curO, curE] at e1 e3 e4 e5 e7 H0
        simp [curO, curE, ints_cons, ints_0] at e6
        simp [ndO] at Hid
        by_cases ho1 : 1 < o
        · have hb1 : b1 = false := by
            cases b1
            · rfl
            · exact absurd ⟨ho1, rfl⟩ hA
          subst hb1
          have ho1' : (1 : Int) < (o : Int) := by omega
          have ho0 : 0 < o := by omega
          have ho0' : (0 : Int) < (o : Int) := by omega
          rw [if_pos ho1] at hd
          rw [if_pos ho0] at hxd
          subst hd hxd
          cases b3
          · cases b5
            · simp [L193_0, R193_0, R193_1, R193_2, R193_3, R193_4, R193_5, R193_6, R193_7, R193_8, R193_9, R193_10, R193_11, R193_12, R193_13, R193_14, R193_15, R193_16, R193_17, R193_18, R193_19, Try.f193, lpL193_0, lpL193_1, lpM193_0, lpM193_1, M193_0, M193_1, q0, q3, q4, q5, hi, g0, H0, Hid, f1, f2, f3, f4, f5, f6, f7, w5, ndL_length, ndL_take, ndL_snoc, okN, maxLen, n1, n2, ho1, ho1', ho0, ho0', e1, e3, e5, e7, wU]
              refine hx _ ⟨by simp [q0], by simp, c7, acc ++ [(1, r7)], 6248, st.tick + 1 + 1 + 1 + 1, o + 1, lvE p7 (by omega), by simp; omega, by omega, ⟨by simp, by simp, by simp, by simp, by simp, by simp, by simp⟩, ?_, ?_, ?_, ?_⟩
              all_goals simp [f1, Ne.symm f1, f2, f3, f4, f5, f6, f7, H0, curO, curE, ndO, q0, q3, q4]
            · simp [L193_0, R193_0, R193_1, R193_2, R193_3, R193_4, R193_5, R193_6, R193_7, R193_8, R193_9, R193_10, R193_11, R193_12, R193_13, R193_14, R193_15, R193_16, R193_17, R193_18, R193_19, Try.f193, lpL193_0, lpL193_1, lpM193_0, lpM193_1, M193_0, M193_1, q0, q3, q4, q5, hi, g0, H0, Hid, f1, f2, f3, f4, f5, f6, f7, w5, ndL_length, ndL_take, ndL_snoc, okN, maxLen, n1, n2, ho1, ho1', ho0, ho0', e1, e3, e5, e6, wU, ints_cons, ints_0, ok_cons]
              refine hx _ ⟨by simp [q0], by simp, c6, acc ++ [(2, v6)], 14456, st.tick + 1 + 1 + 1 + 1, o + 1, lvE p6 (by omega), by simp; omega, by omega, ⟨by simp, by simp, by simp, by simp, by simp, by simp, by simp⟩, ?_, ?_, ?_, ?_⟩
              all_goals simp [f1, Ne.symm f1, f2, f3, f4, f5, f6, f7, H0, curO, curE, ndO, q0, q3, q4]
          · simp [L193_0, R193_0, R193_1, R193_2, R193_3, R193_4, R193_5, R193_6, R193_7, R193_8, R193_9, R193_10, R193_11, R193_12, R193_13, R193_14, R193_15, R193_16, R193_17, R193_18, R193_19, Try.f193, lpL193_0, lpL193_1, lpM193_0, lpM193_1, M193_0, M193_1, q0, q3, q4, q5, hi, g0, H0, Hid, f1, f2, f3, f4, f5, f6, f7, w5, ndL_length, ndL_take, ndL_snoc, okN, maxLen, n1, n2, ho1, ho1', ho0, ho0', e1, e3, e4]
            refine hx _ ⟨by simp [q0], by simp, c4, acc ++ [(7, r4)], 12392, st.tick + 1 + 1 + 1, o, lvE p4 (by omega), by simp; omega, by omega, ⟨by simp, by simp, by simp, by simp, by simp, by simp, by simp⟩, ?_, ?_, ?_, ?_⟩
            all_goals simp [f1, Ne.symm f1, f2, f3, f4, f5, f6, f7, H0, curO, curE, ndO, q0, q3, q4]
        · have ho1' : ¬ (1 : Int) < (o : Int) := by omega
          rw [if_neg ho1] at hd
          subst hd
          by_cases ho0 : 0 < o
          · have ho0' : (0 : Int) < (o : Int) := by omega
            rw [if_pos ho0] at hxd
            subst hxd
            cases b3
            · cases b5
              · simp [L193_0, R193_0, R193_1, R193_2, R193_3, R193_4, R193_5, R193_6, R193_7, R193_8, R193_9, R193_10, R193_11, R193_12, R193_13, R193_14, R193_15, R193_16, R193_17, R193_18, R193_19, Try.f193, lpL193_0, lpL193_1, lpM193_0, lpM193_1, M193_0, M193_1, q0, q3, q4, q5, hi, g0, H0, Hid, f1, f2, f3, f4, f5, f6, f7, w5, ndL_length, ndL_take, ndL_snoc, okN, maxLen, n1, n2, ho1, ho1', ho0, ho0', e3, e5, e7, wU]
                refine hx _ ⟨by simp [q0], by simp, c7, acc ++ [(1, r7)], 6248, st.tick + 1 + 1 + 1 + 1, o + 1, lvE p7 (by omega), by simp; omega, by omega, ⟨by simp, by simp, by simp, by simp, by simp, by simp, by simp⟩, ?_, ?_, ?_, ?_⟩
                all_goals simp [f1, Ne.symm f1, f2, f3, f4, f5, f6, f7, H0, curO, curE, ndO, q0, q3, q4]
              · simp [L193_0, R193_0, R193_1, R193_2, R193_3, R193_4, R193_5, R193_6, R193_7, R193_8, R193_9, R193_10, R193_11, R193_12, R193_13, R193_14, R193_15, R193_16, R193_17, R193_18, R193_19, Try.f193, lpL193_0, lpL193_1, lpM193_0, lpM193_1, M193_0, M193_1, q0, q3, q4, q5, hi, g0, H0, Hid, f1, f2, f3, f4, f5, f6, f7, w5, ndL_length, ndL_take, ndL_snoc, okN, maxLen, n1, n2, ho1, ho1', ho0, ho0', e3, e5, e6, wU, ints_cons, ints_0, ok_cons]
                refine hx _ ⟨by simp [q0], by simp, c6, acc ++ [(2, v6)], 14456, st.tick + 1 + 1 + 1 + 1, o + 1, lvE p6 (by omega), by simp; omega, by omega, ⟨by simp, by simp, by simp, by simp, by simp, by simp, by simp⟩, ?_, ?_, ?_, ?_⟩
                all_goals simp [f1, Ne.symm f1, f2, f3, f4, f5, f6, f7, H0, curO, curE, ndO, q0, q3, q4]
            · simp [L193_0, R193_0, R193_1, R193_2, R193_3, R193_4, R193_5, R193_6, R193_7, R193_8, R193_9, R193_10, R193_11, R193_12, R193_13, R193_14, R193_15, R193_16, R193_17, R193_18, R193_19, Try.f193, lpL193_0, lpL193_1, lpM193_0, lpM193_1, M193_0, M193_1, q0, q3, q4, q5, hi, g0, H0, Hid, f1, f2, f3, f4, f5, f6, f7, w5, ndL_length, ndL_take, ndL_snoc, okN, maxLen, n1, n2, ho1, ho1', ho0, ho0', e3, e4]
              refine hx _ ⟨by simp [q0], by simp, c4, acc ++ [(7, r4)], 12392, st.tick + 1 + 1 + 1, o, lvE p4 (by omega), by simp; omega, by omega, ⟨by simp, by simp, by simp, by simp, by simp, by simp, by simp⟩, ?_, ?_, ?_, ?_⟩
              all_goals simp [f1, Ne.symm f1, f2, f3, f4, f5, f6, f7, H0, curO, curE, ndO, q0, q3, q4]
          · have ho0' : ¬ (0 : Int) < (o : Int) := by omega
            rw [if_neg ho0] at hxd
            subst hxd
            cases b5
            · simp [L193_0, R193_0, R193_1, R193_2, R193_3, R193_4, R193_5, R193_6, R193_7, R193_8, R193_9, R193_10, R193_11, R193_12, R193_13, R193_14, R193_15, R193_16, R193_17, R193_18, R193_19, Try.f193, lpL193_0, lpL193_1, lpM193_0, lpM193_1, M193_0, M193_1, q0, q3, q4, q5, hi, g0, H0, Hid, f1, f2, f3, f4, f5, f6, f7, w5, ndL_length, ndL_take, ndL_snoc, okN, maxLen, n1, n2, ho1, ho1', ho0, ho0', e5, e7, wU]
              refine hx _ ⟨by simp [q0], by simp, c7, acc ++ [(1, r7)], 6248, st.tick + 1 + 1 + 1 + 1, o + 1, lvE p7 (by omega), by simp; omega, by omega, ⟨by simp, by simp, by simp, by simp, by simp, by simp, by simp⟩, ?_, ?_, ?_, ?_⟩
              all_goals simp [f1, Ne.symm f1, f2, f3, f4, f5, f6, f7, H0, curO, curE, ndO, q0, q3, q4]
            · simp [L193_0, R193_0, R193_1, R193_2, R193_3, R193_4, R193_5, R193_6, R193_7, R193_8, R193_9, R193_10, R193_11, R193_12, R193_13, R193_14, R193_15, R193_16, R193_17, R193_18, R193_19, Try.f193, lpL193_0, lpL193_1, lpM193_0, lpM193_1, M193_0, M193_1, q0, q3, q4, q5, hi, g0, H0, Hid, f1, f2, f3, f4, f5, f6, f7, w5, ndL_length, ndL_take, ndL_snoc, okN, maxLen, n1, n2, ho1, ho1', ho0, ho0', e5, e6, wU, ints_cons, ints_0, ok_cons]
              refine hx _ ⟨by simp [q0], by simp, c6, acc ++ [(2, v6)], 14456, st.tick + 1 + 1 + 1 + 1, o + 1, lvE p6 (by omega), by simp; omega, by omega, ⟨by simp, by simp, by simp, by simp, by simp, by simp, by simp⟩, ?_, ?_, ?_, ?_⟩
              all_goals simp [f1, Ne.symm f1, f2, f3, f4, f5, f6, f7, H0, curO, curE, ndO, q0, q3, q4])
    (by
      rintro st next ⟨q0, q5, hX⟩
      obtain ⟨c', acc, id, tk, o, pc, hl, ho, hf, H0, q3, Hid, q4⟩ := hX
      obtain ⟨f1, f2, f3, f4, f5, f6, f7⟩ := hf
      simp [L193_0, R193_0, R193_1, R193_2, R193_3, R193_4, R193_5, R193_6, R193_7, R193_8, R193_9, R193_10, R193_11, R193_12, R193_13, R193_14, R193_15, R193_16, R193_17, R193_18, R193_19, Try.f193, lpL193_0, lpL193_1, lpM193_0, lpM193_1, M193_0, M193_1, q0, q5]
      exact ⟨c', acc, id, tk, o, pc, hl, ho, ⟨f1, f2, f3, f4, f5, f6, f7⟩, by simp [H0], by simp [q3], by simp [q3, Hid], by simp [q4]⟩)
  have w0 : IntKind.i64.wrap (1 + r0) = (N : Int) := by rw [wrap_small (by omega) (by omega)]; exact hN
  simp [curO, curE] at e0
  simp [R193_0, R193_1, R193_2, R193_3, R193_4, R193_5, R193_6, R193_7, R193_8, R193_9, R193_10, R193_11, R193_12, R193_13, R193_14, R193_15, R193_16, R193_17, R193_18, R193_19, Try.f193, lpL193_0, lpL193_1, lpM193_0, lpM193_1, curO, curE, e0, w0]
  generalize hr2 : loopRun _ _ _ _ = res
  obtain ⟨s1, rfl, q0, c1, acc, id, tk, o, pc, hl, ho, hf, H0, q3, Hid, q4⟩ := loop_at hL hr2 ⟨by simp, by simp, c0, [], 1040, 2, 0, p0, by simp, by simp, ⟨by simp, by simp, by simp, by simp, by simp, by simp, by simp⟩, by simp [curO, curE], by simp, by simp [ndO, ndL], by simp⟩
  obtain ⟨O, hO⟩ : ∃ O, o = O := ⟨_, rfl⟩
  obtain ⟨L, hLe⟩ : ∃ L, acc.length = L := ⟨_, rfl⟩
  rw [hO] at ho q4
  rw [hLe] at hl
  have hM := loopHas (body := fun st => runCode C (callK C (k + 8)) (k + 8) (K 193) L193_1 2 st) (keep := [0, 3, 4]) (.ex 3)
    (fun st => ExY (m + 2 + 8 * N) L (O - 1) st)
    (fun i st => st.ρ 0 = .p 0 0 3 0 0 ∧ st.ρ 4 = .c (.int .i64 ((O : Int) - (i : Int))) ∧ ExY (m + 2 + 8 * N) L i st)
    (O - 1) (k + 8) (by omega)
    (by
      rintro i st next hi ⟨q0, q4, c', acc, id, tk, pc', hl', hf, H0, q3, Hid⟩ hx
      obtain ⟨f1, f2, f3, f4, f5, f6, f7⟩ := hf
      have g0 : (1 : Int) < (O : Int) - (i : Int) := by omega
      have w5 : IntKind.i64.wrap ((O : Int) - (i : Int) - 1) = (O : Int) - ((i : Int) + 1) := by rw [wrap_small (by omega) (by omega)]; omega
      have n1 : (acc.length + 1) * 16 ≤ 140737488355328 := by omega
      have n2 : acc.length + 1 ≤ 9223372036854775807 := by omega
      obtain ⟨r2, c2, e2, r2a, r2b, p2⟩ := c_pick (k + 8) c' _ 4 pc' (by omega) (by omega) (by omega)
      have w6 : IntKind.i64.wrap (3 + r2) = 3 + r2 := wrap_small (by omega) (by omega)
      simp [curO, curE] at e2 H0
      simp [ndO] at Hid
      simp [L193_1, R193_0, R193_1, R193_2, R193_3, R193_4, R193_5, R193_6, R193_7, R193_8, R193_9, R193_10, R193_11, R193_12, R193_13, R193_14, R193_15, R193_16, R193_17, R193_18, R193_19, Try.f193, lpL193_0, lpL193_1, lpM193_0, lpM193_1, M193_0, M193_1, q0, q3, q4, g0, H0, Hid, f1, f2, f3, f4, f5, f6, f7, w5, w6, e2, ndL_length, ndL_take, ndL_snoc, okN, maxLen, n1, n2]
      refine hx _ ⟨by simp [q0], by simp, c2, acc ++ [(3 + r2, 0)], 17528, st.tick + 1, lvE p2 (by omega), by simp; omega, ⟨by simp, by simp, by simp, by simp, by simp, by simp, by simp⟩, ?_, ?_, ?_⟩
      all_goals simp [f1, Ne.symm f1, f2, f3, f4, f5, f6, f7, H0, curO, curE, ndO, q0, q3, q4])
    (by
      rintro st next ⟨q0, q4, c', acc, id, tk, pc', hl', hf, H0, q3, Hid⟩
      obtain ⟨f1, f2, f3, f4, f5, f6, f7⟩ := hf
      have g0 : ¬ (1 : Int) < (O : Int) - ((O - 1 : Nat) : Int) := by omega
      simp [L193_1, R193_0, R193_1, R193_2, R193_3, R193_4, R193_5, R193_6, R193_7, R193_8, R193_9, R193_10, R193_11, R193_12, R193_13, R193_14, R193_15, R193_16, R193_17, R193_18, R193_19, Try.f193, lpL193_0, lpL193_1, lpM193_0, lpM193_1, M193_0, M193_1, q0, q4, g0]
      exact ⟨c', acc, id, tk, pc', hl', ⟨f1, f2, f3, f4, f5, f6, f7⟩, by simp [H0], by simp [q3], by simp [q3, Hid]⟩)
  simp [R193_0, R193_1, R193_2, R193_3, R193_4, R193_5, R193_6, R193_7, R193_8, R193_9, R193_10, R193_11, R193_12, R193_13, R193_14, R193_15, R193_16, R193_17, R193_18, R193_19, Try.f193, lpL193_0, lpL193_1, lpM193_0, lpM193_1, M193_0, M193_1]
  generalize hr3 : loopRun _ _ _ _ = res2
  obtain ⟨s2, rfl, c2, acc2, id2, tk2, pc2, hl2, hf2, H02, q32, Hid2⟩ := loop_at hM hr3 ⟨by simp [q0], by simp [q4], c1, acc, id, tk, by simpa using pc, by omega, hf, by simp [H0], by simp [q3], by simp [Hid]⟩
  obtain ⟨f1, f2, f3, f4, f5, f6, f7⟩ := hf2
  refine ⟨acc2, c2, ?_, by omega, lvE pc2 (by omega)⟩
  simp [curO, curE] at H02
  simp [ndO] at Hid2
  simp [H02, q32, Hid2, f1, ndL_length, ndO, curO, curE]
theorem ndL_set2 (l : List (Int × Int)) (i : Nat) (a b : Int) : (ndL l).set i [.c (.int .i64 a), .c (.int .i64 b)] = ndL (l.set i (a, b)) := ndL_set l i (a, b)
theorem c_anyExpression (k : Nat) (c : Cur) (m : Nat) (h : c.P m) (hm : m ≤ 1000000) (hk : 450 ≤ k) : ∃ (l : List (Int × Int)) (c' : Cur), callK C k 166 [.p 0 0 3 0 0] [curO c] = some (.s 1 2 2 0 l.length, hpOf [some (curO c')] [ndO l]) ∧ l.length ≤ 41 ∧ c'.P (m + 300) := by
  obtain ⟨k, rfl⟩ : ∃ m, k = m + 9 := ⟨k - 9, by omega⟩
  rw [callK_fn rfl F166 code166]
  obtain ⟨l, c1, e1, l40, p1⟩ := c_expression (k + 8) c m h (by omega) (by omega)
  obtain ⟨r2, c2, e2, r2a, r2b, p2⟩ := c_pick (k + 8) c1 _ 20 p1 (by omega) (by omega) (by omega)
  obtain ⟨r3, c3, e3, r3a, r3b, p3⟩ := c_pick (k + 8) c2 _ 9 p2 (by omega) (by omega) (by omega)
  obtain ⟨r4, c4, e4, r4a, r4b, p4⟩ := c_pick (k + 8) c3 _ 5 p3 (by omega) (by omega) (by omega)
  obtain ⟨r5, c5, e5, r5a, r5b, p5⟩ := c_pick (k + 8) c2 _ l.length p2 (by omega) (by omega) (by omega)
  obtain ⟨r6, c6, e6, r6a, r6b, p6⟩ := c_pick (k + 8) c5 _ 9 p5 (by omega) (by omega) (by omega)
  obtain ⟨i7, hi7, c7, e7, p7⟩ := c_among (k + 8) c6 _ true [0, 3, 4, -1, 9000, 9001] p6 (by omega) (by simp) (by simp) (by omega)
  obtain ⟨v7, hv7⟩ : ∃ b, [(0 : Int), 3, 4, -1, 9000, 9001][i7] = b := ⟨_, rfl⟩
  rw [hv7] at e7
  obtain ⟨j, rfl⟩ : ∃ j : Nat, r5 = j := ⟨r5.toNat, by omega⟩
  have n1 : (l.length + 1) * 16 ≤ 140737488355328 := by omega
  have n2 : l.length + 1 ≤ 9223372036854775807 := by omega
  have hz : ndL [] = [] := rfl
  simp [curO, curE, ndO] at e1 e2 e3 e4 e5 e6
  simp [curO, curE, ints_cons, ints_0] at e7
  by_cases h0 : r2 = 0
  · subst h0
    refine ⟨l ++ [(r3, r4)], c4, ?_, by simp; omega, lvE p4 (by omega)⟩
    simp [R166_0, R166_1, R166_2, R166_3, R166_4, R166_5, R166_6, R166_7, R166_8, R166_9, R166_10, Try.f166, e1, e2, e3, e4, curO, curE, ndO, ndL_length, ndL_take, ndL_snoc, okN, maxLen, n1, n2]
  · have h0b : (r2 == 0) = false := by simpa using h0
    by_cases h1 : r2 = 1
    · subst h1
      by_cases hl0 : 0 < l.length
      · have hj : j < l.length := by omega
        have hl0' : (0 : Int) < (l.length : Int) := by omega
        refine ⟨l.set j (r6, v7), c7, ?_, by simp; omega, lvE p7 (by omega)⟩
        simp [R166_0, R166_1, R166_2, R166_3, R166_4, R166_5, R166_6, R166_7, R166_8, R166_9, R166_10, Try.f166, e1, e2, e5, e6, e7, hl0, hl0', hj, curO, curE, ndO, ndL_length, ndL_take, ndL_at, ndE, ndL_set2, okN, ints_cons, ints_0, ok_cons]
      · have hl0' : ¬ (0 : Int) < (l.length : Int) := by omega
        refine ⟨l, c2, ?_, by omega, lvE p2 (by omega)⟩
        simp [R166_0, R166_1, R166_2, R166_3, R166_4, R166_5, R166_6, R166_7, R166_8, R166_9, R166_10, Try.f166, e1, e2, hl0, hl0', curO, curE, ndO, ndL_length, ndL_take]
    · have h1b : (r2 == 1) = false := by simpa using h1
      by_cases h2 : r2 = 2
      · subst h2
        refine ⟨[], c2, ?_, by simp, lvE p2 (by omega)⟩
        simp [R166_0, R166_1, R166_2, R166_3, R166_4, R166_5, R166_6, R166_7, R166_8, R166_9, R166_10, Try.f166, e1, e2, curO, curE, ndO, hz]
      · have h2b : (r2 == 2) = false := by simpa using h2
        refine ⟨l, c2, ?_, by omega, lvE p2 (by omega)⟩
        simp [R166_0, R166_1, R166_2, R166_3, R166_4, R166_5, R166_6, R166_7, R166_8, R166_9, R166_10, Try.f166, e1, e2, h0, h1, h2, h0b, h1b, h2b, curO, curE, ndO, ndL_length]
theorem c_DrawReplaceField (k : Nat) (code : List Int) (hb : ∀ x ∈ code, 0 ≤ x ∧ x ≤ 255) (hl : code.length ≤ maxLen) (hk : 1000 ≤ k) : ∃ (l : List (Int × Int)) (f : Int) (m : List (Int × Int)), callK C k 85 [.sq false true 1 (u8s code)] [] = some (.tp [.s 0 2 2 0 l.length, .c (.int .i64 f), .s 1 2 2 0 m.length], hpOf [] [ndO l, ndO m]) ∧ l.length ≤ 41 ∧ m.length ≤ 41 := by
  obtain ⟨k, rfl⟩ : ∃ m, k = m + 9 := ⟨k - 9, by omega⟩
  rw [callK_fn rfl F85 code85]
  obtain ⟨l, c1, e1, l41, p1⟩ := c_anyExpression (k + 8) ⟨code, 0, 0⟩ 0 ⟨hb, hl, Nat.le_refl _⟩ (by omega) (by omega)
  obtain ⟨m, c2, e2, m41, p2⟩ := c_anyExpression (k + 8) c1 _ p1 (by omega) (by omega)
  obtain ⟨b3, c3, e3, p3⟩ := c_one (k + 8) c2 _ 2 p2 (by omega) (by omega) (by omega)
  obtain ⟨i4, hi4, c4, e4, p4⟩ := c_among (k + 8) c3 _ true [0, 1, 2, 3, 4, -1] p3 (by omega) (by simp) (by simp) (by omega)
  obtain ⟨v4, hv4⟩ : ∃ b, [(0 : Int), 1, 2, 3, 4, -1][i4] = b := ⟨_, rfl⟩
  rw [hv4] at e4
  simp [curO, curE, ndO] at e1 e2 e3
  simp [curO, curE, ints_cons, ints_0] at e4
  cases b3
  · refine ⟨l, v4, m, ?_, l41, m41⟩
    simp [R85_0, R85_1, R85_2, R85_3, R85_4, R85_5, R85_6, Try.f85, e1, e2, e3, e4, ndO, ndL_length, ints_cons, ints_0, ok_cons]
  · refine ⟨l, v4, [(1, 1), (2, 2), (3, 0)], ?_, l41, by simp⟩
    have h3 : ndL [(1, 1), (2, 2), (3, 0)] = [[.c (.int .i64 1), .c (.int .i64 1)], [.c (.int .i64 2), .c (.int .i64 2)], [.c (.int .i64 3), .c (.int .i64 0)]] := rfl
    simp [R85_0, R85_1, R85_2, R85_3, R85_4, R85_5, R85_6, Try.f85, e1, e2, e3, e4, ndO, ndL_length, ints_cons, ints_0, ok_cons, h3]

end Go.Proofs.Ytfdlllhcjfhknaa.Eng
