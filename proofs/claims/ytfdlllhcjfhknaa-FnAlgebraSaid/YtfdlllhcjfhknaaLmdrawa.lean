/- A deterministic reading of Go code over plain data: what functions of the program compute. No conditions. -/
import Derived.Test.YtfdlllhcjfhknaaLmbase
import Derived.Test.YtfdlllhcjfhknaaLmimpl
import Derived.Test.YtfdlllhcjfhknaaLmgood
import Derived.Test.YtfdlllhcjfhknaaLmspec
import Derived.Test.YtfdlllhcjfhknaaLmdraws
import Derived.Test.YtfdlllhcjfhknaaLmdrawf
import Derived.Test.YtfdlllhcjfhknaaEngT
namespace Go.Proofs.Ytfdlllhcjfhknaa.Eng
open Go Go.Proofs
set_option maxRecDepth 100000
set_option maxHeartbeats 2000000
set_option linter.unusedSimpArgs false
set_option linter.unusedVariables false
attribute [local simp] finK fin1 hpOf xi renQ isRoot runCode runOps Eng.step wantedV astep val ofO made loadV storeV find V.cells bin binT un1 setAt fieldAddrV fieldV indexAddrV indexV bounds sliceV convV lenV foldV max2V min2V callO bor rdsO wrsO seen_none okD_none loops keepIds resV resultsV St.ev TK.agg refs refsL refsO V.one V.isC Value.oneCell' ren renL renO noTag noTagL noTagR noTagO nodup mapO passV frs psi refsR newD loopNext opsAt idx flatAt rootOf backR newsV appendV copyV clearV strV bytesOf nilCmp buildV fillF chunk
attribute [local simp] cT cF cX cWR cOW cK X ints_length ints_get ints_getElem ints_drop ints_take ints_append ints_nil ints_set
attribute [local simp] ints_replicate
attribute [local simp] putV_some putV_none putH_app applyD_nil applyD_cons seen_app gc_ρ gc_H gc_tick st0_ρ st0_H st0_tick retV callRo callV_if borL_nil borL_cons ints_snoc take_self callWr cutH_app findQ afterV exportV_0 exportV_n okD_nil okD_cons sub_seq0 sub_seq1 sub_cond0 sub_cond1 sub_block sub_loop sub_nil young_far young_none hidW_nil mayW_nil pairs okI ok_0 ok_1 ok_2
attribute [local simp] T3 T4 T5 T9 T22 T24 T26 T29 T36 T73 T75 T86 T89 T103 T104 T106 T108 T109 T111 T114 T118 T134 T136 T157 T161 T168
attribute [local simp] young_near clo cloF Region.binds Nat.testBit hidW declW mayW
theorem lv {c : Cur} {q m : Nat} (h : c.P q) (hq : q ≤ m) : c.P m := ⟨h.by8, h.len, by have := h.le; omega⟩
theorem c_anyField (k : Nat) (c : Cur) (m : Nat) (h : c.P m) (hm : m ≤ 10000000) (hk : 400 ≤ k) : ∃ (w h' : Int) (l : List Int) (off n : Nat) (c' : Cur), callK C k 114 [.p 0 0 3 0 0] [curO c] = some (.ag [.c (.int .i64 w), .c (.int .i64 h'), .s 1 2 1 off n], hpOf [some (curO c')] [intsO l]) ∧ off + n ≤ l.length ∧ l.length ≤ 64 ∧ c'.P (m + 300) := by
  obtain ⟨k, rfl⟩ : ∃ m, k = m + 9 := ⟨k - 9, by omega⟩
  rw [callK_fn rfl F114 code114]
  obtain ⟨w, h', l, c1, e1, l0, l64, p1⟩ := c_field (k + 8) c m h (by omega) (by omega)
  obtain ⟨r2, c2, e2, r2a, r2b, p2⟩ := c_pick (k + 8) c1 (m + 200) 24 p1 (by omega) (by omega) (by omega)
  obtain ⟨i3, hi3, c3, e3, p3⟩ := c_among (k + 8) c2 (m + 200 + 2) true [0, 9, 8, h'] p2 (by omega) (by simp) (by simp) (by omega)
  obtain ⟨v3, hv3⟩ : ∃ b, [(0 : Int), 9, 8, h'][i3] = b := ⟨_, rfl⟩
  rw [hv3] at e3
  obtain ⟨r4, c4, e4, r4a, r4b, p4⟩ := c_pick (k + 8) c2 (m + 200 + 2) l.length p2 (by omega) (by omega) (by omega)
  obtain ⟨i5, hi5, c5, e5, p5⟩ := c_among (k + 8) c4 (m + 200 + 2 + 2) true [9001, -9001, -9998, -9999] p4 (by omega) (by simp) (by simp) (by omega)
  obtain ⟨v5, hv5⟩ : ∃ b, [(9001 : Int), -9001, -9998, -9999][i5] = b := ⟨_, rfl⟩
  rw [hv5] at e5
  obtain ⟨j, rfl⟩ : ∃ j : Nat, r4 = j := ⟨r4.toNat, by omega⟩
  have hj : j < l.length := by omega
  have hl1 : 1 ≤ l.length := l0
  have hl1' : (1 : Int) ≤ (l.length : Int) := by omega
  simp [curO, curE, intsO] at e1 e2 e4
  simp [curO, curE, ints_cons, ints_0] at e3 e5
  by_cases h0 : r2 = 0
  · subst h0
    refine ⟨v3, h', l, 0, l.length, c3, ?_, by omega, l64, lv p3 (by omega)⟩
    simp [R114_0, R114_1, R114_2, R114_3, R114_4, R114_5, R114_6, R114_7, R114_8, R114_9, Try.f114, ints_cons, ints_0, ok_cons, e1, e2, e3, curO, curE, intsO]
  · have h0b : (r2 == 0) = false := by simpa using h0
    by_cases h1 : r2 = 1
    · subst h1
      refine ⟨w, h', l.set j v5, 0, l.length, c5, ?_, by simp, by simpa using l64, lv p5 (by omega)⟩
      simp [R114_0, R114_1, R114_2, R114_3, R114_4, R114_5, R114_6, R114_7, R114_8, R114_9, Try.f114, ints_cons, ints_0, ok_cons, e1, e2, e4, e5, hj, curO, curE, intsO]
    · have h1b : (r2 == 1) = false := by simpa using h1
      by_cases h2 : r2 = 2
      · subst h2
        refine ⟨w, h', l, 1, l.length - 1, c2, ?_, by omega, l64, lv p2 (by omega)⟩
        simp [R114_0, R114_1, R114_2, R114_3, R114_4, R114_5, R114_6, R114_7, R114_8, R114_9, Try.f114, e1, e2, hl1, hl1', curO, curE, intsO]
      · have h2b : (r2 == 2) = false := by simpa using h2
        refine ⟨w, h', l, 0, l.length, c2, ?_, by omega, l64, lv p2 (by omega)⟩
        simp [R114_0, R114_1, R114_2, R114_3, R114_4, R114_5, R114_6, R114_7, R114_8, R114_9, Try.f114, e1, e2, h0, h1, h2, h0b, h1b, h2b, curO, curE, intsO]
def LkX (m : Nat) (n : Nat) (i : Nat) (st : St) : Prop := ∃ (c' : Cur) (l : List Int), c'.P (m + 4 * i) ∧ l.length = n ∧ st.H 0 = some (0, curO c') ∧ st.H 1056 = some (2, intsO l)
theorem c_like (k : Nat) (c : Cur) (m : Nat) (b : Bool) (w h' : Int) (l0 : List Int) (h : c.P m) (hm : m ≤ 10000000) (hl : l0.length ≤ 64) (hk : 400 ≤ k) : ∃ (w' h'' : Int) (l : List Int) (c' : Cur), callK C k 130 [.p 0 0 3 0 0, fldV b w h' l0] [curO c] = some (.ag [.c (.int .i64 w'), .c (.int .i64 h''), .s 1 2 1 0 l.length], hpOf [some (curO c')] [intsO l]) ∧ l.length ≤ 64 ∧ c'.P (m + 600) := by
  obtain ⟨k, rfl⟩ : ∃ m, k = m + 9 := ⟨k - 9, by omega⟩
  rw [callK_fn rfl F130 code130]
  obtain ⟨n, hn⟩ : ∃ n, l0.length = n := ⟨_, rfl⟩
  have o1 := c_l2Own (k + 8) b w h' l0 (by omega) (by omega)
  simp [fldV, ownV, intsO] at o1
  have hL := loopHas (body := fun st => runCode C (callK C (k + 8)) (k + 8) (K 130) L130_0 1 st) (keep := [0, 4, 5, 6]) (.ex 0)
    (fun st => st.ρ 0 = .p 0 0 3 0 0 ∧ st.ρ 4 = .p 32 1 3 0 0 ∧ st.ρ 5 = .p 1072 2 3 0 0 ∧ st.H 32 = some (1, ⟨29, 3, false, [[.c (.int .i64 0), .c (.int .i64 0), .c (.slice none 0 0)]]⟩) ∧ st.H 1072 = some (2, ⟨29, 3, false, [[.c (.int .i64 w), .c (.int .i64 h'), .s 1056 2 1 0 n]]⟩) ∧ LkX m n n st)
    (fun i st => st.ρ 0 = .p 0 0 3 0 0 ∧ st.ρ 4 = .p 32 1 3 0 0 ∧ st.ρ 5 = .p 1072 2 3 0 0 ∧ st.ρ 6 = .c (.int .i64 (i : Int)) ∧ st.H 32 = some (1, ⟨29, 3, false, [[.c (.int .i64 0), .c (.int .i64 0), .c (.slice none 0 0)]]⟩) ∧ st.H 1072 = some (2, ⟨29, 3, false, [[.c (.int .i64 w), .c (.int .i64 h'), .s 1056 2 1 0 n]]⟩) ∧ LkX m n i st)
    n (k + 8) (by omega)
    (by
      rintro i st next hi ⟨q0, q4, q5, q6, H32, H1, c', l, pc, hl, H0, Hl⟩ hx
      have hwi := wrap_next hi (by omega : n ≤ 9000000000000000000)
      obtain ⟨s1, d1, f1, s1a, s1b, g1⟩ := c_pick (k + 8) c' (m + 4 * i) 5 pc (by omega) (by omega) (by omega)
      obtain ⟨s2, d2, f2, s2a, s2b, g2⟩ := c_pick (k + 8) d1 (m + 4 * i + 2) 40 g1 (by omega) (by omega) (by omega)
      obtain ⟨s3, d3, f3, g3⟩ := c_one (k + 8) d1 (m + 4 * i + 2) 3 g1 (by omega) (by omega) (by omega)
      simp [curO, curE] at f1 f2 f3 H0
      simp [intsO] at Hl
      have hil : i < l.length := by omega
      have hlen : ∀ v : Int, (l.set i v).length = n := fun v => by simpa using hl
      by_cases h0 : s1 = 0
      · subst h0
        simp [L130_0, R130_0, R130_1, R130_2, R130_3, R130_4, R130_5, R130_6, R130_7, R130_8, R130_9, R130_10, R130_11, R130_12, R130_13, Try.f130, lpL130_0, lpM130_0, M130_0, q0, q4, q5, q6, H32, H1, H0, Hl, hi, hil, hwi, f1, f2]
        refine hx _ ⟨?_, ?_, ?_, ?_, ?_, ?_, d2, l.set i s2, lv g2 (by omega), hlen _, ?_, ?_⟩ <;> simp [q0, q4, q5, q6, H32, H1, intsO, curO, curE]
      · have h0b : (s1 == 0) = false := by simpa using h0
        by_cases h1 : s1 = 1
        · subst h1
          cases s3
          · simp [L130_0, R130_0, R130_1, R130_2, R130_3, R130_4, R130_5, R130_6, R130_7, R130_8, R130_9, R130_10, R130_11, R130_12, R130_13, Try.f130, lpL130_0, lpM130_0, M130_0, q0, q4, q5, q6, H32, H1, H0, Hl, hi, hil, hwi, f1, f3]
            refine hx _ ⟨?_, ?_, ?_, ?_, ?_, ?_, d3, l, lv g3 (by omega), hl, ?_, ?_⟩ <;> simp [q0, q4, q5, q6, H32, H1, Hl, intsO, curO, curE]
          · simp [L130_0, R130_0, R130_1, R130_2, R130_3, R130_4, R130_5, R130_6, R130_7, R130_8, R130_9, R130_10, R130_11, R130_12, R130_13, Try.f130, lpL130_0, lpM130_0, M130_0, q0, q4, q5, q6, H32, H1, H0, Hl, hi, hil, hwi, f1, f3]
            refine hx _ ⟨?_, ?_, ?_, ?_, ?_, ?_, d3, l.set i (-9999), lv g3 (by omega), hlen _, ?_, ?_⟩ <;> simp [q0, q4, q5, q6, H32, H1, intsO, curO, curE]
        · have h1b : (s1 == 1) = false := by simpa using h1
          simp [L130_0, R130_0, R130_1, R130_2, R130_3, R130_4, R130_5, R130_6, R130_7, R130_8, R130_9, R130_10, R130_11, R130_12, R130_13, Try.f130, lpL130_0, lpM130_0, M130_0, q0, q4, q5, q6, H32, H1, H0, Hl, hi, hil, hwi, f1, h0, h1, h0b, h1b]
          refine hx _ ⟨?_, ?_, ?_, ?_, ?_, ?_, d1, l, lv g1 (by omega), hl, ?_, ?_⟩ <;> simp [q0, q4, q5, q6, H32, H1, Hl, intsO, curO, curE])
    (by
      rintro st next ⟨q0, q4, q5, q6, H32, H1, c', l, pc, hl, H0, Hl⟩
      simp [curO, curE] at H0
      simp [intsO] at Hl
      simp [L130_0, R130_0, R130_1, R130_2, R130_3, R130_4, R130_5, R130_6, R130_7, R130_8, R130_9, R130_10, R130_11, R130_12, R130_13, Try.f130, lpL130_0, lpM130_0, M130_0, q0, q4, q5, q6, H32, H1, H0, Hl]
      exact ⟨c', l, pc, hl, by simp [curO, curE, q0, q4, q5, q6, H32, H1, H0, Hl], by simp [q0, q4, q5, q6, H32, H1, H0, Hl, intsO]⟩)
  simp [R130_0, R130_1, R130_2, R130_3, R130_4, R130_5, R130_6, R130_7, R130_8, R130_9, R130_10, R130_11, R130_12, R130_13, Try.f130, lpL130_0, lpM130_0, curO, curE, fldV, o1, hn]
  generalize hr2 : loopRun _ _ _ _ = res
  obtain ⟨s1, rfl, f0, f4, f5, H32, H1, c4, l, p4, hl', H0, Hl⟩ := loop_at hL hr2 ⟨by simp, by simp, by simp, by simp, by simp, by simp, c, l0, lv h (by omega), hn, by simp [curO, curE], by simp [intsO]⟩
  obtain ⟨b5, c5, e5, p5⟩ := c_one (k + 8) c4 (m + 4 * n) 16 p4 (by omega) (by omega) (by omega)
  obtain ⟨w6, h6, l6, c6, e6, l60, l64, p6⟩ := c_field (k + 8) c5 (m + 4 * n + 2) p5 (by omega) (by omega)
  simp [curO, curE] at e5 H0
  simp [curO, curE, intsO] at e6
  simp [intsO] at Hl
  cases b5
  · refine ⟨w, h', l, c5, ?_, by omega, lv p5 (by omega)⟩
    simp [R130_0, R130_1, R130_2, R130_3, R130_4, R130_5, R130_6, R130_7, R130_8, R130_9, R130_10, R130_11, R130_12, R130_13, Try.f130, lpL130_0, lpM130_0, M130_0, f0, f4, f5, H32, H1, H0, Hl, e5, curO, curE, intsO, hl']
  · refine ⟨w6, h6, l6, c6, ?_, l64, lv p6 (by omega)⟩
    simp [R130_0, R130_1, R130_2, R130_3, R130_4, R130_5, R130_6, R130_7, R130_8, R130_9, R130_10, R130_11, R130_12, R130_13, Try.f130, lpL130_0, lpM130_0, M130_0, f0, f4, f5, H32, H1, H0, Hl, e5, e6, curO, curE, intsO, hl']

end Go.Proofs.Ytfdlllhcjfhknaa.Eng
