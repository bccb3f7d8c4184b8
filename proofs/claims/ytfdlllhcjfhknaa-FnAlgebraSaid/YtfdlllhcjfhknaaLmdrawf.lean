/- A deterministic reading of Go code over plain data: what functions of the program compute. No conditions. -/
import Derived.Test.YtfdlllhcjfhknaaLmbase
import Derived.Test.YtfdlllhcjfhknaaLmdraws
import Derived.Test.YtfdlllhcjfhknaaEngT
namespace Go.Proofs.Ytfdlllhcjfhknaa.Eng
open Go Go.Proofs
set_option maxRecDepth 100000
set_option maxHeartbeats 2000000
set_option linter.unusedSimpArgs false
set_option linter.unusedVariables false
attribute [local simp] finK fin1 hpOf xi renQ isRoot runCode runOps Eng.step wantedV astep val ofO made loadV storeV find V.cells bin binT un1 setAt fieldAddrV fieldV indexAddrV indexV bounds sliceV convV lenV foldV max2V min2V callO bor rdsO wrsO seen_none okD_none loops keepIds resV resultsV St.ev TK.agg refs refsL refsO V.one V.isC Value.oneCell' ren renL renO noTag noTagL noTagR noTagO nodup mapO passV frs psi refsR newD loopNext opsAt idx flatAt rootOf backR newsV appendV copyV clearV strV bytesOf nilCmp buildV fillF chunk
attribute [local simp] cT cF cX cWR cOW cK X ints_length ints_get ints_getElem ints_drop ints_take ints_append ints_nil ints_set
attribute [local simp] ints_replicate
attribute [local simp] putV_some putV_none putH_app applyD_nil applyD_cons seen_app gc_ρ gc_H gc_tick st0_ρ st0_H st0_tick retV callRo callV_if borL_nil borL_cons ints_snoc take_self callWr cutH_app findQ afterV exportV_0 exportV_n okD_nil okD_cons sub_seq0 sub_seq1 sub_cond0 sub_cond1 sub_block sub_loop sub_nil young_far young_none hidW_nil mayW_nil pairs okI ok_0 ok_1 ok_2
attribute [local simp] T3 T4 T5 T9 T22 T24 T26 T29 T36 T73 T75 T86 T89 T103 T104 T106 T108 T109 T111 T114 T118 T134 T136 T157 T161 T168
attribute [local simp] young_near clo cloF Region.binds Nat.testBit hidW declW mayW
/-- A list that grows in a slot: nothing yet, or an object. -/
def Gw (id : Nat) (v : V) (H : Hp) (acc : List Int) : Prop := (acc = [] ∧ v = .c (.slice none 0 0)) ∨ (acc ≠ [] ∧ ∃ tk, v = .s id tk 1 0 acc.length ∧ H id = some (tk, intsO acc))
theorem c_l2Fill (k : Nat) (w h v : Int) (n : Nat) (hn : w * h = n) (h0 : 0 < n) (h64 : n ≤ 64) (hk : 200 ≤ k) : callK C k 115 [.c (.int .i64 w), .c (.int .i64 h), .c (.int .i64 v)] [] = some (.ag [.c (.int .i64 w), .c (.int .i64 h), .s 0 2 1 0 n], hpOf [] [intsO (List.replicate n v)]) := by
  obtain ⟨k, rfl⟩ : ∃ m, k = m + 9 := ⟨k - 9, by omega⟩
  rw [callK_fn rfl F115 code115]
  have hwn : IntKind.i64.wrap (w * h) = n := by rw [hn]; exact wrap_small (by omega) (by omega)
  have hL := loopHas (body := fun st => runCode C (callK C (k + 8)) (k + 8) (K 115) L115_0 1 st) (keep := [0, 1, 2, 6, 7, 8]) (.ex 0)
    (fun st => st.ρ 6 = .p 16 1 3 0 0 ∧ st.ρ 7 = .p 1088 2 3 0 0 ∧ st.H 16 = some (1, ⟨29, 3, false, [[.c (.int .i64 0), .c (.int .i64 0), .c (.slice none 0 0)]]⟩) ∧ ∃ cv, st.H 1088 = some (2, ⟨29, 3, false, [[.c (.int .i64 w), .c (.int .i64 h), cv]]⟩) ∧ Gw 5208 cv st.H (List.replicate n v))
    (fun i st => st.ρ 0 = .c (.int .i64 w) ∧ st.ρ 1 = .c (.int .i64 h) ∧ st.ρ 2 = .c (.int .i64 v) ∧ st.ρ 6 = .p 16 1 3 0 0 ∧ st.ρ 7 = .p 1088 2 3 0 0 ∧ st.ρ 8 = .c (.int .i64 (i : Int)) ∧ st.H 16 = some (1, ⟨29, 3, false, [[.c (.int .i64 0), .c (.int .i64 0), .c (.slice none 0 0)]]⟩) ∧ ∃ cv, st.H 1088 = some (2, ⟨29, 3, false, [[.c (.int .i64 w), .c (.int .i64 h), cv]]⟩) ∧ Gw 5208 cv st.H (List.replicate i v))
    n (k + 8) (by omega)
    (by
      rintro i st next hi ⟨q0, q1, q2, q6, q7, q8, H16, cv, H1, hc⟩ hx
      have hwi := wrap_next hi (by omega : n ≤ 9000000000000000000)
      have hrep : List.replicate (i + 1) v = List.replicate i v ++ [v] := by rw [List.replicate_succ']
      rcases hc with ⟨ha, rfl⟩ | ⟨ha, tk, rfl, hH⟩
      · have hi0 : i = 0 := by simpa using ha
        subst hi0
        simp [L115_0, R115_0, R115_1, R115_2, R115_3, R115_4, R115_5, R115_6, Try.f115, lpL115_0, lpM115_0, M115_0, q0, q1, q2, q6, q7, q8, H16, H1, hwn, hi, hwi, maxLen]
        refine hx _ ⟨?_, ?_, ?_, ?_, ?_, ?_, ?_, .s 5208 (st.tick + 1) 1 0 1, ?_, .inr ⟨by simp, st.tick + 1, ?_, ?_⟩⟩ <;> simp [q0, q1, q2, q6, q7, q8, H16, H1, intsO, ints, wrap_1]
      · have hb1 : (i + 1) * 8 ≤ 140737488355328 := by omega
        have hb2 : i + 1 ≤ maxLen := by unfold maxLen; omega
        simp [intsO] at hH
        simp [L115_0, R115_0, R115_1, R115_2, R115_3, R115_4, R115_5, R115_6, Try.f115, lpL115_0, lpM115_0, M115_0, q0, q1, q2, q6, q7, q8, H16, H1, hH, hwn, hi, hwi, hb1, hb2, okI]
        refine hx _ ⟨?_, ?_, ?_, ?_, ?_, ?_, ?_, .s 5208 (st.tick + 1) 1 0 (i + 1), ?_, .inr ⟨by simp, st.tick + 1, ?_, ?_⟩⟩ <;> simp [q0, q1, q2, q6, q7, q8, H16, H1, intsO, hrep])
    (by
      rintro st next ⟨q0, q1, q2, q6, q7, q8, H16, cv, H1, hc⟩
      rcases hc with ⟨ha, rfl⟩ | ⟨ha, tk, rfl, hH⟩
      · have : n = 0 := by simpa using ha
        omega
      · simp [intsO] at hH
        simp [L115_0, R115_0, R115_1, R115_2, R115_3, R115_4, R115_5, R115_6, Try.f115, lpL115_0, lpM115_0, M115_0, q0, q1, q2, q6, q7, q8, H16, H1, hH, hwn]
        exact .inr ⟨ha, tk, by simp, by simp [intsO, hH, H1, q7]⟩)
  simp [R115_0, R115_1, R115_2, R115_3, R115_4, R115_5, R115_6, Try.f115, lpL115_0, lpM115_0]
  generalize hr2 : loopRun _ _ _ _ = res
  obtain ⟨s1, rfl, f6, f7, H16, cv, H1, hc⟩ := loop_at hL hr2 ⟨by simp, by simp, by simp, by simp, by simp, by simp, by simp, .c (.slice none 0 0), by simp, .inl ⟨rfl, rfl⟩⟩
  rcases hc with ⟨ha, rfl⟩ | ⟨ha, tk, rfl, hH⟩
  · have : n = 0 := by simpa using ha
    omega
  · simp [intsO] at hH
    simp [R115_0, R115_1, R115_2, R115_3, R115_4, R115_5, R115_6, Try.f115, lpL115_0, lpM115_0, M115_0, f6, f7, H16, H1, hH, intsO]
theorem ints_map (l : List Int) : (l.map fun n => [V.c (.int .i64 n)]) = ints l := rfl
def FdX (m : Nat) (w h' : Int) (i : Nat) (st : St) : Prop := ∃ (c' : Cur) (cv : V) (l : List Int), c'.P (m + 10 + 4 * i) ∧ l.length = i ∧ st.H 0 = some (0, curO c') ∧ st.H 1152 = some (2, ⟨29, 3, false, [[.c (.int .i64 w), .c (.int .i64 h'), cv]]⟩) ∧ Gw 9304 cv st.H l
theorem c_field (k : Nat) (c : Cur) (m : Nat) (h : c.P m) (hm : m ≤ 100000000) (hk : 300 ≤ k) : ∃ (w h' : Int) (l : List Int) (c' : Cur), callK C k 170 [.p 0 0 3 0 0] [curO c] = some (.ag [.c (.int .i64 w), .c (.int .i64 h'), .s 1 2 1 0 l.length], hpOf [some (curO c')] [intsO l]) ∧ 0 < l.length ∧ l.length ≤ 64 ∧ c'.P (m + 200) := by
  obtain ⟨k, rfl⟩ : ∃ m, k = m + 9 := ⟨k - 9, by omega⟩
  rw [callK_fn rfl F170 code170]
  obtain ⟨r1, c1, e1, r1a, r1b, p1⟩ := c_pick (k + 8) c m 5 h (by omega) (by omega) (by omega)
  obtain ⟨r2, c2, e2, r2a, r2b, p2⟩ := c_pick (k + 8) c1 (m + 2) 5 p1 (by omega) (by omega) (by omega)
  obtain ⟨i3, hi3, c3, e3, p3⟩ := c_among (k + 8) c2 (m + 2 + 2) true [0, 10, 100, -50] p2 (by omega) (by simp) (by simp) (by omega)
  obtain ⟨base, hb⟩ : ∃ b, [(0 : Int), 10, 100, -50][i3] = b := ⟨_, rfl⟩
  rw [hb] at e3
  have hw1 : IntKind.i64.wrap (1 + r1) = 1 + r1 := wrap_small (by omega) (by omega)
  have hw2 : IntKind.i64.wrap (1 + r2) = 1 + r2 := wrap_small (by omega) (by omega)
  obtain ⟨w, hw⟩ : ∃ w, 1 + r1 = w := ⟨_, rfl⟩
  obtain ⟨h', hh⟩ : ∃ h', 1 + r2 = h' := ⟨_, rfl⟩
  rw [hw] at hw1
  rw [hh] at hw2
  have hw0 : 1 ≤ w := by omega
  have hw5 : w ≤ 5 := by omega
  have hh0 : 1 ≤ h' := by omega
  have hh5 : h' ≤ 5 := by omega
  obtain ⟨n, hn⟩ : ∃ n : Nat, w * h' = n := ⟨(w * h').toNat, by have := Int.mul_nonneg (by omega : 0 ≤ w) (by omega : 0 ≤ h'); omega⟩
  have hn0 : 0 < n := by have : 1 * 1 ≤ w * h' := Int.mul_le_mul hw0 hh0 (by omega) (by omega); omega
  have hn25 : n ≤ 25 := by have : w * h' ≤ 5 * 5 := Int.mul_le_mul hw5 hh5 (by omega) (by omega); omega
  have hwn : IntKind.i64.wrap (w * h') = n := by rw [hn]; exact wrap_small (by omega) (by omega)
  simp [curO, curE] at e1 e2
  simp [curO, curE, ints] at e3
  have hL := loopHas (body := fun st => runCode C (callK C (k + 8)) (k + 8) (K 170) L170_0 1 st) (keep := [0, 2, 3, 4, 5]) (.ex 0)
    (fun st => st.H 11408 = none ∧ st.ρ 0 = .p 0 0 3 0 0 ∧ st.ρ 2 = .p 16 1 3 0 0 ∧ st.ρ 3 = .p 1152 2 3 0 0 ∧ st.H 16 = some (1, ⟨29, 3, false, [[.c (.int .i64 0), .c (.int .i64 0), .c (.slice none 0 0)]]⟩) ∧ FdX m w h' n st)
    (fun i st => st.ρ 0 = .p 0 0 3 0 0 ∧ st.ρ 2 = .p 16 1 3 0 0 ∧ st.ρ 3 = .p 1152 2 3 0 0 ∧ st.ρ 4 = .c (.int .i64 base) ∧ st.ρ 5 = .c (.int .i64 (i : Int)) ∧ st.H 16 = some (1, ⟨29, 3, false, [[.c (.int .i64 0), .c (.int .i64 0), .c (.slice none 0 0)]]⟩) ∧ FdX m w h' i st)
    n (k + 8) (by omega)
    (by
      rintro i st next hi ⟨q0, q2, q3, q4, q5, H16, c', cv, l, pc, hl, H0, H1, hc⟩ hx
      have hwi := wrap_next hi (by omega : n ≤ 9000000000000000000)
      obtain ⟨s1, d1, f1, s1a, s1b, g1⟩ := c_pick (k + 8) c' (m + 10 + 4 * i) 40 pc (by omega) (by omega) (by omega)
      obtain ⟨s2, d2, f2, g2⟩ := c_one (k + 8) d1 (m + 10 + 4 * i + 2) 12 g1 (by omega) (by omega) (by omega)
      simp [curO, curE] at f1 f2 H0
      obtain ⟨v, hv⟩ : ∃ v, (if s2 = true then -9999 else IntKind.i64.wrap (base + s1)) = v := ⟨_, rfl⟩
      have g3 : d2.P (m + 10 + 4 * (i + 1)) := ⟨g2.by8, g2.len, by have := g2.le; omega⟩
      rcases hc with ⟨ha, rfl⟩ | ⟨ha, tk, rfl, hH⟩
      · subst ha
        simp at hl
        subst hl
        cases s2
        · simp at hv
          simp [L170_0, R170_0, R170_1, R170_2, R170_3, R170_4, R170_5, R170_6, R170_7, R170_8, R170_9, R170_10, R170_11, R170_12, R170_13, R170_14, Try.f170, lpL170_0, lpM170_0, M170_0, q0, q2, q3, q4, q5, H16, H0, H1, hwn, hi, hwi, f1, f2, maxLen]
          refine hx _ ⟨?_, ?_, ?_, ?_, ?_, ?_, d2, .s 9304 (st.tick + 1 + 1 + 1) 1 0 (1), [v], g3, by simp, ?_, ?_, .inr ⟨by simp, st.tick + 1 + 1 + 1, ?_, ?_⟩⟩ <;> simp [q0, q2, q3, q4, q5, H16, H1, intsO, ints, curO, curE, hv, wrap_1]
        · simp at hv
          simp [L170_0, R170_0, R170_1, R170_2, R170_3, R170_4, R170_5, R170_6, R170_7, R170_8, R170_9, R170_10, R170_11, R170_12, R170_13, R170_14, Try.f170, lpL170_0, lpM170_0, M170_0, q0, q2, q3, q4, q5, H16, H0, H1, hwn, hi, hwi, f1, f2, maxLen]
          refine hx _ ⟨?_, ?_, ?_, ?_, ?_, ?_, d2, .s 9304 (st.tick + 1 + 1 + 1 + 1) 1 0 (1), [v], g3, by simp, ?_, ?_, .inr ⟨by simp, st.tick + 1 + 1 + 1 + 1, ?_, ?_⟩⟩ <;> simp [q0, q2, q3, q4, q5, H16, H1, intsO, ints, curO, curE, hv, wrap_1]
      · have hb1 : (l.length + 1) * 8 ≤ 140737488355328 := by omega
        have hb2 : l.length + 1 ≤ maxLen := by unfold maxLen; omega
        simp [intsO] at hH
        cases s2
        · simp at hv
          simp [L170_0, R170_0, R170_1, R170_2, R170_3, R170_4, R170_5, R170_6, R170_7, R170_8, R170_9, R170_10, R170_11, R170_12, R170_13, R170_14, Try.f170, lpL170_0, lpM170_0, M170_0, q0, q2, q3, q4, q5, H16, H0, H1, hH, hwn, hi, hwi, f1, f2, hb1, hb2, okI]
          refine hx _ ⟨?_, ?_, ?_, ?_, ?_, ?_, d2, .s 9304 (st.tick + 1 + 1 + 1) 1 0 (l.length + 1), l ++ [v], g3, by simp [hl], ?_, ?_, .inr ⟨by simp, st.tick + 1 + 1 + 1, ?_, ?_⟩⟩ <;> simp [q0, q2, q3, q4, q5, H16, H1, intsO, curO, curE, hv, wrap_1]
        · simp at hv
          simp [L170_0, R170_0, R170_1, R170_2, R170_3, R170_4, R170_5, R170_6, R170_7, R170_8, R170_9, R170_10, R170_11, R170_12, R170_13, R170_14, Try.f170, lpL170_0, lpM170_0, M170_0, q0, q2, q3, q4, q5, H16, H0, H1, hH, hwn, hi, hwi, f1, f2, hb1, hb2, okI]
          refine hx _ ⟨?_, ?_, ?_, ?_, ?_, ?_, d2, .s 9304 (st.tick + 1 + 1 + 1 + 1) 1 0 (l.length + 1), l ++ [v], g3, by simp [hl], ?_, ?_, .inr ⟨by simp, st.tick + 1 + 1 + 1 + 1, ?_, ?_⟩⟩ <;> simp [q0, q2, q3, q4, q5, H16, H1, intsO, curO, curE, hv, wrap_1])
    (by
      rintro st next ⟨q0, q2, q3, q4, q5, H16, c', cv, l, pc, hl, H0, H1, hc⟩
      rcases hc with ⟨ha, rfl⟩ | ⟨ha, tk, rfl, hH⟩
      · subst ha
        simp at hl
        omega
      · simp [curO, curE] at H0
        simp [intsO] at hH
        simp [L170_0, R170_0, R170_1, R170_2, R170_3, R170_4, R170_5, R170_6, R170_7, R170_8, R170_9, R170_10, R170_11, R170_12, R170_13, R170_14, Try.f170, lpL170_0, lpM170_0, M170_0, q0, q2, q3, q4, q5, H16, H0, H1, hH, hwn]
        exact ⟨c', .s 9304 tk 1 0 l.length, l, pc, hl, by simp [curO, curE, q0, q2, q3, q4, q5, H16, H0, H1, hH], by simp [q0, q2, q3, q4, q5, H16, H0, H1, hH], .inr ⟨ha, tk, rfl, by simp [intsO, q0, q2, q3, q4, q5, H16, H0, H1, hH]⟩⟩)
  simp [R170_0, R170_1, R170_2, R170_3, R170_4, R170_5, R170_6, R170_7, R170_8, R170_9, R170_10, R170_11, R170_12, R170_13, R170_14, Try.f170, lpL170_0, lpM170_0, ints_cons, ints_0, ok_cons, curO, curE, e1, e2, e3, hw1, hw2, hw, hh]
  generalize hr2 : loopRun _ _ _ _ = res
  obtain ⟨s1, rfl, Hn, f0, f2, f3, H16, c4, cv, l, p4, hl, H0, H1, hc⟩ := loop_at hL hr2 ⟨by simp, by simp, by simp, by simp, by simp, by simp, c3, .c (.slice none 0 0), [], ⟨p3.by8, p3.len, by have := p3.le; omega⟩, rfl, by simp [curO, curE], by simp, .inl ⟨rfl, rfl⟩⟩
  rcases hc with ⟨ha, rfl⟩ | ⟨ha, tk, rfl, hH⟩
  · subst ha
    simp at hl
    omega
  have hl0 : 0 < l.length := by omega
  obtain ⟨b5, c5, e5, p5⟩ := c_one (k + 8) c4 (m + 10 + 4 * n) 10 p4 (by omega) (by omega) (by omega)
  obtain ⟨r6, c6, e6, r6a, r6b, p6⟩ := c_pick (k + 8) c5 (m + 10 + 4 * n + 2) l.length p5 (by omega) (by omega) (by omega)
  obtain ⟨i7, hi7, c7, e7, p7⟩ := c_among (k + 8) c6 (m + 10 + 4 * n + 2 + 2) true [9000, -9000, 0] p6 (by omega) (by simp) (by simp) (by omega)
  obtain ⟨v7, hv7⟩ : ∃ b, [(9000 : Int), -9000, 0][i7] = b := ⟨_, rfl⟩
  rw [hv7] at e7
  obtain ⟨j, rfl⟩ : ∃ j : Nat, r6 = j := ⟨r6.toNat, by omega⟩
  have hj : j < l.length := by omega
  obtain ⟨b8, c8, e8, p8⟩ := c_one (k + 8) c7 (m + 10 + 4 * n + 2 + 2 + 2) 24 p7 (by omega) (by omega) (by omega)
  obtain ⟨b9, c9, e9, p9⟩ := c_one (k + 8) c5 (m + 10 + 4 * n + 2) 24 p5 (by omega) (by omega) (by omega)
  have e10 := c_l2Fill (k + 8) 8 8 3 64 (by rfl) (by omega) (by omega) (by omega)
  simp [curO, curE] at e5 e6 e8 e9 H0
  simp [curO, curE, ints] at e7
  simp [intsO] at hH e10
  have lv : ∀ (c : Cur) (q : Nat), c.P q → q ≤ m + 200 → c.P (m + 200) := fun c q h hq => ⟨h.by8, h.len, by have := h.le; omega⟩
  cases b5
  · cases b9
    · refine ⟨w, h', l, c9, ?_, by omega, by omega, lv _ _ p9 (by omega)⟩
      simp [R170_0, R170_1, R170_2, R170_3, R170_4, R170_5, R170_6, R170_7, R170_8, R170_9, R170_10, R170_11, R170_12, R170_13, R170_14, Try.f170, lpL170_0, lpM170_0, M170_0, ints_cons, ints_0, ok_cons, Hn, f0, f2, f3, H16, H0, H1, hH, e5, e9, curO, curE, intsO]
    · refine ⟨8, 8, List.replicate 64 3, c9, ?_, by simp, by simp, lv _ _ p9 (by omega)⟩
      simp [R170_0, R170_1, R170_2, R170_3, R170_4, R170_5, R170_6, R170_7, R170_8, R170_9, R170_10, R170_11, R170_12, R170_13, R170_14, Try.f170, lpL170_0, lpM170_0, M170_0, ints_cons, ints_0, ok_cons, Hn, f0, f2, f3, H16, H0, H1, hH, e5, e9, e10, curO, curE, intsO]
  · cases b8
    · refine ⟨w, h', l.set j v7, c8, ?_, by simp; omega, by simp; omega, lv _ _ p8 (by omega)⟩
      simp [R170_0, R170_1, R170_2, R170_3, R170_4, R170_5, R170_6, R170_7, R170_8, R170_9, R170_10, R170_11, R170_12, R170_13, R170_14, Try.f170, lpL170_0, lpM170_0, M170_0, ints_cons, ints_0, ok_cons, Hn, f0, f2, f3, H16, H0, H1, hH, e5, e6, e7, e8, hj, curO, curE, intsO]
    · refine ⟨8, 8, List.replicate 64 3, c8, ?_, by simp, by simp, lv _ _ p8 (by omega)⟩
      simp [R170_0, R170_1, R170_2, R170_3, R170_4, R170_5, R170_6, R170_7, R170_8, R170_9, R170_10, R170_11, R170_12, R170_13, R170_14, Try.f170, lpL170_0, lpM170_0, M170_0, ints_cons, ints_0, ok_cons, Hn, f0, f2, f3, H16, H0, H1, hH, e5, e6, e7, e8, e10, hj, curO, curE, intsO]

end Go.Proofs.Ytfdlllhcjfhknaa.Eng
