/- A deterministic reading of Go code over plain data: what functions of the program compute. No conditions. -/
import Derived.Test.YtfdlllhcjfhknaaLmbase
import Derived.Test.YtfdlllhcjfhknaaLmimpl
import Derived.Test.YtfdlllhcjfhknaaLmgood
import Derived.Test.YtfdlllhcjfhknaaLmconv
import Derived.Test.YtfdlllhcjfhknaaLmdraws
import Derived.Test.YtfdlllhcjfhknaaLmdrawc
import Derived.Test.YtfdlllhcjfhknaaLmconv2
import Derived.Test.YtfdlllhcjfhknaaLmconv3
import Derived.Test.YtfdlllhcjfhknaaEngT
namespace Go.Proofs.Ytfdlllhcjfhknaa.Eng
open Go Go.Proofs
set_option maxRecDepth 100000
set_option maxHeartbeats 2000000
set_option linter.unusedSimpArgs false
set_option linter.unusedVariables false
attribute [local simp] finK fin1 hpOf xi renQ isRoot runCode runOps Eng.step wantedV astep val ofO made loadV storeV find V.cells bin binT un1 setAt fieldAddrV fieldV indexAddrV indexV bounds sliceV convV lenV foldV max2V min2V callO bor rdsO wrsO seen_none okD_none loops keepIds resV resultsV St.ev TK.agg refs refsL refsO V.one V.isC Value.oneCell' ren renL renO noTag noTagL noTagR noTagO nodup mapO passV frs psi refsR newD loopNext opsAt idx flatAt rootOf backR newsV appendV copyV clearV strV bytesOf nilCmp buildV fillF chunk
attribute [local simp] cT cF cX cWR cOW cK X ints_length ints_get ints_getElem ints_drop ints_take ints_append ints_nil ints_set
attribute [local simp] ints_replicate
attribute [local simp] putV_some putV_none putH_app applyD_nil applyD_cons seen_app gc_ρ gc_H gc_tick st0_ρ st0_H st0_tick retV callRo callV_if borL_nil borL_cons ints_snoc take_self callWr cutH_app findQ afterV exportV_0 exportV_n okD_nil okD_cons sub_seq0 sub_seq1 sub_cond0 sub_cond1 sub_block sub_loop sub_nil young_far young_none hidW_nil mayW_nil pairs okI ok_0 ok_1 ok_2
attribute [local simp] T3 T4 T5 T9 T22 T24 T26 T29 T36 T73 T75 T86 T89 T103 T104 T106 T108 T109 T111 T114 T118 T134 T136 T157 T161 T168
attribute [local simp] young_near clo cloF Region.binds Nat.testBit hidW declW mayW List.findIdx?_cons
theorem c_DrawBeaufortOf (k : Nat) (code : List Int) (hb : ∀ x ∈ code, 0 ≤ x ∧ x ≤ 255) (hl : code.length ≤ maxLen) (hk : 100 ≤ k) : ∃ (x u : Int), callK C k 28 [.sq false true 1 (u8s code)] [] = some (.tp [.c (.int .i64 x), .c (.int .i64 u)], hpOf [] []) := by
  obtain ⟨k, rfl⟩ : ∃ m, k = m + 9 := ⟨k - 9, by omega⟩
  rw [callK_fn rfl F28 code28]
  obtain ⟨i1, hi1, c1, e1, p1⟩ := c_among (k + 8) ⟨code, 0, 0⟩ 0 true [4, 5, 6, 4, 1, 9] ⟨hb, hl, Nat.le_refl _⟩ (by omega) (by simp) (by simp) (by omega)
  obtain ⟨u, hu⟩ : ∃ b, [(4 : Int), 5, 6, 4, 1, 9][i1] = b := ⟨_, rfl⟩
  rw [hu] at e1
  obtain ⟨r2, c2, e2, r2a, r2b, p2⟩ := c_pick (k + 8) c1 _ 13 p1 (by omega) (by omega) (by omega)
  obtain ⟨r3, c3, e3, r3a, r3b, p3⟩ := c_pick (k + 8) c2 _ 2 p2 (by omega) (by omega) (by omega)
  obtain ⟨r4, c4, e4, r4a, r4b, p4⟩ := c_pick (k + 8) c3 _ 3 p3 (by omega) (by omega) (by omega)
  simp [curO, curE] at e2 e3 e4
  simp [curO, curE, ints_cons, ints_0] at e1
  obtain ⟨j, rfl⟩ : ∃ j : Nat, r2 = j := ⟨r2.toNat, by omega⟩
  have hj : j < 13 := by omega
  obtain ⟨s0, s1⟩ := spI_le j
  have ws : IntKind.i64.wrap (spI j - r3) = spI j - r3 := wrap_small (by omega) (by omega)
  by_cases h5 : u = 5
  · subst h5
    have cv := c_l3Convert3 (k + 8) (spI j - r3) 4 5 rfl rfl (by omega) (by omega) (by omega)
    refine ⟨IntKind.i64.wrap (IntKind.i64.wrap (cvY (spI j - r3) 4 5 + r4) - 1), 5, ?_⟩
    rcases c13 hj with rfl | rfl | rfl | rfl | rfl | rfl | rfl | rfl | rfl | rfl | rfl | rfl | rfl
    all_goals
      simp [spI, spL] at ws cv
      simp [R28_0, R28_1, R28_2, R28_3, R28_4, R28_5, R28_6, R28_7, Try.f28, ints_cons, ints_0, ok_cons, e1, e2, e3, e4, cv, ws, spI, spL]
  have b5 : (u == 5) = false := by simpa using h5
  by_cases h6 : u = 6
  · subst h6
    have cv := c_l3Convert3 (k + 8) (spI j - r3) 4 6 rfl rfl (by omega) (by omega) (by omega)
    refine ⟨IntKind.i64.wrap (IntKind.i64.wrap (cvY (spI j - r3) 4 6 + r4) - 1), 6, ?_⟩
    rcases c13 hj with rfl | rfl | rfl | rfl | rfl | rfl | rfl | rfl | rfl | rfl | rfl | rfl | rfl
    all_goals
      simp [spI, spL] at ws cv
      simp [R28_0, R28_1, R28_2, R28_3, R28_4, R28_5, R28_6, R28_7, Try.f28, ints_cons, ints_0, ok_cons, e1, e2, e3, e4, cv, ws, spI, spL]
  have b6 : (u == 6) = false := by simpa using h6
  refine ⟨spI j - r3, u, ?_⟩
  rcases c13 hj with rfl | rfl | rfl | rfl | rfl | rfl | rfl | rfl | rfl | rfl | rfl | rfl | rfl
  all_goals
    simp [spI, spL] at ws
    simp [R28_0, R28_1, R28_2, R28_3, R28_4, R28_5, R28_6, R28_7, Try.f28, ints_cons, ints_0, ok_cons, e1, e2, e3, ws, spI, spL, h5, b5, h6, b6]
def CvX (m i : Nat) (st : St) : Prop := ∃ (c : Cur) (a b : Int), c.P (m + 10 + 4 * i) ∧ st.ρ 6 = .c (.int .i64 a) ∧ st.ρ 7 = .c (.int .i64 b) ∧ st.H 1072 = some (2, curO c)
theorem CvX_le {m i j : Nat} {st : St} (h : CvX m i st) (hij : i ≤ j) : CvX m j st := by
  obtain ⟨c, a, b, p, q⟩ := h
  exact ⟨c, a, b, P_le p (by omega), q⟩
theorem c_DrawConvertTenths (k : Nat) (code : List Int) (hb : ∀ x ∈ code, 0 ≤ x ∧ x ≤ 255) (hl : code.length ≤ maxLen) (hk : 100 ≤ k) : ∃ (x a b : Int), callK C k 22 [.sq false true 1 (u8s code)] [] = some (.tp [.c (.int .i64 x), .c (.int .i64 a), .c (.int .i64 b)], hpOf [] []) := by
  obtain ⟨k, rfl⟩ : ∃ m, k = m + 9 := ⟨k - 9, by omega⟩
  rw [callK_fn rfl F22 code22]
  obtain ⟨a0, c0, e0, p0⟩ := c_unitDr (k + 8) ⟨code, 0, 0⟩ 0 ⟨hb, hl, Nat.le_refl _⟩ (by omega) (by omega)
  obtain ⟨b0, c1, e1, p1⟩ := c_unitDr (k + 8) c0 _ p0 (by omega) (by omega)
  simp [curO, curE] at e0 e1
  have hL := loopHas (body := fun st => runCode C (callK C (k + 8)) (k + 8) (K 22) L22_0 1 st) (keep := [5, 6, 7, 8]) (.ex 0) (fun st => st.ρ 5 = .p 1072 2 3 0 0 ∧ CvX 0 9 st)
    (fun i st => st.ρ 5 = .p 1072 2 3 0 0 ∧ st.ρ 8 = .c (.int .i64 (i : Int)) ∧ CvX 0 i st) 8 (k + 8) (by omega)
    (by
      rintro i st next hi ⟨q5, q8, c, a, b, p, q6, q7, H1⟩ hx
      have hi8 : (i : Int) < 8 := by omega
      have hwi := wrap_next hi (by omega : 8 ≤ 9000000000000000000)
      have ua := c_l3Unit3 (k + 8) a (by omega)
      have ub := c_l3Unit3 (k + 8) b (by omega)
      have ka := c_l3Kind3 (k + 8) a (by omega)
      have kb := c_l3Kind3 (k + 8) b (by omega)
      obtain ⟨t4, c4, e4, p4⟩ := c_one (k + 8) c _ 12 p (by omega) (by omega) (by omega)
      obtain ⟨r5, c5, e5, _, _, p5⟩ := c_pick (k + 8) c4 _ 8 p4 (by omega) (by omega) (by omega)
      simp [curO, curE] at e4 e5 H1
      cases ha' : uG a
      · rw [ha'] at ua
        simp [L22_0, R22_0, R22_1, R22_2, R22_3, R22_4, R22_5, R22_6, R22_7, R22_8, Try.f22, lpL22_0, lpM22_0, M22_0, q5, q8, q6, q7, H1, hi8, ua]
        exact ⟨c, a, b, P_le p (by omega), by simp [q6], by simp [q7], by simp [q5, q6, q7, q8, H1, curO, curE]⟩
      rw [ha'] at ua
      cases hb' : uG b
      · rw [hb'] at ub
        simp [L22_0, R22_0, R22_1, R22_2, R22_3, R22_4, R22_5, R22_6, R22_7, R22_8, Try.f22, lpL22_0, lpM22_0, M22_0, q5, q8, q6, q7, H1, hi8, ua, ub]
        exact ⟨c, a, b, P_le p (by omega), by simp [q6], by simp [q7], by simp [q5, q6, q7, q8, H1, curO, curE]⟩
      rw [hb'] at ub
      by_cases hk1 : kI a = kI b
      · obtain ⟨k1, k2, k3, k4⟩ := kI_same a b hk1
        simp [L22_0, R22_0, R22_1, R22_2, R22_3, R22_4, R22_5, R22_6, R22_7, R22_8, Try.f22, lpL22_0, lpM22_0, M22_0, q5, q8, q6, q7, H1, hi8, ua, ub, ka, kb, hk1, k1, k4]
        exact ⟨c, a, b, P_le p (by omega), by simp [q6], by simp [q7], by simp [q5, q6, q7, q8, H1, curO, curE]⟩
      · obtain ⟨k1, k2, k3, k4, k5⟩ := kI_not a b hk1
        cases t4
        · simp [L22_0, R22_0, R22_1, R22_2, R22_3, R22_4, R22_5, R22_6, R22_7, R22_8, Try.f22, lpL22_0, lpM22_0, M22_0, q5, q8, q6, q7, H1, hi8, ua, ub, ka, kb, hk1, k1, k4, e4, e5, hwi]
          refine hx _ ⟨?_, ?_, c5, a, IntKind.i64.wrap (1 + r5), P_le p5 (by omega), ?_, ?_, ?_⟩ <;> simp [q5, q6, q7, H1, curO, curE]
        · simp [L22_0, R22_0, R22_1, R22_2, R22_3, R22_4, R22_5, R22_6, R22_7, R22_8, Try.f22, lpL22_0, lpM22_0, M22_0, q5, q8, q6, q7, H1, hi8, ua, ub, ka, kb, hk1, k1, k4, e4]
          exact ⟨c4, a, b, P_le p4 (by omega), by simp [q6], by simp [q7], by simp [q5, q6, q7, q8, H1, curO, curE]⟩)
    (by
      rintro st next ⟨q5, q8, c, a, b, p, q6, q7, H1⟩
      simp [curO, curE] at H1
      simp [L22_0, R22_0, R22_1, R22_2, R22_3, R22_4, R22_5, R22_6, R22_7, R22_8, Try.f22, lpL22_0, lpM22_0, M22_0, q5, q8, q6, q7, H1]
      exact ⟨c, a, b, P_le p (by omega), by simp [q6], by simp [q7], by simp [q5, q6, q7, q8, H1, curO, curE]⟩)
  simp [R22_0, R22_1, R22_2, R22_3, R22_4, R22_5, R22_6, R22_7, R22_8, Try.f22, lpL22_0, lpM22_0, e0, e1]
  generalize hr2 : loopRun _ _ _ _ = res
  obtain ⟨s1, rfl, f5, c, a, b, p, f6, f7, H1⟩ := loop_at hL hr2 ⟨by simp, by simp, c1, a0, b0, P_le p1 (by omega), by simp, by simp, by simp [curO, curE]⟩
  obtain ⟨x, c2, e2, p2⟩ := c_tenthsDr (k + 8) c _ p (by omega) (by omega)
  obtain ⟨r3, c3, e3, _, _, p3⟩ := c_pick (k + 8) c2 _ 20 p2 (by omega) (by omega) (by omega)
  simp [curO, curE] at e2 e3 H1
  refine ⟨IntKind.i64.wrap (IntKind.i64.wrap (x + r3) - 10), a, b, ?_⟩
  simp [R22_0, R22_1, R22_2, R22_3, R22_4, R22_5, R22_6, R22_7, R22_8, Try.f22, lpL22_0, lpM22_0, M22_0, f5, f6, f7, H1, e2, e3]

end Go.Proofs.Ytfdlllhcjfhknaa.Eng
