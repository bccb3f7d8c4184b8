/- A deterministic reading of Go code over plain data: what functions of the program compute. No conditions. -/
import Derived.Test.YthbekdccfleaoaaDoorLmbase
import Derived.Test.YthbekdccfleaoaaDoorLmimpl
import Derived.Test.YthbekdccfleaoaaDoorLmgood
import Derived.Test.YthbekdccfleaoaaDoorLmconv
import Derived.Test.YthbekdccfleaoaaDoorLmdraws
import Derived.Test.YthbekdccfleaoaaDoorEngT
namespace Go.Proofs.YthbekdccfleaoaaDoor.Eng
open Go Go.Proofs
set_option maxRecDepth 100000
set_option maxHeartbeats 2000000
set_option linter.unusedSimpArgs false
set_option linter.unusedVariables false
attribute [local simp] finK fin1 hpOf xi renQ isRoot runCode runOps Eng.step wantedV astep val ofO made loadV storeV find V.cells bin binT un1 setAt fieldAddrV fieldV indexAddrV indexV bounds sliceV convV lenV foldV max2V min2V callO bor rdsO wrsO seen_none okD_none loops keepIds resV resultsV St.ev TK.agg refs refsL refsO V.one V.isC Value.oneCell' ren renL renO noTag noTagL noTagR noTagO nodup mapO passV frs psi refsR newD loopNext opsAt idx flatAt rootOf backR newsV appendV copyV clearV strV bytesOf nilCmp buildV fillF chunk
attribute [local simp] cT cF cX cWR cOW cK X ints_length ints_get ints_getElem ints_drop ints_take ints_append ints_nil ints_set
attribute [local simp] ints_replicate
attribute [local simp] putV_some putV_none putH_app applyD_nil applyD_cons seen_app gc_ρ gc_H gc_tick st0_ρ st0_H st0_tick retV callRo callV_if borL_nil borL_cons ints_snoc take_self callWr cutH_app findQ afterV exportV_0 exportV_n okD_nil okD_cons sub_seq0 sub_seq1 sub_cond0 sub_cond1 sub_block sub_loop sub_nil young_far young_none hidW_nil mayW_nil pairs okI ok_0 ok_1 ok_2
attribute [local simp] T3 T4 T5 T9 T22 T28 T41 T45 T89 T97 T102 T103 T105 T120 T126 T137 T141 T143 T144
attribute [local simp] young_near clo cloF Region.binds Nat.testBit hidW declW mayW List.findIdx?_cons
theorem P_le {c : Cur} {m m' : Nat} (h : c.P m) (hm : m ≤ m') : c.P m' := ⟨h.by8, h.len, by have := h.le; omega⟩
theorem wl0 : IntKind.i64.wrap 0 = 0 := rfl
theorem wl1 : IntKind.i64.wrap 1 = 1 := rfl
theorem wl2 : IntKind.i64.wrap 2 = 2 := rfl
theorem wl6 : IntKind.i64.wrap 6 = 6 := rfl
theorem wl7 : IntKind.i64.wrap 7 = 7 := rfl
theorem wl8 : IntKind.i64.wrap 8 = 8 := rfl
theorem wl13 : IntKind.i64.wrap 13 = 13 := rfl
theorem wl14 : IntKind.i64.wrap 14 = 14 := rfl
theorem wl15 : IntKind.i64.wrap 15 = 15 := rfl
theorem c_unitDr (k : Nat) (c : Cur) (m : Nat) (h : c.P m) (hm : m ≤ 100000000) (hk : 30 ≤ k) : ∃ (u : Int) (c' : Cur), callK C k 114 [.p 0 0 3 0 0] [curO c] = some (.c (.int .i64 u), hpOf [some (curO c')] []) ∧ c'.P (m + 4) := by
  obtain ⟨k, rfl⟩ : ∃ m, k = m + 9 := ⟨k - 9, by omega⟩
  rw [callK_fn rfl F114 code114]
  obtain ⟨b1, c1, e1, p1⟩ := c_one (k + 8) c m 20 h (by omega) (by omega) (by omega)
  obtain ⟨i2, hi2, c2, e2, p2⟩ := c_among (k + 8) c1 _ true [0, 9] p1 (by omega) (by simp) (by simp) (by omega)
  obtain ⟨v2, hv2⟩ : ∃ b, [(0 : Int), 9][i2] = b := ⟨_, rfl⟩
  rw [hv2] at e2
  obtain ⟨r3, c3, e3, r3a, r3b, p3⟩ := c_pick (k + 8) c1 _ 8 p1 (by omega) (by omega) (by omega)
  simp [curO, curE] at e1 e3
  simp [curO, curE, ints_cons, ints_0] at e2
  cases b1
  · refine ⟨IntKind.i64.wrap (1 + r3), c3, ?_, P_le p3 (by omega)⟩
    simp [R114_0, R114_1, R114_2, R114_3, Tryd.f114, curO, curE, e1, e3]
  · refine ⟨v2, c2, ?_, P_le p2 (by omega)⟩
    simp [R114_0, R114_1, R114_2, R114_3, Tryd.f114, curO, curE, e1, e2, ints_cons, ints_0, ok_cons]
theorem c_tenthsDr (k : Nat) (c : Cur) (m : Nat) (h : c.P m) (hm : m ≤ 100000000) (hk : 30 ≤ k) : ∃ (x : Int) (c' : Cur), callK C k 113 [.p 0 0 3 0 0] [curO c] = some (.c (.int .i64 x), hpOf [some (curO c')] []) ∧ c'.P (m + 4) := by
  obtain ⟨k, rfl⟩ : ∃ m, k = m + 9 := ⟨k - 9, by omega⟩
  rw [callK_fn rfl F113 code113]
  obtain ⟨r1, c1, e1, r1a, r1b, p1⟩ := c_pick (k + 8) c m 24 h (by omega) (by omega) (by omega)
  simp [curO, curE] at e1
  have hj : Int.tdiv r1 11 = 0 ∨ Int.tdiv r1 11 = 1 ∨ Int.tdiv r1 11 = 2 := by
    rw [Int.tdiv_eq_ediv_of_nonneg r1a]; omega
  have hA : ∀ l : List Int, 0 < l.length → l.length ≤ 100 → ∃ v c2, callK C (k + 8) 104 [.p 0 0 3 0 0, .sq true true 1 (ints l)] [curO c1] = some (.c (.int .i64 v), hpOf [some (curO c2)] []) ∧ c2.P (m + 2 + 2) := by
    intro l h0 h1
    obtain ⟨i2, hi2, c2, e2, p2⟩ := c_among (k + 8) c1 _ true l p1 (by omega) h0 (by omega) (by omega)
    exact ⟨_, _, e2, p2⟩
  rcases hj with hj | hj | hj
  · obtain ⟨v, c2, e2, p2⟩ := hA [0, 1, -1, 5, -5, 100, 212, -273, 327, 980, 2731, 99999, -99999] (by simp) (by simp)
    simp [curO, curE, ints_cons, ints_0] at e2
    refine ⟨v, c2, ?_, p2⟩
    simp [R113_0, R113_1, Tryd.f113, curO, curE, ints_cons, ints_0, ok_cons, e1, hj, e2, wl0, wl1, wl2, wl13, wl14, wl15]
  · obtain ⟨v, c2, e2, p2⟩ := hA [0, 1, -1, 5, -5, 100, 212, -273, 327, 980, 2731, 99999, -99999, 100000] (by simp) (by simp)
    simp [curO, curE, ints_cons, ints_0] at e2
    refine ⟨v, c2, ?_, p2⟩
    simp [R113_0, R113_1, Tryd.f113, curO, curE, ints_cons, ints_0, ok_cons, e1, hj, e2, wl0, wl1, wl2, wl13, wl14, wl15]
  · obtain ⟨v, c2, e2, p2⟩ := hA [0, 1, -1, 5, -5, 100, 212, -273, 327, 980, 2731, 99999, -99999, 100000, -100000] (by simp) (by simp)
    simp [curO, curE, ints_cons, ints_0] at e2
    refine ⟨v, c2, ?_, p2⟩
    simp [R113_0, R113_1, Tryd.f113, curO, curE, ints_cons, ints_0, ok_cons, e1, hj, e2, wl0, wl1, wl2, wl13, wl14, wl15]

end Go.Proofs.YthbekdccfleaoaaDoor.Eng
