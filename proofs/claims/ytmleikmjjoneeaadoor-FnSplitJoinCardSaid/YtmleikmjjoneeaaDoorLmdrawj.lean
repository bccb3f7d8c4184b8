/- A deterministic reading of Go code over plain data: what functions of the program compute. No conditions. -/
import Derived.Test.YtmleikmjjoneeaaDoorLmbase
import Derived.Test.YtmleikmjjoneeaaDoorLmimpl
import Derived.Test.YtmleikmjjoneeaaDoorLmgood
import Derived.Test.YtmleikmjjoneeaaDoorLmitoa
import Derived.Test.YtmleikmjjoneeaaDoorLmappendck
import Derived.Test.YtmleikmjjoneeaaDoorLmsplit
import Derived.Test.YtmleikmjjoneeaaDoorLmjoins
import Derived.Test.YtmleikmjjoneeaaDoorLmjoinf
import Derived.Test.YtmleikmjjoneeaaDoorLmdraws
import Derived.Test.YtmleikmjjoneeaaDoorEngT
import Derived.Lib.IndexLaws
import Derived.Lib.Join
namespace Go.Proofs.YtmleikmjjoneeaaDoor.Eng
open Go Go.Proofs
set_option maxRecDepth 100000
set_option maxHeartbeats 2000000
set_option linter.unusedSimpArgs false
set_option linter.unusedVariables false
attribute [local simp] finK fin1 hpOf xi renQ isRoot runCode runOps Eng.step wantedV astep val ofO made loadV storeV find V.cells bin binT binA numT numFs eqCells un1 setAt fieldAddrV fieldV indexAddrV indexV bounds sliceV convV lenV foldV max2V min2V callO bor rdsO wrsO seen_none okD_none loops keepIds resV resultsV St.ev TK.agg refs refsL refsO V.one V.isC Value.oneCell' ren renL renO noTag noTagL noTagR noTagO nodup mapO passV frs psi refsR newD loopNext opsAt idx flatAt rootOf backR newsV appendV copyV clearV strV bytesOf nilCmp buildV fillF chunk
attribute [local simp] cT cF cX cWR cOW cK X ints_length ints_get ints_getElem ints_drop ints_take ints_append ints_nil ints_set
attribute [local simp] ints_replicate
attribute [local simp] putV_some putV_none putH_app applyD_nil applyD_cons seen_app gc_ρ gc_H gc_tick st0_ρ st0_H st0_tick retV callRo callV_if borL_nil borL_cons ints_snoc take_self callWr cutH_app findQ afterV exportV_0 exportV_n okD_nil okD_cons sub_seq0 sub_seq1 sub_cond0 sub_cond1 sub_block sub_loop sub_nil young_far young_none hidW_nil mayW_nil pairs okI ok_0 ok_1 ok_2
attribute [local simp] T3 T4 T5 T9 T22 T28 T39 T40 T42
attribute [local simp] young_near clo cloF Region.binds Nat.testBit hidW declW mayW List.findIdx?_cons
theorem lvJ {c : Cur} {q m : Nat} (h : c.P q) (hq : q ≤ m) : c.P m := ⟨h.by8, h.len, by have := h.le; omega⟩
theorem c_of (k : Nat) (c : Cur) (m : Nat) (b : Bool) (p : List (List UInt8)) (h : c.P m) (hm : m ≤ 1000000000) (h0 : 0 < p.length) (hl : p.length ≤ 1000000000) (hk : 3 ≤ k) : ∃ (i : Nat) (hi : i < p.length) (c' : Cur), callK C k 22 [.p 0 0 3 0 0, .sq b true 1 (strs p)] [curO c] = some (.c (.string (bs p[i])), hpOf [some (curO c')] []) ∧ c'.P (m + 2) := by
  obtain ⟨k, rfl⟩ : ∃ m, k = m + 1 := ⟨k - 1, by omega⟩
  rw [callK_fn rfl F22 code22]
  obtain ⟨r1, c1, e1, r1a, r1b, p1⟩ := c_pick k c m p.length h (by omega) (by omega) (by omega)
  have hlt : r1 < p.length := by omega
  obtain ⟨i, rfl⟩ : ∃ i : Nat, r1 = i := ⟨r1.toNat, by omega⟩
  have hi : i < p.length := by omega
  have nget := strs_get p i hi
  simp [curO, curE] at e1
  refine ⟨i, hi, c1, ?_, p1⟩
  simp [R22_0, R22_1, Tryd.f22, curO, curE, e1, hi, strs_length, strs_at, nget]
theorem c_any1 (k : Nat) (c : Cur) (m : Nat) (h : c.P m) (hm : m ≤ 1000000000) (hk : 20 ≤ k) : ∃ (t : List UInt8) (c' : Cur), callK C k 21 [.p 0 0 3 0 0] [curO c] = some (.c (.string (bs t)), hpOf [some (curO c')] []) ∧ t.length ≤ 100 ∧ c'.P (m + 2) := by
  obtain ⟨k, rfl⟩ : ∃ m, k = m + 1 := ⟨k - 1, by omega⟩
  rw [callK_fn rfl F21 code21]
  obtain ⟨i, hi, c1, e1, p1⟩ := c_of k c m true [[], [97], [97, 44, 98], [115, 111, 109, 101, 32, 119, 111, 114, 100, 115], [120, 35, 121], [45, 49, 50], [0, 255], [44, 44], [48]] h hm (by simp) (by simp) (by omega)
  have hall : ∀ x ∈ ([[], [97], [97, 44, 98], [115, 111, 109, 101, 32, 119, 111, 114, 100, 115], [120, 35, 121], [45, 49, 50], [0, 255], [44, 44], [48]] : List (List UInt8)), x.length ≤ 100 := by decide
  have hlen := hall _ (List.getElem_mem hi)
  obtain ⟨t, ht⟩ : ∃ t, ([[], [97], [97, 44, 98], [115, 111, 109, 101, 32, 119, 111, 114, 100, 115], [120, 35, 121], [45, 49, 50], [0, 255], [44, 44], [48]] : List (List UInt8))[i] = t := ⟨_, rfl⟩
  rw [ht] at hlen e1
  refine ⟨t, c1, ?_, hlen, p1⟩
  simp [curO, curE, strs] at e1
  have hz : ∀ l : List UInt8, bs l = ⟨l.toArray⟩ := fun l => rfl
  simp [hz] at e1
  simp [R21_0, R21_1, Tryd.f21, curO, curE, e1, hz, ok_cons]
theorem bytesOf_zeros : ∀ n : Nat, bytesOf (List.replicate n (V.c (.int .u8 0))) = some (List.replicate n 0)
  | 0 => rfl
  | n + 1 => by
    rw [List.replicate_succ, List.replicate_succ]
    simp [bytesOf, bytesOf_zeros n]
theorem okZ (ty : TypeId) (n : Nat) : okObj ⟨ty, 1, true, List.replicate n [V.c (.int .u8 0)]⟩ = true := by simp [okObj, V.one, V.isC, Value.oneCell']
theorem lenS_snoc (p : List (List UInt8)) (x : List UInt8) : lenS (p ++ [x]) = lenS p + x.length := by simp [lenS]
theorem c_DrawSplitString (k : Nat) (code : List Int) (hb : ∀ x ∈ code, 0 ≤ x ∧ x ≤ 255) (hl : code.length ≤ maxLen) (hk : 100 ≤ k) : ∃ (l t : List UInt8), callK C k 11 [.sq false true 1 (u8s code)] [] = some (.tp [.c (.string (bs l)), .c (.string (bs t))], hpOf [] []) ∧ l.length ≤ 100 ∧ t.length ≤ 100 := by
  obtain ⟨k, rfl⟩ : ∃ m, k = m + 9 := ⟨k - 9, by omega⟩
  rw [callK_fn rfl F11 code11]
  obtain ⟨l, c1, e1, l1, p1⟩ := c_any1 (k + 8) ⟨code, 0, 0⟩ 0 ⟨hb, hl, Nat.le_refl _⟩ (by omega) (by omega)
  obtain ⟨i, hi, c2, e2, p2⟩ := c_of (k + 8) c1 _ true [[44], [44], [32], [], [44, 44]] p1 (by omega) (by simp) (by simp) (by omega)
  have hall : ∀ x ∈ ([[44], [44], [32], [], [44, 44]] : List (List UInt8)), x.length ≤ 100 := by decide
  have hlen := hall _ (List.getElem_mem hi)
  obtain ⟨t, ht⟩ : ∃ t, ([[44], [44], [32], [], [44, 44]] : List (List UInt8))[i] = t := ⟨_, rfl⟩
  rw [ht] at hlen e2
  refine ⟨l, t, ?_, l1, hlen⟩
  have hz : ∀ l : List UInt8, bs l = ⟨l.toArray⟩ := fun l => rfl
  simp [curO, curE] at e1
  simp [curO, curE, strs, hz] at e2
  simp [hz] at e1
  simp [R11_0, R11_1, R11_2, R11_3, Tryd.f11, e1, e2, hz, ok_cons]
theorem c_DrawLessString (k : Nat) (code : List Int) (hb : ∀ x ∈ code, 0 ≤ x ∧ x ≤ 255) (hl : code.length ≤ maxLen) (hk : 100 ≤ k) : ∃ (l t : List UInt8), callK C k 15 [.sq false true 1 (u8s code)] [] = some (.tp [.c (.string (bs l)), .c (.string (bs t))], hpOf [] []) := by
  obtain ⟨k, rfl⟩ : ∃ m, k = m + 9 := ⟨k - 9, by omega⟩
  rw [callK_fn rfl F15 code15]
  obtain ⟨l, c1, e1, l1, p1⟩ := c_any1 (k + 8) ⟨code, 0, 0⟩ 0 ⟨hb, hl, Nat.le_refl _⟩ (by omega) (by omega)
  obtain ⟨t, c2, e2, l2, p2⟩ := c_any1 (k + 8) c1 _ p1 (by omega) (by omega)
  refine ⟨l, t, ?_⟩
  simp [curO, curE] at e1 e2
  simp [R15_0, R15_1, R15_2, R15_3, Tryd.f15, e1, e2]
/-- The list that is drawn, and the cursor. -/
def DjX (m i : Nat) (st : St) : Prop := ∃ (c : Cur) (p : List (List UInt8)) (id tk : Nat), c.P (m + 2 * i) ∧ p.length = i ∧ lenS p ≤ 100 * i ∧ (id = 2064 ∨ id = 7256) ∧ st.ρ 5 = .s id tk 1 0 p.length ∧ st.H id = some (tk, strsO p) ∧ st.ρ 4 = .p 1072 2 3 0 0 ∧ st.H 1072 = some (2, curO c)
theorem c_DrawJoinStrings (k : Nat) (code : List Int) (hb : ∀ x ∈ code, 0 ≤ x ∧ x ≤ 255) (hl : code.length ≤ maxLen) (hk : 1000 ≤ k) : ∃ (p : List (List UInt8)) (t : List UInt8), callK C k 12 [.sq false true 1 (u8s code)] [] = some (.tp [.s 0 2 1 0 p.length, .c (.string (bs t))], hpOf [] [strsO p]) ∧ p.length ≤ 10 ∧ lenS p ≤ 10000 ∧ t.length ≤ 100 := by
  obtain ⟨k, rfl⟩ : ∃ m, k = m + 9 := ⟨k - 9, by omega⟩
  rw [callK_fn rfl F12 code12]
  obtain ⟨r0, c0, e0, r0a, r0b, p0⟩ := c_pick (k + 8) ⟨code, 0, 0⟩ 0 4 ⟨hb, hl, Nat.le_refl _⟩ (by omega) (by omega) (by omega)
  have r04 : r0 < 4 := by omega
  obtain ⟨N, rfl⟩ : ∃ N : Nat, r0 = N := ⟨r0.toNat, by omega⟩
  have hL := loopHas (body := fun st => runCode C (callK C (k + 8)) (k + 8) (K 12) L12_0 1 st) (keep := [4, 5, 6, 7]) (.ex 0) (fun st => DjX (0 + 2) N st)
    (fun i st => st.ρ 6 = .c (.int .i64 (N : Int)) ∧ st.ρ 7 = .c (.int .i64 (i : Int)) ∧ DjX (0 + 2) i st) N (k + 8) (by omega)
    (by
      rintro i st next hi ⟨q6, q7, c, p, id, tk, pc, hp, hls, hid, q5, Hid, q4, H1⟩ hx
      obtain ⟨t, c2, e2, l2, p2⟩ := c_any1 (k + 8) c _ pc (by omega) (by omega)
      have n1 : (p.length + 1) * 16 ≤ 140737488355328 := by omega
      have n2 : p.length + 1 ≤ 9223372036854775807 := by omega
      simp [curO, curE] at e2 H1
      simp [strsO] at Hid
      rcases hid with rfl | rfl
      · simp [L12_0, R12_0, R12_1, R12_2, R12_3, R12_4, R12_5, R12_6, R12_7, R12_8, R12_9, R12_10, Tryd.f12, lpL12_0, lpM12_0, M12_0, q4, q5, q6, q7, H1, Hid, e2, hi, strs_length, strs_take, strs_snoc, okS, maxLen, n1, n2, wrap_next hi (by omega : N ≤ 9000000000000000000)]
        refine hx _ ⟨by simp [q6], by simp, c2, p ++ [t], 7256, st.tick + 1, lvJ p2 (by omega), by simp [hp], by rw [lenS_snoc]; omega, .inr rfl, ?_, ?_, ?_, ?_⟩
        all_goals simp [q4, strsO, curO, curE]
      · simp [L12_0, R12_0, R12_1, R12_2, R12_3, R12_4, R12_5, R12_6, R12_7, R12_8, R12_9, R12_10, Tryd.f12, lpL12_0, lpM12_0, M12_0, q4, q5, q6, q7, H1, Hid, e2, hi, strs_length, strs_take, strs_snoc, okS, maxLen, n1, n2, wrap_next hi (by omega : N ≤ 9000000000000000000)]
        refine hx _ ⟨by simp [q6], by simp, c2, p ++ [t], 7256, st.tick + 1, lvJ p2 (by omega), by simp [hp], by rw [lenS_snoc]; omega, .inr rfl, ?_, ?_, ?_, ?_⟩
        all_goals simp [q4, strsO, curO, curE])
    (by
      rintro st next ⟨q6, q7, c, p, id, tk, pc, hp, hls, hid, q5, Hid, q4, H1⟩
      simp [L12_0, R12_0, R12_1, R12_2, R12_3, R12_4, R12_5, R12_6, R12_7, R12_8, R12_9, R12_10, Tryd.f12, lpL12_0, lpM12_0, M12_0, q6, q7]
      exact ⟨c, p, id, tk, pc, hp, hls, hid, by simp [q5], by rcases hid with rfl | rfl <;> simp [q4, q5, Hid], by simp [q4], by simp [q4, q5, H1]⟩)
  simp [curO, curE] at e0
  simp [R12_0, R12_1, R12_2, R12_3, R12_4, R12_5, R12_6, R12_7, R12_8, R12_9, R12_10, Tryd.f12, lpL12_0, lpM12_0, curO, curE, e0]
  generalize hr2 : loopRun _ _ _ _ = res
  obtain ⟨s1, rfl, c1, p, id, tk, pc, hp, hls, hid, q5, Hid, q4, H1⟩ := loop_at hL hr2 ⟨by simp, by simp, c0, [], 2064, 3, p0, rfl, by simp [lenS], .inl rfl, by simp, by simp [strsO, strs], by simp, by simp [curO, curE]⟩
  obtain ⟨b2, c2, e2, p2⟩ := c_one (k + 8) c1 _ 20 pc (by omega) (by omega) (by omega)
  obtain ⟨r3, c3, e3, r3a, r3b, p3⟩ := c_pick (k + 8) c2 _ 20 p2 (by omega) (by omega) (by omega)
  have hz : ∀ l : List UInt8, bs l = ⟨l.toArray⟩ := fun l => rfl
  have hall : ∀ x ∈ ([[44], [59], [59], [], [97, 98]] : List (List UInt8)), x.length ≤ 100 := by decide
  simp [curO, curE] at e2 e3 H1
  simp [strsO] at Hid
  cases b2
  · obtain ⟨i4, hi4, c4, e4, p4⟩ := c_of (k + 8) c2 _ true [[44], [59], [59], [], [97, 98]] p2 (by omega) (by simp) (by simp) (by omega)
    have hlen := hall _ (List.getElem_mem hi4)
    obtain ⟨t, ht⟩ : ∃ t, ([[44], [59], [59], [], [97, 98]] : List (List UInt8))[i4] = t := ⟨_, rfl⟩
    rw [ht] at hlen e4
    refine ⟨p, t, ?_, by omega, by omega, hlen⟩
    simp [curO, curE, strs, hz] at e4
    rcases hid with rfl | rfl <;> simp [R12_0, R12_1, R12_2, R12_3, R12_4, R12_5, R12_6, R12_7, R12_8, R12_9, R12_10, Tryd.f12, lpL12_0, lpM12_0, M12_0, q4, q5, H1, Hid, e2, e4, hz, strsO, strs_length, ok_cons]
  · obtain ⟨i4, hi4, c4, e4, p4⟩ := c_of (k + 8) c3 _ true [[44], [59], [59], [], [97, 98]] p3 (by omega) (by simp) (by simp) (by omega)
    have hlen := hall _ (List.getElem_mem hi4)
    obtain ⟨t, ht⟩ : ∃ t, ([[44], [59], [59], [], [97, 98]] : List (List UInt8))[i4] = t := ⟨_, rfl⟩
    rw [ht] at hlen e4
    obtain ⟨n3, rfl⟩ : ∃ n : Nat, r3 = n := ⟨r3.toNat, by omega⟩
    have w1 : IntKind.i64.wrap (3990 + (n3 : Int)) = ((3990 + n3 : Nat) : Int) := by rw [wrap_small (by omega) (by omega)]; omega
    obtain ⟨M, hM⟩ : ∃ M, 3990 + n3 = M := ⟨_, rfl⟩
    rw [hM] at w1
    have b1 : (0 : Int) ≤ (M : Int) := by omega
    have b2 : (M : Int) ≤ 17592186044416 := by omega
    have b3 : (M : Int) ≤ 140737488355328 := by omega
    have n1 : (p.length + 1) * 16 ≤ 140737488355328 := by omega
    have n2 : p.length + 1 ≤ 9223372036854775807 := by omega
    refine ⟨p ++ [List.replicate M 0], t, ?_, by simp; omega, by rw [lenS_snoc, List.length_replicate]; omega, hlen⟩
    simp [curO, curE, strs, hz] at e4
    have hsn : strs p ++ [[V.c (.string ⟨Array.replicate M (0 : UInt8)⟩)]] = strs (p ++ [List.replicate M 0]) := by
      have e : (⟨Array.replicate M (0 : UInt8)⟩ : ByteArray) = bs (List.replicate M 0) := by simp [bs]
      rw [e]; exact strs_snoc p _
    rcases hid with rfl | rfl <;> simp [R12_0, R12_1, R12_2, R12_3, R12_4, R12_5, R12_6, R12_7, R12_8, R12_9, R12_10, Tryd.f12, lpL12_0, lpM12_0, M12_0, q4, q5, H1, Hid, e2, e3, w1, b1, b2, b3, okZ, okS, e4, hz, maxLen, n1, n2, bytesOf_zeros, hsn, ok_cons, strsO, strs_length, strs_take]

end Go.Proofs.YtmleikmjjoneeaaDoor.Eng
