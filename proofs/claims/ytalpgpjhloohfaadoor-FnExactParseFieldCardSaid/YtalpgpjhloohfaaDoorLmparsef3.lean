/- A deterministic reading of Go code over plain data: what functions of the program compute. No conditions. -/
import Derived.Test.YtalpgpjhloohfaaDoorLmbase
import Derived.Test.YtalpgpjhloohfaaDoorLmimpl
import Derived.Test.YtalpgpjhloohfaaDoorLmgood
import Derived.Test.YtalpgpjhloohfaaDoorLmitoa
import Derived.Test.YtalpgpjhloohfaaDoorLmappendck
import Derived.Test.YtalpgpjhloohfaaDoorLmquantity
import Derived.Test.YtalpgpjhloohfaaDoorLmsplit
import Derived.Test.YtalpgpjhloohfaaDoorLmnumtext
import Derived.Test.YtalpgpjhloohfaaDoorLmjoins
import Derived.Test.YtalpgpjhloohfaaDoorLmjoinf
import Derived.Test.YtalpgpjhloohfaaDoorLmcuts
import Derived.Test.YtalpgpjhloohfaaDoorLmsplitf
import Derived.Test.YtalpgpjhloohfaaDoorLmpfield
import Derived.Test.YtalpgpjhloohfaaDoorLmpfield2
import Derived.Test.YtalpgpjhloohfaaDoorLmfield
import Derived.Test.YtalpgpjhloohfaaDoorLmparsef
import Derived.Test.YtalpgpjhloohfaaDoorLmparsef2
import Derived.Test.YtalpgpjhloohfaaDoorEngT
import Derived.Lib.IndexLaws
namespace Go.Proofs.YtalpgpjhloohfaaDoor.Eng
open Go Go.Proofs
set_option maxRecDepth 100000
set_option maxHeartbeats 2000000
set_option linter.unusedSimpArgs false
set_option linter.unusedVariables false
attribute [local simp] finK fin1 hpOf xi renQ isRoot runCode runOps Eng.step wantedV astep val ofO made loadV storeV find V.cells bin binT binA numT numFs eqCells un1 setAt fieldAddrV fieldV indexAddrV indexV bounds sliceV convV lenV foldV max2V min2V callO bor rdsO wrsO seen_none okD_none loops keepIds resV resultsV St.ev TK.agg refs refsL refsO V.one V.isC Value.oneCell' ren renL renO noTag noTagL noTagR noTagO nodup mapO passV frs psi refsR newD loopNext opsAt idx flatAt rootOf backR newsV appendV copyV clearV strV bytesOf nilCmp buildV fillF chunk
attribute [local simp] cT cF cX cWR cOW cK X ints_length ints_get ints_getElem ints_drop ints_take ints_append ints_nil ints_set
attribute [local simp] ints_replicate
attribute [local simp] putV_some putV_none putH_app applyD_nil applyD_cons seen_app gc_ρ gc_H gc_tick st0_ρ st0_H st0_tick retV callRo callV_if borL_nil borL_cons ints_snoc take_self callWr cutH_app findQ afterV exportV_0 exportV_n okD_nil okD_cons sub_seq0 sub_seq1 sub_cond0 sub_cond1 sub_block sub_loop sub_nil young_far young_none hidW_nil mayW_nil pairs okI ok_0 ok_1 ok_2
attribute [local simp] T3 T4 T5 T9 T22 T28 T57 T70 T72
attribute [local simp] young_near clo cloF Region.binds Nat.testBit hidW declW mayW List.findIdx?_cons
def PfL (L : List (List UInt8)) (j : Nat) (st : St) : Prop := ∃ W acc, preI L j = some (W, acc) ∧ acc.length ≤ 1000 * j ∧ W ≤ 1000 ∧ PfX L W acc st ∧ st.ρ 30 = .c (.int .i64 (j : Int))
theorem pfL_step (k : Nat) (L : List (List UInt8)) (j : Nat) (hj : j < L.length) (hL : L.length ≤ 1000) (hb : ∀ x ∈ L, x.length ≤ 999) (hk : 3000 ≤ k) (st : St) (next : St → Option (Ex × St)) (hI : PfL L j st) :
    (∃ st', loopNext (runCode C (callK C k) k (K 25) L25_0 1 (gc [2, 5, 28, 29, 30] st)) next = next st' ∧ PfL L (j + 1) st') ∨
    (preI L (j + 1) = none ∧ ∃ s, loopNext (runCode C (callK C k) k (K 25) L25_0 1 (gc [2, 5, 28, 29, 30] st)) next = some (.ret, s) ∧ PfN s) := by
  obtain ⟨W, acc, hp, ha, hW, hP, q30⟩ := hI
  have hs := preI_succ L j hj
  rw [hp] at hs
  rcases pf_line k L W j acc hj hL hb (by omega) (by omega) hk st next hP q30 with ⟨W', acc', e, st', e2, h1, h2⟩ | ⟨e, s, e2, h1⟩
  · left
    rw [e] at hs
    refine ⟨st', e2, W', acc', hs, ?_, ?_, h1, h2⟩
    · simp only [stI] at e
      split at e
      · cases e
      · split at e
        · cases e
        · rename_i a hra
          simp only [Option.some.injEq, Prod.mk.injEq] at e
          obtain ⟨_, rfl⟩ := e
          have := rowP_len hra
          have := split_short L[j] 32
          have := hb _ (List.getElem_mem hj)
          rw [List.length_append]
          omega
    · simp only [stI] at e
      split at e
      · cases e
      · split at e
        · cases e
        · simp only [Option.some.injEq, Prod.mk.injEq] at e
          have := split_short L[j] 32
          have := hb _ (List.getElem_mem hj)
          omega
  · right
    rw [e] at hs
    exact ⟨hs, s, e2, h1⟩
theorem preI_pre {L : List (List UInt8)} {q : Nat × List Int} (h : preI L L.length = some q) : ∀ d j, j + d = L.length → ∃ r, preI L j = some r
  | 0, j, e => ⟨q, by rw [show j = L.length by omega]; exact h⟩
  | d + 1, j, e => by
    obtain ⟨r, hr⟩ := preI_pre h d (j + 1) (by omega)
    rw [preI_succ L j (by omega)] at hr
    cases hc : preI L j with
    | none => rw [hc] at hr; cases hr
    | some c => exact ⟨c, rfl⟩
theorem pf_outer (k : Nat) (L : List (List UInt8)) (hL : L.length ≤ 1000) (hb : ∀ x ∈ L, x.length ≤ 999) (hk : 3000 ≤ k) :
    (∀ W c, preI L L.length = some (W, c) → ∀ st, PfL L 0 st → ∃ s, loopRun (fun st => runCode C (callK C k) k (K 25) L25_0 1 st) [2, 5, 28, 29, 30] k st = some (.ex 0, s) ∧ PfX L W c s) ∧
    (preI L L.length = none → ∀ st, PfL L 0 st → ∃ s, loopRun (fun st => runCode C (callK C k) k (K 25) L25_0 1 st) [2, 5, 28, 29, 30] k st = some (.ret, s) ∧ PfN s) := by
  constructor
  · intro W c hW
    exact loopHas (body := fun st => runCode C (callK C k) k (K 25) L25_0 1 st) (keep := [2, 5, 28, 29, 30]) (.ex 0) (fun st => PfX L W c st) (PfL L) L.length k (by omega)
      (by
        intro j st next hj hI hx
        rcases pfL_step k L j hj hL hb hk st next hI with ⟨st', e, h⟩ | ⟨hn, _⟩
        · rw [e]; exact hx st' h
        · obtain ⟨b, hb⟩ := preI_pre hW (L.length - (j + 1)) (j + 1) (by omega)
          rw [hn] at hb; cases hb)
      (by
        rintro st next ⟨W', c', hp, _, _, ⟨q2, q5, q28, q29, H16, H3, v, H4, hG⟩, q30⟩
        rw [hW] at hp
        simp only [Option.some.injEq, Prod.mk.injEq] at hp
        obtain ⟨rfl, rfl⟩ := hp
        simp [strsO] at H3
        simp [fzO] at H16
        rcases hG with ⟨hb, rfl⟩ | ⟨hb, tk, rfl, hH⟩
        · simp [L25_0, R25_0, R25_1, R25_2, R25_3, R25_4, R25_5, R25_6, R25_7, R25_8, R25_9, R25_10, R25_11, R25_12, R25_13, R25_14, R25_15, R25_16, R25_17, R25_18, R25_19, R25_20, R25_21, R25_22, R25_23, R25_24, R25_25, R25_26, R25_27, Tryd.f25, lpL25_0, lpL25_1, lpM25_0, lpM25_1, M25_0, M25_1, q2, q5, q28, q29, q30, H16, H3, H4]
          exact ⟨by simp [q2], by simp [q5], by simp [q28], by simp [q29], by simp [q2, q5, q28, q29, q30, H16, H3, H4, fzO], by simp [q2, q5, q28, q29, q30, H16, H3, H4, strsO], _, by simp [q2, q5, q28, q29, q30, H16, H3, H4] <;> rfl, .inl ⟨hb, rfl⟩⟩
        · simp [intsO] at hH
          simp [L25_0, R25_0, R25_1, R25_2, R25_3, R25_4, R25_5, R25_6, R25_7, R25_8, R25_9, R25_10, R25_11, R25_12, R25_13, R25_14, R25_15, R25_16, R25_17, R25_18, R25_19, R25_20, R25_21, R25_22, R25_23, R25_24, R25_25, R25_26, R25_27, Tryd.f25, lpL25_0, lpL25_1, lpM25_0, lpM25_1, M25_0, M25_1, q2, q5, q28, q29, q30, H16, H3, H4, hH]
          exact ⟨by simp [q2], by simp [q5], by simp [q28], by simp [q29], by simp [q2, q5, q28, q29, q30, H16, H3, H4, hH, fzO], by simp [q2, q5, q28, q29, q30, H16, H3, H4, hH, strsO], _, by simp [q2, q5, q28, q29, q30, H16, H3, H4, hH] <;> rfl, .inr ⟨hb, _, rfl, by simp [q2, q5, q28, q29, q30, H16, H3, H4, hH, intsO]⟩⟩)
  · intro hW
    exact loopHas (body := fun st => runCode C (callK C k) k (K 25) L25_0 1 st) (keep := [2, 5, 28, 29, 30]) .ret PfN (PfL L) L.length k (by omega)
      (by
        intro j st next hj hI hx
        rcases pfL_step k L j hj hL hb hk st next hI with ⟨st', e, h⟩ | ⟨_, s, e, h⟩
        · rw [e]; exact hx st' h
        · rw [e]; exact ⟨s, rfl, h⟩)
      (by
        rintro st next ⟨W', c', hp, _⟩
        rw [hW] at hp
        cases hp)
/-- What ParseField gives. -/
def pfRes : Option (Nat × Nat × List Int) → Option (V × Hp)
  | some (w, h, c) => some (.tp [.ag [.c (.int .i64 (w : Int)), .c (.int .i64 (h : Int)), .s 0 2 1 0 c.length], .c (.bool true)], hpOf [] [intsO c])
  | none => some (.tp [.ag [.c (.int .i64 0), .c (.int .i64 0), .c (.slice none 0 0)], .c (.bool false)], hpOf [] [])
theorem c_IsValidNil (k : Nat) (w h : Int) (hk : 200 ≤ k) : callK C k 32 [.ag [.c (.int .i64 w), .c (.int .i64 h), .c (.slice none 0 0)]] [] = some (.c (.bool false), hpOf [] []) := by
  obtain ⟨k, rfl⟩ : ∃ m, k = m + 9 := ⟨k - 9, by omega⟩
  rw [callK_fn rfl F32 code32]
  have w1 := c_within (k + 8) w 1 8 (by omega)
  have w2 := c_within (k + 8) h 1 8 (by omega)
  by_cases a1 : 1 ≤ w ∧ w ≤ 8
  · by_cases a2 : 1 ≤ h ∧ h ≤ 8
    · obtain ⟨b1, b2⟩ := a1
      obtain ⟨b3, b4⟩ := a2
      have hp : 1 * 1 ≤ w * h := Int.mul_le_mul b1 b3 (by omega) (by omega)
      have hq : w * h ≤ 8 * 8 := Int.mul_le_mul b2 b4 (by omega) (by omega)
      have hw : IntKind.i64.wrap (w * h) = w * h := wrap_small (by omega) (by omega)
      have hz : ¬ 0 = w * h := by omega
      have hzb : ((0 : Int) == w * h) = false := by simpa using hz
      simp [R32_0, R32_1, Tryd.f32, undef, w1, w2, b1, b2, b3, b4, hw, hz, hzb]
    · have e : (decide (1 ≤ h) && decide (h ≤ 8)) = false := by
        cases x : (decide (1 ≤ h) && decide (h ≤ 8))
        · rfl
        · simp at x; exact absurd x a2
      obtain ⟨b1, b2⟩ := a1
      rw [e] at w2
      simp [R32_0, R32_1, Tryd.f32, undef, w1, w2, b1, b2]
  · have e : (decide (1 ≤ w) && decide (w ≤ 8)) = false := by
      cases x : (decide (1 ≤ w) && decide (w ≤ 8))
      · rfl
      · simp at x; exact absurd x a1
    rw [e] at w1
    simp [R32_0, R32_1, Tryd.f32, undef, w1]
theorem c_implPF (k : Nat) (s : List UInt8) (h20 : s.length ≤ 1048576) (hk : 4000 ≤ k) : callK C k 25 [.c (.string (bs s))] [] = pfRes (accI s) := by
  obtain ⟨k, rfl⟩ : ∃ m, k = m + 9 := ⟨k - 9, by omega⟩
  rw [callK_fn rfl F25 code25]
  have hS := c_HasSuffix (k + 8) s h20 (by omega)
  by_cases h1 : 384 < s.length
  · have h1' : (384 : Int) < (s.length : Int) := by omega
    have ha : accI s = none := by unfold accI; rw [if_neg (by omega)]
    rw [ha]
    simp [R25_0, R25_1, R25_2, R25_3, R25_4, R25_5, R25_6, R25_7, R25_8, R25_9, R25_10, R25_11, R25_12, R25_13, R25_14, R25_15, R25_16, R25_17, R25_18, R25_19, R25_20, R25_21, R25_22, R25_23, R25_24, R25_25, R25_26, R25_27, Tryd.f25, lpL25_0, lpL25_1, lpM25_0, lpM25_1, M25_0, M25_1, undef, bs_size, h1, h1', pfRes]
  · have h1' : ¬ (384 : Int) < (s.length : Int) := by omega
    cases he : endB s
    · have ha : accI s = none := by
        unfold accI
        have : ¬ s.getLast? = some 10 := by simpa [endB] using he
        rw [if_neg (fun h => this h.2)]
      rw [ha]
      rw [he] at hS
      simp [R25_0, R25_1, R25_2, R25_3, R25_4, R25_5, R25_6, R25_7, R25_8, R25_9, R25_10, R25_11, R25_12, R25_13, R25_14, R25_15, R25_16, R25_17, R25_18, R25_19, R25_20, R25_21, R25_22, R25_23, R25_24, R25_25, R25_26, R25_27, Tryd.f25, lpL25_0, lpL25_1, lpM25_0, lpM25_1, M25_0, M25_1, undef, bs_size, h1, h1', hS, lit1, pfRes]
    · have hl : s.getLast? = some 10 := by simpa [endB] using he
      obtain ⟨L0, rfl⟩ := List.getLast?_eq_some_iff.1 hl
      have hdl : (L0 ++ [10]).dropLast = L0 := by simp
      rw [List.length_append] at h1 h20
      simp only [List.length_cons, List.length_nil] at h1 h20
      have hT := c_TrimSuffix (k + 8) L0 (by omega) (by omega)
      have hP := c_Split (k + 8) L0 10 (by omega) (by omega)
      rw [he] at hS
      have hws := word_short L0 10
      have hwl := split_short L0 10
      have hacc : accI (L0 ++ [10]) = (match preI (splitL L0 10) (splitL L0 10).length with
          | some (w, c) => if goodB w (splitL L0 10).length c = true then some (w, (splitL L0 10).length, c) else none
          | none => none) := by
        unfold accI
        rw [if_pos ⟨by rw [List.length_append]; simp only [List.length_cons, List.length_nil]; omega, hl⟩, hdl]
        generalize preI (splitL L0 10) (splitL L0 10).length = o
        rcases o with _ | ⟨w, c⟩ <;> rfl
      rw [hacc]
      obtain ⟨L, hLe⟩ : ∃ L, splitL L0 10 = L := ⟨_, rfl⟩
      rw [hLe] at hP hws hwl ⊢
      obtain ⟨o1, o2⟩ := pf_outer (k + 8) L (by omega) (fun x hx => by have := hws x hx; omega) (by omega)
      have h3 : ¬ (384 : Int) < (L0.length : Int) + 1 := by omega
      simp [strsO] at hP
      simp [R25_0, R25_1, R25_2, R25_3, R25_4, R25_5, R25_6, R25_7, R25_8, R25_9, R25_10, R25_11, R25_12, R25_13, R25_14, R25_15, R25_16, R25_17, R25_18, R25_19, R25_20, R25_21, R25_22, R25_23, R25_24, R25_25, R25_26, R25_27, Tryd.f25, lpL25_0, lpL25_1, lpM25_0, lpM25_1, undef, bs_size, h1, h3, hS, lit1, hT, hP, strs_length]
      generalize hr : loopRun _ _ _ _ = res
      have hst : ∀ st : St, st.ρ 2 = .p 16 1 3 0 0 → st.ρ 5 = .p 4160 4 3 0 0 → st.ρ 28 = .s 3120 3 1 0 L.length → st.ρ 29 = .c (.int .i64 (L.length : Int)) → st.ρ 30 = .c (.int .i64 0) → st.H 16 = some (1, fzO) → st.H 3120 = some (3, strsO L) → st.H 4160 = some (4, ⟨28, 3, false, [[.c (.int .i64 0), .c (.int .i64 (L.length : Int)), .c (.slice none 0 0)]]⟩) → PfL L 0 st := fun st a1 a2 a3 a4 a5 a6 a7 a8 => ⟨0, [], rfl, by simp, by omega, ⟨a1, a2, a3, a4, a6, a7, _, a8, .inl ⟨rfl, rfl⟩⟩, a5⟩
      cases hp : preI L L.length with
      | none =>
        obtain ⟨s1, rfl, p2, p3, P16⟩ := loop_at (o2 hp) hr (hst _ (by simp) (by simp) (by simp) (by simp) (by simp) (by simp [fzO]) (by simp [strsO]) (by simp))
        simp [fzO] at P16
        simp [R25_0, R25_1, R25_2, R25_3, R25_4, R25_5, R25_6, R25_7, R25_8, R25_9, R25_10, R25_11, R25_12, R25_13, R25_14, R25_15, R25_16, R25_17, R25_18, R25_19, R25_20, R25_21, R25_22, R25_23, R25_24, R25_25, R25_26, R25_27, Tryd.f25, lpL25_0, lpL25_1, lpM25_0, lpM25_1, M25_0, M25_1, p2, p3, P16, pfRes]
      | some q =>
        obtain ⟨w, c⟩ := q
        obtain ⟨s1, rfl, p2, p5, p28, p29, P16, P3, v, P4, pG⟩ := loop_at (o1 w c hp) hr (hst _ (by simp) (by simp) (by simp) (by simp) (by simp) (by simp [fzO]) (by simp [strsO]) (by simp))
        simp [fzO] at P16
        have hV := c_IsValidField (k + 8) true (w : Int) (L.length : Int) c (by omega)
        simp only []
        rcases pG with ⟨hc, rfl⟩ | ⟨hc, tk, rfl, hH⟩
        · subst hc
          have hg : goodB (w : Int) (L.length : Int) [] = false := by
            cases hg : goodB (w : Int) (L.length : Int) []
            · rfl
            · obtain ⟨sh, hcl, _, _⟩ := good_length hg
              obtain ⟨_, _, a1, _, a2, _⟩ := shape_area sh
              have : 1 * 1 ≤ (w : Int) * (L.length : Int) := Int.mul_le_mul a1 a2 (by omega) (by omega)
              simp at hcl
              omega
          have hN := c_IsValidNil (k + 8) (w : Int) (L.length : Int) (by omega)
          rw [hg]
          simp [R25_0, R25_1, R25_2, R25_3, R25_4, R25_5, R25_6, R25_7, R25_8, R25_9, R25_10, R25_11, R25_12, R25_13, R25_14, R25_15, R25_16, R25_17, R25_18, R25_19, R25_20, R25_21, R25_22, R25_23, R25_24, R25_25, R25_26, R25_27, Tryd.f25, lpL25_0, lpL25_1, lpM25_0, lpM25_1, M25_0, M25_1, p2, p5, P16, P4, hN, pfRes]
        · simp [intsO] at hH
          cases hg : goodB (w : Int) (L.length : Int) c
          · rw [hg] at hV
            simp [fldV] at hV
            simp [R25_0, R25_1, R25_2, R25_3, R25_4, R25_5, R25_6, R25_7, R25_8, R25_9, R25_10, R25_11, R25_12, R25_13, R25_14, R25_15, R25_16, R25_17, R25_18, R25_19, R25_20, R25_21, R25_22, R25_23, R25_24, R25_25, R25_26, R25_27, Tryd.f25, lpL25_0, lpL25_1, lpM25_0, lpM25_1, M25_0, M25_1, p2, p5, P16, P4, hH, hV, pfRes]
          · rw [hg] at hV
            simp [fldV] at hV
            simp [R25_0, R25_1, R25_2, R25_3, R25_4, R25_5, R25_6, R25_7, R25_8, R25_9, R25_10, R25_11, R25_12, R25_13, R25_14, R25_15, R25_16, R25_17, R25_18, R25_19, R25_20, R25_21, R25_22, R25_23, R25_24, R25_25, R25_26, R25_27, Tryd.f25, lpL25_0, lpL25_1, lpM25_0, lpM25_1, M25_0, M25_1, p2, p5, P16, P4, hH, hV, pfRes, intsO]

end Go.Proofs.YtalpgpjhloohfaaDoor.Eng
