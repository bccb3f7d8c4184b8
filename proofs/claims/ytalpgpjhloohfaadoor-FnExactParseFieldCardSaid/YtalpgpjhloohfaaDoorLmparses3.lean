/- A deterministic reading of Go code over plain data: what functions of the program compute. No conditions. -/
import Derived.Test.YtalpgpjhloohfaaDoorLmbase
import Derived.Test.YtalpgpjhloohfaaDoorLmimpl
import Derived.Test.YtalpgpjhloohfaaDoorLmgood
import Derived.Test.YtalpgpjhloohfaaDoorLmnils
import Derived.Test.YtalpgpjhloohfaaDoorLmitoa
import Derived.Test.YtalpgpjhloohfaaDoorLmappendck
import Derived.Test.YtalpgpjhloohfaaDoorLmquantity
import Derived.Test.YtalpgpjhloohfaaDoorLmsplit
import Derived.Test.YtalpgpjhloohfaaDoorLmnumtext
import Derived.Test.YtalpgpjhloohfaaDoorLmjoins
import Derived.Test.YtalpgpjhloohfaaDoorLmjoinf
import Derived.Test.YtalpgpjhloohfaaDoorLmcuts
import Derived.Test.YtalpgpjhloohfaaDoorLmsplitf
import Derived.Test.YtalpgpjhloohfaaDoorLmpfield
import Derived.Test.YtalpgpjhloohfaaDoorLmpfield2
import Derived.Test.YtalpgpjhloohfaaDoorLmfield
import Derived.Test.YtalpgpjhloohfaaDoorLmparsef
import Derived.Test.YtalpgpjhloohfaaDoorLmparsef2
import Derived.Test.YtalpgpjhloohfaaDoorLmparsef3
import Derived.Test.YtalpgpjhloohfaaDoorLmrepeat
import Derived.Test.YtalpgpjhloohfaaDoorLmfieldby
import Derived.Test.YtalpgpjhloohfaaDoorLml2text
import Derived.Test.YtalpgpjhloohfaaDoorLmparses
import Derived.Test.YtalpgpjhloohfaaDoorLmparses2
import Derived.Test.YtalpgpjhloohfaaDoorEngT
import Derived.Lib.IndexLaws
namespace Go.Proofs.YtalpgpjhloohfaaDoor.Eng
open Go Go.Proofs
set_option maxRecDepth 100000
set_option maxHeartbeats 2000000
set_option linter.unusedSimpArgs false
set_option linter.unusedVariables false
attribute [local simp] finK fin1 hpOf xi renQ isRoot runCode runOps Eng.step wantedV astep val ofO made loadV storeV find V.cells bin binT binA numT numFs eqCells un1 setAt fieldAddrV fieldV indexAddrV indexV bounds sliceV convV lenV foldV max2V min2V callO bor rdsO wrsO seen_none okD_none loops keepIds resV resultsV St.ev TK.agg refs refsL refsO V.one V.isC Value.oneCell' ren renL renO noTag noTagL noTagR noTagO nodup mapO passV frs psi refsR newD loopNext opsAt idx flatAt rootOf backR newsV appendV copyV clearV strV bytesOf nilCmp buildV fillF chunk
attribute [local simp] cT cF cX cWR cOW cK X ints_length ints_get ints_getElem ints_drop ints_take ints_append ints_nil ints_set
attribute [local simp] ints_replicate
attribute [local simp] putV_some putV_none putH_app applyD_nil applyD_cons seen_app gc_ρ gc_H gc_tick st0_ρ st0_H st0_tick retV callRo callV_if borL_nil borL_cons ints_snoc take_self callWr cutH_app findQ afterV exportV_0 exportV_n okD_nil okD_cons sub_seq0 sub_seq1 sub_cond0 sub_cond1 sub_block sub_loop sub_nil young_far young_none hidW_nil mayW_nil pairs okI ok_0 ok_1 ok_2
attribute [local simp] T3 T4 T5 T9 T22 T28 T57 T70 T72
attribute [local simp] young_near clo cloF Region.binds Nat.testBit hidW declW mayW List.findIdx?_cons
def PsL (s : List UInt8) (L : List (List UInt8)) (n j : Nat) (st : St) : Prop := ∃ W acc, preS L j = some (W, acc) ∧ acc.length ≤ 1000 * j ∧ PsX s L n W acc st ∧ st.ρ 7 = .c (.int .i64 (j : Int))
theorem psL_step (k : Nat) (s : List UInt8) (L : List (List UInt8)) (n j : Nat) (hj : j < L.length) (hjn : j < n) (hL : L.length ≤ 1000) (hnL : n ≤ 1000) (hb : ∀ x ∈ L, x.length ≤ 999) (hk : 3000 ≤ k) (st : St) (next : St → Option (Ex × St)) (hI : PsL s L n j st) :
    (∃ st', loopNext (runCode C (callK C k) k (K 59) L59_0 1 (gc [0, 2, 4, 5, 6, 7] st)) next = next st' ∧ PsL s L n (j + 1) st') ∨
    (preS L (j + 1) = none ∧ ∃ s', loopNext (runCode C (callK C k) k (K 59) L59_0 1 (gc [0, 2, 4, 5, 6, 7] st)) next = some (.ret, s') ∧ PfN s') := by
  obtain ⟨W, acc, hp, ha, hP, q7⟩ := hI
  have hs := preS_succ L j hj
  rw [hp] at hs
  rcases ps_line k s L n W j acc hj hjn hL hnL hb (by omega) hk st next hP q7 with ⟨W', acc', e, st', e2, h1, h2⟩ | ⟨e, s', e2, h1⟩
  · left
    rw [e] at hs
    refine ⟨st', e2, W', acc', hs, ?_, h1, h2⟩
    simp only [stS] at e
    split at e
    · cases e
    · rename_i a hra
      simp only [Option.some.injEq, Prod.mk.injEq] at e
      obtain ⟨_, rfl⟩ := e
      have := rowP_len hra
      have := split_short L[j] 32
      have := hb _ (List.getElem_mem hj)
      rw [List.length_append]
      omega
  · right
    rw [e] at hs
    exact ⟨hs, s', e2, h1⟩
theorem preS_pre {L : List (List UInt8)} {n : Nat} (hn : n ≤ L.length) {q : Nat × List Int} (h : preS L n = some q) : ∀ d j, j + d = n → ∃ r, preS L j = some r
  | 0, j, e => ⟨q, by rw [show j = n by omega]; exact h⟩
  | d + 1, j, e => by
    obtain ⟨r, hr⟩ := preS_pre hn h d (j + 1) (by omega)
    rw [preS_succ L j (by omega)] at hr
    cases hc : preS L j with
    | none => rw [hc] at hr; cases hr
    | some c => exact ⟨c, rfl⟩
theorem ps_outer (k : Nat) (s : List UInt8) (L : List (List UInt8)) (n : Nat) (hn : n ≤ L.length) (hL : L.length ≤ 1000) (hb : ∀ x ∈ L, x.length ≤ 999) (hk : 3000 ≤ k) :
    (∀ W c, preS L n = some (W, c) → ∀ st, PsL s L n 0 st → ∃ s', loopRun (fun st => runCode C (callK C k) k (K 59) L59_0 1 st) [0, 2, 4, 5, 6, 7] k st = some (.ex 0, s') ∧ PsX s L n W c s') ∧
    (preS L n = none → ∀ st, PsL s L n 0 st → ∃ s', loopRun (fun st => runCode C (callK C k) k (K 59) L59_0 1 st) [0, 2, 4, 5, 6, 7] k st = some (.ret, s') ∧ PfN s') := by
  constructor
  · intro W c hW
    exact loopHas (body := (fun st => runCode C (callK C k) k (K 59) L59_0 1 st)) (keep := [0, 2, 4, 5, 6, 7]) (.ex 0) (fun st => PsX s L n W c st) (PsL s L n) n k (by omega)
      (by
        intro j st next hj hI hx
        rcases psL_step k s L n j (by omega) hj hL (by omega) hb hk st next hI with ⟨st', e, h⟩ | ⟨hn2, _⟩
        · rw [e]; exact hx st' h
        · obtain ⟨b, hb⟩ := preS_pre hn hW (n - (j + 1)) (j + 1) (by omega)
          rw [hn2] at hb; cases hb)
      (by
        rintro st next ⟨W', c', hp, _, ⟨q0, q2, q4, q5, q6, H16, H10, H3, v, H4, hG⟩, q7⟩
        rw [hW] at hp
        simp only [Option.some.injEq, Prod.mk.injEq] at hp
        obtain ⟨rfl, rfl⟩ := hp
        simp [strsO] at H3
        simp [fzO] at H16 H10
        rcases hG with ⟨hb, rfl⟩ | ⟨hb, tk, rfl, hH⟩
        · simp [L59_0, R59_0, R59_1, R59_2, R59_3, R59_4, R59_5, R59_6, R59_7, R59_8, R59_9, R59_10, R59_11, R59_12, R59_13, R59_14, R59_15, R59_16, R59_17, R59_18, R59_19, R59_20, R59_21, R59_22, R59_23, R59_24, R59_25, Tryd.f59, lpL59_0, lpL59_1, lpM59_0, lpM59_1, M59_0, M59_1, q0, q2, q4, q5, q6, q7, H16, H10, H3, H4]
          exact ⟨by simp [q0], by simp [q2], by simp [q4], by simp [q5], by simp [q6], by simp [q0, q2, q4, q5, q6, q7, H16, H10, H3, H4, fzO, strsO], by simp [q0, q2, q4, q5, q6, q7, H16, H10, H3, H4, fzO, strsO], by simp [q0, q2, q4, q5, q6, q7, H16, H10, H3, H4, fzO, strsO], _, by simp [q0, q2, q4, q5, q6, q7, H16, H10, H3, H4, fzO, strsO] <;> rfl, .inl ⟨hb, rfl⟩⟩
        · simp [intsO] at hH
          simp [L59_0, R59_0, R59_1, R59_2, R59_3, R59_4, R59_5, R59_6, R59_7, R59_8, R59_9, R59_10, R59_11, R59_12, R59_13, R59_14, R59_15, R59_16, R59_17, R59_18, R59_19, R59_20, R59_21, R59_22, R59_23, R59_24, R59_25, Tryd.f59, lpL59_0, lpL59_1, lpM59_0, lpM59_1, M59_0, M59_1, q0, q2, q4, q5, q6, q7, H16, H10, H3, H4, hH]
          exact ⟨by simp [q0], by simp [q2], by simp [q4], by simp [q5], by simp [q6], by simp [q0, q2, q4, q5, q6, q7, H16, H10, H3, H4, fzO, strsO, hH], by simp [q0, q2, q4, q5, q6, q7, H16, H10, H3, H4, fzO, strsO, hH], by simp [q0, q2, q4, q5, q6, q7, H16, H10, H3, H4, fzO, strsO, hH], _, by simp [q0, q2, q4, q5, q6, q7, H16, H10, H3, H4, fzO, strsO, hH] <;> rfl, .inr ⟨hb, _, rfl, by simp [q0, q2, q4, q5, q6, q7, H16, H10, H3, H4, fzO, strsO, hH, intsO]⟩⟩)
  · intro hW
    exact loopHas (body := (fun st => runCode C (callK C k) k (K 59) L59_0 1 st)) (keep := [0, 2, 4, 5, 6, 7]) .ret PfN (PsL s L n) n k (by omega)
      (by
        intro j st next hj hI hx
        rcases psL_step k s L n j (by omega) hj hL (by omega) hb hk st next hI with ⟨st', e, h⟩ | ⟨_, s', e, h⟩
        · rw [e]; exact hx st' h
        · rw [e]; exact ⟨s', rfl, h⟩)
      (by
        rintro st next ⟨W', c', hp, _⟩
        rw [hW] at hp
        cases hp)
theorem c_l2GoodNil (k : Nat) (w h : Int) (hk : 200 ≤ k) : callK C k 37 [.ag [.c (.int .i64 w), .c (.int .i64 h), .c (.slice none 0 0)]] [] = some (.c (.bool false), hpOf [] []) := by
  obtain ⟨k, rfl⟩ : ∃ m, k = m + 9 := ⟨k - 9, by omega⟩
  rw [callK_fn rfl F37 code37]
  have w1 := c_l2Shape (k + 8) w h (by omega)
  cases e : shapeB w h
  · rw [e] at w1
    simp [R37_0, R37_1, R37_2, R37_3, R37_4, R37_5, R37_6, R37_7, R37_8, Tryd.f37, lpL37_0, lpM37_0, M37_0, undef, w1]
  · rw [e] at w1
    obtain ⟨_, hq, b1, _, b3, _⟩ := shape_area e
    have hp : 1 * 1 ≤ w * h := Int.mul_le_mul b1 b3 (by omega) (by omega)
    have hw : IntKind.i64.wrap (w * h) = w * h := wrap_small (by omega) (by omega)
    have hz : ¬ 0 = w * h := by omega
    have hzb : ((0 : Int) == w * h) = false := by simpa using hz
    have hzn : ((0 : Int) != w * h) = true := by simpa using hz
    simp [R37_0, R37_1, R37_2, R37_3, R37_4, R37_5, R37_6, R37_7, R37_8, Tryd.f37, lpL37_0, lpM37_0, M37_0, undef, w1, hw, hz, hzb, hzn]
theorem c_specPF (k : Nat) (s : List UInt8) (h20 : s.length ≤ 1048576) (hk : s.length + 5000 ≤ k) : callK C k 59 [.c (.string (bs s))] [] = pfRes (accS s) := by
  obtain ⟨k, rfl⟩ : ∃ m, k = m + 9 := ⟨k - 9, by omega⟩
  rw [callK_fn rfl F59 code59]
  have hS := c_l1Split (k + 8) s 10 h20 (by omega)
  have hws := word_short s 10
  have hwl := split_short s 10
  have hne := split_ne s 10
  have hsl : (splitL s 10).length ≠ 0 := fun e => hne (List.length_eq_zero_iff.1 e)
  unfold accS
  obtain ⟨L, hLe⟩ : ∃ L, splitL s 10 = L := ⟨_, rfl⟩
  rw [hLe] at hS hws hwl hsl ⊢
  obtain ⟨n, hn⟩ : ∃ n, L.length - 1 = n := ⟨_, rfl⟩
  rw [hn]
  have w1 : IntKind.i64.wrap ((L.length : Int) - 1) = (n : Int) := by rw [wrap_small (by omega) (by omega)]; omega
  have hI := c_l1In (k + 8) (n : Int) 1 8 (by omega)
  simp [strsO] at hS
  by_cases h1 : 500 < s.length
  · have h1' : (500 : Int) < (s.length : Int) := by omega
    rw [if_neg (by omega)]
    simp [R59_0, R59_1, R59_2, R59_3, R59_4, R59_5, R59_6, R59_7, R59_8, R59_9, R59_10, R59_11, R59_12, R59_13, R59_14, R59_15, R59_16, R59_17, R59_18, R59_19, R59_20, R59_21, R59_22, R59_23, R59_24, R59_25, Tryd.f59, lpL59_0, lpL59_1, lpM59_0, lpM59_1, M59_0, M59_1, undef, bs_size, hS, strs_length, w1, h1, h1', pfRes]
  · have h1' : ¬ (500 : Int) < (s.length : Int) := by omega
    by_cases h2 : 1 ≤ n ∧ n ≤ 8
    · obtain ⟨h2a, h2b⟩ := h2
      have d1 : (1 : Int) ≤ (n : Int) := by omega
      have d2 : (n : Int) ≤ 8 := by omega
      rw [if_pos ⟨by omega, h2a, h2b⟩]
      obtain ⟨o1, o2⟩ := ps_outer (k + 8) s L n (by omega) (by omega) (fun x hx => by have := hws x hx; omega) (by omega)
      simp [d1, d2] at hI
      simp [R59_0, R59_1, R59_2, R59_3, R59_4, R59_5, R59_6, R59_7, R59_8, R59_9, R59_10, R59_11, R59_12, R59_13, R59_14, R59_15, R59_16, R59_17, R59_18, R59_19, R59_20, R59_21, R59_22, R59_23, R59_24, R59_25, Tryd.f59, lpL59_0, lpL59_1, lpM59_0, lpM59_1, undef, bs_size, hS, strs_length, w1, h1, h1', hI]
      generalize hr : loopRun _ _ _ _ = res
      have hst : ∀ st : St, st.ρ 0 = .c (.string (bs s)) → st.ρ 2 = .p 16 1 3 0 0 → st.ρ 4 = .p 1056 2 3 0 0 → st.ρ 5 = .s 2080 3 1 0 L.length → st.ρ 6 = .p 3152 4 3 0 0 → st.ρ 7 = .c (.int .i64 0) → st.H 16 = some (1, fzO) → st.H 1056 = some (2, fzO) → st.H 2080 = some (3, strsO L) → st.H 3152 = some (4, ⟨28, 3, false, [[.c (.int .i64 0), .c (.int .i64 (n : Int)), .c (.slice none 0 0)]]⟩) → PsL s L n 0 st := fun st a0 a1 a2 a3 a4 a5 a6 a7 a8 a9 => ⟨0, [], rfl, by simp, ⟨a0, a1, a2, a3, a4, a6, a7, a8, _, a9, .inl ⟨rfl, rfl⟩⟩, a5⟩
      cases hp : preS L n with
      | none =>
        obtain ⟨s1, rfl, p2, p3, P16⟩ := loop_at (o2 hp) hr (hst _ (by simp) (by simp) (by simp) (by simp) (by simp) (by simp) (by simp [fzO]) (by simp [fzO]) (by simp [strsO]) (by simp))
        simp [fzO] at P16
        simp [R59_0, R59_1, R59_2, R59_3, R59_4, R59_5, R59_6, R59_7, R59_8, R59_9, R59_10, R59_11, R59_12, R59_13, R59_14, R59_15, R59_16, R59_17, R59_18, R59_19, R59_20, R59_21, R59_22, R59_23, R59_24, R59_25, Tryd.f59, lpL59_0, lpL59_1, lpM59_0, lpM59_1, M59_0, M59_1, p2, p3, P16, pfRes]
      | some q =>
        obtain ⟨w, c⟩ := q
        obtain ⟨s1, rfl, p0, p2, p4, p5, p6, P16, P10, P3, v, P4, pG⟩ := loop_at (o1 w c hp) hr (hst _ (by simp) (by simp) (by simp) (by simp) (by simp) (by simp) (by simp [fzO]) (by simp [fzO]) (by simp [strsO]) (by simp))
        simp [fzO] at P16 P10
        have hV := c_l2Good (k + 8) true (w : Int) (n : Int) c (by omega)
        simp only []
        rcases pG with ⟨hc, rfl⟩ | ⟨hc, tk, rfl, hH⟩
        · subst hc
          have hg : goodB (w : Int) (n : Int) [] = false := by
            cases hg : goodB (w : Int) (n : Int) []
            · rfl
            · obtain ⟨sh, hcl, _, _⟩ := good_length hg
              obtain ⟨_, _, a1, _, a2, _⟩ := shape_area sh
              have : 1 * 1 ≤ (w : Int) * (n : Int) := Int.mul_le_mul a1 a2 (by omega) (by omega)
              simp at hcl
              omega
          have hN := c_l2GoodNil (k + 8) (w : Int) (n : Int) (by omega)
          rw [hg]
          simp [R59_0, R59_1, R59_2, R59_3, R59_4, R59_5, R59_6, R59_7, R59_8, R59_9, R59_10, R59_11, R59_12, R59_13, R59_14, R59_15, R59_16, R59_17, R59_18, R59_19, R59_20, R59_21, R59_22, R59_23, R59_24, R59_25, Tryd.f59, lpL59_0, lpL59_1, lpM59_0, lpM59_1, M59_0, M59_1, undef, p0, p2, p4, p6, P16, P10, P4, hN, pfRes]
        · simp [intsO] at hH
          cases hg : goodB (w : Int) (n : Int) c
          · rw [hg] at hV
            simp [fldV] at hV
            simp [R59_0, R59_1, R59_2, R59_3, R59_4, R59_5, R59_6, R59_7, R59_8, R59_9, R59_10, R59_11, R59_12, R59_13, R59_14, R59_15, R59_16, R59_17, R59_18, R59_19, R59_20, R59_21, R59_22, R59_23, R59_24, R59_25, Tryd.f59, lpL59_0, lpL59_1, lpM59_0, lpM59_1, M59_0, M59_1, undef, p0, p2, p4, p6, P16, P10, P4, hH, hV, pfRes]
          · rw [hg] at hV
            have hT := c_l2Text (k + 8) true w n c hg (by omega)
            simp [fldV] at hV hT
            by_cases ht : textF w n c = s
            · simp [R59_0, R59_1, R59_2, R59_3, R59_4, R59_5, R59_6, R59_7, R59_8, R59_9, R59_10, R59_11, R59_12, R59_13, R59_14, R59_15, R59_16, R59_17, R59_18, R59_19, R59_20, R59_21, R59_22, R59_23, R59_24, R59_25, Tryd.f59, lpL59_0, lpL59_1, lpM59_0, lpM59_1, M59_0, M59_1, undef, p0, p2, p4, p6, P16, P10, P4, hH, hV, hT, ht, bs_neq, bs_toList, pfRes, intsO]
            · simp [R59_0, R59_1, R59_2, R59_3, R59_4, R59_5, R59_6, R59_7, R59_8, R59_9, R59_10, R59_11, R59_12, R59_13, R59_14, R59_15, R59_16, R59_17, R59_18, R59_19, R59_20, R59_21, R59_22, R59_23, R59_24, R59_25, Tryd.f59, lpL59_0, lpL59_1, lpM59_0, lpM59_1, M59_0, M59_1, undef, p0, p2, p4, p6, P16, P10, P4, hH, hV, hT, ht, bs_neq, bs_toList, pfRes, intsO]
    · have h2' : (decide ((1 : Int) ≤ (n : Int)) && decide ((n : Int) ≤ 8)) = false := by
        cases e : (decide ((1 : Int) ≤ (n : Int)) && decide ((n : Int) ≤ 8))
        · rfl
        · simp at e; exact absurd ⟨by omega, by omega⟩ h2
      rw [h2'] at hI
      rw [if_neg (fun h => h2 h.2)]
      simp [R59_0, R59_1, R59_2, R59_3, R59_4, R59_5, R59_6, R59_7, R59_8, R59_9, R59_10, R59_11, R59_12, R59_13, R59_14, R59_15, R59_16, R59_17, R59_18, R59_19, R59_20, R59_21, R59_22, R59_23, R59_24, R59_25, Tryd.f59, lpL59_0, lpL59_1, lpM59_0, lpM59_1, M59_0, M59_1, undef, bs_size, hS, strs_length, w1, h1, h1', hI, pfRes]
theorem c_specParse (k : Nat) (s : List UInt8) (h20 : s.length ≤ 1048576) (hk : s.length + 6000 ≤ k) : callK C k 24 [.c (.string (bs s))] [] = pfRes (accS s) := by
  obtain ⟨k, rfl⟩ : ∃ m, k = m + 1 := ⟨k - 1, by omega⟩
  rw [callK_fn rfl F24 code24]
  have h := c_specPF k s h20 (by omega)
  cases ha : accS s with
  | none =>
    rw [ha] at h
    simp only [pfRes] at h ⊢
    simp [R24_0, R24_1, Tryd.f24, h]
  | some q =>
    obtain ⟨w, n, c⟩ := q
    rw [ha] at h
    simp only [pfRes] at h ⊢
    simp [intsO] at h
    simp [R24_0, R24_1, Tryd.f24, h, intsO]

end Go.Proofs.YtalpgpjhloohfaaDoor.Eng
