/- A deterministic reading of Go code over plain data: what functions of the program compute. No conditions. -/
import Derived.Test.YtalpgpjhloohfaaDoorLmbase
import Derived.Test.YtalpgpjhloohfaaDoorLmimpl
import Derived.Test.YtalpgpjhloohfaaDoorLmgood
import Derived.Test.YtalpgpjhloohfaaDoorLmitoa
import Derived.Test.YtalpgpjhloohfaaDoorLmappendck
import Derived.Test.YtalpgpjhloohfaaDoorLmquantity
import Derived.Test.YtalpgpjhloohfaaDoorLmsplit
import Derived.Test.YtalpgpjhloohfaaDoorLmnumtext
import Derived.Test.YtalpgpjhloohfaaDoorLmjoins
import Derived.Test.YtalpgpjhloohfaaDoorLmjoinf
import Derived.Test.YtalpgpjhloohfaaDoorLmcuts
import Derived.Test.YtalpgpjhloohfaaDoorLmsplitf
import Derived.Test.YtalpgpjhloohfaaDoorLmpfield
import Derived.Test.YtalpgpjhloohfaaDoorLmpfield2
import Derived.Test.YtalpgpjhloohfaaDoorLmfield
import Derived.Test.YtalpgpjhloohfaaDoorLmparsef
import Derived.Test.YtalpgpjhloohfaaDoorEngT
import Derived.Lib.IndexLaws
namespace Go.Proofs.YtalpgpjhloohfaaDoor.Eng
open Go Go.Proofs
set_option maxRecDepth 100000
set_option maxHeartbeats 2000000
set_option linter.unusedSimpArgs false
set_option linter.unusedVariables false
attribute [local simp] finK fin1 hpOf xi renQ isRoot runCode runOps Eng.step wantedV astep val ofO made loadV storeV find V.cells bin binT binA numT numFs eqCells un1 setAt fieldAddrV fieldV indexAddrV indexV bounds sliceV convV lenV foldV max2V min2V callO bor rdsO wrsO seen_none okD_none loops keepIds resV resultsV St.ev TK.agg refs refsL refsO V.one V.isC Value.oneCell' ren renL renO noTag noTagL noTagR noTagO nodup mapO passV frs psi refsR newD loopNext opsAt idx flatAt rootOf backR newsV appendV copyV clearV strV bytesOf nilCmp buildV fillF chunk
attribute [local simp] cT cF cX cWR cOW cK X ints_length ints_get ints_getElem ints_drop ints_take ints_append ints_nil ints_set
attribute [local simp] ints_replicate
attribute [local simp] putV_some putV_none putH_app applyD_nil applyD_cons seen_app gc_ρ gc_H gc_tick st0_ρ st0_H st0_tick retV callRo callV_if borL_nil borL_cons ints_snoc take_self callWr cutH_app findQ afterV exportV_0 exportV_n okD_nil okD_cons sub_seq0 sub_seq1 sub_cond0 sub_cond1 sub_block sub_loop sub_nil young_far young_none hidW_nil mayW_nil pairs okI ok_0 ok_1 ok_2
attribute [local simp] T3 T4 T5 T9 T22 T28 T57 T70 T72
attribute [local simp] young_near clo cloF Region.binds Nat.testBit hidW declW mayW List.findIdx?_cons
def PfI (L ws : List (List UInt8)) (W j tk8 : Nat) (acc : List Int) (i : Nat) (st : St) : Prop := ∃ a, rowP (ws.take i) = some a ∧ PfX L W (acc ++ a) st ∧ st.ρ 30 = .c (.int .i64 (j : Int)) ∧ st.ρ 50 = .s 8224 tk8 1 0 ws.length ∧ st.ρ 51 = .c (.int .i64 (ws.length : Int)) ∧ st.ρ 52 = .c (.int .i64 (i : Int)) ∧ st.H 8224 = some (tk8, strsO ws)
theorem pf_step (k : Nat) (L ws : List (List UInt8)) (W j tk8 : Nat) (acc : List Int) (i : Nat) (hi : i < ws.length) (hacc : acc.length + ws.length ≤ 10000000) (hwb : ∀ w ∈ ws, w.length ≤ 1000) (hk : 300 ≤ k) (st : St) (next : St → Option (Ex × St)) (hI : PfI L ws W j tk8 acc i st) :
    (∃ st', loopNext (runCode C (callK C k) k (K 25) L25_1 2 (gc [2, 5, 28, 29, 30, 50, 51, 52] st)) next = next st' ∧ PfI L ws W j tk8 acc (i + 1) st') ∨
    (rowP (ws.take (i + 1)) = none ∧ ∃ s, loopNext (runCode C (callK C k) k (K 25) L25_1 2 (gc [2, 5, 28, 29, 30, 50, 51, 52] st)) next = some (.ret, s) ∧ PfN s) := by
  obtain ⟨a, ha, hP, q30, q50, q51, q52, H8⟩ := hI
  have hal := rowP_len ha
  rw [List.length_take] at hal
  have ht := rowP_take ws i hi
  rw [ha] at ht
  rcases pf_round k L ws W j tk8 acc a i hi (by omega) (by omega) hwb hk st next hP (by omega) q30 q50 q51 q52 H8 with ⟨n, hn, st', e, h1, h2, h3, h4, h5, h6⟩ | ⟨hn, s, e, h1⟩
  · left
    rw [hn] at ht
    exact ⟨st', e, a ++ [n], ht, by rw [← List.append_assoc]; exact h1, h2, h3, h4, h5, h6⟩
  · right
    rw [hn] at ht
    exact ⟨ht, s, e, h1⟩
theorem rowP_pre {ws : List (List UInt8)} {a : List Int} (h : rowP ws = some a) : ∀ d i, i + d = ws.length → ∃ b, rowP (ws.take i) = some b
  | 0, i, e => ⟨a, by rw [List.take_of_length_le (by omega)]; exact h⟩
  | d + 1, i, e => by
    obtain ⟨b, hb⟩ := rowP_pre h d (i + 1) (by omega)
    rw [rowP_take ws i (by omega)] at hb
    cases hc : rowP (ws.take i) with
    | none => rw [hc] at hb; cases hb
    | some c => exact ⟨c, rfl⟩
theorem pf_inner (k : Nat) (L ws : List (List UInt8)) (W j tk8 : Nat) (acc : List Int) (hacc : acc.length + ws.length ≤ 10000000) (hwb : ∀ w ∈ ws, w.length ≤ 1000) (hk : 300 + ws.length ≤ k) :
    (∀ a, rowP ws = some a → ∀ st, PfI L ws W j tk8 acc 0 st → ∃ s, loopRun (fun st => runCode C (callK C k) k (K 25) L25_1 2 st) [2, 5, 28, 29, 30, 50, 51, 52] k st = some (.ex 2, s) ∧ (PfX L W (acc ++ a) s ∧ s.ρ 30 = .c (.int .i64 (j : Int)))) ∧
    (rowP ws = none → ∀ st, PfI L ws W j tk8 acc 0 st → ∃ s, loopRun (fun st => runCode C (callK C k) k (K 25) L25_1 2 st) [2, 5, 28, 29, 30, 50, 51, 52] k st = some (.ret, s) ∧ PfN s) := by
  constructor
  · intro a ha
    exact loopHas (body := fun st => runCode C (callK C k) k (K 25) L25_1 2 st) (keep := [2, 5, 28, 29, 30, 50, 51, 52]) (.ex 2) (fun st => PfX L W (acc ++ a) st ∧ st.ρ 30 = .c (.int .i64 (j : Int))) (PfI L ws W j tk8 acc) ws.length k (by omega)
      (by
        intro i st next hi hI hx
        rcases pf_step k L ws W j tk8 acc i hi hacc hwb (by omega) st next hI with ⟨st', e, h⟩ | ⟨hn, _⟩
        · rw [e]; exact hx st' h
        · obtain ⟨b, hb⟩ := rowP_pre ha (ws.length - (i + 1)) (i + 1) (by omega)
          rw [hn] at hb; cases hb)
      (by
        rintro st next ⟨a', ha', ⟨q2, q5, q28, q29, H16, H3, v, H4, hG⟩, q30, q50, q51, q52, H8⟩
        rw [List.take_length, ha] at ha'
        obtain rfl := Option.some.inj ha'
        simp [strsO] at H8 H3
        simp [fzO] at H16
        rcases hG with ⟨hb, rfl⟩ | ⟨hb, tk, rfl, hH⟩
        · simp [L25_1, R25_0, R25_1, R25_2, R25_3, R25_4, R25_5, R25_6, R25_7, R25_8, R25_9, R25_10, R25_11, R25_12, R25_13, R25_14, R25_15, R25_16, R25_17, R25_18, R25_19, R25_20, R25_21, R25_22, R25_23, R25_24, R25_25, R25_26, R25_27, Tryd.f25, lpL25_0, lpL25_1, lpM25_0, lpM25_1, M25_0, M25_1, q2, q5, q28, q29, q30, q50, q51, q52, H16, H3, H4, H8]
          exact ⟨by simp [q2], by simp [q5], by simp [q28], by simp [q29], by simp [q2, q5, q28, q29, q30, q50, H16, H3, H4, H8, fzO], by simp [q2, q5, q28, q29, q30, q50, H16, H3, H4, H8, strsO], _, by simp [q2, q5, q28, q29, q30, q50, H16, H3, H4, H8] <;> rfl, .inl ⟨hb, rfl⟩⟩
        · simp [intsO] at hH
          simp [L25_1, R25_0, R25_1, R25_2, R25_3, R25_4, R25_5, R25_6, R25_7, R25_8, R25_9, R25_10, R25_11, R25_12, R25_13, R25_14, R25_15, R25_16, R25_17, R25_18, R25_19, R25_20, R25_21, R25_22, R25_23, R25_24, R25_25, R25_26, R25_27, Tryd.f25, lpL25_0, lpL25_1, lpM25_0, lpM25_1, M25_0, M25_1, q2, q5, q28, q29, q30, q50, q51, q52, H16, H3, H4, H8, hH]
          exact ⟨by simp [q2], by simp [q5], by simp [q28], by simp [q29], by simp [q2, q5, q28, q29, q30, q50, H16, H3, H4, H8, hH, fzO], by simp [q2, q5, q28, q29, q30, q50, H16, H3, H4, H8, hH, strsO], _, by simp [q2, q5, q28, q29, q30, q50, H16, H3, H4, H8, hH] <;> rfl, .inr ⟨hb, _, rfl, by simp [q2, q5, q28, q29, q30, q50, H16, H3, H4, H8, hH, intsO]⟩⟩)
  · intro ha
    exact loopHas (body := fun st => runCode C (callK C k) k (K 25) L25_1 2 st) (keep := [2, 5, 28, 29, 30, 50, 51, 52]) .ret PfN (PfI L ws W j tk8 acc) ws.length k (by omega)
      (by
        intro i st next hi hI hx
        rcases pf_step k L ws W j tk8 acc i hi hacc hwb (by omega) st next hI with ⟨st', e, h⟩ | ⟨_, s, e, h⟩
        · rw [e]; exact hx st' h
        · rw [e]; exact ⟨s, rfl, h⟩)
      (by
        rintro st next ⟨a', ha', _⟩
        rw [List.take_length, ha] at ha'
        cases ha')
theorem word_short (x : List UInt8) (b : UInt8) : ∀ w ∈ splitL x b, w.length ≤ x.length := by
  intro w hw
  obtain ⟨i, hi, rfl⟩ := List.getElem_of_mem hw
  have h1 := lenS_get (splitL x b) i hi
  have h2 := joinB_len (splitL x b) b (split_ne x b)
  rw [(cut_join b _ x (splitL_cut x b)).1] at h2
  omega
theorem split_short (x : List UInt8) (b : UInt8) : (splitL x b).length ≤ x.length + 1 := by
  have h2 := joinB_len (splitL x b) b (split_ne x b)
  rw [(cut_join b _ x (splitL_cut x b)).1] at h2
  omega
theorem pf_line (k : Nat) (L : List (List UInt8)) (W j : Nat) (acc : List Int) (hj : j < L.length) (hL : L.length ≤ 1000) (hb : ∀ x ∈ L, x.length ≤ 999) (hacc : acc.length ≤ 5000000) (hW : W ≤ 100000) (hk : 3000 ≤ k) (st : St) (next : St → Option (Ex × St)) (hP : PfX L W acc st) (q30 : st.ρ 30 = .c (.int .i64 (j : Int))) :
    (∃ W' acc', stI (some (W, acc)) L[j] = some (W', acc') ∧ ∃ st', loopNext (runCode C (callK C k) k (K 25) L25_0 1 (gc [2, 5, 28, 29, 30] st)) next = next st' ∧ PfX L W' acc' st' ∧ st'.ρ 30 = .c (.int .i64 ((j + 1 : Nat) : Int))) ∨
    (stI (some (W, acc)) L[j] = none ∧ ∃ s, loopNext (runCode C (callK C k) k (K 25) L25_0 1 (gc [2, 5, 28, 29, 30] st)) next = some (.ret, s) ∧ PfN s) := by
  obtain ⟨q2, q5, q28, q29, H16, H3, v, H4, hG⟩ := hP
  have nget := strs_get L j hj
  have hxl := hb _ (List.getElem_mem hj)
  have hS := c_Split k L[j] 32 (by omega) (by omega)
  have hws := word_short L[j] 32
  have hwl := split_short L[j] 32
  have hwn := wrap_next hj (by omega : L.length ≤ 9000000000000000000)
  simp only [stI]
  obtain ⟨ws, hw⟩ : ∃ ws, splitL L[j] 32 = ws := ⟨_, rfl⟩
  rw [hw] at hS hws hwl ⊢
  have hin := pf_inner k L ws ws.length j (st.tick + 1 + 1) acc (by omega) (fun w hw => by have := hws w hw; omega) (by omega)
  simp [strsO] at H3 hS
  simp [fzO] at H16
  by_cases hc : 0 < W ∧ ws.length ≠ W
  · right
    rw [if_pos hc]
    refine ⟨rfl, ?_⟩
    have c1 : (0 : Int) < (W : Int) := by omega
    have c2 : ¬ (ws.length : Int) = (W : Int) := by omega
    have c3 : ((ws.length : Int) != (W : Int)) = true := by simpa using c2
    have c4 : ¬ ws.length = W := hc.2
    have c5 := hc.1
    rcases hG with ⟨hb, rfl⟩ | ⟨hb, tk, rfl, hH⟩
    · simp [L25_0, R25_0, R25_1, R25_2, R25_3, R25_4, R25_5, R25_6, R25_7, R25_8, R25_9, R25_10, R25_11, R25_12, R25_13, R25_14, R25_15, R25_16, R25_17, R25_18, R25_19, R25_20, R25_21, R25_22, R25_23, R25_24, R25_25, R25_26, R25_27, Tryd.f25, lpL25_0, lpL25_1, lpM25_0, lpM25_1, undef, q2, q5, q28, q29, q30, H16, H3, H4, hj, nget, strs_at, strs_length, lit1, hS, c1, c2, c3, c4, c5, PfN, fzO]
    · simp [intsO] at hH
      simp [L25_0, R25_0, R25_1, R25_2, R25_3, R25_4, R25_5, R25_6, R25_7, R25_8, R25_9, R25_10, R25_11, R25_12, R25_13, R25_14, R25_15, R25_16, R25_17, R25_18, R25_19, R25_20, R25_21, R25_22, R25_23, R25_24, R25_25, R25_26, R25_27, Tryd.f25, lpL25_0, lpL25_1, lpM25_0, lpM25_1, undef, q2, q5, q28, q29, q30, H16, H3, H4, hH, hj, nget, strs_at, strs_length, lit1, hS, c1, c2, c3, c4, c5, PfN, fzO]
  · rw [if_neg hc]
    by_cases hW0 : W = 0
    · subst hW0
      rcases hG with ⟨hb, rfl⟩ | ⟨hb, tk, rfl, hH⟩
      · skip
        simp [L25_0, R25_0, R25_1, R25_2, R25_3, R25_4, R25_5, R25_6, R25_7, R25_8, R25_9, R25_10, R25_11, R25_12, R25_13, R25_14, R25_15, R25_16, R25_17, R25_18, R25_19, R25_20, R25_21, R25_22, R25_23, R25_24, R25_25, R25_26, R25_27, Tryd.f25, lpL25_0, lpL25_1, lpM25_0, lpM25_1, undef, q2, q5, q28, q29, q30, H16, H3, H4, hj, nget, strs_at, strs_length, lit1, hS, maxLen]
        generalize hr : loopRun _ _ _ _ = res
        cases hrp : rowP ws with
        | none =>
          right
          obtain ⟨s1, rfl, f1⟩ := loop_at (hin.2 hrp) hr ⟨[], rfl, ⟨by simp [q2], by simp [q5], by simp [q28], by simp [q29], by simp [q2, q5, q28, q29, q30, H16, H3, H4, fzO, strsO], by simp [q2, q5, q28, q29, q30, H16, H3, H4, fzO, strsO], _, by simp [q2, q5, q28, q29, q30, H16, H3, H4, fzO, strsO] <;> rfl, .inl ⟨by simp [hb], rfl⟩⟩, by simp [q30], by simp, by simp, by simp, by simp [q2, q5, q28, q29, q30, H16, H3, H4, fzO, strsO]⟩
          simp
          exact f1
        | some a =>
          left
          obtain ⟨s1, rfl, ⟨p2, p5, p28, p29, P16, P3, v, P4, pG⟩, p30⟩ := loop_at (hin.1 a hrp) hr ⟨[], rfl, ⟨by simp [q2], by simp [q5], by simp [q28], by simp [q29], by simp [q2, q5, q28, q29, q30, H16, H3, H4, fzO, strsO], by simp [q2, q5, q28, q29, q30, H16, H3, H4, fzO, strsO], _, by simp [q2, q5, q28, q29, q30, H16, H3, H4, fzO, strsO] <;> rfl, .inl ⟨by simp [hb], rfl⟩⟩, by simp [q30], by simp, by simp, by simp, by simp [q2, q5, q28, q29, q30, H16, H3, H4, fzO, strsO]⟩
          refine ⟨_, _, rfl, ?_⟩
          simp [R25_0, R25_1, R25_2, R25_3, R25_4, R25_5, R25_6, R25_7, R25_8, R25_9, R25_10, R25_11, R25_12, R25_13, R25_14, R25_15, R25_16, R25_17, R25_18, R25_19, R25_20, R25_21, R25_22, R25_23, R25_24, R25_25, R25_26, R25_27, Tryd.f25, lpL25_0, lpL25_1, lpM25_0, lpM25_1, M25_0, M25_1, p2, p5, p28, p29, p30, hwn]
          exact ⟨_, rfl, ⟨by simp [p2], by simp [p5], by simp [p28], by simp [p29], by simp [P16], by simp [P3], v, by simp [P4], by simpa using pG⟩, by simp⟩
      · simp [intsO] at hH
        simp [L25_0, R25_0, R25_1, R25_2, R25_3, R25_4, R25_5, R25_6, R25_7, R25_8, R25_9, R25_10, R25_11, R25_12, R25_13, R25_14, R25_15, R25_16, R25_17, R25_18, R25_19, R25_20, R25_21, R25_22, R25_23, R25_24, R25_25, R25_26, R25_27, Tryd.f25, lpL25_0, lpL25_1, lpM25_0, lpM25_1, undef, q2, q5, q28, q29, q30, H16, H3, H4, hH, hj, nget, strs_at, strs_length, lit1, hS, maxLen]
        generalize hr : loopRun _ _ _ _ = res
        cases hrp : rowP ws with
        | none =>
          right
          obtain ⟨s1, rfl, f1⟩ := loop_at (hin.2 hrp) hr ⟨[], rfl, ⟨by simp [q2], by simp [q5], by simp [q28], by simp [q29], by simp [q2, q5, q28, q29, q30, H16, H3, H4, fzO, strsO, hH], by simp [q2, q5, q28, q29, q30, H16, H3, H4, fzO, strsO, hH], _, by simp [q2, q5, q28, q29, q30, H16, H3, H4, fzO, strsO, hH] <;> rfl, .inr ⟨by simpa using hb, _, by simp; rfl, by simp [q2, q5, q28, q29, q30, H16, H3, H4, fzO, strsO, hH, intsO]⟩⟩, by simp [q30], by simp, by simp, by simp, by simp [q2, q5, q28, q29, q30, H16, H3, H4, fzO, strsO, hH]⟩
          simp
          exact f1
        | some a =>
          left
          obtain ⟨s1, rfl, ⟨p2, p5, p28, p29, P16, P3, v, P4, pG⟩, p30⟩ := loop_at (hin.1 a hrp) hr ⟨[], rfl, ⟨by simp [q2], by simp [q5], by simp [q28], by simp [q29], by simp [q2, q5, q28, q29, q30, H16, H3, H4, fzO, strsO, hH], by simp [q2, q5, q28, q29, q30, H16, H3, H4, fzO, strsO, hH], _, by simp [q2, q5, q28, q29, q30, H16, H3, H4, fzO, strsO, hH] <;> rfl, .inr ⟨by simpa using hb, _, by simp; rfl, by simp [q2, q5, q28, q29, q30, H16, H3, H4, fzO, strsO, hH, intsO]⟩⟩, by simp [q30], by simp, by simp, by simp, by simp [q2, q5, q28, q29, q30, H16, H3, H4, fzO, strsO, hH]⟩
          refine ⟨_, _, rfl, ?_⟩
          simp [R25_0, R25_1, R25_2, R25_3, R25_4, R25_5, R25_6, R25_7, R25_8, R25_9, R25_10, R25_11, R25_12, R25_13, R25_14, R25_15, R25_16, R25_17, R25_18, R25_19, R25_20, R25_21, R25_22, R25_23, R25_24, R25_25, R25_26, R25_27, Tryd.f25, lpL25_0, lpL25_1, lpM25_0, lpM25_1, M25_0, M25_1, p2, p5, p28, p29, p30, hwn]
          exact ⟨_, rfl, ⟨by simp [p2], by simp [p5], by simp [p28], by simp [p29], by simp [P16], by simp [P3], v, by simp [P4], by simpa using pG⟩, by simp⟩
    · have hWs : ws.length = W := by
        by_cases e : ws.length = W
        · exact e
        · exact absurd ⟨by omega, e⟩ hc
      subst hWs
      have c1 : (0 : Int) < (ws.length : Int) := by omega
      have c5 : 0 < ws.length := by omega
      have c6 : ¬ ws = [] := by intro e; rw [e] at c5; simp at c5
      rcases hG with ⟨hb, rfl⟩ | ⟨hb, tk, rfl, hH⟩
      · skip
        simp [L25_0, R25_0, R25_1, R25_2, R25_3, R25_4, R25_5, R25_6, R25_7, R25_8, R25_9, R25_10, R25_11, R25_12, R25_13, R25_14, R25_15, R25_16, R25_17, R25_18, R25_19, R25_20, R25_21, R25_22, R25_23, R25_24, R25_25, R25_26, R25_27, Tryd.f25, lpL25_0, lpL25_1, lpM25_0, lpM25_1, undef, q2, q5, q28, q29, q30, H16, H3, H4, hj, nget, strs_at, strs_length, lit1, hS, c1, c5, c6]
        generalize hr : loopRun _ _ _ _ = res
        cases hrp : rowP ws with
        | none =>
          right
          obtain ⟨s1, rfl, f1⟩ := loop_at (hin.2 hrp) hr ⟨[], rfl, ⟨by simp [q2], by simp [q5], by simp [q28], by simp [q29], by simp [q2, q5, q28, q29, q30, H16, H3, H4, fzO, strsO], by simp [q2, q5, q28, q29, q30, H16, H3, H4, fzO, strsO], _, by simp [q2, q5, q28, q29, q30, H16, H3, H4, fzO, strsO] <;> rfl, .inl ⟨by simp [hb], rfl⟩⟩, by simp [q30], by simp, by simp, by simp, by simp [q2, q5, q28, q29, q30, H16, H3, H4, fzO, strsO]⟩
          simp
          exact f1
        | some a =>
          left
          obtain ⟨s1, rfl, ⟨p2, p5, p28, p29, P16, P3, v, P4, pG⟩, p30⟩ := loop_at (hin.1 a hrp) hr ⟨[], rfl, ⟨by simp [q2], by simp [q5], by simp [q28], by simp [q29], by simp [q2, q5, q28, q29, q30, H16, H3, H4, fzO, strsO], by simp [q2, q5, q28, q29, q30, H16, H3, H4, fzO, strsO], _, by simp [q2, q5, q28, q29, q30, H16, H3, H4, fzO, strsO] <;> rfl, .inl ⟨by simp [hb], rfl⟩⟩, by simp [q30], by simp, by simp, by simp, by simp [q2, q5, q28, q29, q30, H16, H3, H4, fzO, strsO]⟩
          refine ⟨_, _, rfl, ?_⟩
          simp [R25_0, R25_1, R25_2, R25_3, R25_4, R25_5, R25_6, R25_7, R25_8, R25_9, R25_10, R25_11, R25_12, R25_13, R25_14, R25_15, R25_16, R25_17, R25_18, R25_19, R25_20, R25_21, R25_22, R25_23, R25_24, R25_25, R25_26, R25_27, Tryd.f25, lpL25_0, lpL25_1, lpM25_0, lpM25_1, M25_0, M25_1, p2, p5, p28, p29, p30, hwn]
          exact ⟨_, rfl, ⟨by simp [p2], by simp [p5], by simp [p28], by simp [p29], by simp [P16], by simp [P3], v, by simp [P4], by simpa using pG⟩, by simp⟩
      · simp [intsO] at hH
        simp [L25_0, R25_0, R25_1, R25_2, R25_3, R25_4, R25_5, R25_6, R25_7, R25_8, R25_9, R25_10, R25_11, R25_12, R25_13, R25_14, R25_15, R25_16, R25_17, R25_18, R25_19, R25_20, R25_21, R25_22, R25_23, R25_24, R25_25, R25_26, R25_27, Tryd.f25, lpL25_0, lpL25_1, lpM25_0, lpM25_1, undef, q2, q5, q28, q29, q30, H16, H3, H4, hH, hj, nget, strs_at, strs_length, lit1, hS, c1, c5, c6]
        generalize hr : loopRun _ _ _ _ = res
        cases hrp : rowP ws with
        | none =>
          right
          obtain ⟨s1, rfl, f1⟩ := loop_at (hin.2 hrp) hr ⟨[], rfl, ⟨by simp [q2], by simp [q5], by simp [q28], by simp [q29], by simp [q2, q5, q28, q29, q30, H16, H3, H4, fzO, strsO, hH], by simp [q2, q5, q28, q29, q30, H16, H3, H4, fzO, strsO, hH], _, by simp [q2, q5, q28, q29, q30, H16, H3, H4, fzO, strsO, hH] <;> rfl, .inr ⟨by simpa using hb, _, by simp; rfl, by simp [q2, q5, q28, q29, q30, H16, H3, H4, fzO, strsO, hH, intsO]⟩⟩, by simp [q30], by simp, by simp, by simp, by simp [q2, q5, q28, q29, q30, H16, H3, H4, fzO, strsO, hH]⟩
          simp
          exact f1
        | some a =>
          left
          obtain ⟨s1, rfl, ⟨p2, p5, p28, p29, P16, P3, v, P4, pG⟩, p30⟩ := loop_at (hin.1 a hrp) hr ⟨[], rfl, ⟨by simp [q2], by simp [q5], by simp [q28], by simp [q29], by simp [q2, q5, q28, q29, q30, H16, H3, H4, fzO, strsO, hH], by simp [q2, q5, q28, q29, q30, H16, H3, H4, fzO, strsO, hH], _, by simp [q2, q5, q28, q29, q30, H16, H3, H4, fzO, strsO, hH] <;> rfl, .inr ⟨by simpa using hb, _, by simp; rfl, by simp [q2, q5, q28, q29, q30, H16, H3, H4, fzO, strsO, hH, intsO]⟩⟩, by simp [q30], by simp, by simp, by simp, by simp [q2, q5, q28, q29, q30, H16, H3, H4, fzO, strsO, hH]⟩
          refine ⟨_, _, rfl, ?_⟩
          simp [R25_0, R25_1, R25_2, R25_3, R25_4, R25_5, R25_6, R25_7, R25_8, R25_9, R25_10, R25_11, R25_12, R25_13, R25_14, R25_15, R25_16, R25_17, R25_18, R25_19, R25_20, R25_21, R25_22, R25_23, R25_24, R25_25, R25_26, R25_27, Tryd.f25, lpL25_0, lpL25_1, lpM25_0, lpM25_1, M25_0, M25_1, p2, p5, p28, p29, p30, hwn]
          exact ⟨_, rfl, ⟨by simp [p2], by simp [p5], by simp [p28], by simp [p29], by simp [P16], by simp [P3], v, by simp [P4], by simpa using pG⟩, by simp⟩

end Go.Proofs.YtalpgpjhloohfaaDoor.Eng
