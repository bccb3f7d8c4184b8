/- A deterministic reading of Go code over plain data: what functions of the program compute. No conditions. -/
import Derived.Test.YtfdlllhcjfhknaaLmbase
import Derived.Test.YtfdlllhcjfhknaaLmimpl
import Derived.Test.YtfdlllhcjfhknaaLmimplc
import Derived.Test.YtfdlllhcjfhknaaLmgood
import Derived.Test.YtfdlllhcjfhknaaLmspec
import Derived.Test.YtfdlllhcjfhknaaLmcombined
import Derived.Test.YtfdlllhcjfhknaaEngT
namespace Go.Proofs.Ytfdlllhcjfhknaa.Eng
open Go Go.Proofs
set_option maxRecDepth 100000
set_option maxHeartbeats 2000000
set_option linter.unusedSimpArgs false
set_option linter.unusedVariables false
attribute [local simp] finK fin1 hpOf xi renQ isRoot runCode runOps Eng.step wantedV astep val ofO made loadV storeV find V.cells bin binT un1 setAt fieldAddrV fieldV indexAddrV indexV bounds sliceV convV lenV foldV max2V min2V callO bor rdsO wrsO seen_none okD_none loops keepIds resV resultsV St.ev TK.agg refs refsL refsO V.one V.isC Value.oneCell' ren renL renO noTag noTagL noTagR noTagO nodup mapO passV frs psi refsR newD loopNext opsAt idx flatAt rootOf backR newsV appendV copyV clearV strV bytesOf buildV fillF chunk
attribute [local simp] cT cF cX cWR cOW cK X ints_length ints_get ints_getElem ints_drop ints_take ints_append ints_nil ints_set
attribute [local simp] ints_replicate
attribute [local simp] putV_some putV_none putH_app applyD_nil applyD_cons seen_app gc_ρ gc_H gc_tick st0_ρ st0_H st0_tick retV callRo callV_if borL_nil borL_cons ints_snoc take_self callWr cutH_app findQ afterV exportV_0 exportV_n okD_nil okD_cons sub_seq0 sub_seq1 sub_cond0 sub_cond1 sub_block sub_loop sub_nil young_far young_none hidW_nil mayW_nil pairs okI ok_0 ok_1 ok_2
attribute [local simp] T3 T4 T5 T9 T22 T24 T26 T29 T36 T73 T75 T86 T89 T103 T104 T106 T108 T109 T111 T114 T118 T134 T136 T157 T161 T168
attribute [local simp] young_near clo cloF Region.binds Nat.testBit
theorem ok_3 (ty : TypeId) (sz : Nat) (fl : Bool) (e e' e2 : List V) : okObj ⟨ty, sz, fl, [e, e', e2]⟩ = ((e.length == sz && e.all fun x => x.one && (!fl || x.isC)) && ((e'.length == sz && e'.all fun x => x.one && (!fl || x.isC)) && (e2.length == sz && e2.all fun x => x.one && (!fl || x.isC)))) := by simp [okObj]
attribute [local simp] ok_3
def chF (x a b : Int) : Int := if x = -9999 then x else if x = 0 then b else a
def chL (t a b : List Int) : List Int := List.zipWith (fun x (q : Int × Int) => chF x q.1 q.2) t (a.zip b)
theorem chL_length {t a b : List Int} (ha : a.length = t.length) (hb : b.length = t.length) : (chL t a b).length = t.length := by simp [chL, ha, hb]
theorem chL_get {t a b : List Int} (ha : a.length = t.length) (hb : b.length = t.length) {i : Nat} (hi : i < t.length) : (chL t a b)[i]'(by rw [chL_length ha hb]; exact hi) = chF t[i] (a[i]'(by omega)) (b[i]'(by omega)) := by simp [chL]
theorem c_specCh (k : Nat) (w h : Int) (t a b : List Int) (g0 : goodB w h t = true) (g1 : goodB w h a = true) (g2 : goodB w h b = true) (hk : 900 ≤ k) :
    callK C (k + 9) 59 [fldV true w h t, fldV true w h a, fldV true w h b] [] = some (.tp [ownV w h 0 2 t.length, .c (.bool true)], hpOf [] [intsO (chL t a b)]) := by
  rw [callK_fn rfl F59 code59]
  obtain ⟨s0, n0, _, k0⟩ := good_length g0
  obtain ⟨_, n1, _, k1⟩ := good_length g1
  obtain ⟨_, n2, _, k2⟩ := good_length g2
  have ha : a.length = t.length := by omega
  have hb : b.length = t.length := by omega
  have hz := chL_length (t := t) (a := a) (b := b) ha hb
  have e1 := c_l2Same (k + 8) true true w h w h t a (by omega)
  have e2 := c_l2Same (k + 8) true true w h w h t b (by omega)
  have cl := c_l2Own (k + 8) true w h t (by omega) (by omega)
  simp [fldV, g0, g1, g2] at e1 e2
  simp [fldV, ownV, intsO] at cl
  have hL := loopHas (body := fun st => runCode C (callK C (k + 8)) (k + 8) (K 59) L59_0 1 st) (keep := [3, 4, 5, 6, 8, 9]) (.ex 0) (fun st => st.ρ 6 = .p 64 1 3 0 0 ∧ st.ρ 8 = .p 3120 3 3 0 0 ∧ st.H 64 = some (1, ⟨29, 3, false, [[.c (.int .i64 0), .c (.int .i64 0), .c (.slice none 0 0)]]⟩) ∧ st.H 3120 = some (3, ⟨29, 3, false, [[.c (.int .i64 w), .c (.int .i64 h), .s 3104 3 1 0 t.length]]⟩) ∧ st.H 3104 = some (3, intsO (chL t a b)))
    (fun i st => st.ρ 3 = .p 16 1 3 0 0 ∧ st.ρ 4 = .p 32 1 3 0 0 ∧ st.ρ 5 = .p 48 1 3 0 0 ∧ st.ρ 6 = .p 64 1 3 0 0 ∧ st.ρ 8 = .p 3120 3 3 0 0 ∧ st.ρ 9 = .c (.int .i64 (i : Int)) ∧ st.H 16 = some (1, ⟨29, 3, false, [[.c (.int .i64 w), .c (.int .i64 h), .sq true true 1 (ints t)]]⟩) ∧ st.H 32 = some (1, ⟨29, 3, false, [[.c (.int .i64 w), .c (.int .i64 h), .sq true true 1 (ints a)]]⟩) ∧ st.H 48 = some (1, ⟨29, 3, false, [[.c (.int .i64 w), .c (.int .i64 h), .sq true true 1 (ints b)]]⟩) ∧ st.H 64 = some (1, ⟨29, 3, false, [[.c (.int .i64 0), .c (.int .i64 0), .c (.slice none 0 0)]]⟩) ∧ st.H 3120 = some (3, ⟨29, 3, false, [[.c (.int .i64 w), .c (.int .i64 h), .s 3104 3 1 0 t.length]]⟩) ∧ st.H 3104 = some (3, intsO (fillL (chL t a b) t i)))
    t.length (k + 8) (by omega)
    (by
      rintro i st next hi ⟨q3, q4, q5, q6, q8, qi, H16, H32, H48, H64, H3120, H3104⟩ hn
      have hia : i < a.length := by omega
      have hib : i < b.length := by omega
      have hget := fillL_get (chL t a b) t i hz.symm (by omega)
      have hset := fillL_set (chL t a b) t i hz.symm (by omega)
      have hv := chL_get (t := t) (a := a) (b := b) ha hb hi
      rw [hv] at hset
      have hwn := wrap_next hi (by omega : t.length ≤ 9000000000000000000)
      by_cases hx : t[i] = -9999
      · have hk := fillL_keep (chL t a b) t i hz.symm (by omega) (by rw [hv]; simp [chF, hx])
        simp [L59_0, R59_0, R59_1, R59_2, R59_3, R59_4, R59_5, R59_6, R59_7, R59_8, R59_9, R59_10, R59_11, Try.f59, lpL59_0, lpM59_0, M59_0, q3, q4, q5, q6, q8, qi, H16, H32, H48, H64, H3120, H3104, hi, hia, hib, hx, hwn, intsO]
        exact hn _ (by simp [q3, q4, q5, q6, q8, H16, H32, H48, H64, H3120, H3104, hk, intsO])
      · have hx' : (t[i] == -9999) = false := by simpa using hx
        by_cases hy : t[i] = 0
        · have hs : (fillL (chL t a b) t i).set i b[i] = fillL (chL t a b) t (i + 1) := by rw [← hset]; simp [chF, hy]
          simp [L59_0, R59_0, R59_1, R59_2, R59_3, R59_4, R59_5, R59_6, R59_7, R59_8, R59_9, R59_10, R59_11, Try.f59, lpL59_0, lpM59_0, M59_0, q3, q4, q5, q6, q8, qi, H16, H32, H48, H64, H3120, H3104, hi, hia, hib, hx, hx', hy, hget, hs, hwn, intsO]
          exact hn _ (by simp [q3, q4, q5, q6, q8, H16, H32, H48, H64, H3120, intsO])
        · have hy' : (t[i] == 0) = false := by simpa using hy
          have hs : (fillL (chL t a b) t i).set i a[i] = fillL (chL t a b) t (i + 1) := by rw [← hset]; simp [chF, hx, hy]
          simp [L59_0, R59_0, R59_1, R59_2, R59_3, R59_4, R59_5, R59_6, R59_7, R59_8, R59_9, R59_10, R59_11, Try.f59, lpL59_0, lpM59_0, M59_0, q3, q4, q5, q6, q8, qi, H16, H32, H48, H64, H3120, H3104, hi, hia, hib, hx, hx', hy, hy', hget, hs, hwn, intsO]
          exact hn _ (by simp [q3, q4, q5, q6, q8, H16, H32, H48, H64, H3120, intsO]))
    (by
      rintro st next ⟨q3, q4, q5, q6, q8, qi, H16, H32, H48, H64, H3120, H3104⟩
      have hf := fillL_all (chL t a b) t (by omega)
      rw [hz] at hf
      simp [L59_0, R59_0, R59_1, R59_2, R59_3, R59_4, R59_5, R59_6, R59_7, R59_8, R59_9, R59_10, R59_11, Try.f59, lpL59_0, lpM59_0, M59_0, q3, q4, q5, q6, q8, qi, H16, H32, H48, H64, H3120, H3104, hf, intsO])
  simp [R59_0, R59_1, R59_2, R59_3, R59_4, R59_5, R59_6, R59_7, R59_8, R59_9, R59_10, R59_11, Try.f59, lpL59_0, lpM59_0, fldV, e1, e2, cl, ownV]
  generalize hr : loopRun _ _ _ _ = res
  obtain ⟨s1, rfl, f6, f8, f64, f3120, f3104⟩ := loop_at hL hr (by simp [fillL_zero, intsO])
  simp [R59_0, R59_1, R59_2, R59_3, R59_4, R59_5, R59_6, R59_7, R59_8, R59_9, R59_10, R59_11, Try.f59, lpL59_0, lpM59_0, M59_0, f6, f8, f64, f3120, f3104, ownV, intsO]
theorem c_implCh (k : Nat) (w h : Int) (t a b : List Int) (g0 : goodB w h t = true) (g1 : goodB w h a = true) (g2 : goodB w h b = true) (hk : 900 ≤ k) :
    callK C (k + 9) 58 [fldV true w h t, fldV true w h a, fldV true w h b] [] = some (.tp [ownV w h 0 2 t.length, .c (.bool true)], hpOf [] [intsO (chL t a b)]) := by
  rw [callK_fn rfl F58 code58]
  obtain ⟨s0, n0, _, k0⟩ := good_length g0
  obtain ⟨_, n1, _, k1⟩ := good_length g1
  obtain ⟨_, n2, _, k2⟩ := good_length g2
  have ha : a.length = t.length := by omega
  have hb : b.length = t.length := by omega
  have hz := chL_length (t := t) (a := a) (b := b) ha hb
  obtain ⟨hp0, hp, hs⟩ := shape_area s0
  have hl0 : t ≠ [] := by
    intro e; subst e
    have := Int.mul_pos (by omega : 0 < w) (by omega : 0 < h)
    simp at n0; omega
  have hal := c_areAlike (k + 8) true ⟨true, w, h, t⟩ [⟨true, w, h, a⟩, ⟨true, w, h, b⟩] (by simp) (by simp; omega)
  simp [Fd.cells, likeB, g0, g1, g2] at hal
  have cl := c_cloneField (k + 8) true w h t (by omega) hl0 (by omega)
  simp [fldV, intsO] at cl
  have hL := loopHas (body := fun st => runCode C (callK C (k + 8)) (k + 8) (K 58) L58_0 1 st) (keep := [4, 5, 6, 8, 21, 22, 23]) (.ex 0) (fun st => st.ρ 6 = .p 64 1 3 0 0 ∧ st.ρ 8 = .p 3120 3 3 0 0 ∧ st.H 64 = some (1, ⟨29, 3, false, [[.c (.int .i64 0), .c (.int .i64 0), .c (.slice none 0 0)]]⟩) ∧ st.H 3120 = some (3, ⟨29, 3, false, [[.c (.int .i64 w), .c (.int .i64 h), .s 3104 3 1 0 t.length]]⟩) ∧ st.H 3104 = some (3, intsO (chL t a b)))
    (fun i st => st.ρ 4 = .p 32 1 3 0 0 ∧ st.ρ 5 = .p 48 1 3 0 0 ∧ st.ρ 6 = .p 64 1 3 0 0 ∧ st.ρ 8 = .p 3120 3 3 0 0 ∧ st.ρ 21 = .sq true true 1 (ints t) ∧ st.ρ 22 = .c (.int .i64 (t.length : Int)) ∧ st.ρ 23 = .c (.int .i64 (i : Int)) ∧ st.H 32 = some (1, ⟨29, 3, false, [[.c (.int .i64 w), .c (.int .i64 h), .sq true true 1 (ints a)]]⟩) ∧ st.H 48 = some (1, ⟨29, 3, false, [[.c (.int .i64 w), .c (.int .i64 h), .sq true true 1 (ints b)]]⟩) ∧ st.H 64 = some (1, ⟨29, 3, false, [[.c (.int .i64 0), .c (.int .i64 0), .c (.slice none 0 0)]]⟩) ∧ st.H 3120 = some (3, ⟨29, 3, false, [[.c (.int .i64 w), .c (.int .i64 h), .s 3104 3 1 0 t.length]]⟩) ∧ st.H 3104 = some (3, intsO (fillL (chL t a b) t i)))
    t.length (k + 8) (by omega)
    (by
      rintro i st next hi ⟨q4, q5, q6, q8, q21, q22, qi, H32, H48, H64, H3120, H3104⟩ hn
      have hia : i < a.length := by omega
      have hib : i < b.length := by omega
      have hget := fillL_get (chL t a b) t i hz.symm (by omega)
      have hset := fillL_set (chL t a b) t i hz.symm (by omega)
      have hv := chL_get (t := t) (a := a) (b := b) ha hb hi
      rw [hv] at hset
      have hwn := wrap_next hi (by omega : t.length ≤ 9000000000000000000)
      by_cases hx : t[i] = -9999
      · have hk := fillL_keep (chL t a b) t i hz.symm (by omega) (by rw [hv]; simp [chF, hx])
        simp [L58_0, R58_0, R58_1, R58_2, R58_3, R58_4, R58_5, R58_6, R58_7, R58_8, R58_9, R58_10, R58_11, R58_12, Try.f58, lpL58_0, lpM58_0, M58_0, q4, q5, q6, q8, q21, q22, qi, H32, H48, H64, H3120, H3104, hi, hia, hib, hx, hwn, intsO]
        exact hn _ (by simp [q4, q5, q6, q8, q21, q22, H32, H48, H64, H3120, H3104, hk, intsO])
      · have hx' : (t[i] == -9999) = false := by simpa using hx
        by_cases hy : t[i] = 0
        · have hs : (fillL (chL t a b) t i).set i b[i] = fillL (chL t a b) t (i + 1) := by rw [← hset]; simp [chF, hy]
          simp [L58_0, R58_0, R58_1, R58_2, R58_3, R58_4, R58_5, R58_6, R58_7, R58_8, R58_9, R58_10, R58_11, R58_12, Try.f58, lpL58_0, lpM58_0, M58_0, q4, q5, q6, q8, q21, q22, qi, H32, H48, H64, H3120, H3104, hi, hia, hib, hx, hx', hy, hget, hs, hwn, intsO]
          exact hn _ (by simp [q4, q5, q6, q8, q21, q22, H32, H48, H64, H3120, intsO])
        · have hy' : (t[i] == 0) = false := by simpa using hy
          have hs : (fillL (chL t a b) t i).set i a[i] = fillL (chL t a b) t (i + 1) := by rw [← hset]; simp [chF, hx, hy]
          simp [L58_0, R58_0, R58_1, R58_2, R58_3, R58_4, R58_5, R58_6, R58_7, R58_8, R58_9, R58_10, R58_11, R58_12, Try.f58, lpL58_0, lpM58_0, M58_0, q4, q5, q6, q8, q21, q22, qi, H32, H48, H64, H3120, H3104, hi, hia, hib, hx, hx', hy, hy', hget, hs, hwn, intsO]
          exact hn _ (by simp [q4, q5, q6, q8, q21, q22, H32, H48, H64, H3120, intsO]))
    (by
      rintro st next ⟨q4, q5, q6, q8, q21, q22, qi, H32, H48, H64, H3120, H3104⟩
      have hf := fillL_all (chL t a b) t (by omega)
      rw [hz] at hf
      simp [L58_0, R58_0, R58_1, R58_2, R58_3, R58_4, R58_5, R58_6, R58_7, R58_8, R58_9, R58_10, R58_11, R58_12, Try.f58, lpL58_0, lpM58_0, M58_0, q4, q5, q6, q8, q21, q22, qi, H32, H48, H64, H3120, H3104, hf, intsO])
  simp [R58_0, R58_1, R58_2, R58_3, R58_4, R58_5, R58_6, R58_7, R58_8, R58_9, R58_10, R58_11, R58_12, Try.f58, lpL58_0, lpM58_0, fldV, hal, cl, ownV]
  generalize hr : loopRun _ _ _ _ = res
  obtain ⟨s1, rfl, f6, f8, f64, f3120, f3104⟩ := loop_at hL hr (by simp [fillL_zero, intsO])
  simp [R58_0, R58_1, R58_2, R58_3, R58_4, R58_5, R58_6, R58_7, R58_8, R58_9, R58_10, R58_11, R58_12, Try.f58, lpL58_0, lpM58_0, M58_0, f6, f8, f64, f3120, f3104, ownV, intsO]

theorem res_ChoosePart (k : Nat) (w1 h1 : Int) (l1 : List Int) (w2 h2 : Int) (l2 : List Int) (w3 h3 : Int) (l3 : List Int) (hk : 3000 ≤ k) :
    (callK C k 59 [fldV true w1 h1 l1, fldV true w2 h2 l2, fldV true w3 h3 l3] [] = some (.tp [nilV, .c (.bool false)], hpOf [] []) ∧ callK C k 58 [fldV true w1 h1 l1, fldV true w2 h2 l2, fldV true w3 h3 l3] [] = some (.tp [nilV, .c (.bool false)], hpOf [] [])) ∨
    ∃ (rW rH : Int) (r : List Int), r.length ≤ 64 ∧ callK C k 59 [fldV true w1 h1 l1, fldV true w2 h2 l2, fldV true w3 h3 l3] [] = some (.tp [ownV rW rH 0 2 r.length, .c (.bool true)], hpOf [] [intsO r]) ∧ callK C k 58 [fldV true w1 h1 l1, fldV true w2 h2 l2, fldV true w3 h3 l3] [] = some (.tp [ownV rW rH 0 2 r.length, .c (.bool true)], hpOf [] [intsO r]) := by
  obtain ⟨k, rfl⟩ : ∃ m, k = m + 9 := ⟨k - 9, by omega⟩
  have e1 := c_l2Same (k + 8) true true w1 h1 w2 h2 l1 l2 (by omega)
  have e2 := c_l2Same (k + 8) true true w1 h1 w3 h3 l1 l3 (by omega)
  have hal := c_areAlike (k + 8) true ⟨true, w1, h1, l1⟩ [⟨true, w2, h2, l2⟩, ⟨true, w3, h3, l3⟩] (by simp) (by simp; omega)
  have eq1 : ([(⟨true, w1, h1, l1⟩ : Fd), ⟨true, w2, h2, l2⟩, ⟨true, w3, h3, l3⟩].all (likeB ⟨true, w1, h1, l1⟩)) = ((goodB w1 h1 l1 && (goodB w2 h2 l2 && (w1 == w2 && h1 == h2))) && (goodB w1 h1 l1 && (goodB w3 h3 l3 && (w1 == w3 && h1 == h3)))) := by
    simp only [List.all_cons, List.all_nil, likeB, beq_self_eq_true, Bool.and_true, Fd.good]
    rw [Bool.beq_comm (a := w2), Bool.beq_comm (a := h2), Bool.beq_comm (a := w3), Bool.beq_comm (a := h3)]
    cases goodB w1 h1 l1 <;> simp
  rw [eq1] at hal
  cases c1 : (goodB w1 h1 l1 && (goodB w2 h2 l2 && (w1 == w2 && h1 == h2)))
  · rw [c1] at e1 hal
    simp [fldV, Fd.cells] at e1 hal
    refine .inl ⟨?_, ?_⟩
    · rw [callK_fn rfl F59 code59]
      simp [R59_0, R59_1, R59_2, R59_3, R59_4, R59_5, R59_6, R59_7, R59_8, R59_9, R59_10, R59_11, Try.f59, lpL59_0, lpM59_0, M59_0, fldV, e1, nilV]
    · rw [callK_fn rfl F58 code58]
      simp [R58_0, R58_1, R58_2, R58_3, R58_4, R58_5, R58_6, R58_7, R58_8, R58_9, R58_10, R58_11, R58_12, Try.f58, lpL58_0, lpM58_0, M58_0, fldV, hal, nilV]
  cases c2 : (goodB w1 h1 l1 && (goodB w3 h3 l3 && (w1 == w3 && h1 == h3)))
  · rw [c1] at e1
    rw [c2] at e2
    rw [c1, c2] at hal
    simp [fldV, Fd.cells] at e1 e2 hal
    refine .inl ⟨?_, ?_⟩
    · rw [callK_fn rfl F59 code59]
      simp [R59_0, R59_1, R59_2, R59_3, R59_4, R59_5, R59_6, R59_7, R59_8, R59_9, R59_10, R59_11, Try.f59, lpL59_0, lpM59_0, M59_0, fldV, e1, e2, nilV]
    · rw [callK_fn rfl F58 code58]
      simp [R58_0, R58_1, R58_2, R58_3, R58_4, R58_5, R58_6, R58_7, R58_8, R58_9, R58_10, R58_11, R58_12, Try.f58, lpL58_0, lpM58_0, M58_0, fldV, hal, nilV]
  simp only [Bool.and_eq_true, beq_iff_eq] at c1 c2
  obtain ⟨g1, g2, rfl, rfl⟩ := c1
  obtain ⟨_, g3, rfl, rfl⟩ := c2
  obtain ⟨_, n1, _, k1⟩ := good_length g1
  obtain ⟨_, n2, _, k2⟩ := good_length g2
  obtain ⟨_, n3, _, k3⟩ := good_length g3
  have hz := chL_length (t := l1) (a := l2) (b := l3) (by omega) (by omega)
  refine .inr ⟨w1, h1, chL l1 l2 l3, by omega, ?_, ?_⟩
  · rw [hz]; exact c_specCh k w1 h1 l1 l2 l3 g1 g2 g3 (by omega)
  · rw [hz]; exact c_implCh k w1 h1 l1 l2 l3 g1 g2 g3 (by omega)

end Go.Proofs.Ytfdlllhcjfhknaa.Eng
