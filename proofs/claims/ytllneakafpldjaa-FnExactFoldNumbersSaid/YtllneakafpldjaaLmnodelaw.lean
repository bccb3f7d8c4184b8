/- A deterministic reading of Go code over plain data: what functions of the program compute. No conditions. -/
import Derived.Test.YtllneakafpldjaaLmbase
import Derived.Test.YtllneakafpldjaaLmnodes
import Derived.Test.YtllneakafpldjaaLmnodefn
import Derived.Test.YtllneakafpldjaaEngT
namespace Go.Proofs.Ytllneakafpldjaa.Eng
open Go Go.Proofs
set_option maxRecDepth 100000
set_option maxHeartbeats 2000000
set_option linter.unusedSimpArgs false
set_option linter.unusedVariables false
attribute [local simp] finK fin1 hpOf xi renQ isRoot runCode runOps Eng.step wantedV astep val ofO made loadV storeV find V.cells bin binT binA numT numFs eqCells un1 setAt fieldAddrV fieldV indexAddrV indexV bounds sliceV convV lenV foldV max2V min2V callO bor rdsO wrsO seen_none okD_none loops keepIds resV resultsV St.ev TK.agg refs refsL refsO V.one V.isC Value.oneCell' ren renL renO noTag noTagL noTagR noTagO nodup mapO passV frs psi refsR newD loopNext opsAt idx flatAt rootOf backR newsV appendV copyV clearV strV bytesV bldV bufV selfV bytesOf nilCmp buildV fillF chunk
attribute [local simp] cT cF cX cWR cOW cK cBL X ints_length ints_get ints_getElem ints_drop ints_take ints_append ints_nil ints_set
attribute [local simp] ints_replicate
attribute [local simp] putV_some putV_none putH_app applyD_nil applyD_cons seen_app gc_ρ gc_H gc_tick st0_ρ st0_H st0_tick retV callRo callV_if borL_nil borL_cons ints_snoc take_self callWr cutH_app findQ afterV exportV_0 exportV_n okD_nil okD_cons sub_seq0 sub_seq1 sub_cond0 sub_cond1 sub_block sub_loop sub_nil young_far young_none hidW_nil mayW_nil pairs okI ok_0 ok_1 ok_2
attribute [local simp] T3 T4 T22 T24 T35 T37
def fillG {α : Type} (l m : List α) (i : Nat) : List α := l.take i ++ m.drop i
theorem fillG_zero {α : Type} (l m : List α) : fillG l m 0 = m := by simp [fillG]
theorem fillG_all {α : Type} (l m : List α) (h : m.length ≤ l.length) : fillG l m l.length = l := by simp [fillG, List.drop_eq_nil_of_le h]
theorem fillG_length {α : Type} (l m : List α) (i : Nat) (h : m.length = l.length) : (fillG l m i).length = l.length := by simp [fillG]; omega
theorem fillG_get {α : Type} (l m : List α) (i : Nat) (h : m.length = l.length) (hi : i < l.length) : (fillG l m i)[i]? = some (m[i]'(by omega)) := by
  unfold fillG
  rw [List.getElem?_append_right (by simp; omega)]
  have : i - (l.take i).length = 0 := by simp; omega
  rw [this, List.getElem?_drop, List.getElem?_eq_getElem (by omega)]
  rfl
theorem fillG_set {α : Type} (l m : List α) (i : Nat) (h : m.length = l.length) (hi : i < l.length) : (fillG l m i).set i l[i] = fillG l m (i + 1) := by
  unfold fillG
  rw [List.set_append, if_neg (by simp; omega)]
  have : i - (l.take i).length = 0 := by simp; omega
  rw [this, List.drop_eq_getElem_cons (by omega : i < m.length), List.set_cons_zero, List.take_succ_eq_append_getElem hi, List.append_assoc]
  rfl
def ndO (l : List (Int × Int)) : Eng.Obj := ⟨35, 2, true, ndL l⟩
theorem ndL_set (l : List (Int × Int)) (i : Nat) (a : Int × Int) : (ndL l).set i (ndE a) = ndL (l.set i a) := by simp [ndL, List.map_set]
theorem ndL_fill_get {l m : List (Int × Int)} {i : Nat} (h : m.length = l.length) (hi : i < l.length) : (ndL (fillG l m i))[i]? = some (ndE (m[i]'(by omega))) := by
  unfold ndL
  rw [List.getElem?_map, fillG_get l m i h hi]
  rfl
theorem ndL_fill_set {l m : List (Int × Int)} {i : Nat} (h : m.length = l.length) (hi : i < l.length) : (ndL (fillG l m i)).set i (ndE l[i]) = ndL (fillG l m (i + 1)) := by rw [ndL_set, fillG_set l m i h hi]
theorem ndL_replicate (n : Nat) : List.replicate n [V.c (.int .i64 0), V.c (.int .i64 0)] = ndL (List.replicate n (0, 0)) := by simp [ndL, ndE]
theorem okN (ty : TypeId) (l : List (Int × Int)) : okObj ⟨ty, 2, true, ndL l⟩ = true := by simp [okObj, ndL, ndE, V.one, V.isC, Value.oneCell']
theorem c_szNodeS (k : Nat) (b : Bool) (l : List (Int × Int)) (n : Int) (hk : 1 ≤ k) (hn : -9223372036854775807 ≤ n - l.length) (hn' : n ≤ 9000000000000000000) : callK C k 4 [.sq b true 2 (ndL l), .c (.int .i64 n)] [] = some (.c (.int .i64 (if n - l.length < 0 then -1 else n - l.length)), hpOf [] []) := by
  obtain ⟨k, rfl⟩ : ∃ m, k = m + 1 := ⟨k - 1, by omega⟩
  rw [callK_fn rfl F4 code4]
  have hw : IntKind.i64.wrap (n - l.length) = n - l.length := wrap_small (by omega) (by omega)
  by_cases h : n - (l.length : Int) < 0 <;> simp [R4_0, R4_1, R4_2, R4_3, R4_4, Try.f4, ndL_length, hw, h]
theorem c_toNode (k : Nat) (q : Int × Int) (hk : 1 ≤ k) : callK C k 13 [.ag (ndE q)] [] = some (.ag (ndE q), hpOf [] []) := by
  obtain ⟨k, rfl⟩ : ∃ m, k = m + 1 := ⟨k - 1, by omega⟩
  rw [callK_fn rfl F13 code13]
  simp [R13_0, R13_1, R13_2, R13_3, R13_4, Try.f13, ndE]
theorem c_toNodeS (k : Nat) (b : Bool) (l : List (Int × Int)) (hl : l.length ≤ 1048576) (hk : l.length + 10 ≤ k) : callK C k 6 [.sq b true 2 (ndL l)] [] = some (.s 0 2 2 0 l.length, hpOf [] [ndO l]) := by
  obtain ⟨k, rfl⟩ : ∃ m, k = m + 3 := ⟨k - 3, by omega⟩
  rw [callK_fn rfl F6 code6]
  have hrl : (List.replicate l.length ((0 : Int), (0 : Int))).length = l.length := by simp
  have hL := loopHas (body := fun st => runCode C (callK C (k + 2)) (k + 2) (K 6) L6_0 1 st) (keep := [0, 3, 4]) (.ex 0) (fun st => st.ρ 3 = .s 1072 2 2 0 l.length ∧ st.H 1072 = some (2, ndO l))
    (fun i st => st.ρ 0 = .sq b true 2 (ndL l) ∧ st.ρ 3 = .s 1072 2 2 0 l.length ∧ st.H 1072 = some (2, ndO (fillG l (List.replicate l.length (0, 0)) i)) ∧ st.ρ 4 = .c (.int .i64 (i : Int)))
    l.length (k + 2) (by omega)
    (by
      rintro i st next hi ⟨h0, h3, hH, h4⟩ hn
      have hg := ndL_fill_get (l := l) hrl hi
      have hs := ndL_fill_set (l := l) hrl hi
      have hfl := fillG_length l (List.replicate l.length ((0 : Int), (0 : Int))) i hrl
      have hto := c_toNode (k + 2) l[i] (by omega)
      have nget := ndL_get l i hi
      simp [ndE] at hto hs hg
      simp [L6_0, R6_0, R6_1, R6_2, R6_3, R6_4, R6_5, R6_6, Try.f6, lpL6_0, lpM6_0, M6_0, h0, h3, h4, hH, hi, ndO, ndL_length, nget, ndL_at, ndE, hto, wrap_next hi (by omega : l.length ≤ 9000000000000000000), hg, hs, hfl]
      exact hn _ (by simp [h0, h3, ndO]))
    (by
      rintro st next ⟨h0, h3, hH, h4⟩
      simp [L6_0, R6_0, R6_1, R6_2, R6_3, R6_4, R6_5, R6_6, Try.f6, lpL6_0, lpM6_0, M6_0, h0, h3, h4, hH, ndO, ndL_length, fillG_all])
  have b1 : (l.length : Int) ≤ 17592186044416 := by omega
  have b2 : 16 * (l.length : Int) ≤ 140737488355328 := by omega
  simp [R6_0, R6_1, R6_2, R6_3, R6_4, R6_5, R6_6, Try.f6, lpL6_0, lpM6_0, ndL_length, b1, b2, ndL_replicate, okN]
  generalize hr : loopRun _ _ _ _ = res
  obtain ⟨s1, rfl, f3, fH⟩ := loop_at hL hr ⟨by simp, by simp, by simp [ndO, fillG_zero], by simp⟩
  simp [R6_0, R6_1, R6_2, R6_3, R6_4, R6_5, R6_6, Try.f6, lpL6_0, lpM6_0, M6_0, f3, fH, ndO]
theorem c_eqNode (k : Nat) (q r : Int × Int) (hk : 1 ≤ k) : callK C k 19 [.ag (ndE q), .ag (ndE r)] [] = some (.c (.bool (decide (q = r))), hpOf [] []) := by
  obtain ⟨k, rfl⟩ : ∃ m, k = m + 1 := ⟨k - 1, by omega⟩
  rw [callK_fn rfl F19 code19]
  obtain ⟨a, b⟩ := q
  obtain ⟨c, d⟩ := r
  by_cases h1 : a = c
  · subst h1
    by_cases h2 : b = d
    · subst h2; simp [R19_0, R19_1, R19_2, R19_3, R19_4, R19_5, Try.f19, ndE]
    · simp [R19_0, R19_1, R19_2, R19_3, R19_4, R19_5, Try.f19, ndE, h2]
  · simp [R19_0, R19_1, R19_2, R19_3, R19_4, R19_5, Try.f19, ndE, h1]
theorem c_eqNodeS (k : Nat) (b c : Bool) (l m : List (Int × Int)) (hl : l.length ≤ 1048576) (hk : l.length + 10 ≤ k) : callK C k 8 [.sq b true 2 (ndL l), .sq c true 2 (ndL m)] [] = some (.c (.bool (decide (l = m))), hpOf [] []) := by
  obtain ⟨k, rfl⟩ : ∃ m, k = m + 3 := ⟨k - 3, by omega⟩
  rw [callK_fn rfl F8 code8]
  have heq := fun q r => c_eqNode (k + 2) q r (by omega)
  simp [ndE] at heq
  by_cases hlm : l = m
  · subst hlm
    have hL := loopHas (body := fun st => runCode C (callK C (k + 2)) (k + 2) (K 8) L8_0 1 st) (keep := [0, 1, 5]) (.ex 0) (fun st => True)
      (fun i st => st.ρ 0 = .sq b true 2 (ndL l) ∧ st.ρ 1 = .sq c true 2 (ndL l) ∧ st.ρ 5 = .c (.int .i64 (i : Int)))
      l.length (k + 2) (by omega)
      (by
        rintro i st next hi ⟨h0, h1, h5⟩ hn
        have nget := ndL_get l i hi
        simp [L8_0, R8_0, R8_1, R8_2, R8_3, R8_4, R8_5, R8_6, R8_7, R8_8, Try.f8, lpL8_0, lpM8_0, M8_0, h0, h1, h5, hi, ndL_length, nget, ndL_at, ndE, heq, wrap_next hi (by omega : l.length ≤ 9000000000000000000)]
        simp only [and_true] at hn
        refine hn _ ⟨?_, ?_, ?_⟩ <;> simp [h0, h1])
      (by
        rintro st next ⟨h0, h1, h5⟩
        simp [L8_0, R8_0, R8_1, R8_2, R8_3, R8_4, R8_5, R8_6, R8_7, R8_8, Try.f8, lpL8_0, lpM8_0, M8_0, h0, h1, h5, ndL_length])
    simp [R8_0, R8_1, R8_2, R8_3, R8_4, R8_5, R8_6, R8_7, R8_8, Try.f8, lpL8_0, lpM8_0, ndL_length]
    generalize hr : loopRun _ _ _ _ = res
    obtain ⟨s1, rfl, _⟩ := loop_at hL hr (by simp)
    simp [R8_0, R8_1, R8_2, R8_3, R8_4, R8_5, R8_6, R8_7, R8_8, Try.f8, lpL8_0, lpM8_0, M8_0]
  · by_cases hll : l.length = m.length
    · have hL := loopHas (body := fun st => runCode C (callK C (k + 2)) (k + 2) (K 8) L8_0 1 st) (keep := [0, 1, 5]) .ret (fun st => st.ρ 4 = .c (.bool false))
        (fun i st => st.ρ 0 = .sq b true 2 (ndL l) ∧ st.ρ 1 = .sq c true 2 (ndL m) ∧ st.ρ 5 = .c (.int .i64 (i : Int)) ∧ l.take i = m.take i)
        l.length (k + 2) (by omega)
        (by
          rintro i st next hi ⟨h0, h1, h5, ht⟩ hn
          have hi' : i < m.length := by omega
          have nget := ndL_get l i hi
          have nget' := ndL_get m i hi'
          by_cases hx : l[i] = m[i]
          · have ht' : l.take (i + 1) = m.take (i + 1) := by rw [List.take_succ_eq_append_getElem hi, List.take_succ_eq_append_getElem hi', ht, hx]
            simp [L8_0, R8_0, R8_1, R8_2, R8_3, R8_4, R8_5, R8_6, R8_7, R8_8, Try.f8, lpL8_0, lpM8_0, M8_0, h0, h1, h5, hi, hi', ndL_length, nget, nget', ndL_at, ndE, heq, hx, wrap_next hi (by omega : l.length ≤ 9000000000000000000)]
            exact hn _ ⟨by simp [h0], by simp [h1], by simp, ht'⟩
          · have hx' : (l[i].1 = m[i].1 → ¬ l[i].2 = m[i].2) := fun e1 e2 => hx (Prod.ext e1 e2)
            have hx3 : ¬ l[i].1 = m[i].1 ∨ ¬ l[i].2 = m[i].2 := by
              by_cases e1 : l[i].1 = m[i].1
              · exact .inr (hx' e1)
              · exact .inl e1
            simp [L8_0, R8_0, R8_1, R8_2, R8_3, R8_4, R8_5, R8_6, R8_7, R8_8, Try.f8, lpL8_0, lpM8_0, M8_0, h0, h1, h5, hi, hi', ndL_length, nget, nget', ndL_at, ndE, heq, hx3])
        (by
          rintro st next ⟨h0, h1, h5, ht⟩
          rw [List.take_of_length_le (by omega), List.take_of_length_le (by omega)] at ht
          exact absurd ht hlm)
      have hll' : (l.length : Int) = m.length := by omega
      simp [R8_0, R8_1, R8_2, R8_3, R8_4, R8_5, R8_6, R8_7, R8_8, Try.f8, lpL8_0, lpM8_0, ndL_length, hll]
      generalize hr : loopRun _ _ _ _ = res
      obtain ⟨s1, rfl, f4⟩ := loop_at hL hr ⟨by simp, by simp, by simp, by simp⟩
      simp [R8_0, R8_1, R8_2, R8_3, R8_4, R8_5, R8_6, R8_7, R8_8, Try.f8, lpL8_0, lpM8_0, M8_0, f4, hlm]
    · have hll' : ¬ (l.length : Int) = m.length := by omega
      simp [R8_0, R8_1, R8_2, R8_3, R8_4, R8_5, R8_6, R8_7, R8_8, Try.f8, lpL8_0, lpM8_0, M8_0, ndL_length, hlm, hll']

end Go.Proofs.Ytllneakafpldjaa.Eng
