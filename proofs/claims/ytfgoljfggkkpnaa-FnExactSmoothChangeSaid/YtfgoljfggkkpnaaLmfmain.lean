/- A deterministic reading of Go code over plain data: what functions of the program compute. No conditions. -/
import Derived.Test.YtfgoljfggkkpnaaLmbase
import Derived.Test.YtfgoljfggkkpnaaLmimpl
import Derived.Test.YtfgoljfggkkpnaaLmgood
import Derived.Test.YtfgoljfggkkpnaaLmrepeat
import Derived.Test.YtfgoljfggkkpnaaLmfieldby
import Derived.Test.YtfgoljfggkkpnaaLmnbh
import Derived.Test.YtfgoljfggkkpnaaLmneigh
import Derived.Test.YtfgoljfggkkpnaaLmminmax
import Derived.Test.YtfgoljfggkkpnaaLml6values
import Derived.Test.YtfgoljfggkkpnaaLml6main
import Derived.Test.YtfgoljfggkkpnaaLmfcore
import Derived.Test.YtfgoljfggkkpnaaEngT
namespace Go.Proofs.Ytfgoljfggkkpnaa.Eng
open Go Go.Proofs
set_option maxRecDepth 100000
set_option maxHeartbeats 2000000
set_option linter.unusedSimpArgs false
set_option linter.unusedVariables false
attribute [local simp] finK fin1 hpOf xi renQ isRoot runCode runOps Eng.step wantedV astep val ofO made loadV storeV find V.cells bin binT un1 setAt fieldAddrV fieldV indexAddrV indexV bounds sliceV convV lenV foldV max2V min2V callO bor rdsO wrsO seen_none okD_none loops keepIds resV resultsV St.ev TK.agg refs refsL refsO V.one V.isC Value.oneCell' ren renL renO noTag noTagL noTagR noTagO nodup mapO passV frs psi refsR newD loopNext opsAt idx flatAt rootOf backR newsV appendV copyV buildV fillF chunk
attribute [local simp] cT cF cX cWR cOW cK X WR OW K ints_length ints_get ints_getElem ints_drop ints_take ints_append ints_nil ints_set
attribute [local simp] ints_replicate
attribute [local simp] putV_some putV_none putH_app applyD_nil applyD_cons seen_app gc_ρ gc_H gc_tick st0_ρ st0_H st0_tick retV callRo callV_ro borL_nil borL_cons ints_snoc take_self callV_wr callWr cutH_app findQ afterV exportV_0 exportV_n okD_nil okD_cons sub_seq0 sub_seq1 sub_cond0 sub_cond1 sub_block sub_loop sub_nil young_far young_none okI ok_0 ok_1 ok_2
attribute [local simp] T3 T4 T22 T24 T26 T57 T59 T63 T67 T87 T92
def resG (kind thr : Int) (nb : List Int) : Int := if kind = 1 then maxL nb else if kind = 2 then minL nb else if kind = 3 then nearI nb.sum nb.length else nearI (100 * cntG thr nb) nb.length
def fltG (kind thr : Int) (nb : List Int) : Int := if nb = [] then -9999 else resG kind thr nb
theorem cell_ok {l : List Int} (hl : l.all cellB = true) (w x y : Int) (h : cellOf l w x y ≠ -9999) : okV (cellOf l w x y) = true := by
  unfold cellOf at h ⊢
  rw [List.getD_eq_getElem?_getD] at h ⊢
  by_cases hi : (y * w + x).toNat < l.length
  · rw [List.getElem?_eq_getElem hi] at h ⊢
    have := List.all_eq_true.1 hl _ (List.getElem_mem hi)
    simp only [Option.getD_some] at h ⊢
    simp only [cellB, Bool.or_eq_true, beq_iff_eq] at this
    rcases this with this | this
    · exact absurd this h
    · exact this
  · rw [List.getElem?_eq_none (by omega)]
    rfl
theorem nb_ok {l : List Int} (hl : l.all cellB = true) (w h x y r : Int) : (nbL (cellOf l w) w h x y r).all okV = true := by
  rw [List.all_eq_true]
  intro z hz
  obtain ⟨h1, j, i, _, _, rfl⟩ := rowsL_mem hz
  exact cell_ok hl _ _ _ h1
theorem nb_len {l : List Int} {w h x y r : Int} (hw : w ≤ 8) (hh : h ≤ 8) (hx : 0 ≤ x) (hx' : x < w) (hy : 0 ≤ y) (hy' : y < h) (hr : 0 ≤ r) : (nbL (cellOf l w) w h x y r).length ≤ 64 := by
  obtain ⟨ya, yb, yc, yd, _, _⟩ := edge_facts (h := h) (r := r) hy hy' hr
  obtain ⟨xa, xb, xc, xd, _, _⟩ := edge_facts (h := w) (r := r) hx hx' hr
  have h1 := rowsL_length (cellOf l w) (lowE y r) (lowE x r) (topE h y r - lowE y r + 1).toNat (topE w x r - lowE x r + 1).toNat
  have h2 := Nat.mul_le_mul (by omega : (topE h y r - lowE y r + 1).toNat ≤ 8) (by omega : (topE w x r - lowE x r + 1).toNat ≤ 8)
  exact Nat.le_trans h1 (by omega)
theorem c_l6Result (k : Nat) (kind thr : Int) (nb : List Int) (hkind : kind = 1 ∨ kind = 2 ∨ kind = 3 ∨ kind = 5) (hok : nb.all okV = true) (h64 : nb.length ≤ 64) (hk : 200 ≤ k) :
    callK C k 88 [.sq true true 1 (ints (sortL nb)), .c (.int .i64 kind), .c (.int .i64 thr)] [] = some (.c (.int .i64 (fltG kind thr nb)), hpOf [] []) := by
  obtain ⟨k, rfl⟩ : ∃ m, k = m + 1 := ⟨k - 1, by omega⟩
  rw [callK_fn rfl F88 code88]
  by_cases h0 : nb = []
  · subst h0
    simp [R88_0, R88_1, R88_2, R88_3, R88_4, R88_5, R88_6, R88_7, R88_8, R88_9, R88_10, R88_11, R88_12, R88_13, R88_14, R88_15, R88_16, R88_17, R88_18, R88_19, R88_20, Try.f88, lpL88_0, lpM88_0, M88_0, sortL, fltG]
  obtain ⟨m, hm⟩ : ∃ m, nb.length = m + 1 := ⟨nb.length - 1, by have := List.length_pos_iff.2 h0; omega⟩
  obtain ⟨s, hs⟩ : ∃ s, sortL nb = s := ⟨_, rfl⟩
  have hsl : s.length = m + 1 := by rw [← hs, sortL_length, hm]
  have hlast : s[m]'(by omega) = maxL nb := by
    have := sortL_last (l := nb) (by omega)
    subst hs
    simpa [hm] using this
  have hfirst : s[0]'(by omega) = minL nb := by
    have := sortL_first (l := nb) (by omega)
    subst hs
    exact this
  have hsum : s.sum = nb.sum := by rw [← hs, sortL_sum]
  have hcnt : cntG thr s = cntG thr nb := by rw [← hs]; unfold cntG; rw [sortL_count]
  have hoks : s.all okV = true := by
    rw [← hs, List.all_eq_true]
    intro x hx
    exact List.all_eq_true.1 hok x ((sortL_perm nb).mem_iff.1 hx)
  rw [hs]
  have w1 : IntKind.i64.wrap ((m : Int) + 1 - 1) = m := by rw [wrap_small (by omega) (by omega)]; omega
  have w2 : IntKind.i64.wrap (m : Int) = m := wrap_small (by omega) (by omega)
  have g0 : ¬ (m : Int) + 1 = 0 := by omega
  have g0' : ((m : Int) + 1 == 0) = false := by simpa using g0
  have hl? : s[m]? = some (maxL nb) := by rw [List.getElem?_eq_getElem (by omega), hlast]
  have hf? : s[0]? = some (minL nb) := by rw [List.getElem?_eq_getElem (by omega), hfirst]
  have hL := loopHas (body := fun st => runCode C (callK C (k + 0)) (k + 0) (K 88) L88_0 1 st) (keep := [0, 1, 2, 7, 8, 9, 10]) (.ex 1) (fun st => st.ρ 1 = .c (.int .i64 kind) ∧ st.ρ 7 = .c (.int .i64 ((m : Int) + 1)) ∧ st.ρ 8 = .c (.int .i64 s.sum) ∧ st.ρ 9 = .c (.int .i64 (cntG thr s)))
    (fun i st => st.ρ 0 = .sq true true 1 (ints s) ∧ st.ρ 1 = .c (.int .i64 kind) ∧ st.ρ 2 = .c (.int .i64 thr) ∧ st.ρ 7 = .c (.int .i64 ((m : Int) + 1)) ∧ st.ρ 10 = .c (.int .i64 (i : Int)) ∧ st.ρ 8 = .c (.int .i64 (s.take i).sum) ∧ st.ρ 9 = .c (.int .i64 (cntG thr (s.take i))))
    (m + 1) (k + 0) (by omega)
    (by
      rintro i st next hi ⟨q0, q1, q2, q7, q10, q8, q9⟩ hn
      have his : i < s.length := by omega
      have b1 := sum_take_bound hoks (by omega) i
      have b2 := ok_get hoks his
      have b3 := cnt_bound thr (s.take i)
      have b4 : (s.take i).length ≤ 64 := by rw [List.length_take]; omega
      have w3 : IntKind.i64.wrap ((s.take i).sum + s[i]) = (s.take (i + 1)).sum := by rw [sum_take his]; exact wrap_small (by omega) (by omega)
      have w4 : IntKind.i64.wrap (cntG thr (s.take i) + 1) = cntG thr (s.take i) + 1 := wrap_small (by omega) (by omega)
      have g1 : (i : Int) < (m : Int) + 1 := by omega
      by_cases hx : thr ≤ s[i]
      · have hc := cnt_take_yes his hx
        simp [L88_0, R88_0, R88_1, R88_2, R88_3, R88_4, R88_5, R88_6, R88_7, R88_8, R88_9, R88_10, R88_11, R88_12, R88_13, R88_14, R88_15, R88_16, R88_17, R88_18, R88_19, R88_20, Try.f88, lpL88_0, lpM88_0, M88_0, q0, q1, q2, q7, q10, q8, q9, his, g1, hx, w3, w4, wrap_next hi (by omega : m + 1 ≤ 9000000000000000000)]
        exact hn _ (by simp [q0, q1, q2, q7, hc])
      · have hc := cnt_take_no his hx
        simp [L88_0, R88_0, R88_1, R88_2, R88_3, R88_4, R88_5, R88_6, R88_7, R88_8, R88_9, R88_10, R88_11, R88_12, R88_13, R88_14, R88_15, R88_16, R88_17, R88_18, R88_19, R88_20, Try.f88, lpL88_0, lpM88_0, M88_0, q0, q1, q2, q7, q10, q8, q9, his, g1, hx, w3, w4, wrap_next hi (by omega : m + 1 ≤ 9000000000000000000)]
        exact hn _ (by simp [q0, q1, q2, q7, q9, hc]))
    (by
      rintro st next ⟨q0, q1, q2, q7, q10, q8, q9⟩
      rw [List.take_of_length_le (by omega)] at q8 q9
      simp [L88_0, R88_0, R88_1, R88_2, R88_3, R88_4, R88_5, R88_6, R88_7, R88_8, R88_9, R88_10, R88_11, R88_12, R88_13, R88_14, R88_15, R88_16, R88_17, R88_18, R88_19, R88_20, Try.f88, lpL88_0, lpM88_0, M88_0, q0, q1, q2, q7, q10, q8, q9])
  have b1 := sum_take_bound hoks (by omega) s.length
  rw [List.take_length] at b1
  have b3 := cnt_bound thr s
  have r3 := c_l3Round k s.sum ((m : Int) + 1) (by omega) (by omega) (by omega) (by omega) (by omega)
  have r5 := c_l3Round k (100 * cntG thr s) ((m : Int) + 1) (by omega) (by omega) (by omega) (by omega) (by omega)
  have w5 : IntKind.i64.wrap (100 * cntG thr s) = 100 * cntG thr s := wrap_small (by omega) (by omega)
  rcases hkind with rfl | rfl | rfl | rfl
  · simp [R88_0, R88_1, R88_2, R88_3, R88_4, R88_5, R88_6, R88_7, R88_8, R88_9, R88_10, R88_11, R88_12, R88_13, R88_14, R88_15, R88_16, R88_17, R88_18, R88_19, R88_20, Try.f88, lpL88_0, lpM88_0, M88_0, hsl, g0, g0', w1, w2, hl?, hlast, fltG, h0, resG]
  · simp [R88_0, R88_1, R88_2, R88_3, R88_4, R88_5, R88_6, R88_7, R88_8, R88_9, R88_10, R88_11, R88_12, R88_13, R88_14, R88_15, R88_16, R88_17, R88_18, R88_19, R88_20, Try.f88, lpL88_0, lpM88_0, M88_0, hsl, g0, g0', w1, w2, hf?, hfirst, fltG, h0, resG]
  · simp [R88_0, R88_1, R88_2, R88_3, R88_4, R88_5, R88_6, R88_7, R88_8, R88_9, R88_10, R88_11, R88_12, R88_13, R88_14, R88_15, R88_16, R88_17, R88_18, R88_19, R88_20, Try.f88, lpL88_0, lpM88_0, hsl, g0, g0', w1, w2]
    generalize hr : loopRun _ _ _ _ = res
    obtain ⟨st, rfl, f1, f7, f8, f9⟩ := loop_at hL hr (by simp [cntG])
    rw [hsum] at f8 r3
    simp [R88_0, R88_1, R88_2, R88_3, R88_4, R88_5, R88_6, R88_7, R88_8, R88_9, R88_10, R88_11, R88_12, R88_13, R88_14, R88_15, R88_16, R88_17, R88_18, R88_19, R88_20, Try.f88, lpL88_0, lpM88_0, M88_0, f1, f7, f8, f9, r3, fltG, h0, resG, hm]
  · simp [R88_0, R88_1, R88_2, R88_3, R88_4, R88_5, R88_6, R88_7, R88_8, R88_9, R88_10, R88_11, R88_12, R88_13, R88_14, R88_15, R88_16, R88_17, R88_18, R88_19, R88_20, Try.f88, lpL88_0, lpM88_0, hsl, g0, g0', w1, w2]
    generalize hr : loopRun _ _ _ _ = res
    obtain ⟨st, rfl, f1, f7, f8, f9⟩ := loop_at hL hr (by simp [cntG])
    rw [hcnt] at f9 r5 w5
    simp [R88_0, R88_1, R88_2, R88_3, R88_4, R88_5, R88_6, R88_7, R88_8, R88_9, R88_10, R88_11, R88_12, R88_13, R88_14, R88_15, R88_16, R88_17, R88_18, R88_19, R88_20, Try.f88, lpL88_0, lpM88_0, M88_0, f1, f7, f8, f9, r5, w5, fltG, h0, resG, hm]
def rcOf : Option Int → List V
  | none => []
  | some v => [.bx true [.c (.int .i64 v)]]
theorem c_filt1 (k : Nat) (w h : Int) (l : List Int) (x y r : Int) (rf : FuncId) (t : Option Int) (g : List Int → Int) (hl : (l.length : Int) = w * h) (h64 : l.length ≤ 64) (hcl : l.all cellB = true) (hx : 0 ≤ x) (hx' : x < w) (hy : 0 ≤ y) (hy' : y < h) (hr : 0 ≤ r) (hr' : r ≤ 3) (hw : w ≤ 8) (hh : h ≤ 8) (hf : WR rf = false)
    (hres : ∀ nb : List Int, nb.all okV = true → nb.length ≤ 64 → 0 < nb.length → callK C (k + 8) rf (V.sq true true 1 (ints nb) :: rcOf t) [] = some (.c (.int .i64 (g nb)), hpOf [] [])) (hk : 400 ≤ k) :
    callK C (k + 9) 90 [.c (.int .i64 x), .c (.int .i64 y), .bx true [.c (.int .i64 w), .c (.int .i64 h), .sq true true 1 (ints l)], .bx true [.c (.int .i64 r)], .bx true [.fn rf (rcOf t)]] [] =
      some (.c (.int .i64 (if nbL (cellOf l w) w h x y r = [] then -9999 else g (nbL (cellOf l w) w h x y r))), hpOf [] []) := by
  rw [callK_fn rfl F90 code90]
  have h1 := c_neighborhood (k + 8) true w h l x y r hl h64 hx hx' hy hy' hr hr' hw hh (by omega)
  have h2 := nb_ok hcl w h x y r
  have h3 := nb_len (l := l) hw hh hx hx' hy hy' hr
  obtain ⟨nb, hnb⟩ : ∃ nb, nbL (cellOf l w) w h x y r = nb := ⟨_, rfl⟩
  rw [hnb] at h1 h2 h3 ⊢
  by_cases h0 : nb = []
  · subst h0
    simp [fldV] at h1
    simp [R90_0, R90_1, R90_2, R90_3, R90_4, Try.f90, h1]
  · have hp := List.length_pos_iff.2 h0
    have hre := hres nb h2 h3 hp
    have hn0 : ¬ nb.length = 0 := by omega
    rw [if_neg h0] at h1 ⊢
    simp [fldV, intsO] at h1
    have hwn : WR 91 = false := by decide
    rcases t with _ | thr
    · simp [rcOf] at hre
      simp [-WR, R90_0, R90_1, R90_2, R90_3, R90_4, Try.f90, h1, hn0, h0, rcOf, hf, hwn, hre, intsO]
    · simp [rcOf] at hre
      simp [-WR, R90_0, R90_1, R90_2, R90_3, R90_4, Try.f90, h1, hn0, h0, rcOf, hf, hwn, hre, intsO]
theorem c_filteredField (k : Nat) (w h : Int) (l : List Int) (r : Int) (rf : FuncId) (t : Option Int) (g : List Int → Int) (hf : WR rf = false)
    (hres : ∀ nb : List Int, nb.all okV = true → nb.length ≤ 64 → 0 < nb.length → callK C (k + 10 + 8 - 1) rf (V.sq true true 1 (ints nb) :: rcOf t) [] = some (.c (.int .i64 (g nb)), hpOf [] [])) (hk : 700 ≤ k) :
    callK C (k + 20) 46 [fldV true w h l, .c (.int .i64 r), .fn rf (rcOf t)] [] = some (if (goodB w h l && (decide (0 ≤ r) && decide (r ≤ 3))) then (.tp [ownV w h 0 2 (w * h).toNat, .c (.bool true)], hpOf [] [intsO (tabL (w * h).toNat w (fun x y => if nbL (cellOf l w) w h x y r = [] then -9999 else g (nbL (cellOf l w) w h x y r)))]) else (.tp [nilV, .c (.bool false)], hpOf [] [])) := by
  rw [callK_fn rfl F46 code46]
  have c1 := c_IsValidField (k + 19) true w h l (by omega)
  cases g1 : goodB w h l
  · rw [g1] at c1
    simp [fldV] at c1
    rcases t with _ | thr <;> simp [R46_0, R46_1, R46_2, R46_3, Try.f46, fldV, c1, nilV, rcOf]
  rw [g1] at c1
  obtain ⟨s1, n1, hcl, k1⟩ := good_length g1
  obtain ⟨_, _, p1, p2, p3, p4⟩ := shape_area s1
  have c2 := c_within (k + 19) r 0 3 (by omega)
  cases g2 : (decide (0 ≤ r) && decide (r ≤ 3))
  · rw [g2] at c2
    simp [fldV] at c1 c2
    rcases t with _ | thr <;> simp [R46_0, R46_1, R46_2, R46_3, Try.f46, fldV, c1, c2, nilV, rcOf]
  rw [g2] at c2
  simp only [Bool.and_eq_true, decide_eq_true_eq] at g2
  have hb := c_fieldBy (k + 10) 90 [.bx true [.c (.int .i64 w), .c (.int .i64 h), .sq true true 1 (ints l)], .bx true [.c (.int .i64 r)], .bx true [.fn rf (rcOf t)]] w h (fun x y => if nbL (cellOf l w) w h x y r = [] then -9999 else g (nbL (cellOf l w) w h x y r)) s1 (by decide) (by intro H; simp)
    (fun u v u0 u1 v0 v1 => c_filt1 (k + 9) w h l u v r rf t g n1 k1 hcl u0 u1 v0 v1 g2.1 g2.2 p2 p4 hf (fun nb a1 a2 a3 => hres nb a1 a2 a3) (by omega)) (by omega)
  simp [ownV, intsO] at hb
  simp [fldV] at c1 c2
  rcases t with _ | thr
  · simp [rcOf] at hb
    simp [R46_0, R46_1, R46_2, R46_3, Try.f46, fldV, c1, c2, hb, ownV, intsO, rcOf]
  · simp [rcOf] at hb
    simp [R46_0, R46_1, R46_2, R46_3, Try.f46, fldV, c1, c2, hb, ownV, intsO, rcOf]

end Go.Proofs.Ytfgoljfggkkpnaa.Eng
