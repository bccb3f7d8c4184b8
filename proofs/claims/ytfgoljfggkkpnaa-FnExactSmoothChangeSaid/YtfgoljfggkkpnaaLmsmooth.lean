/- A deterministic reading of Go code over plain data: what functions of the program compute. No conditions. -/
import Derived.Test.YtfgoljfggkkpnaaLmbase
import Derived.Test.YtfgoljfggkkpnaaLmimpl
import Derived.Test.YtfgoljfggkkpnaaLmgood
import Derived.Test.YtfgoljfggkkpnaaLmrepeat
import Derived.Test.YtfgoljfggkkpnaaLmfieldby
import Derived.Test.YtfgoljfggkkpnaaLmnbh
import Derived.Test.YtfgoljfggkkpnaaLmneigh
import Derived.Test.YtfgoljfggkkpnaaLmminmax
import Derived.Test.YtfgoljfggkkpnaaLml6values
import Derived.Test.YtfgoljfggkkpnaaLml6main
import Derived.Test.YtfgoljfggkkpnaaLmfcore
import Derived.Test.YtfgoljfggkkpnaaLmfmain
import Derived.Test.YtfgoljfggkkpnaaLml6filter
import Derived.Test.YtfgoljfggkkpnaaLmfres
import Derived.Test.YtfgoljfggkkpnaaEngT
namespace Go.Proofs.Ytfgoljfggkkpnaa.Eng
open Go Go.Proofs
set_option maxRecDepth 100000
set_option maxHeartbeats 2000000
set_option linter.unusedSimpArgs false
set_option linter.unusedVariables false
attribute [local simp] finK fin1 hpOf xi renQ isRoot runCode runOps Eng.step wantedV astep val ofO made loadV storeV find V.cells bin binT un1 setAt fieldAddrV fieldV indexAddrV indexV bounds sliceV convV lenV foldV max2V min2V callO bor rdsO wrsO seen_none okD_none loops keepIds resV resultsV St.ev TK.agg refs refsL refsO V.one V.isC Value.oneCell' ren renL renO noTag noTagL noTagR noTagO nodup mapO passV frs psi refsR newD loopNext opsAt idx flatAt rootOf backR newsV appendV copyV buildV fillF chunk
attribute [local simp] cT cF cX cWR cOW cK X WR OW K ints_length ints_get ints_getElem ints_drop ints_take ints_append ints_nil ints_set
attribute [local simp] ints_replicate
attribute [local simp] putV_some putV_none putH_app applyD_nil applyD_cons seen_app gc_ρ gc_H gc_tick st0_ρ st0_H st0_tick retV callRo callV_ro borL_nil borL_cons ints_snoc take_self callV_wr callWr cutH_app findQ afterV exportV_0 exportV_n okD_nil okD_cons sub_seq0 sub_seq1 sub_cond0 sub_cond1 sub_block sub_loop sub_nil young_far young_none okI ok_0 ok_1 ok_2
attribute [local simp] T3 T4 T22 T24 T26 T57 T59 T63 T67 T87 T92
attribute [local simp] young_near clo cloF Region.binds Nat.testBit
def absI (x : Int) : Int := if x < 0 then -x else x
def stepC (m x y : Int) : Int := if x = -9999 then m else if absI (x - y) > m then absI (x - y) else m
def chgL (l r : List Int) : Nat → Int
  | 0 => 0
  | i + 1 => stepC (chgL l r i) (l.getD i 0) (r.getD i 0)
theorem near_bound {a b : Int} (ha : -600000 ≤ a) (ha' : a ≤ 600000) (hb : 1 ≤ b) (hb' : b ≤ 64) : -2000000 ≤ nearI a b ∧ nearI a b ≤ 2000000 := by
  unfold nearI
  split
  · have := tdiv_bound (x := -2 * a + b) (y := 2 * b) (by omega) (by omega)
    omega
  · have := tdiv_bound (x := 2 * a + b) (y := 2 * b) (by omega) (by omega)
    omega
theorem chg_bound {l r : List Int} (hl : ∀ x ∈ l, -9999 ≤ x ∧ x ≤ 9000) (hr : ∀ x ∈ r, -2000000 ≤ x ∧ x ≤ 2000000) (hlr : l.length = r.length) : ∀ i, i ≤ l.length → 0 ≤ chgL l r i ∧ chgL l r i ≤ 3000000
  | 0, _ => by simp [chgL]
  | i + 1, h => by
    have ih := chg_bound hl hr hlr i (by omega)
    have e1 : l.getD i 0 = l[i] := by simp [List.getD, List.getElem?_eq_getElem (by omega : i < l.length)]
    have e2 : r.getD i 0 = r[i] := by simp [List.getD, List.getElem?_eq_getElem (by omega : i < r.length)]
    have b1 := hl l[i] (List.getElem_mem _)
    have b2 := hr r[i] (List.getElem_mem _)
    simp only [chgL, e1, e2, stepC, absI]
    split
    · exact ih
    · split <;> split <;> omega
theorem c_absOf (k : Nat) (x : Int) (hx : -1000000000 ≤ x) (hx' : x ≤ 1000000000) (hk : 1 ≤ k) : callK C k 54 [.c (.int .i64 x)] [] = some (.c (.int .i64 (absI x)), hpOf [] []) := by
  obtain ⟨k, rfl⟩ : ∃ m, k = m + 1 := ⟨k - 1, by omega⟩
  rw [callK_fn rfl F54 code54]
  have w1 : IntKind.i64.wrap (-x) = -x := wrap_small (by omega) (by omega)
  unfold absI
  by_cases h : x < 0 <;> simp [R54_0, R54_1, R54_2, R54_3, Try.f54, h, w1]
theorem c_specSmooth (k : Nat) (w h : Int) (l : List Int) (r : Int) (rW rH : Int) (rL : List Int) (hl : ∀ x ∈ l, -9999 ≤ x ∧ x ≤ 9000) (hb : ∀ x ∈ rL, -2000000 ≤ x ∧ x ≤ 2000000) (hlr : l.length = rL.length) (h64 : l.length ≤ 64)
    (S : callK C (k + 19) 19 [fldV true w h l, .c (.int .i64 r)] [] = some (.tp [ownV rW rH 0 2 rL.length, .c (.bool true)], hpOf [] [intsO rL])) (hk : 300 ≤ k) :
    callK C (k + 20) 21 [fldV true w h l, .c (.int .i64 r)] [] = some (.tp [.c (.int .i64 (chgL l rL l.length)), .c (.bool true)], hpOf [] []) := by
  rw [callK_fn rfl F21 code21]
  have hL := loopHas (body := fun st => runCode C (callK C (k + 19)) (k + 19) (K 21) L21_0 1 st) (keep := [2, 6, 8, 9]) (.ex 0) (fun st => st.ρ 8 = .c (.int .i64 (chgL l rL l.length)))
    (fun i st => st.ρ 2 = .p 16 1 3 0 0 ∧ st.ρ 6 = .p 1136 2 3 0 0 ∧ st.H 16 = some (1, ⟨26, 3, false, [[.c (.int .i64 w), .c (.int .i64 h), .sq true true 1 (ints l)]]⟩) ∧ st.H 1136 = some (2, ⟨26, 3, false, [[.c (.int .i64 rW), .c (.int .i64 rH), .s 1072 2 1 0 rL.length]]⟩) ∧ st.H 1072 = some (2, intsO rL) ∧ st.ρ 9 = .c (.int .i64 (i : Int)) ∧ st.ρ 8 = .c (.int .i64 (chgL l rL i)))
    l.length (k + 19) (by omega)
    (by
      rintro i st next hi ⟨q2, q6, H16, H1136, H1072, q9, q8⟩ hn
      have hir : i < rL.length := by omega
      have b0 := chg_bound hl hb hlr i (by omega)
      have b1 := hl l[i] (List.getElem_mem _)
      have b2 := hb rL[i] (List.getElem_mem _)
      have e1 : l.getD i 0 = l[i] := by simp [List.getD, List.getElem?_eq_getElem hi]
      have e2 : rL.getD i 0 = rL[i] := by simp [List.getD, List.getElem?_eq_getElem hir]
      have hnx : chgL l rL (i + 1) = stepC (chgL l rL i) l[i] rL[i] := by simp only [chgL, e1, e2]
      have w1 : IntKind.i64.wrap (l[i] - rL[i]) = l[i] - rL[i] := wrap_small (by omega) (by omega)
      by_cases hx : l[i] = -9999
      · have hx' : (l[i] == -9999) = true := by simpa using hx
        simp [L21_0, R21_0, R21_1, R21_2, R21_3, R21_4, R21_5, R21_6, R21_7, R21_8, R21_9, R21_10, R21_11, Try.f21, lpL21_0, lpM21_0, M21_0, q2, q6, H16, H1136, H1072, q9, q8, hi, hir, hx, wrap_next hi (by omega : l.length ≤ 9000000000000000000), intsO]
        exact hn _ (by simp [q2, q6, H16, H1136, H1072, q8, hnx, stepC, hx, intsO])
      · have hx' : (l[i] == -9999) = false := by simpa using hx
        have w2 : IntKind.i64.wrap (-(l[i] - rL[i])) = -(l[i] - rL[i]) := wrap_small (by omega) (by omega)
        have w2' : IntKind.i64.wrap (rL[i] - l[i]) = rL[i] - l[i] := wrap_small (by omega) (by omega)
        have m1 := c_l1Most (k + 19) (l[i] - rL[i]) (-(l[i] - rL[i])) (by omega)
        have m2 := c_l1Most (k + 19) (chgL l rL i) (if l[i] - rL[i] > -(l[i] - rL[i]) then l[i] - rL[i] else -(l[i] - rL[i])) (by omega)
        have e3 : (if chgL l rL i > (if l[i] - rL[i] > -(l[i] - rL[i]) then l[i] - rL[i] else -(l[i] - rL[i])) then chgL l rL i else (if l[i] - rL[i] > -(l[i] - rL[i]) then l[i] - rL[i] else -(l[i] - rL[i]))) = stepC (chgL l rL i) l[i] rL[i] := by
          unfold stepC absI
          rw [if_neg hx]
          split <;> split <;> split <;> split <;> omega
        rw [e3] at m2
        obtain ⟨e, he⟩ : ∃ e, (if l[i] - rL[i] > -(l[i] - rL[i]) then l[i] - rL[i] else -(l[i] - rL[i])) = e := ⟨_, rfl⟩
        rw [he] at m1 m2
        try simp at m1
        try simp at m2
        simp [L21_0, R21_0, R21_1, R21_2, R21_3, R21_4, R21_5, R21_6, R21_7, R21_8, R21_9, R21_10, R21_11, Try.f21, lpL21_0, lpM21_0, M21_0, q2, q6, H16, H1136, H1072, q9, q8, hi, hir, hx, hx', w1, w2, w2', m1, m2, wrap_next hi (by omega : l.length ≤ 9000000000000000000), intsO]
        exact hn _ (by simp [q2, q6, H16, H1136, H1072, hnx, intsO]))
    (by
      rintro st next ⟨q2, q6, H16, H1136, H1072, q9, q8⟩
      simp [L21_0, R21_0, R21_1, R21_2, R21_3, R21_4, R21_5, R21_6, R21_7, R21_8, R21_9, R21_10, R21_11, Try.f21, lpL21_0, lpM21_0, M21_0, q2, q6, H16, H1136, H1072, q9, q8, intsO])
  simp [fldV, ownV, intsO] at S
  simp [R21_0, R21_1, R21_2, R21_3, R21_4, R21_5, R21_6, R21_7, R21_8, R21_9, R21_10, R21_11, Try.f21, lpL21_0, lpM21_0, fldV, S]
  generalize hr : loopRun _ _ _ _ = res
  obtain ⟨s1, rfl, f8⟩ := loop_at hL hr (by simp [chgL, intsO])
  simp [R21_0, R21_1, R21_2, R21_3, R21_4, R21_5, R21_6, R21_7, R21_8, R21_9, R21_10, R21_11, Try.f21, lpL21_0, lpM21_0, M21_0, f8]
theorem c_implSmooth (k : Nat) (w h : Int) (l : List Int) (r : Int) (rW rH : Int) (rL : List Int) (hl : ∀ x ∈ l, -9999 ≤ x ∧ x ≤ 9000) (hb : ∀ x ∈ rL, -2000000 ≤ x ∧ x ≤ 2000000) (hlr : l.length = rL.length) (h64 : l.length ≤ 64)
    (S : callK C (k + 19) 20 [fldV true w h l, .c (.int .i64 r)] [] = some (.tp [ownV rW rH 0 2 rL.length, .c (.bool true)], hpOf [] [intsO rL])) (hk : 300 ≤ k) :
    callK C (k + 20) 22 [fldV true w h l, .c (.int .i64 r)] [] = some (.tp [.c (.int .i64 (chgL l rL l.length)), .c (.bool true)], hpOf [] []) := by
  rw [callK_fn rfl F22 code22]
  have hL := loopHas (body := fun st => runCode C (callK C (k + 19)) (k + 19) (K 22) L22_0 1 st) (keep := [6, 8, 20, 21, 22]) (.ex 0) (fun st => st.ρ 8 = .c (.int .i64 (chgL l rL l.length)))
    (fun i st => st.ρ 6 = .p 1136 2 3 0 0 ∧ st.ρ 20 = .sq true true 1 (ints l) ∧ st.ρ 21 = .c (.int .i64 (l.length : Int)) ∧ st.H 1136 = some (2, ⟨26, 3, false, [[.c (.int .i64 rW), .c (.int .i64 rH), .s 1072 2 1 0 rL.length]]⟩) ∧ st.H 1072 = some (2, intsO rL) ∧ st.ρ 22 = .c (.int .i64 (i : Int)) ∧ st.ρ 8 = .c (.int .i64 (chgL l rL i)))
    l.length (k + 19) (by omega)
    (by
      rintro i st next hi ⟨q6, q20, q21, H1136, H1072, q22, q8⟩ hn
      have hir : i < rL.length := by omega
      have b0 := chg_bound hl hb hlr i (by omega)
      have b1 := hl l[i] (List.getElem_mem _)
      have b2 := hb rL[i] (List.getElem_mem _)
      have e1 : l.getD i 0 = l[i] := by simp [List.getD, List.getElem?_eq_getElem hi]
      have e2 : rL.getD i 0 = rL[i] := by simp [List.getD, List.getElem?_eq_getElem hir]
      have hnx : chgL l rL (i + 1) = stepC (chgL l rL i) l[i] rL[i] := by simp only [chgL, e1, e2]
      have w1 : IntKind.i64.wrap (l[i] - rL[i]) = l[i] - rL[i] := wrap_small (by omega) (by omega)
      by_cases hx : l[i] = -9999
      · have hx' : (l[i] == -9999) = true := by simpa using hx
        simp [L22_0, R22_0, R22_1, R22_2, R22_3, R22_4, R22_5, R22_6, R22_7, R22_8, R22_9, R22_10, R22_11, Try.f22, lpL22_0, lpM22_0, M22_0, q6, q20, q21, H1136, H1072, q22, q8, hi, hir, hx, wrap_next hi (by omega : l.length ≤ 9000000000000000000), intsO]
        exact hn _ (by simp [q6, q20, q21, H1136, H1072, q8, hnx, stepC, hx, intsO])
      · have hx' : (l[i] == -9999) = false := by simpa using hx
        have m1 := c_absOf (k + 19) (l[i] - rL[i]) (by omega) (by omega) (by omega)
        have e3 : (if chgL l rL i < absI (l[i] - rL[i]) then absI (l[i] - rL[i]) else chgL l rL i) = stepC (chgL l rL i) l[i] rL[i] := by
          unfold stepC
          rw [if_neg hx]
        simp [L22_0, R22_0, R22_1, R22_2, R22_3, R22_4, R22_5, R22_6, R22_7, R22_8, R22_9, R22_10, R22_11, Try.f22, lpL22_0, lpM22_0, M22_0, q6, q20, q21, H1136, H1072, q22, q8, hi, hir, hx, hx', w1, m1, e3, wrap_next hi (by omega : l.length ≤ 9000000000000000000), intsO]
        exact hn _ (by simp [q6, q20, q21, H1136, H1072, hnx, intsO]))
    (by
      rintro st next ⟨q6, q20, q21, H1136, H1072, q22, q8⟩
      simp [L22_0, R22_0, R22_1, R22_2, R22_3, R22_4, R22_5, R22_6, R22_7, R22_8, R22_9, R22_10, R22_11, Try.f22, lpL22_0, lpM22_0, M22_0, q6, q20, q21, H1136, H1072, q22, q8, intsO])
  simp [fldV, ownV, intsO] at S
  simp [R22_0, R22_1, R22_2, R22_3, R22_4, R22_5, R22_6, R22_7, R22_8, R22_9, R22_10, R22_11, Try.f22, lpL22_0, lpM22_0, fldV, S]
  generalize hr : loopRun _ _ _ _ = res
  obtain ⟨s1, rfl, f8⟩ := loop_at hL hr (by simp [chgL, intsO])
  simp [R22_0, R22_1, R22_2, R22_3, R22_4, R22_5, R22_6, R22_7, R22_8, R22_9, R22_10, R22_11, Try.f22, lpL22_0, lpM22_0, M22_0, f8]
theorem flt_bound {l : List Int} (hcl : l.all cellB = true) (W Hn : Nat) (r : Int) (h1 : W ≤ 8) (h2 : Hn ≤ 8) (hr : 0 ≤ r) : ∀ x ∈ tabL (W * Hn) W (flt l W Hn r 3 0), -2000000 ≤ x ∧ x ≤ 2000000 := by
  intro x hx
  obtain ⟨i, hi, rfl⟩ := List.mem_iff_getElem.1 hx
  rw [tabL_length] at hi
  rw [tabL_get _ _ _ _ hi]
  have hW : 0 < W := Nat.pos_of_ne_zero (fun e => by subst e; simp at hi)
  have a1 : ((i : Nat) : Int).tmod W = ((i % W : Nat) : Int) := rfl
  have a2 : ((i : Nat) : Int) / W = ((i / W : Nat) : Int) := rfl
  rw [a1, a2]
  have b1 : i % W < W := Nat.mod_lt _ hW
  have b2 : i / W < Hn := Nat.div_lt_of_lt_mul hi
  obtain ⟨p, hp⟩ : ∃ p, i % W = p := ⟨_, rfl⟩
  obtain ⟨q, hq⟩ : ∃ q, i / W = q := ⟨_, rfl⟩
  rw [hp] at b1 ⊢
  rw [hq] at b2 ⊢
  unfold flt fltG
  split
  · omega
  · rename_i h0
    have o1 := nb_ok hcl W Hn p q r
    have o2 := nb_len (l := l) (w := W) (h := Hn) (x := p) (y := q) (r := r) (by omega) (by omega) (by omega) (by omega) (by omega) (by omega) hr
    have o3 := List.length_pos_iff.2 h0
    have b := sum_take_bound o1 o2 (nbL (cellOf l W) W Hn p q r).length
    rw [List.take_length] at b
    simp only [resG]
    exact near_bound (by omega) (by omega) (by omega) (by omega)
theorem res_SmoothChange (k : Nat) (w1 h1 : Int) (l1 : List Int) (r : Int) (hk : 4000 ≤ k) : ∃ (v : Int) (t : Bool),
    callK C k 21 [fldV true w1 h1 l1, .c (.int .i64 r)] [] = some (.tp [.c (.int .i64 v), .c (.bool t)], hpOf [] []) ∧ callK C k 22 [fldV true w1 h1 l1, .c (.int .i64 r)] [] = some (.tp [.c (.int .i64 v), .c (.bool t)], hpOf [] []) := by
  obtain ⟨k, rfl⟩ : ∃ m, k = m + 20 := ⟨k - 20, by omega⟩
  cases hg : (goodB w1 h1 l1 && (decide (0 ≤ r) && decide (r ≤ 3)))
  · obtain ⟨S, I⟩ := res_MeanNo (k + 19) w1 h1 l1 r hg (by omega)
    refine ⟨0, false, ?_, ?_⟩
    · rw [callK_fn rfl F21 code21]
      simp [fldV, nilV] at S
      simp [R21_0, R21_1, R21_2, R21_3, R21_4, R21_5, R21_6, R21_7, R21_8, R21_9, R21_10, R21_11, Try.f21, lpL21_0, lpM21_0, M21_0, fldV, S]
    · rw [callK_fn rfl F22 code22]
      simp [fldV, nilV] at I
      simp [R22_0, R22_1, R22_2, R22_3, R22_4, R22_5, R22_6, R22_7, R22_8, R22_9, R22_10, R22_11, Try.f22, lpL22_0, lpM22_0, M22_0, fldV, I]
  · simp only [Bool.and_eq_true, decide_eq_true_eq] at hg
    obtain ⟨s1, n1, hcl, k1⟩ := good_length hg.1
    obtain ⟨_, _, a3, a4, a5, a6⟩ := shape_area s1
    obtain ⟨W, rfl⟩ : ∃ W : Nat, w1 = W := ⟨w1.toNat, by omega⟩
    obtain ⟨Hn, rfl⟩ : ∃ Hn : Nat, h1 = Hn := ⟨h1.toNat, by omega⟩
    obtain ⟨S, I⟩ := res_MeanYes (k + 19) W Hn l1 r hg.1 hg.2.1 hg.2.2 (by omega)
    have hl := tabL_length (W * Hn) W (flt l1 W Hn r 3 0)
    have hlen : l1.length = W * Hn := by
      have : ((l1.length : Nat) : Int) = ((W * Hn : Nat) : Int) := by rw [n1, Int.natCast_mul]
      omega
    have hb := flt_bound hcl W Hn r (by omega) (by omega) hg.2.1
    have hcb : ∀ x ∈ l1, -9999 ≤ x ∧ x ≤ 9000 := by
      intro x hx
      have := List.all_eq_true.1 hcl x hx
      simp only [cellB, Bool.or_eq_true, beq_iff_eq, Bool.and_eq_true, decide_eq_true_eq] at this
      omega
    obtain ⟨rl, hrl⟩ : ∃ rl, tabL (W * Hn) W (flt l1 W Hn r 3 0) = rl := ⟨_, rfl⟩
    rw [hrl] at S I hb hl
    rw [← hl] at S I
    exact ⟨_, true, c_specSmooth k W Hn l1 r W Hn _ hcb hb (by rw [hl, hlen]) k1 S (by omega), c_implSmooth k W Hn l1 r W Hn _ hcb hb (by rw [hl, hlen]) k1 I (by omega)⟩

end Go.Proofs.Ytfgoljfggkkpnaa.Eng
