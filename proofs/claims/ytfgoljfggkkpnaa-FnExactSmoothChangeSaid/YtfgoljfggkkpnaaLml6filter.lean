/- A deterministic reading of Go code over plain data: what functions of the program compute. No conditions. -/
import Derived.Test.YtfgoljfggkkpnaaLmbase
import Derived.Test.YtfgoljfggkkpnaaLmimpl
import Derived.Test.YtfgoljfggkkpnaaLmgood
import Derived.Test.YtfgoljfggkkpnaaLmrepeat
import Derived.Test.YtfgoljfggkkpnaaLmfieldby
import Derived.Test.YtfgoljfggkkpnaaLmnbh
import Derived.Test.YtfgoljfggkkpnaaLmneigh
import Derived.Test.YtfgoljfggkkpnaaLmminmax
import Derived.Test.YtfgoljfggkkpnaaLml6values
import Derived.Test.YtfgoljfggkkpnaaLml6main
import Derived.Test.YtfgoljfggkkpnaaLmfcore
import Derived.Test.YtfgoljfggkkpnaaLmfmain
import Derived.Test.YtfgoljfggkkpnaaEngT
namespace Go.Proofs.Ytfgoljfggkkpnaa.Eng
open Go Go.Proofs
set_option maxRecDepth 100000
set_option maxHeartbeats 2000000
set_option linter.unusedSimpArgs false
set_option linter.unusedVariables false
attribute [local simp] finK fin1 hpOf xi renQ isRoot runCode runOps Eng.step wantedV astep val ofO made loadV storeV find V.cells bin binT un1 setAt fieldAddrV fieldV indexAddrV indexV bounds sliceV convV lenV foldV max2V min2V callO bor rdsO wrsO seen_none okD_none loops keepIds resV resultsV St.ev TK.agg refs refsL refsO V.one V.isC Value.oneCell' ren renL renO noTag noTagL noTagR noTagO nodup mapO passV frs psi refsR newD loopNext opsAt idx flatAt rootOf backR newsV appendV copyV buildV fillF chunk
attribute [local simp] cT cF cX cWR cOW cK X WR OW K ints_length ints_get ints_getElem ints_drop ints_take ints_append ints_nil ints_set
attribute [local simp] ints_replicate
attribute [local simp] putV_some putV_none putH_app applyD_nil applyD_cons seen_app gc_ρ gc_H gc_tick st0_ρ st0_H st0_tick retV callRo callV_ro borL_nil borL_cons ints_snoc take_self callV_wr callWr cutH_app findQ afterV exportV_0 exportV_n okD_nil okD_cons sub_seq0 sub_seq1 sub_cond0 sub_cond1 sub_block sub_loop sub_nil young_far young_none okI ok_0 ok_1 ok_2
attribute [local simp] T3 T4 T22 T24 T26 T57 T59 T63 T67 T87 T92
attribute [local simp] young_near clo cloF Region.binds Nat.testBit
def flt (l : List Int) (w h r kind thr : Int) (x y : Int) : Int := fltG kind thr (nbL (cellOf l w) w h x y r)
theorem c_l6FilterNo (k : Nat) (b : Bool) (w h : Int) (l : List Int) (r kind thr : Int) (hb : (goodB w h l && (decide (0 ≤ r) && decide (r ≤ 3))) = false) (hk : 900 ≤ k) :
    callK C k 44 [fldV b w h l, .c (.int .i64 r), .c (.int .i64 kind), .c (.int .i64 thr)] [] = some (.tp [nilV, .c (.bool false)], hpOf [] []) := by
  obtain ⟨k, rfl⟩ : ∃ m, k = m + 9 := ⟨k - 9, by omega⟩
  rw [callK_fn rfl F44 code44]
  have c1 := c_l2Good (k + 8) b w h l (by omega)
  have c2 := c_l1In (k + 8) r 0 3 (by omega)
  cases g1 : goodB w h l
  · rw [g1] at c1
    simp [fldV] at c1
    simp [R44_0, R44_1, R44_2, R44_3, R44_4, R44_5, R44_6, R44_7, R44_8, R44_9, R44_10, R44_11, Try.f44, lpL44_0, lpL44_1, lpM44_0, lpM44_1, M44_0, M44_1, fldV, c1, nilV]
  · rw [g1, Bool.true_and] at hb
    rw [g1] at c1
    rw [hb] at c2
    simp [fldV] at c1 c2
    simp [R44_0, R44_1, R44_2, R44_3, R44_4, R44_5, R44_6, R44_7, R44_8, R44_9, R44_10, R44_11, Try.f44, lpL44_0, lpL44_1, lpM44_0, lpM44_1, M44_0, M44_1, fldV, c1, c2, nilV]
theorem c_l6Filter (k : Nat) (b : Bool) (W Hn : Nat) (l : List Int) (r kind thr : Int) (hkind : kind = 1 ∨ kind = 2 ∨ kind = 3 ∨ kind = 5) (g1 : goodB W Hn l = true) (hr : 0 ≤ r) (hr' : r ≤ 3) (hk : 900 ≤ k) :
    callK C k 44 [fldV b W Hn l, .c (.int .i64 r), .c (.int .i64 kind), .c (.int .i64 thr)] [] = some (.tp [ownV W Hn 0 2 (W * Hn), .c (.bool true)], hpOf [] [intsO (tabL (W * Hn) W (flt l W Hn r kind thr))]) := by
  obtain ⟨k, rfl⟩ : ∃ m, k = m + 9 := ⟨k - 9, by omega⟩
  rw [callK_fn rfl F44 code44]
  obtain ⟨s1, n1, hcl, k1⟩ := good_length g1
  obtain ⟨_, _, p1, p2, p3, p4⟩ := shape_area s1
  have W8 : W ≤ 8 := by omega
  have H8 : Hn ≤ 8 := by omega
  have hWH : W * Hn ≤ 64 := by have := Nat.mul_le_mul W8 H8; omega
  obtain ⟨res, hres⟩ : ∃ res, tabL (W * Hn) W (flt l W Hn r kind thr) = res := ⟨_, rfl⟩
  have hrl : res.length = W * Hn := by rw [← hres, tabL_length]
  have c1 := c_l2Good (k + 8) b W Hn l (by omega)
  have c2 := c_l1In (k + 8) r 0 3 (by omega)
  rw [g1] at c1
  have g2 : (decide (0 ≤ r) && decide (r ≤ 3)) = true := by simp [hr, hr']
  rw [g2] at c2
  simp [fldV] at c1 c2
  have hin := fun (v : Nat) (hv : v < Hn) => loopHas (body := fun st => runCode C (callK C (k + 8)) (k + 8) (K 44) L44_1 2 st) (keep := [1, 2, 3, 4, 8, 10, 11, 12]) (.ex 2) (fun st => st.ρ 1 = .c (.int .i64 r) ∧ st.ρ 2 = .c (.int .i64 kind) ∧ st.ρ 3 = .c (.int .i64 thr) ∧ st.ρ 4 = .p 16 1 3 0 0 ∧ st.ρ 8 = .p 32 1 3 0 0 ∧ st.ρ 10 = .p 3184 3 3 0 0 ∧ st.ρ 11 = .c (.int .i64 (v : Int)) ∧ st.H 16 = some (1, ⟨26, 3, false, [[.c (.int .i64 W), .c (.int .i64 Hn), .sq b true 1 (ints l)]]⟩) ∧ st.H 32 = some (1, ⟨26, 3, false, [[.c (.int .i64 0), .c (.int .i64 0), .c (.slice none 0 0)]]⟩) ∧
      ∃ tk, st.H 3184 = some (3, ⟨26, 3, false, [[.c (.int .i64 W), .c (.int .i64 Hn), .s 10440 tk 1 0 (v * W + W)]]⟩) ∧ st.H 10440 = some (tk, intsO (res.take (v * W + W))))
    (fun i st => st.ρ 1 = .c (.int .i64 r) ∧ st.ρ 2 = .c (.int .i64 kind) ∧ st.ρ 3 = .c (.int .i64 thr) ∧ st.ρ 4 = .p 16 1 3 0 0 ∧ st.ρ 8 = .p 32 1 3 0 0 ∧ st.ρ 10 = .p 3184 3 3 0 0 ∧ st.ρ 11 = .c (.int .i64 (v : Int)) ∧ st.ρ 12 = .c (.int .i64 (i : Int)) ∧ st.H 16 = some (1, ⟨26, 3, false, [[.c (.int .i64 W), .c (.int .i64 Hn), .sq b true 1 (ints l)]]⟩) ∧ st.H 32 = some (1, ⟨26, 3, false, [[.c (.int .i64 0), .c (.int .i64 0), .c (.slice none 0 0)]]⟩) ∧
      ((v * W + i = 0 ∧ st.H 3184 = some (3, ⟨26, 3, false, [[.c (.int .i64 W), .c (.int .i64 Hn), .s 3152 3 1 0 0]]⟩) ∧ st.H 3152 = some (3, intsO [])) ∨
       (0 < v * W + i ∧ ∃ tk, st.H 3184 = some (3, ⟨26, 3, false, [[.c (.int .i64 W), .c (.int .i64 Hn), .s 10440 tk 1 0 (v * W + i)]]⟩) ∧ st.H 10440 = some (tk, intsO (res.take (v * W + i))))))
    W (k + 8) (by omega)
    (by
      rintro i st next hi ⟨q1, q2, q3, q4, q8, q10, q11, q12, H16, H32, hc⟩ hn
      have hvW : v * W + W ≤ W * Hn := by
        have := Nat.mul_le_mul_right W (by omega : v + 1 ≤ Hn)
        rw [Nat.succ_mul, Nat.mul_comm Hn W] at this
        exact this
      have hlt : v * W + i < res.length := by omega
      obtain ⟨nb, hnb⟩ : ∃ nb, nbL (cellOf l W) W Hn i v r = nb := ⟨_, rfl⟩
      have hget : res[v * W + i] = fltG kind thr nb := by
        subst hres
        rw [tabL_at (flt l W Hn r kind thr) hi (by omega)]
        unfold flt
        rw [hnb]
      have v1 := c_l6Values (k + 8) b W Hn l i v r n1 k1 (by omega) (by omega) (by omega) (by omega) hr hr' p2 p4 (by omega)
      have v1' := c_l6Values (k + 8) true W Hn l i v r n1 k1 (by omega) (by omega) (by omega) (by omega) hr hr' p2 p4 (by omega)
      have o1 := nb_ok hcl W Hn i v r
      have o2 := nb_len (l := l) p2 p4 (x := i) (y := v) (r := r) (by omega) (by omega) (by omega) (by omega) hr
      rw [hnb] at v1 v1' o1 o2
      have v2 := c_l6Result (k + 8) kind thr nb hkind o1 o2 (by omega)
      have hsl := sortL_length nb
      have htk : (sortL nb).take nb.length = sortL nb := by rw [← hsl]; exact List.take_length
      simp [fldV, intsO] at v1 v1'
      have hnx : res.take (v * W + i + 1) = res.take (v * W + i) ++ [fltG kind thr nb] := by rw [List.take_succ_eq_append_getElem hlt, hget]
      have hiI : (i : Int) < W := by omega
      rcases hc with ⟨hn0, H3184, H3152⟩ | ⟨hn0, tk, H3184, H10440⟩
      · rw [hn0] at hnx
        simp at hnx
        simp [L44_1, R44_0, R44_1, R44_2, R44_3, R44_4, R44_5, R44_6, R44_7, R44_8, R44_9, R44_10, R44_11, Try.f44, lpL44_0, lpL44_1, lpM44_0, lpM44_1, M44_0, M44_1, q1, q2, q3, q4, q8, q10, q11, q12, H16, H32, H3184, H3152, hiI, hi, v1, v1', v2, hsl, htk, intsO, maxLen, wrap_next hi (by omega : W ≤ 9000000000000000000)]
        refine hn _ ⟨?_, ?_, ?_, ?_, ?_, ?_, ?_, ?_, ?_, ?_, .inr ⟨by omega, st.tick + 1, ?_, ?_⟩⟩ <;> simp [q1, q2, q3, q4, q8, q10, q11, H16, H32, intsO, hn0, ints, ← Nat.add_assoc, hnx]
      · have hnb' : (v * W + i + 1) * 8 ≤ 140737488355328 := by omega
        have hnb'' : v * W + i + 1 ≤ maxLen := by unfold maxLen; omega
        have hl1 : v * W + i ≤ res.length := by omega
        have hl2 : min (v * W + i) res.length = v * W + i := by omega
        simp [L44_1, R44_0, R44_1, R44_2, R44_3, R44_4, R44_5, R44_6, R44_7, R44_8, R44_9, R44_10, R44_11, Try.f44, lpL44_0, lpL44_1, lpM44_0, lpM44_1, M44_0, M44_1, q1, q2, q3, q4, q8, q10, q11, q12, H16, H32, H3184, H10440, hiI, hi, v1, v1', v2, hsl, htk, intsO, hl1, hl2, hnb', hnb'', wrap_next hi (by omega : W ≤ 9000000000000000000)]
        refine hn _ ⟨?_, ?_, ?_, ?_, ?_, ?_, ?_, ?_, ?_, ?_, .inr ⟨by omega, st.tick + 1, ?_, ?_⟩⟩ <;> simp [q1, q2, q3, q4, q8, q10, q11, H16, H32, intsO, ← Nat.add_assoc, hnx])
    (by
      rintro st next ⟨q1, q2, q3, q4, q8, q10, q11, q12, H16, H32, hc⟩
      rcases hc with ⟨hn0, H3184, H3152⟩ | ⟨hn0, tk, H3184, H10440⟩
      · omega
      · simp [L44_1, R44_0, R44_1, R44_2, R44_3, R44_4, R44_5, R44_6, R44_7, R44_8, R44_9, R44_10, R44_11, Try.f44, lpL44_0, lpL44_1, lpM44_0, lpM44_1, M44_0, M44_1, q1, q2, q3, q4, q8, q10, q11, q12, H16, H32, H3184, H10440, intsO])
  have hout := loopHas (body := fun st => runCode C (callK C (k + 8)) (k + 8) (K 44) L44_0 1 st) (keep := [1, 2, 3, 4, 8, 10, 11]) (.ex 0) (fun st => st.ρ 8 = .p 32 1 3 0 0 ∧ st.ρ 10 = .p 3184 3 3 0 0 ∧
      st.H 32 = some (1, ⟨26, 3, false, [[.c (.int .i64 0), .c (.int .i64 0), .c (.slice none 0 0)]]⟩) ∧
      ∃ tk, st.H 3184 = some (3, ⟨26, 3, false, [[.c (.int .i64 W), .c (.int .i64 Hn), .s 10440 tk 1 0 (W * Hn)]]⟩) ∧ st.H 10440 = some (tk, intsO res))
    (fun i st => st.ρ 1 = .c (.int .i64 r) ∧ st.ρ 2 = .c (.int .i64 kind) ∧ st.ρ 3 = .c (.int .i64 thr) ∧ st.ρ 4 = .p 16 1 3 0 0 ∧ st.ρ 8 = .p 32 1 3 0 0 ∧ st.ρ 10 = .p 3184 3 3 0 0 ∧ st.ρ 11 = .c (.int .i64 (i : Int)) ∧ st.H 16 = some (1, ⟨26, 3, false, [[.c (.int .i64 W), .c (.int .i64 Hn), .sq b true 1 (ints l)]]⟩) ∧ st.H 32 = some (1, ⟨26, 3, false, [[.c (.int .i64 0), .c (.int .i64 0), .c (.slice none 0 0)]]⟩) ∧
      ((i = 0 ∧ st.H 3184 = some (3, ⟨26, 3, false, [[.c (.int .i64 W), .c (.int .i64 Hn), .s 3152 3 1 0 0]]⟩) ∧ st.H 3152 = some (3, intsO [])) ∨
       (0 < i ∧ ∃ tk, st.H 3184 = some (3, ⟨26, 3, false, [[.c (.int .i64 W), .c (.int .i64 Hn), .s 10440 tk 1 0 (i * W)]]⟩) ∧ st.H 10440 = some (tk, intsO (res.take (i * W))))))
    Hn (k + 8) (by omega)
    (by
      rintro i st next hi ⟨q1, q2, q3, q4, q8, q10, q11, H16, H32, hc⟩ hn
      have hiI : (i : Int) < Hn := by omega
      have hs1 : (i + 1) * W = i * W + W := Nat.succ_mul i W
      rcases hc with ⟨hn0, H3184, H3152⟩ | ⟨hn0, tk, H3184, H10440⟩
      · subst hn0
        simp [L44_0, R44_0, R44_1, R44_2, R44_3, R44_4, R44_5, R44_6, R44_7, R44_8, R44_9, R44_10, R44_11, Try.f44, lpL44_0, lpL44_1, lpM44_0, lpM44_1, q1, q2, q3, q4, q8, q10, q11, H16, H32, H3184, H3152, hi, hiI]
        generalize hr : loopRun _ _ _ _ = rs
        obtain ⟨s1, rfl, f1, f2, f3, f4, f8, f10, f11, f16, f32, tk, f3184, f10440⟩ := loop_at (hin 0 hi) hr ⟨by simp [q1], by simp [q2], by simp [q3], by simp [q4], by simp [q8], by simp [q10], by simp [q11], by simp, by simp [q4, q8, q10, H16], by simp [q4, q8, q10, H32], .inl ⟨by omega, by simp [q4, q8, q10, H3184], by simp [q4, q8, q10, H3184, H3152]⟩⟩
        simp at f11 f3184 f10440
        simp [R44_0, R44_1, R44_2, R44_3, R44_4, R44_5, R44_6, R44_7, R44_8, R44_9, R44_10, R44_11, Try.f44, lpL44_0, lpL44_1, lpM44_0, lpM44_1, M44_0, M44_1, f1, f2, f3, f4, f8, f10, f11, f16, f32, f3184, wrap_1]
        refine hn _ ⟨?_, ?_, ?_, ?_, ?_, ?_, ?_, ?_, ?_, .inr ⟨by omega, tk, ?_, ?_⟩⟩ <;> simp [f1, f2, f3, f4, f8, f10, f16, f32, f3184, f10440]
      · have hiW : 0 < i * W := Nat.mul_pos hn0 (by omega)
        simp [L44_0, R44_0, R44_1, R44_2, R44_3, R44_4, R44_5, R44_6, R44_7, R44_8, R44_9, R44_10, R44_11, Try.f44, lpL44_0, lpL44_1, lpM44_0, lpM44_1, q1, q2, q3, q4, q8, q10, q11, H16, H32, H3184, H10440, hi, hiI]
        generalize hr : loopRun _ _ _ _ = rs
        obtain ⟨s1, rfl, f1, f2, f3, f4, f8, f10, f11, f16, f32, tk', f3184, f10440⟩ := loop_at (hin i hi) hr ⟨by simp [q1], by simp [q2], by simp [q3], by simp [q4], by simp [q8], by simp [q10], by simp [q11], by simp, by simp [q4, q8, q10, H16], by simp [q4, q8, q10, H32], .inr ⟨by omega, tk, by simp [q4, q8, q10, H3184], by simp [q4, q8, q10, H3184, H10440]⟩⟩
        simp [R44_0, R44_1, R44_2, R44_3, R44_4, R44_5, R44_6, R44_7, R44_8, R44_9, R44_10, R44_11, Try.f44, lpL44_0, lpL44_1, lpM44_0, lpM44_1, M44_0, M44_1, f1, f2, f3, f4, f8, f10, f11, f16, f32, f3184, wrap_next hi (by omega : Hn ≤ 9000000000000000000)]
        refine hn _ ⟨?_, ?_, ?_, ?_, ?_, ?_, ?_, ?_, ?_, .inr ⟨by omega, tk', ?_, ?_⟩⟩ <;> simp [f1, f2, f3, f4, f8, f10, f16, f32, f3184, f10440, hs1])
    (by
      rintro st next ⟨q1, q2, q3, q4, q8, q10, q11, H16, H32, hc⟩
      rcases hc with ⟨hn0, H3184, H3152⟩ | ⟨hn0, tk, H3184, H10440⟩
      · omega
      · have e1 : Hn * W = W * Hn := Nat.mul_comm _ _
        have e2 : res.take (W * Hn) = res := List.take_of_length_le (by omega)
        rw [e1] at H3184 H10440
        rw [e2] at H10440
        simp [L44_0, R44_0, R44_1, R44_2, R44_3, R44_4, R44_5, R44_6, R44_7, R44_8, R44_9, R44_10, R44_11, Try.f44, lpL44_0, lpL44_1, lpM44_0, lpM44_1, q1, q2, q3, q4, q8, q10, q11, H16, H32, H3184, H10440, intsO])
  simp [R44_0, R44_1, R44_2, R44_3, R44_4, R44_5, R44_6, R44_7, R44_8, R44_9, R44_10, R44_11, Try.f44, lpL44_0, lpL44_1, lpM44_0, lpM44_1, fldV, c1, c2]
  generalize hrr : loopRun _ _ _ _ = rs
  obtain ⟨s1, rfl, f8, f10, f32, tk, f3184, f10440⟩ := loop_at hout hrr ⟨by simp, by simp, by simp, by simp, by simp, by simp, by simp, by simp, by simp, .inl ⟨rfl, by simp, by simp [intsO, ints]⟩⟩
  simp [R44_0, R44_1, R44_2, R44_3, R44_4, R44_5, R44_6, R44_7, R44_8, R44_9, R44_10, R44_11, Try.f44, lpL44_0, lpL44_1, lpM44_0, lpM44_1, M44_0, M44_1, f8, f10, f32, f3184, f10440, ownV, intsO, hres, hrl]

end Go.Proofs.Ytfgoljfggkkpnaa.Eng
