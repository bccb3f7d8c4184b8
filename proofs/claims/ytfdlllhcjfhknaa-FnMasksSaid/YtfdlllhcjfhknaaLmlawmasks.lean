/- A deterministic reading of Go code over plain data: what functions of the program compute. No conditions. -/
import Derived.Test.YtfdlllhcjfhknaaLmbase
import Derived.Test.YtfdlllhcjfhknaaLmimpl
import Derived.Test.YtfdlllhcjfhknaaLmimplc
import Derived.Test.YtfdlllhcjfhknaaLmgood
import Derived.Test.YtfdlllhcjfhknaaLmnbh
import Derived.Test.YtfdlllhcjfhknaaLmfcore
import Derived.Test.YtfdlllhcjfhknaaLmvals
import Derived.Test.YtfdlllhcjfhknaaLmtotals
import Derived.Test.YtfdlllhcjfhknaaLmspec
import Derived.Test.YtfdlllhcjfhknaaLmcombined
import Derived.Test.YtfdlllhcjfhknaaLmfillcl
import Derived.Test.YtfdlllhcjfhknaaLmmaskcl
import Derived.Test.YtfdlllhcjfhknaaLmfillfrom
import Derived.Test.YtfdlllhcjfhknaaLmmaskfrom
import Derived.Test.YtfdlllhcjfhknaaLmspecmask
import Derived.Test.YtfdlllhcjfhknaaLmchspec
import Derived.Test.YtfdlllhcjfhknaaLmmaskres
import Derived.Test.YtfdlllhcjfhknaaLmminmax
import Derived.Test.YtfdlllhcjfhknaaLmchanged
import Derived.Test.YtfdlllhcjfhknaaLmspeclp
import Derived.Test.YtfdlllhcjfhknaaLmimplch
import Derived.Test.YtfdlllhcjfhknaaLmdraws
import Derived.Test.YtfdlllhcjfhknaaLmrepeat
import Derived.Test.YtfdlllhcjfhknaaLmfieldby
import Derived.Test.YtfdlllhcjfhknaaLmfieldaux
import Derived.Test.YtfdlllhcjfhknaaLmdrawf
import Derived.Test.YtfdlllhcjfhknaaLmdrawa
import Derived.Test.YtfdlllhcjfhknaaLmdrawm
import Derived.Test.YtfdlllhcjfhknaaEngT
namespace Go.Proofs.Ytfdlllhcjfhknaa.Eng
open Go Go.Proofs
set_option maxRecDepth 100000
set_option maxHeartbeats 2000000
set_option linter.unusedSimpArgs false
set_option linter.unusedVariables false
attribute [local simp] finK fin1 hpOf xi renQ isRoot runCode runOps Eng.step wantedV astep val ofO made loadV storeV find V.cells bin binT un1 setAt fieldAddrV fieldV indexAddrV indexV bounds sliceV convV lenV foldV max2V min2V callO bor rdsO wrsO seen_none okD_none loops keepIds resV resultsV St.ev TK.agg refs refsL refsO V.one V.isC Value.oneCell' ren renL renO noTag noTagL noTagR noTagO nodup mapO passV frs psi refsR newD loopNext opsAt idx flatAt rootOf backR newsV appendV copyV clearV strV bytesOf buildV fillF chunk
attribute [local simp] cT cF cX cWR cOW cK X ints_length ints_get ints_getElem ints_drop ints_take ints_append ints_nil ints_set
attribute [local simp] ints_replicate
attribute [local simp] putV_some putV_none putH_app applyD_nil applyD_cons seen_app gc_ρ gc_H gc_tick st0_ρ st0_H st0_tick retV callRo callV_if borL_nil borL_cons ints_snoc take_self callWr cutH_app findQ afterV exportV_0 exportV_n okD_nil okD_cons sub_seq0 sub_seq1 sub_cond0 sub_cond1 sub_block sub_loop sub_nil young_far young_none hidW_nil mayW_nil pairs okI ok_0 ok_1 ok_2
attribute [local simp] T3 T4 T5 T9 T22 T24 T26 T29 T36 T73 T75 T86 T89 T103 T104 T106 T108 T109 T111 T114 T118 T134 T136 T157 T161 T168
attribute [local simp] young_near clo cloF Region.binds Nat.testBit hidW declW mayW List.findIdx?_cons
theorem clip_range {w h : Int} {l : List Int} {lo hi : Int} (hg : goodB w h l = true) (hc : clB lo hi = true) : ¬ rLo w h (chgM (clG lo hi) l) < lo ∧ ¬ hi < rHi w h (chgM (clG lo hi) l) ∨ rOk w h (chgM (clG lo hi) l) = false := by
  cases hr : rOk w h (chgM (clG lo hi) l)
  · exact .inr rfl
  · left
    have hne : valsL (chgM (clG lo hi) l) ≠ [] := by
      intro e
      simp [rOk, e, neB_nil] at hr
    have key : ∀ x ∈ valsL (chgM (clG lo hi) l), lo ≤ x ∧ x ≤ hi := by
      intro x hx
      obtain ⟨h1, h2⟩ := List.mem_filter.1 hx
      obtain ⟨y, hy, rfl⟩ := List.mem_map.1 h1
      simp only [clB, Bool.and_eq_true, decide_eq_true_eq] at hc
      by_cases e : y = -9999
      · rw [if_pos e, e] at h2
        simp at h2
      · rw [if_neg e]
        unfold clG
        split <;> split <;> omega
    unfold rLo rHi
    rw [hr]
    simp only [if_true]
    have a := key _ (minL_spec hne).1
    have b := key _ (maxL_spec hne).1
    omega
theorem masks_tail (code : List Int) (hb' : ∀ x ∈ code, 0 ≤ x ∧ x ≤ 255) (hl : code.length ≤ maxLen) (st : St) (q0 : st.ρ 0 = .sq false true 1 (u8s code)) : ∃ st', runCode C (callK C 4999) 4999 (K 7) M7_0 1 st = some (.ret, st') ∧ st'.ρ 2 = .c (.bool true) := by
  obtain ⟨w, h, l, off, n, x, y, D1, hon, h64⟩ := c_DrawClipField 4999 code hb' hl (by omega)
  obtain ⟨w', h', l', off', n', D2, hon', h64'⟩ := c_DrawAbsoluteField 4999 code hb' hl (by omega)
  obtain ⟨L, hL⟩ : ∃ L, (l.drop off).take n = L := ⟨_, rfl⟩
  obtain ⟨L', hL'⟩ : ∃ L', (l'.drop off').take n' = L' := ⟨_, rfl⟩
  have hn : n = L.length := by rw [← hL, List.length_take, List.length_drop]; omega
  have hn' : n' = L'.length := by rw [← hL', List.length_take, List.length_drop]; omega
  have VN := c_vFieldNil 4999 (by omega)
  have I1 := c_implClip 4999 true w h L x y (by omega)
  have A1 := c_implAbs 4999 true w' h' L' (by omega)
  have VC := c_vField 4999 true true w h (chgM (clG x y) L) (by rw [chgM_length]; omega) (by rw [chgM_length]; omega)
  have VA := c_vField 4999 true true w' h' (chgM abG L') (by rw [chgM_length]; omega) (by rw [chgM_length]; omega)
  have zc := chgM_length (clG x y) L
  have za := chgM_length abG L'
  have tc : (chgM (clG x y) L).take L.length = chgM (clG x y) L := by rw [← zc]; exact List.take_length
  have ta : (chgM abG L').take L'.length = chgM abG L' := by rw [← za]; exact List.take_length
  simp [nilV] at VN
  simp [fldV] at VC VA
  simp [intsO] at D1 D2
  have hA : (goodB w' h' L' = false ∧ callK C 4999 64 [fldV true w' h' L'] [] = some (.tp [nilV, .c (.bool false)], hpOf [] []) ∧ callK C 4999 65 [fldV true w' h' L'] [] = some (.tp [nilV, .c (.bool false)], hpOf [] [])) ∨ (goodB w' h' L' = true ∧ callK C 4999 64 [fldV true w' h' L'] [] = some (.tp [ownV w' h' 0 2 L'.length, .c (.bool true)], hpOf [] [intsO (chgM abG L')]) ∧ callK C 4999 65 [fldV true w' h' L'] [] = some (.tp [ownV w' h' 0 2 L'.length, .c (.bool true)], hpOf [] [intsO (chgM abG L')])) := by
    cases hg : goodB w' h' L'
    · rw [hg] at A1
      exact .inl ⟨rfl, A1, c_specAbsNo 4999 true w' h' L' hg (by omega)⟩
    · rw [hg] at A1
      simp only [optV, if_true, za] at A1
      exact .inr ⟨rfl, A1, c_specAbs 4999 true w' h' L' hg (by omega)⟩
  cases hc : (goodB w h L && clB x y)
  · rw [hc] at I1
    have S1 := c_specClipNo 4999 true w h L x y hc (by omega)
    simp [optV, fldV, nilV] at I1
    simp [fldV, nilV] at S1
    rcases hA with ⟨_, A1, A2⟩ | ⟨_, A1, A2⟩
    · simp [fldV, nilV] at A1 A2
      simp [R7_0, R7_1, R7_2, R7_3, R7_4, R7_5, R7_6, R7_7, R7_8, R7_9, R7_10, R7_11, R7_12, R7_13, R7_14, R7_15, R7_16, R7_17, R7_18, R7_19, R7_20, R7_21, R7_22, R7_23, R7_24, R7_25, R7_26, R7_27, R7_28, R7_29, R7_30, R7_31, R7_32, R7_33, R7_34, R7_35, Try.f7, lpL7_0, lpM7_0, M7_0, undef, q0, D1, D2, hL, hL', hon, hon', I1, S1, A1, A2, VN]
    · simp [fldV, ownV, intsO] at A1 A2
      simp [R7_0, R7_1, R7_2, R7_3, R7_4, R7_5, R7_6, R7_7, R7_8, R7_9, R7_10, R7_11, R7_12, R7_13, R7_14, R7_15, R7_16, R7_17, R7_18, R7_19, R7_20, R7_21, R7_22, R7_23, R7_24, R7_25, R7_26, R7_27, R7_28, R7_29, R7_30, R7_31, R7_32, R7_33, R7_34, R7_35, Try.f7, lpL7_0, lpM7_0, M7_0, undef, q0, D1, D2, hL, hL', hon, hon', I1, S1, A1, A2, VN, VA, za, ta]
  · rw [hc] at I1
    simp only [Bool.and_eq_true] at hc
    have S1 := c_specClip 4999 true w h L x y hc.1 hc.2 (by omega)
    have R1 := c_implRange 4999 w h (chgM (clG x y) L) (by omega)
    simp [optV, fldV, ownV, intsO, zc] at I1
    simp [fldV, ownV, intsO] at S1
    simp [fldV] at R1
    rcases clip_range hc.1 hc.2 with ⟨r1, r2⟩ | hr
    · rcases hA with ⟨_, A1, A2⟩ | ⟨_, A1, A2⟩
      · simp [fldV, nilV] at A1 A2
        cases hr : rOk w h (chgM (clG x y) L) <;> rw [hr] at R1 <;>
        simp [R7_0, R7_1, R7_2, R7_3, R7_4, R7_5, R7_6, R7_7, R7_8, R7_9, R7_10, R7_11, R7_12, R7_13, R7_14, R7_15, R7_16, R7_17, R7_18, R7_19, R7_20, R7_21, R7_22, R7_23, R7_24, R7_25, R7_26, R7_27, R7_28, R7_29, R7_30, R7_31, R7_32, R7_33, R7_34, R7_35, Try.f7, lpL7_0, lpM7_0, M7_0, undef, q0, D1, D2, hL, hL', hon, hon', I1, S1, R1, A1, A2, VN, VC, zc, tc, r1, r2]
      · simp [fldV, ownV, intsO] at A1 A2
        cases hr : rOk w h (chgM (clG x y) L) <;> rw [hr] at R1 <;>
        simp [R7_0, R7_1, R7_2, R7_3, R7_4, R7_5, R7_6, R7_7, R7_8, R7_9, R7_10, R7_11, R7_12, R7_13, R7_14, R7_15, R7_16, R7_17, R7_18, R7_19, R7_20, R7_21, R7_22, R7_23, R7_24, R7_25, R7_26, R7_27, R7_28, R7_29, R7_30, R7_31, R7_32, R7_33, R7_34, R7_35, Try.f7, lpL7_0, lpM7_0, M7_0, undef, q0, D1, D2, hL, hL', hon, hon', I1, S1, R1, A1, A2, VN, VC, VA, zc, za, tc, ta, r1, r2]
    · rw [hr] at R1
      rcases hA with ⟨_, A1, A2⟩ | ⟨_, A1, A2⟩
      · simp [fldV, nilV] at A1 A2
        simp [R7_0, R7_1, R7_2, R7_3, R7_4, R7_5, R7_6, R7_7, R7_8, R7_9, R7_10, R7_11, R7_12, R7_13, R7_14, R7_15, R7_16, R7_17, R7_18, R7_19, R7_20, R7_21, R7_22, R7_23, R7_24, R7_25, R7_26, R7_27, R7_28, R7_29, R7_30, R7_31, R7_32, R7_33, R7_34, R7_35, Try.f7, lpL7_0, lpM7_0, M7_0, undef, q0, D1, D2, hL, hL', hon, hon', I1, S1, R1, A1, A2, VN, VC, zc, tc]
      · simp [fldV, ownV, intsO] at A1 A2
        simp [R7_0, R7_1, R7_2, R7_3, R7_4, R7_5, R7_6, R7_7, R7_8, R7_9, R7_10, R7_11, R7_12, R7_13, R7_14, R7_15, R7_16, R7_17, R7_18, R7_19, R7_20, R7_21, R7_22, R7_23, R7_24, R7_25, R7_26, R7_27, R7_28, R7_29, R7_30, R7_31, R7_32, R7_33, R7_34, R7_35, Try.f7, lpL7_0, lpM7_0, M7_0, undef, q0, D1, D2, hL, hL', hon, hon', I1, S1, R1, A1, A2, VN, VC, VA, zc, za, tc, ta]
theorem law_FnMasks (code : List Int) (hl : code.length ≤ maxLen) (hb : ∀ x ∈ code, (Lit.int .u8 x).wf = true) : ∃ k, callK C k 7 [.sq false true 1 (u8s code)] [] = some (.c (.bool true), hpOf [] []) := by
  have hb' : ∀ x ∈ code, 0 ≤ x ∧ x ≤ 255 := fun x hx => by
    have := hb x hx
    simpa [Lit.wf, IntKind.min, IntKind.max, IntKind.signed, IntKind.bits] using this
  refine ⟨5000, ?_⟩
  rw [callK_fn (k := 4999) rfl F7 code7]
  have v0 := c_vBig 4999 code (by omega)
  by_cases h16 : 65536 < code.length
  · simp [h16] at v0
    simp [R7_0, R7_1, R7_2, R7_3, R7_4, R7_5, R7_6, R7_7, R7_8, R7_9, R7_10, R7_11, R7_12, R7_13, R7_14, R7_15, R7_16, R7_17, R7_18, R7_19, R7_20, R7_21, R7_22, R7_23, R7_24, R7_25, R7_26, R7_27, R7_28, R7_29, R7_30, R7_31, R7_32, R7_33, R7_34, R7_35, Try.f7, lpL7_0, lpM7_0, M7_0, v0]
  simp [h16] at v0
  obtain ⟨wf, hf, lf, off, n, wm, hm, lm, D1, hon, h64, h64m⟩ := c_DrawMaskField 4999 code hb' hl (by omega)
  obtain ⟨wa, ha, la, offa, na, wt, ht, lt, wb, hb2, lb, D2, hona, h64a, h64t, h64b⟩ := c_DrawChoosePart 4999 code hb' hl (by omega)
  obtain ⟨Lf, hLf⟩ : ∃ L, (lf.drop off).take n = L := ⟨_, rfl⟩
  obtain ⟨La, hLa⟩ : ∃ L, (la.drop offa).take na = L := ⟨_, rfl⟩
  have hn : n = Lf.length := by rw [← hLf, List.length_take, List.length_drop]; omega
  have hna : na = La.length := by rw [← hLa, List.length_take, List.length_drop]; omega
  have VN := c_vFieldNil 4999 (by omega)
  simp [nilV] at VN
  simp [intsO] at D1 D2
  -- the loop, where nothing was chosen
  have hL0 := fun (tk : Nat) => loopHas (body := fun st => runCode C (callK C 4999) 4999 (K 7) L7_0 1 st) (keep := [0, 13, 14, 15, 16, 20]) (.ex 0) (fun st => st.ρ 0 = .sq false true 1 (u8s code))
    (fun i st => st.ρ 0 = .sq false true 1 (u8s code) ∧ st.ρ 16 = .p 14464 tk 3 0 0 ∧ st.ρ 20 = .c (.int .i64 0) ∧ st.H 14464 = some (tk, ⟨29, 3, false, [[.c (.int .i64 0), .c (.int .i64 0), .c (.slice none 0 0)]]⟩))
    0 4999 (by omega) (by intro i st next hi; omega)
    (by
      rintro st next ⟨q0, q16, q20, H16⟩
      simp [L7_0, R7_0, R7_1, R7_2, R7_3, R7_4, R7_5, R7_6, R7_7, R7_8, R7_9, R7_10, R7_11, R7_12, R7_13, R7_14, R7_15, R7_16, R7_17, R7_18, R7_19, R7_20, R7_21, R7_22, R7_23, R7_24, R7_25, R7_26, R7_27, R7_28, R7_29, R7_30, R7_31, R7_32, R7_33, R7_34, R7_35, Try.f7, lpL7_0, lpM7_0, q0, q16, q20, H16])
  -- the loop, where a part was chosen
  have hL1 := fun (tk : Nat) (hlt : na = lt.length) (hlb : lb.length = lt.length) (w0 h0 w1 h1 w2 h2 w3 h3 : Int) => loopHas (body := fun st => runCode C (callK C 4999) 4999 (K 7) L7_0 1 st) (keep := [0, 13, 14, 15, 16, 20]) (.ex 0) (fun st => st.ρ 0 = .sq false true 1 (u8s code))
    (fun i st => st.ρ 0 = .sq false true 1 (u8s code) ∧ st.ρ 13 = .p 13424 tk 3 0 0 ∧ st.ρ 14 = .p 13440 tk 3 0 0 ∧ st.ρ 15 = .p 13456 tk 3 0 0 ∧ st.ρ 16 = .p 14464 (tk + 1) 3 0 0 ∧ st.ρ 20 = .c (.int .i64 (i : Int)) ∧
      st.H 13424 = some (tk, ⟨29, 3, false, [[.c (.int .i64 w1), .c (.int .i64 h1), .s 13344 tk 1 0 lt.length]]⟩) ∧
      st.H 13440 = some (tk, ⟨29, 3, false, [[.c (.int .i64 w2), .c (.int .i64 h2), .s 13345 tk 1 offa na]]⟩) ∧
      st.H 13456 = some (tk, ⟨29, 3, false, [[.c (.int .i64 w3), .c (.int .i64 h3), .s 13346 tk 1 0 lb.length]]⟩) ∧
      st.H 14464 = some (tk + 1, ⟨29, 3, false, [[.c (.int .i64 w0), .c (.int .i64 h0), .s 14400 (tk + 1) 1 0 lt.length]]⟩) ∧
      st.H 13344 = some (tk, intsO lt) ∧ st.H 13345 = some (tk, intsO la) ∧ st.H 13346 = some (tk, intsO lb) ∧ st.H 14400 = some (tk + 1, intsO (chL lt La lb)))
    lt.length 4999 (by omega)
    (by
      rintro i st next hi ⟨q0, q13, q14, q15, q16, q20, H13, H14, H15, H16, A13, A14, A15, A16⟩ hx
      have hwn := wrap_next hi (by omega)
      have hLl : La.length = lt.length := by omega
      have hi2 : i < na := by omega
      have hi3 : offa + i < la.length := by omega
      have hi4 : i < lb.length := by omega
      have hzl := chL_length (t := lt) (a := La) (b := lb) hLl hlb
      have hi5 : i < (chL lt La lb).length := by omega
      have hget := chL_get (t := lt) (a := La) (b := lb) hLl hlb hi
      have hLai : La[i]'(by omega) = la[offa + i] := by
        have : La[i]? = some la[offa + i] := by
          rw [← hLa, List.getElem?_take, if_pos hi2, List.getElem?_drop, List.getElem?_eq_getElem hi3]
        rw [List.getElem?_eq_getElem (by omega)] at this
        exact Option.some.inj this
      rw [hLai] at hget
      obtain ⟨cv, hcv⟩ : ∃ v, (chL lt La lb)[i] = v := ⟨_, rfl⟩
      rw [hcv] at hget
      unfold chF at hget
      simp [intsO] at A13 A14 A15 A16
      have hor : lt[i] = -9999 ∨ (¬ lt[i] = -9999 ∧ cv = la[offa + i]) ∨ (¬ lt[i] = -9999 ∧ ¬ cv = la[offa + i] ∧ cv = lb[i]) := by
        by_cases e3 : lt[i] = -9999
        · exact .inl e3
        · rw [if_neg e3] at hget
          by_cases e1 : cv = la[offa + i]
          · exact .inr (.inl ⟨e3, e1⟩)
          · split at hget
            · exact .inr (.inr ⟨e3, e1, hget⟩)
            · exact absurd hget e1
      rcases hor with e3 | ⟨e3, e1⟩ | ⟨e3, e1, e2⟩
      · by_cases e1 : cv = la[offa + i]
        · have b1 : (cv != la[offa + i]) = false := by simpa using e1
          simp [L7_0, R7_0, R7_1, R7_2, R7_3, R7_4, R7_5, R7_6, R7_7, R7_8, R7_9, R7_10, R7_11, R7_12, R7_13, R7_14, R7_15, R7_16, R7_17, R7_18, R7_19, R7_20, R7_21, R7_22, R7_23, R7_24, R7_25, R7_26, R7_27, R7_28, R7_29, R7_30, R7_31, R7_32, R7_33, R7_34, R7_35, Try.f7, lpL7_0, lpM7_0, undef, q0, q13, q14, q15, q16, q20, H13, H14, H15, H16, A13, A14, A15, A16, hi, hi2, hi3, hi4, hi5, hcv, b1, e3, hwn]
          refine hx _ ⟨?_, ?_, ?_, ?_, ?_, ?_, ?_, ?_, ?_, ?_, ?_, ?_, ?_, ?_⟩ <;> simp [q0, q13, q14, q15, q16, H13, H14, H15, H16, A13, A14, A15, A16, intsO]
        · have b1 : (cv != la[offa + i]) = true := by simpa using e1
          by_cases e2 : cv = lb[i]
          · have b2 : (cv != lb[i]) = false := by simpa using e2
            simp [L7_0, R7_0, R7_1, R7_2, R7_3, R7_4, R7_5, R7_6, R7_7, R7_8, R7_9, R7_10, R7_11, R7_12, R7_13, R7_14, R7_15, R7_16, R7_17, R7_18, R7_19, R7_20, R7_21, R7_22, R7_23, R7_24, R7_25, R7_26, R7_27, R7_28, R7_29, R7_30, R7_31, R7_32, R7_33, R7_34, R7_35, Try.f7, lpL7_0, lpM7_0, undef, q0, q13, q14, q15, q16, q20, H13, H14, H15, H16, A13, A14, A15, A16, hi, hi2, hi3, hi4, hi5, hcv, b1, b2, e1, e3, hwn]
            refine hx _ ⟨?_, ?_, ?_, ?_, ?_, ?_, ?_, ?_, ?_, ?_, ?_, ?_, ?_, ?_⟩ <;> simp [q0, q13, q14, q15, q16, H13, H14, H15, H16, A13, A14, A15, A16, intsO]
          · have b2 : (cv != lb[i]) = true := by simpa using e2
            simp [L7_0, R7_0, R7_1, R7_2, R7_3, R7_4, R7_5, R7_6, R7_7, R7_8, R7_9, R7_10, R7_11, R7_12, R7_13, R7_14, R7_15, R7_16, R7_17, R7_18, R7_19, R7_20, R7_21, R7_22, R7_23, R7_24, R7_25, R7_26, R7_27, R7_28, R7_29, R7_30, R7_31, R7_32, R7_33, R7_34, R7_35, Try.f7, lpL7_0, lpM7_0, undef, q0, q13, q14, q15, q16, q20, H13, H14, H15, H16, A13, A14, A15, A16, hi, hi2, hi3, hi4, hi5, hcv, b1, b2, e1, e2, e3, hwn]
            refine hx _ ⟨?_, ?_, ?_, ?_, ?_, ?_, ?_, ?_, ?_, ?_, ?_, ?_, ?_, ?_⟩ <;> simp [q0, q13, q14, q15, q16, H13, H14, H15, H16, A13, A14, A15, A16, intsO]
      · have b1 : (cv != la[offa + i]) = false := by simpa using e1
        simp [L7_0, R7_0, R7_1, R7_2, R7_3, R7_4, R7_5, R7_6, R7_7, R7_8, R7_9, R7_10, R7_11, R7_12, R7_13, R7_14, R7_15, R7_16, R7_17, R7_18, R7_19, R7_20, R7_21, R7_22, R7_23, R7_24, R7_25, R7_26, R7_27, R7_28, R7_29, R7_30, R7_31, R7_32, R7_33, R7_34, R7_35, Try.f7, lpL7_0, lpM7_0, undef, q0, q13, q14, q15, q16, q20, H13, H14, H15, H16, A13, A14, A15, A16, hi, hi2, hi3, hi4, hi5, hcv, b1, hwn]
        refine hx _ ⟨?_, ?_, ?_, ?_, ?_, ?_, ?_, ?_, ?_, ?_, ?_, ?_, ?_, ?_⟩ <;> simp [q0, q13, q14, q15, q16, H13, H14, H15, H16, A13, A14, A15, A16, intsO]
      · have b1 : (cv != la[offa + i]) = true := by simpa using e1
        have b2 : (cv != lb[i]) = false := by simpa using e2
        simp [L7_0, R7_0, R7_1, R7_2, R7_3, R7_4, R7_5, R7_6, R7_7, R7_8, R7_9, R7_10, R7_11, R7_12, R7_13, R7_14, R7_15, R7_16, R7_17, R7_18, R7_19, R7_20, R7_21, R7_22, R7_23, R7_24, R7_25, R7_26, R7_27, R7_28, R7_29, R7_30, R7_31, R7_32, R7_33, R7_34, R7_35, Try.f7, lpL7_0, lpM7_0, undef, q0, q13, q14, q15, q16, q20, H13, H14, H15, H16, A13, A14, A15, A16, hi, hi2, hi3, hi4, hi5, hcv, b1, b2, e1, hwn]
        refine hx _ ⟨?_, ?_, ?_, ?_, ?_, ?_, ?_, ?_, ?_, ?_, ?_, ?_, ?_, ?_⟩ <;> simp [q0, q13, q14, q15, q16, H13, H14, H15, H16, A13, A14, A15, A16, intsO])
    (by
      rintro st next ⟨q0, q13, q14, q15, q16, q20, H13, H14, H15, H16, A13, A14, A15, A16⟩
      simp [L7_0, R7_0, R7_1, R7_2, R7_3, R7_4, R7_5, R7_6, R7_7, R7_8, R7_9, R7_10, R7_11, R7_12, R7_13, R7_14, R7_15, R7_16, R7_17, R7_18, R7_19, R7_20, R7_21, R7_22, R7_23, R7_24, R7_25, R7_26, R7_27, R7_28, R7_29, R7_30, R7_31, R7_32, R7_33, R7_34, R7_35, Try.f7, lpL7_0, lpM7_0, q0, q13, q14, q15, q16, q20, H13, H14, H15, H16])
  rcases res_Mask 4999 wf hf wm hm Lf lm (by omega) with ⟨M2, M1⟩ | ⟨rfl, rfl, g1, g2, gz, M2, M1⟩
  · simp [fldV, nilV] at M1 M2
    rcases res_Choose 4999 wt ht lt wa ha La wb hb2 lb (by omega) with ⟨C2, C1⟩ | ⟨rfl, rfl, rfl, rfl, hl2, hl3, _, C2, C1⟩
    · simp [fldV, nilV] at C1 C2
      simp [R7_0, R7_1, R7_2, R7_3, R7_4, R7_5, R7_6, R7_7, R7_8, R7_9, R7_10, R7_11, R7_12, R7_13, R7_14, R7_15, R7_16, R7_17, R7_18, R7_19, R7_20, R7_21, R7_22, R7_23, R7_24, R7_25, R7_26, R7_27, R7_28, R7_29, R7_30, R7_31, R7_32, R7_33, R7_34, R7_35, Try.f7, lpL7_0, lpM7_0, undef, v0, D1, D2, hLf, hLa, hon, hona, VN, M1, M2, C1, C2]
      generalize hr2 : loopRun _ _ _ _ = res
      obtain ⟨s1, rfl, f0⟩ := loop_at (hL0 9) hr2 ⟨by simp, by simp, by simp, by simp⟩
      obtain ⟨s2, e2, f2⟩ := masks_tail code hb' hl s1 f0
      simp [e2, f2]
    · have zc := chL_length (t := lt) (a := La) (b := lb) hl2 hl3
      have tc : (chL lt La lb).take lt.length = chL lt La lb := by rw [← zc]; exact List.take_length
      have VC := c_vField 4999 true true wb hb2 (chL lt La lb) (by omega) (by omega)
      simp [fldV] at VC
      simp [fldV, ownV, intsO] at C1 C2
      simp [R7_0, R7_1, R7_2, R7_3, R7_4, R7_5, R7_6, R7_7, R7_8, R7_9, R7_10, R7_11, R7_12, R7_13, R7_14, R7_15, R7_16, R7_17, R7_18, R7_19, R7_20, R7_21, R7_22, R7_23, R7_24, R7_25, R7_26, R7_27, R7_28, R7_29, R7_30, R7_31, R7_32, R7_33, R7_34, R7_35, Try.f7, lpL7_0, lpM7_0, undef, v0, D1, D2, hLf, hLa, hon, hona, VN, M1, M2, C1, C2, VC, zc, tc]
      generalize hr2 : loopRun _ _ _ _ = res
      obtain ⟨s1, rfl, f0⟩ := loop_at (hL1 8 (by omega) hl3 wb hb2 wb hb2 wb hb2 wb hb2) hr2 ⟨by simp, by simp, by simp, by simp, by simp, by simp, by simp, by simp, by simp, by simp, by simp [intsO], by simp [intsO], by simp [intsO], by simp [intsO]⟩
      obtain ⟨s2, e2, f2⟩ := masks_tail code hb' hl s1 f0
      simp [e2, f2]
  · have h64L : Lf.length = lm.length := by
      obtain ⟨_, n1, _, _⟩ := good_length g1
      obtain ⟨_, n2, _, _⟩ := good_length g2
      omega
    have fm := fill_mask Lf lm (by omega)
    have FF := res_Fill 4999 wm hm (List.zipWith maskG Lf lm) Lf gz g1 (by rw [fm]; exact g1) (by omega)
    rw [fm] at FF
    have zm : (List.zipWith maskG Lf lm).length = Lf.length := by rw [List.length_zipWith]; omega
    have tm : (List.zipWith maskG Lf lm).take Lf.length = List.zipWith maskG Lf lm := by rw [← zm]; exact List.take_length
    have DS := c_DifferentSame 4999 true true wm hm Lf g1 (by omega)
    have VM := c_vField 4999 true true wm hm (List.zipWith maskG Lf lm) (by omega) (by omega)
    have tl : Lf.take Lf.length = Lf := List.take_length
    rw [zm] at FF
    simp [fldV] at VM DS
    simp [fldV, ownV, intsO] at M1 M2 FF
    rcases res_Choose 4999 wt ht lt wa ha La wb hb2 lb (by omega) with ⟨C2, C1⟩ | ⟨rfl, rfl, rfl, rfl, hl2, hl3, _, C2, C1⟩
    · simp [fldV, nilV] at C1 C2
      simp [R7_0, R7_1, R7_2, R7_3, R7_4, R7_5, R7_6, R7_7, R7_8, R7_9, R7_10, R7_11, R7_12, R7_13, R7_14, R7_15, R7_16, R7_17, R7_18, R7_19, R7_20, R7_21, R7_22, R7_23, R7_24, R7_25, R7_26, R7_27, R7_28, R7_29, R7_30, R7_31, R7_32, R7_33, R7_34, R7_35, Try.f7, lpL7_0, lpM7_0, undef, v0, D1, D2, hLf, hLa, hon, hona, VN, M1, M2, FF, DS, VM, zm, tm, tl, C1, C2]
      generalize hr2 : loopRun _ _ _ _ = res
      obtain ⟨s1, rfl, f0⟩ := loop_at (hL0 12) hr2 ⟨by simp, by simp, by simp, by simp⟩
      obtain ⟨s2, e2, f2⟩ := masks_tail code hb' hl s1 f0
      simp [e2, f2]
    · have zc := chL_length (t := lt) (a := La) (b := lb) hl2 hl3
      have tc : (chL lt La lb).take lt.length = chL lt La lb := by rw [← zc]; exact List.take_length
      have VC := c_vField 4999 true true wb hb2 (chL lt La lb) (by omega) (by omega)
      simp [fldV] at VC
      simp [fldV, ownV, intsO] at C1 C2
      simp [R7_0, R7_1, R7_2, R7_3, R7_4, R7_5, R7_6, R7_7, R7_8, R7_9, R7_10, R7_11, R7_12, R7_13, R7_14, R7_15, R7_16, R7_17, R7_18, R7_19, R7_20, R7_21, R7_22, R7_23, R7_24, R7_25, R7_26, R7_27, R7_28, R7_29, R7_30, R7_31, R7_32, R7_33, R7_34, R7_35, Try.f7, lpL7_0, lpM7_0, undef, v0, D1, D2, hLf, hLa, hon, hona, VN, M1, M2, FF, DS, VM, zm, tm, tl, C1, C2, VC, zc, tc]
      generalize hr2 : loopRun _ _ _ _ = res
      obtain ⟨s1, rfl, f0⟩ := loop_at (hL1 11 (by omega) hl3 wb hb2 wb hb2 wb hb2 wb hb2) hr2 ⟨by simp, by simp, by simp, by simp, by simp, by simp, by simp, by simp, by simp, by simp, by simp [intsO], by simp [intsO], by simp [intsO], by simp [intsO]⟩
      obtain ⟨s2, e2, f2⟩ := masks_tail code hb' hl s1 f0
      simp [e2, f2]

end Go.Proofs.Ytfdlllhcjfhknaa.Eng
