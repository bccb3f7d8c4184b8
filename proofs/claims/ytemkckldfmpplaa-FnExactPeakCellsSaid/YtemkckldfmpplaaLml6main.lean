/- A deterministic reading of Go code over plain data: what functions of the program compute. No conditions. -/
import Derived.Test.YtemkckldfmpplaaLmbase
import Derived.Test.YtemkckldfmpplaaLmimpl
import Derived.Test.YtemkckldfmpplaaLmgood
import Derived.Test.YtemkckldfmpplaaLmrepeat
import Derived.Test.YtemkckldfmpplaaLmfieldby
import Derived.Test.YtemkckldfmpplaaLmnbh
import Derived.Test.YtemkckldfmpplaaLmneigh
import Derived.Test.YtemkckldfmpplaaLmminmax
import Derived.Test.YtemkckldfmpplaaLml6values
import Derived.Test.YtemkckldfmpplaaEngT
namespace Go.Proofs.Ytemkckldfmpplaa.Eng
open Go Go.Proofs
set_option maxRecDepth 100000
set_option maxHeartbeats 2000000
set_option linter.unusedSimpArgs false
set_option linter.unusedVariables false
attribute [local simp] finK fin1 hpOf xi renQ isRoot runCode runOps stepX inlOf Eng.step wantedV astep val ofO made loadV storeV find V.cells bin binT binA numT numFs eqCells un1 setAt fieldAddrV fieldV indexAddrV indexV bounds sliceV convV lenV foldV max2V min2V callO bor rdsO wrsO seen_none okD_none loops keepIds resV resultsV St.ev TK.agg refs refsL refsO V.one V.isC Value.oneCell' ren renL renO noTag noTagL noTagR noTagO nodup mapO passV frs psi refsR newD loopNext opsAt idx flatAt rootOf backR newsV appendV copyV clearV strV bytesV bldV bufV selfV bytesOf nilCmp buildV fillF chunk
attribute [local simp] cT cF cX cWR cOW cK cBL X ints_length ints_get ints_getElem ints_drop ints_take ints_append ints_nil ints_set
attribute [local simp] ints_replicate
attribute [local simp] putV_some putV_none putH_app applyD_nil applyD_cons seen_app gc_ρ gc_H gc_tick st0_ρ st0_H st0_tick retV callRo callV_if borL_nil borL_cons ints_snoc take_self callWr cutH_app findQ afterV exportV_0 exportV_n okD_nil okD_cons sub_seq0 sub_seq1 sub_cond0 sub_cond1 sub_block sub_loop sub_nil young_far young_none hidW_nil mayW_nil pairs okI ok_0 ok_1 ok_2
attribute [local simp] T3 T4 T22 T24 T26 T29 T44
theorem c_l6Values (k : Nat) (b : Bool) (w h : Int) (l : List Int) (x y r : Int) (hl : (l.length : Int) = w * h) (h64 : l.length ≤ 64) (hx : 0 ≤ x) (hx' : x < w) (hy : 0 ≤ y) (hy' : y < h) (hr : 0 ≤ r) (hr' : r ≤ 3) (hw : w ≤ 8) (hh : h ≤ 8) (hk : 500 ≤ k) :
    callK C k 17 [fldV b w h l, .c (.int .i64 x), .c (.int .i64 y), .c (.int .i64 r)] [] = some (.s 0 2 1 0 (nbL (cellOf l w) w h x y r).length, hpOf [] [intsO (sortL (nbL (cellOf l w) w h x y r))]) := by
  obtain ⟨k, rfl⟩ : ∃ m, k = m + 9 := ⟨k - 9, by omega⟩
  rw [callK_fn rfl F17 code17]
  obtain ⟨ya, yb, yc, yd, ye, yf⟩ := edge_facts (h := h) (r := r) hy hy' hr
  obtain ⟨xa, xb, xc, xd, xe, xf⟩ := edge_facts (h := w) (r := r) hx hx' hr
  have ye' : (if y - r < 0 then 0 else y - r) = lowE y r := rfl
  have xe' : (if x - r < 0 then 0 else x - r) = lowE x r := rfl
  have yf' : (if h - 1 < y + r then h - 1 else y + r) = topE h y r := rfl
  have xf' : (if w - 1 < x + r then w - 1 else x + r) = topE w x r := rfl
  obtain ⟨v0, hv0⟩ : ∃ v0, lowE y r = v0 := ⟨_, rfl⟩
  obtain ⟨v1, hv1⟩ : ∃ v1, topE h y r = v1 := ⟨_, rfl⟩
  obtain ⟨u0, hu0⟩ : ∃ u0, lowE x r = u0 := ⟨_, rfl⟩
  obtain ⟨u1, hu1⟩ : ∃ u1, topE w x r = u1 := ⟨_, rfl⟩
  unfold nbL
  rw [hv0, hv1, hu0, hu1]
  rw [hv0] at ya yb ye'
  rw [hv1] at yc yd yf'
  rw [hu0] at xa xb xe'
  rw [hu1] at xc xd xf'
  obtain ⟨m, hm⟩ : ∃ m : Nat, (v1 - v0 + 1).toNat = m := ⟨_, rfl⟩
  obtain ⟨d, hd⟩ : ∃ d : Nat, (u1 - u0 + 1).toNat = d := ⟨_, rfl⟩
  rw [hm, hd]
  have hmv : v0 + m = v1 + 1 := by omega
  have hdu : u0 + d = u1 + 1 := by omega
  obtain ⟨nb, hnb⟩ : ∃ nb, rowsL (cellOf l w) v0 u0 m d = nb := ⟨_, rfl⟩
  rw [hnb]
  have wy1 : IntKind.i64.wrap (y - r) = y - r := wrap_small (by omega) (by omega)
  have wy2 : IntKind.i64.wrap (y + r) = y + r := wrap_small (by omega) (by omega)
  have wx1 : IntKind.i64.wrap (x - r) = x - r := wrap_small (by omega) (by omega)
  have wx2 : IntKind.i64.wrap (x + r) = x + r := wrap_small (by omega) (by omega)
  have wh1 : IntKind.i64.wrap (h - 1) = h - 1 := wrap_small (by omega) (by omega)
  have ww1 : IntKind.i64.wrap (w - 1) = w - 1 := wrap_small (by omega) (by omega)
  have my := c_l1Most (k + 8) 0 (y - r) (by omega)
  have mx := c_l1Most (k + 8) 0 (x - r) (by omega)
  have ly := c_l1Least (k + 8) (h - 1) (y + r) (by omega)
  have lx := c_l1Least (k + 8) (w - 1) (x + r) (by omega)
  simp [ye'] at my
  simp [xe'] at mx
  simp [yf'] at ly
  simp [xf'] at lx
  have hin := fun (v : Nat) (hv : v < m) => loopHas (body := fun st => runCode C (callK C (k + 8)) (k + 8) (K 17) L17_1 2 st) (keep := [1, 2, 3, 4, 9, 10, 11]) (.ex 2) (fun st => st.ρ 1 = .c (.int .i64 x) ∧ st.ρ 2 = .c (.int .i64 y) ∧ st.ρ 3 = .c (.int .i64 r) ∧ st.ρ 4 = .p 16 1 3 0 0 ∧ st.ρ 10 = .c (.int .i64 (v0 + v)) ∧ st.H 16 = some (1, ⟨29, 3, false, [[.c (.int .i64 w), .c (.int .i64 h), .sq b true 1 (ints l)]]⟩) ∧
      Cg (st.ρ 9) st.H (sortL (rowsL (cellOf l w) v0 u0 v d ++ rowL (cellOf l w) (v0 + v) u0 d)))
    (fun i st => st.ρ 1 = .c (.int .i64 x) ∧ st.ρ 2 = .c (.int .i64 y) ∧ st.ρ 3 = .c (.int .i64 r) ∧ st.ρ 4 = .p 16 1 3 0 0 ∧ st.ρ 10 = .c (.int .i64 (v0 + v)) ∧ st.ρ 11 = .c (.int .i64 (u0 + i)) ∧ st.H 16 = some (1, ⟨29, 3, false, [[.c (.int .i64 w), .c (.int .i64 h), .sq b true 1 (ints l)]]⟩) ∧
      Cg (st.ρ 9) st.H (sortL (rowsL (cellOf l w) v0 u0 v d ++ rowL (cellOf l w) (v0 + v) u0 i)))
    d (k + 8) (by omega)
    (by
      rintro i st next hi ⟨q1, q2, q3, q4, q10, q11, H16, hc⟩ hn
      have hat := c_l2At (k + 8) b w h l (u0 + i) (v0 + v) hl h64 (by omega) (by omega) (by omega) (by omega) (by omega)
      have hat' := c_l2At (k + 8) true w h l (u0 + i) (v0 + v) hl h64 (by omega) (by omega) (by omega) (by omega) (by omega)
      simp [fldV] at hat hat'
      have w3 : IntKind.i64.wrap (u0 + i + 1) = u0 + (i + 1) := by rw [wrap_small (by omega) (by omega)]; omega
      have hle : u0 + (i : Int) ≤ u1 := by omega
      obtain ⟨n, hn0⟩ : ∃ n, cellOf l w (u0 + i) (v0 + v) = n := ⟨_, rfl⟩
      rw [hn0] at hat hat'
      by_cases hx : n = -9999
      · have hrow := rowL_miss (c := cellOf l w) (v := v0 + v) (u0 := u0) (d := i) (by rw [hn0]; exact hx)
        rcases hc with ⟨ha, hq, hH⟩ | ⟨ha, tk, hq, hH⟩
        · simp [L17_1, R17_0, R17_1, R17_2, R17_3, R17_4, R17_5, R17_6, R17_7, R17_8, R17_9, R17_10, R17_11, R17_12, R17_13, R17_14, R17_15, R17_16, R17_17, R17_18, R17_19, Try.f17, lpL17_0, lpL17_1, lpL17_2, lpL17_3, lpM17_0, lpM17_1, lpM17_2, lpM17_3, lpM17_4, M17_0, M17_1, M17_2, M17_3, M17_4, q1, q2, q3, q4, q10, q11, H16, hq, hH, intsO, wx2, ww1, lx, hle, hat, hat', w3, hx]
          refine hn _ ⟨?_, ?_, ?_, ?_, ?_, ?_, ?_, .inl ⟨by rw [hrow]; exact ha, ?_, ?_⟩⟩ <;> simp [q1, q2, q3, q4, q10, H16, hq, hH, intsO]
        · simp [L17_1, R17_0, R17_1, R17_2, R17_3, R17_4, R17_5, R17_6, R17_7, R17_8, R17_9, R17_10, R17_11, R17_12, R17_13, R17_14, R17_15, R17_16, R17_17, R17_18, R17_19, Try.f17, lpL17_0, lpL17_1, lpL17_2, lpL17_3, lpM17_0, lpM17_1, lpM17_2, lpM17_3, lpM17_4, M17_0, M17_1, M17_2, M17_3, M17_4, q1, q2, q3, q4, q10, q11, H16, hq, hH, intsO, wx2, ww1, lx, hle, hat, hat', w3, hx]
          refine hn _ ⟨?_, ?_, ?_, ?_, ?_, ?_, ?_, .inr ⟨by rw [hrow]; exact ha, tk, ?_, ?_⟩⟩ <;> simp [q1, q2, q3, q4, q10, H16, hq, hH, hrow, intsO]
      · have hrow := rowL_more (c := cellOf l w) (v := v0 + v) (u0 := u0) (d := i) (by rw [hn0]; exact hx)
        have hx' : (n == -9999) = false := by simpa using hx
        obtain ⟨a, hacc⟩ : ∃ a, sortL (rowsL (cellOf l w) v0 u0 v d ++ rowL (cellOf l w) (v0 + v) u0 i) = a := ⟨_, rfl⟩
        have hnew : sortL (rowsL (cellOf l w) v0 u0 v d ++ rowL (cellOf l w) (v0 + v) u0 (i + 1)) = ins a n := by rw [hrow, hn0, ← List.append_assoc, sortL_snoc, hacc]
        have hlen : a.length ≤ 64 := by
          rw [← hacc, sortL_length, List.length_append]
          have a1 := rowsL_length (cellOf l w) v0 u0 v d
          have a2 := rowL_length (cellOf l w) (v0 + v) u0 i
          have a3 := Nat.mul_le_mul (by omega : v ≤ 7) (by omega : d ≤ 8)
          omega
        rw [hacc] at hc
        have hp := pos_le a n
        have hsl := shiftL_length a n (a.length - pos a n)
        have hsi := shiftL_ins a n
        have hil := ins_length a n
        have hpl : pos a n < a.length + 1 := by omega
        have hpl' : (pos a n : Int) < (a.length : Int) + 1 := by omega
        have hpg : (shiftL a n (a.length - pos a n))[pos a n]? = some ((shiftL a n (a.length - pos a n))[pos a n]'(by omega)) := List.getElem?_eq_getElem _
        have wl : IntKind.i64.wrap (a.length : Int) = a.length := wrap_small (by omega) (by omega)
        have hnb : (a.length + 1) * 8 ≤ 140737488355328 := by omega
        have hnb' : a.length + 1 ≤ maxLen := by unfold maxLen; omega
        -- where the list lies; the place is sought; the rest is the same for both
        obtain ⟨id, tk, hq, hH, hid⟩ : ∃ id tk, st.ρ 9 = .s id tk 1 0 a.length ∧ st.H id = some (tk, intsO a) ∧ (id = 1040 ∨ id = 13384) := by
          rcases hc with ⟨ha, hq, hH⟩ | ⟨ha, tk, hq, hH⟩
          · exact ⟨1040, 2, by rw [ha]; exact hq, by rw [ha]; exact hH, .inl rfl⟩
          · exact ⟨13384, tk, hq, hH, .inr rfl⟩
        clear hc
        rcases hid with rfl | rfl
        · simp [L17_1, R17_0, R17_1, R17_2, R17_3, R17_4, R17_5, R17_6, R17_7, R17_8, R17_9, R17_10, R17_11, R17_12, R17_13, R17_14, R17_15, R17_16, R17_17, R17_18, R17_19, Try.f17, lpL17_0, lpL17_1, lpL17_2, lpL17_3, lpM17_0, lpM17_1, lpM17_2, lpM17_3, lpM17_4, q1, q2, q3, q4, q10, q11, H16, hq, hH, wx2, ww1, lx, hle, hat, hat', w3, hx, hx']
          generalize hr : loopRun _ _ _ _ = res
          obtain ⟨s1, rfl, f1, f2, f3, f4, f10, f11, f12, f9, f16, fid, f13⟩ := loop_at (pos_loop (k + 8) b w h l x y r (v0 + v) (u0 + i) n a 1040 tk (by omega) (by omega)) hr (by simp [q1, q2, q3, q4, q10, q11, H16, hq, hH, intsO])
          clear hr hq hH q1 q2 q3 q4 q10 q11 H16
          simp [R17_0, R17_1, R17_2, R17_3, R17_4, R17_5, R17_6, R17_7, R17_8, R17_9, R17_10, R17_11, R17_12, R17_13, R17_14, R17_15, R17_16, R17_17, R17_18, R17_19, Try.f17, lpL17_0, lpL17_1, lpL17_2, lpL17_3, lpM17_0, lpM17_1, lpM17_2, lpM17_3, lpM17_4, M17_0, f1, f2, f3, f4, f10, f11, f12, f9, f16, fid, f13, intsO, hnb, hnb', wl]
          generalize hr : loopRun _ _ _ _ = res
          obtain ⟨s2, rfl, g1, g2, g3, g4, g10, g11, g12, g9, g13, g16, gid⟩ := loop_at (shift_loop (k + 8) b w h l x y r (v0 + v) (u0 + i) n a s1.tick (by omega) (by omega)) hr (by simp [f1, f2, f3, f4, f10, f11, f12, f9, f16, fid, f13, intsO])
          clear hr f1 f2 f3 f4 f10 f11 f12 f9 f16 fid f13
          simp [R17_0, R17_1, R17_2, R17_3, R17_4, R17_5, R17_6, R17_7, R17_8, R17_9, R17_10, R17_11, R17_12, R17_13, R17_14, R17_15, R17_16, R17_17, R17_18, R17_19, Try.f17, lpL17_0, lpL17_1, lpL17_2, lpL17_3, lpM17_0, lpM17_1, lpM17_2, lpM17_3, lpM17_4, M17_0, M17_1, M17_2, M17_3, M17_4, g1, g2, g3, g4, g10, g11, g12, g9, g13, g16, gid, intsO, hsl, hsi, hpg, hpl, hpl', w3]
          refine hn _ ⟨?_, ?_, ?_, ?_, ?_, ?_, ?_, .inr ⟨by rw [hnew]; exact ins_ne _ _, s1.tick, ?_, ?_⟩⟩
          all_goals simp [g1, g2, g3, g4, g10, g16, hnew, hil, g9, gid, intsO]
          done
        · simp [L17_1, R17_0, R17_1, R17_2, R17_3, R17_4, R17_5, R17_6, R17_7, R17_8, R17_9, R17_10, R17_11, R17_12, R17_13, R17_14, R17_15, R17_16, R17_17, R17_18, R17_19, Try.f17, lpL17_0, lpL17_1, lpL17_2, lpL17_3, lpM17_0, lpM17_1, lpM17_2, lpM17_3, lpM17_4, q1, q2, q3, q4, q10, q11, H16, hq, hH, wx2, ww1, lx, hle, hat, hat', w3, hx, hx']
          generalize hr : loopRun _ _ _ _ = res
          obtain ⟨s1, rfl, f1, f2, f3, f4, f10, f11, f12, f9, f16, fid, f13⟩ := loop_at (pos_loop (k + 8) b w h l x y r (v0 + v) (u0 + i) n a 13384 tk (by omega) (by omega)) hr (by simp [q1, q2, q3, q4, q10, q11, H16, hq, hH, intsO])
          clear hr hq hH q1 q2 q3 q4 q10 q11 H16
          simp [R17_0, R17_1, R17_2, R17_3, R17_4, R17_5, R17_6, R17_7, R17_8, R17_9, R17_10, R17_11, R17_12, R17_13, R17_14, R17_15, R17_16, R17_17, R17_18, R17_19, Try.f17, lpL17_0, lpL17_1, lpL17_2, lpL17_3, lpM17_0, lpM17_1, lpM17_2, lpM17_3, lpM17_4, M17_0, f1, f2, f3, f4, f10, f11, f12, f9, f16, fid, f13, intsO, hnb, hnb', wl]
          generalize hr : loopRun _ _ _ _ = res
          obtain ⟨s2, rfl, g1, g2, g3, g4, g10, g11, g12, g9, g13, g16, gid⟩ := loop_at (shift_loop (k + 8) b w h l x y r (v0 + v) (u0 + i) n a s1.tick (by omega) (by omega)) hr (by simp [f1, f2, f3, f4, f10, f11, f12, f9, f16, fid, f13, intsO])
          clear hr f1 f2 f3 f4 f10 f11 f12 f9 f16 fid f13
          simp [R17_0, R17_1, R17_2, R17_3, R17_4, R17_5, R17_6, R17_7, R17_8, R17_9, R17_10, R17_11, R17_12, R17_13, R17_14, R17_15, R17_16, R17_17, R17_18, R17_19, Try.f17, lpL17_0, lpL17_1, lpL17_2, lpL17_3, lpM17_0, lpM17_1, lpM17_2, lpM17_3, lpM17_4, M17_0, M17_1, M17_2, M17_3, M17_4, g1, g2, g3, g4, g10, g11, g12, g9, g13, g16, gid, intsO, hsl, hsi, hpg, hpl, hpl', w3]
          refine hn _ ⟨?_, ?_, ?_, ?_, ?_, ?_, ?_, .inr ⟨by rw [hnew]; exact ins_ne _ _, s1.tick, ?_, ?_⟩⟩
          all_goals simp [g1, g2, g3, g4, g10, g16, hnew, hil, g9, gid, intsO]
          done)
    (by
      rintro st next ⟨q1, q2, q3, q4, q10, q11, H16, hc⟩
      have hle : ¬ u0 + (d : Int) ≤ u1 := by omega
      rcases hc with ⟨ha, hq, hH⟩ | ⟨ha, tk, hq, hH⟩
      · simp [L17_1, R17_0, R17_1, R17_2, R17_3, R17_4, R17_5, R17_6, R17_7, R17_8, R17_9, R17_10, R17_11, R17_12, R17_13, R17_14, R17_15, R17_16, R17_17, R17_18, R17_19, Try.f17, lpL17_0, lpL17_1, lpL17_2, lpL17_3, lpM17_0, lpM17_1, lpM17_2, lpM17_3, lpM17_4, q1, q2, q3, q4, q10, q11, H16, hq, hH, wx2, ww1, lx, hle]
        exact .inl ⟨ha, rfl, by simp [hq, hH, intsO]⟩
      · simp [L17_1, R17_0, R17_1, R17_2, R17_3, R17_4, R17_5, R17_6, R17_7, R17_8, R17_9, R17_10, R17_11, R17_12, R17_13, R17_14, R17_15, R17_16, R17_17, R17_18, R17_19, Try.f17, lpL17_0, lpL17_1, lpL17_2, lpL17_3, lpM17_0, lpM17_1, lpM17_2, lpM17_3, lpM17_4, q1, q2, q3, q4, q10, q11, H16, hq, hH, wx2, ww1, lx, hle]
        exact .inr ⟨ha, tk, by simp [sortL_length], by simp [hq, hH, intsO]⟩)
  have hout := loopHas (body := fun st => runCode C (callK C (k + 8)) (k + 8) (K 17) L17_0 1 st) (keep := [1, 2, 3, 4, 9, 10]) (.ex 0) (fun st => Cg (st.ρ 9) st.H (sortL nb))
    (fun i st => st.ρ 1 = .c (.int .i64 x) ∧ st.ρ 2 = .c (.int .i64 y) ∧ st.ρ 3 = .c (.int .i64 r) ∧ st.ρ 4 = .p 16 1 3 0 0 ∧ st.ρ 10 = .c (.int .i64 (v0 + i)) ∧ st.H 16 = some (1, ⟨29, 3, false, [[.c (.int .i64 w), .c (.int .i64 h), .sq b true 1 (ints l)]]⟩) ∧ Cg (st.ρ 9) st.H (sortL (rowsL (cellOf l w) v0 u0 i d)))
    m (k + 8) (by omega)
    (by
      rintro i st next hi ⟨q1, q2, q3, q4, q10, H16, hc⟩ hn
      have hle : v0 + (i : Int) ≤ v1 := by omega
      have w3 : IntKind.i64.wrap (v0 + i + 1) = v0 + (i + 1) := by rw [wrap_small (by omega) (by omega)]; omega
      have hnx := rowsL_next (cellOf l w) v0 u0 i d
      rcases hc with ⟨ha, hq, hH⟩ | ⟨ha, tk, hq, hH⟩
      · simp [L17_0, R17_0, R17_1, R17_2, R17_3, R17_4, R17_5, R17_6, R17_7, R17_8, R17_9, R17_10, R17_11, R17_12, R17_13, R17_14, R17_15, R17_16, R17_17, R17_18, R17_19, Try.f17, lpL17_0, lpL17_1, lpL17_2, lpL17_3, lpM17_0, lpM17_1, lpM17_2, lpM17_3, lpM17_4, q1, q2, q3, q4, q10, H16, hq, hH, wy2, wh1, ly, hle, wx1, mx]
        generalize hr : loopRun _ _ _ _ = res
        obtain ⟨s1, rfl, f1, f2, f3, f4, f10, f16, fc⟩ := loop_at (hin i hi) hr ⟨by simp [q1], by simp [q2], by simp [q3], by simp [q4], by simp [q10], by simp, by simp [q4, H16], .inl ⟨by rw [rowL_zero, List.append_nil]; exact ha, by simp [hq], by simp [hq, hH, intsO]⟩⟩
        simp [R17_0, R17_1, R17_2, R17_3, R17_4, R17_5, R17_6, R17_7, R17_8, R17_9, R17_10, R17_11, R17_12, R17_13, R17_14, R17_15, R17_16, R17_17, R17_18, R17_19, Try.f17, lpL17_0, lpL17_1, lpL17_2, lpL17_3, lpM17_0, lpM17_1, lpM17_2, lpM17_3, lpM17_4, M17_0, M17_1, M17_2, M17_3, M17_4, f1, f2, f3, f4, f10, f16, w3]
        refine hn _ ⟨?_, ?_, ?_, ?_, ?_, ?_, by rw [hnx]; exact fc⟩ <;> simp [f1, f2, f3, f4, f10, f16]
      · simp [L17_0, R17_0, R17_1, R17_2, R17_3, R17_4, R17_5, R17_6, R17_7, R17_8, R17_9, R17_10, R17_11, R17_12, R17_13, R17_14, R17_15, R17_16, R17_17, R17_18, R17_19, Try.f17, lpL17_0, lpL17_1, lpL17_2, lpL17_3, lpM17_0, lpM17_1, lpM17_2, lpM17_3, lpM17_4, q1, q2, q3, q4, q10, H16, hq, hH, wy2, wh1, ly, hle, wx1, mx]
        generalize hr : loopRun _ _ _ _ = res
        obtain ⟨s1, rfl, f1, f2, f3, f4, f10, f16, fc⟩ := loop_at (hin i hi) hr ⟨by simp [q1], by simp [q2], by simp [q3], by simp [q4], by simp [q10], by simp, by simp [q4, H16], .inr ⟨by rw [rowL_zero, List.append_nil]; exact ha, tk, by simp [hq, rowL_zero, sortL_length], by simp [hq, hH, rowL_zero, intsO]⟩⟩
        simp [R17_0, R17_1, R17_2, R17_3, R17_4, R17_5, R17_6, R17_7, R17_8, R17_9, R17_10, R17_11, R17_12, R17_13, R17_14, R17_15, R17_16, R17_17, R17_18, R17_19, Try.f17, lpL17_0, lpL17_1, lpL17_2, lpL17_3, lpM17_0, lpM17_1, lpM17_2, lpM17_3, lpM17_4, M17_0, M17_1, M17_2, M17_3, M17_4, f1, f2, f3, f4, f10, f16, w3]
        refine hn _ ⟨?_, ?_, ?_, ?_, ?_, ?_, by rw [hnx]; exact fc⟩ <;> simp [f1, f2, f3, f4, f10, f16])
    (by
      rintro st next ⟨q1, q2, q3, q4, q10, H16, hc⟩
      rw [hnb] at hc
      have hle : ¬ v0 + (m : Int) ≤ v1 := by omega
      rcases hc with ⟨ha, hq, hH⟩ | ⟨ha, tk, hq, hH⟩
      · simp [L17_0, R17_0, R17_1, R17_2, R17_3, R17_4, R17_5, R17_6, R17_7, R17_8, R17_9, R17_10, R17_11, R17_12, R17_13, R17_14, R17_15, R17_16, R17_17, R17_18, R17_19, Try.f17, lpL17_0, lpL17_1, lpL17_2, lpL17_3, lpM17_0, lpM17_1, lpM17_2, lpM17_3, lpM17_4, q1, q2, q3, q4, q10, H16, hq, hH, wy2, wh1, ly, hle]
        exact .inl ⟨ha, rfl, by simp [hq, hH, intsO]⟩
      · simp [L17_0, R17_0, R17_1, R17_2, R17_3, R17_4, R17_5, R17_6, R17_7, R17_8, R17_9, R17_10, R17_11, R17_12, R17_13, R17_14, R17_15, R17_16, R17_17, R17_18, R17_19, Try.f17, lpL17_0, lpL17_1, lpL17_2, lpL17_3, lpM17_0, lpM17_1, lpM17_2, lpM17_3, lpM17_4, q1, q2, q3, q4, q10, H16, hq, hH, wy2, wh1, ly, hle]
        exact .inr ⟨ha, tk, by simp [sortL_length], by simp [hq, hH, intsO]⟩)
  simp [R17_0, R17_1, R17_2, R17_3, R17_4, R17_5, R17_6, R17_7, R17_8, R17_9, R17_10, R17_11, R17_12, R17_13, R17_14, R17_15, R17_16, R17_17, R17_18, R17_19, Try.f17, lpL17_0, lpL17_1, lpL17_2, lpL17_3, lpM17_0, lpM17_1, lpM17_2, lpM17_3, lpM17_4, fldV, wy1, my]
  generalize hr : loopRun _ _ _ _ = res
  obtain ⟨s1, rfl, fc⟩ := loop_at hout hr ⟨by simp, by simp, by simp, by simp, by simp, by simp, .inl ⟨rfl, by simp, by simp [intsO, ints]⟩⟩
  have hsl := sortL_length nb
  rcases fc with ⟨ha, hq, hH⟩ | ⟨ha, tk, hq, hH⟩
  · have hn0 : nb.length = 0 := by rw [← hsl, ha]; rfl
    simp [R17_0, R17_1, R17_2, R17_3, R17_4, R17_5, R17_6, R17_7, R17_8, R17_9, R17_10, R17_11, R17_12, R17_13, R17_14, R17_15, R17_16, R17_17, R17_18, R17_19, Try.f17, lpL17_0, lpL17_1, lpL17_2, lpL17_3, lpM17_0, lpM17_1, lpM17_2, lpM17_3, lpM17_4, M17_0, M17_1, M17_2, M17_3, M17_4, hq, hH, ha, hn0, intsO]
  · simp [R17_0, R17_1, R17_2, R17_3, R17_4, R17_5, R17_6, R17_7, R17_8, R17_9, R17_10, R17_11, R17_12, R17_13, R17_14, R17_15, R17_16, R17_17, R17_18, R17_19, Try.f17, lpL17_0, lpL17_1, lpL17_2, lpL17_3, lpM17_0, lpM17_1, lpM17_2, lpM17_3, lpM17_4, M17_0, M17_1, M17_2, M17_3, M17_4, hq, hH, hsl, intsO]

end Go.Proofs.Ytemkckldfmpplaa.Eng
