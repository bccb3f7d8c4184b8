/- A deterministic reading of Go code over plain data: what functions of the program compute. No conditions. -/
import Derived.Test.YtemkckldfmpplaaLmbase
import Derived.Test.YtemkckldfmpplaaLmimpl
import Derived.Test.YtemkckldfmpplaaLmgood
import Derived.Test.YtemkckldfmpplaaLmrepeat
import Derived.Test.YtemkckldfmpplaaLmfieldby
import Derived.Test.YtemkckldfmpplaaLmnbh
import Derived.Test.YtemkckldfmpplaaEngT
namespace Go.Proofs.Ytemkckldfmpplaa.Eng
open Go Go.Proofs
set_option maxRecDepth 100000
set_option maxHeartbeats 2000000
set_option linter.unusedSimpArgs false
set_option linter.unusedVariables false
attribute [local simp] finK fin1 hpOf xi renQ isRoot runCode runOps stepX inlOf Eng.step wantedV astep val ofO made loadV storeV find V.cells bin binT binA numT numFs eqCells un1 setAt fieldAddrV fieldV indexAddrV indexV bounds sliceV convV lenV foldV max2V min2V callO bor rdsO wrsO seen_none okD_none loops keepIds resV resultsV St.ev TK.agg refs refsL refsO V.one V.isC Value.oneCell' ren renL renO noTag noTagL noTagR noTagO nodup mapO passV frs psi refsR newD loopNext opsAt idx flatAt rootOf backR newsV appendV copyV clearV strV bytesV bldV bufV selfV bytesOf nilCmp buildV fillF chunk
attribute [local simp] cT cF cX cWR cOW cK cBL X ints_length ints_get ints_getElem ints_drop ints_take ints_append ints_nil ints_set
attribute [local simp] ints_replicate
attribute [local simp] putV_some putV_none putH_app applyD_nil applyD_cons seen_app gc_ρ gc_H gc_tick st0_ρ st0_H st0_tick retV callRo callV_if borL_nil borL_cons ints_snoc take_self callWr cutH_app findQ afterV exportV_0 exportV_n okD_nil okD_cons sub_seq0 sub_seq1 sub_cond0 sub_cond1 sub_block sub_loop sub_nil young_far young_none hidW_nil mayW_nil pairs okI ok_0 ok_1 ok_2
attribute [local simp] T3 T4 T22 T24 T26 T29 T44
def tkH (H : Hp) (id : Nat) : Nat := match H id with | some (t, _) => t | none => 0
theorem tkH_eq {H : Hp} {id t : Nat} {o : Eng.Obj} (h : H id = some (t, o)) : tkH H id = t := by simp [tkH, h]
/-- A list that grows in a slot: nothing yet, or an object. -/
def Cf (id : Nat) (v : V) (o : Option (Nat × Eng.Obj)) (acc : List Int) : Prop := (acc = [] ∧ v = .c (.slice none 0 0)) ∨ (acc ≠ [] ∧ ∃ tk, v = .s id tk 1 0 acc.length ∧ o = some (tk, intsO acc))
theorem Cf_nil {id : Nat} {v : V} {o : Option (Nat × Eng.Obj)} (h : Cf id v o []) : v = .c (.slice none 0 0) := by
  rcases h with ⟨_, h⟩ | ⟨h, _⟩
  · exact h
  · exact absurd rfl h
theorem Cf_some {id : Nat} {v : V} {H : Hp} {acc : List Int} (ha : acc ≠ []) (h : Cf id v (H id) acc) : v = .s id (tkH H id) 1 0 acc.length ∧ H id = some (tkH H id, intsO acc) := by
  rcases h with ⟨h, _⟩ | ⟨_, tk, h1, h2⟩
  · exact absurd h ha
  · rw [tkH_eq h2]; exact ⟨h1, h2⟩
theorem c_neighborhood (k : Nat) (b : Bool) (w h : Int) (l : List Int) (x y r : Int) (hl : (l.length : Int) = w * h) (h64 : l.length ≤ 64) (hx : 0 ≤ x) (hx' : x < w) (hy : 0 ≤ y) (hy' : y < h) (hr : 0 ≤ r) (hr' : r ≤ 3) (hw : w ≤ 8) (hh : h ≤ 8) (hk : 300 ≤ k) :
    callK C k 21 [fldV b w h l, .c (.int .i64 x), .c (.int .i64 y), .c (.int .i64 r)] [] = some (if nbL (cellOf l w) w h x y r = [] then (.c (.slice none 0 0), hpOf [] []) else (.s 0 2 1 0 (nbL (cellOf l w) w h x y r).length, hpOf [] [intsO (nbL (cellOf l w) w h x y r)])) := by
  obtain ⟨k, rfl⟩ : ∃ m, k = m + 9 := ⟨k - 9, by omega⟩
  rw [callK_fn rfl F21 code21]
  obtain ⟨ya, yb, yc, yd, ye, yf⟩ := edge_facts (h := h) (r := r) hy hy' hr
  obtain ⟨xa, xb, xc, xd, xe, xf⟩ := edge_facts (h := w) (r := r) hx hx' hr
  obtain ⟨v0, hv0⟩ : ∃ v0, lowE y r = v0 := ⟨_, rfl⟩
  obtain ⟨v1, hv1⟩ : ∃ v1, topE h y r = v1 := ⟨_, rfl⟩
  obtain ⟨u0, hu0⟩ : ∃ u0, lowE x r = u0 := ⟨_, rfl⟩
  obtain ⟨u1, hu1⟩ : ∃ u1, topE w x r = u1 := ⟨_, rfl⟩
  unfold nbL
  rw [hv0, hv1, hu0, hu1] 
  rw [hv0] at ya yb ye
  rw [hv1] at yc yd yf
  rw [hu0] at xa xb xe
  rw [hu1] at xc xd xf
  obtain ⟨m, hm⟩ : ∃ m : Nat, (v1 - v0 + 1).toNat = m := ⟨_, rfl⟩
  obtain ⟨d, hd⟩ : ∃ d : Nat, (u1 - u0 + 1).toNat = d := ⟨_, rfl⟩
  rw [hm, hd]
  have hmv : v0 + m = v1 + 1 := by omega
  have hdu : u0 + d = u1 + 1 := by omega
  obtain ⟨nb, hnb⟩ : ∃ nb, rowsL (cellOf l w) v0 u0 m d = nb := ⟨_, rfl⟩
  rw [hnb]
  have wy1 : IntKind.i64.wrap (y - r) = y - r := wrap_small (by omega) (by omega)
  have wy2 : IntKind.i64.wrap (y + r) = y + r := wrap_small (by omega) (by omega)
  have wx1 : IntKind.i64.wrap (x - r) = x - r := wrap_small (by omega) (by omega)
  have wx2 : IntKind.i64.wrap (x + r) = x + r := wrap_small (by omega) (by omega)
  have wh1 : IntKind.i64.wrap (h - 1) = h - 1 := wrap_small (by omega) (by omega)
  have ww1 : IntKind.i64.wrap (w - 1) = w - 1 := wrap_small (by omega) (by omega)
  have hin := fun (v : Nat) (hv : v < m) => loopOut (body := fun st => runCode C (callK C (k + 8)) (k + 8) (K 21) L21_1 2 st) (keep := [1, 2, 3, 4, 9, 10, 11]) (.ex 2) (fun st => st.ρ 1 = .c (.int .i64 x) ∧ st.ρ 2 = .c (.int .i64 y) ∧ st.ρ 3 = .c (.int .i64 r) ∧ st.ρ 4 = .p 16 1 3 0 0 ∧ st.ρ 10 = .c (.int .i64 (v0 + v)) ∧
      st.H 16 = some (1, ⟨29, 3, false, [[.c (.int .i64 w), .c (.int .i64 h), .sq b true 1 (ints l)]]⟩) ∧
      Cf 10312 (st.ρ 9) (st.H 10312) (rowsL (cellOf l w) v0 u0 v d ++ rowL (cellOf l w) (v0 + v) u0 d))
    (fun i st => st.ρ 1 = .c (.int .i64 x) ∧ st.ρ 2 = .c (.int .i64 y) ∧ st.ρ 3 = .c (.int .i64 r) ∧ st.ρ 4 = .p 16 1 3 0 0 ∧ st.ρ 10 = .c (.int .i64 (v0 + v)) ∧ st.ρ 11 = .c (.int .i64 (u0 + i)) ∧
      st.H 16 = some (1, ⟨29, 3, false, [[.c (.int .i64 w), .c (.int .i64 h), .sq b true 1 (ints l)]]⟩) ∧
      Cf 10312 (st.ρ 9) (st.H 10312) (rowsL (cellOf l w) v0 u0 v d ++ rowL (cellOf l w) (v0 + v) u0 i))
    d (k + 8) (by omega)
    (by
      rintro i st next hi ⟨q1, q2, q3, q4, q10, q11, H16, hc⟩ hn
      obtain ⟨h1, h2, h3, h4⟩ := cell_ix (x := u0 + i) (y := v0 + v) hl (by omega) (by omega) (by omega) (by omega)
      have w1 : IntKind.i64.wrap ((v0 + v) * w) = (v0 + v) * w := wrap_small (by omega) (by omega)
      have w2 : IntKind.i64.wrap ((v0 + v) * w + (u0 + i)) = (v0 + v) * w + (u0 + i) := wrap_small (by omega) (by omega)
      have w3 : IntKind.i64.wrap (u0 + i + 1) = u0 + (i + 1) := by rw [wrap_small (by omega) (by omega)]; omega
      have hle : u0 + (i : Int) ≤ u1 := by omega
      by_cases hx : cellOf l w (u0 + i) (v0 + v) = -9999
      · have hrow := rowL_miss hx
        rcases hc with ⟨ha, hq⟩ | ⟨ha, tk, hq, hH⟩
        · simp [L21_1, R21_0, R21_1, R21_2, R21_3, R21_4, R21_5, R21_6, R21_7, R21_8, R21_9, R21_10, R21_11, Try.f21, lpL21_0, lpL21_1, lpM21_0, lpM21_1, M21_0, M21_1, q1, q2, q3, q4, q10, q11, H16, hq, wx2, ww1, xf, hle, w1, w2, w3, h1, h4, hx]
          refine hn _ ⟨?_, ?_, ?_, ?_, ?_, ?_, ?_, .inl ⟨by rw [hrow]; exact ha, ?_⟩⟩ <;> simp [q1, q2, q3, q4, q10, H16, hq]
        · simp [L21_1, R21_0, R21_1, R21_2, R21_3, R21_4, R21_5, R21_6, R21_7, R21_8, R21_9, R21_10, R21_11, Try.f21, lpL21_0, lpL21_1, lpM21_0, lpM21_1, M21_0, M21_1, q1, q2, q3, q4, q10, q11, H16, hq, hH, wx2, ww1, xf, hle, w1, w2, w3, h1, h4, hx]
          refine hn _ ⟨?_, ?_, ?_, ?_, ?_, ?_, ?_, .inr ⟨by rw [hrow]; exact ha, tk, ?_, ?_⟩⟩ <;> simp [q1, q2, q3, q4, q10, H16, hq, hH, hrow]
      · have hrow := rowL_more hx
        have hx' : (cellOf l w (u0 + i) (v0 + v) == -9999) = false := by simpa using hx
        rcases hc with ⟨ha, hq⟩ | ⟨ha, tk, hq, hH⟩
        · have hnew : rowsL (cellOf l w) v0 u0 v d ++ rowL (cellOf l w) (v0 + v) u0 (i + 1) = [cellOf l w (u0 + i) (v0 + v)] := by rw [hrow, ← List.append_assoc, ha]; rfl
          simp [L21_1, R21_0, R21_1, R21_2, R21_3, R21_4, R21_5, R21_6, R21_7, R21_8, R21_9, R21_10, R21_11, Try.f21, lpL21_0, lpL21_1, lpM21_0, lpM21_1, M21_0, M21_1, q1, q2, q3, q4, q10, q11, H16, hq, wx2, ww1, xf, hle, w1, w2, w3, h1, h4, hx, hx', maxLen]
          refine hn _ ⟨?_, ?_, ?_, ?_, ?_, ?_, ?_, .inr ⟨by rw [hnew]; simp, st.tick + 1 + 1 + 1, ?_, ?_⟩⟩ <;> simp [q1, q2, q3, q4, q10, H16, hnew, intsO, ints]
        · obtain ⟨acc, hacc⟩ : ∃ acc, rowsL (cellOf l w) v0 u0 v d ++ rowL (cellOf l w) (v0 + v) u0 i = acc := ⟨_, rfl⟩
          rw [hacc] at ha hq hH
          have hnew : rowsL (cellOf l w) v0 u0 v d ++ rowL (cellOf l w) (v0 + v) u0 (i + 1) = acc ++ [cellOf l w (u0 + i) (v0 + v)] := by rw [hrow, ← List.append_assoc, hacc]
          have hlen : acc.length ≤ 64 := by
            rw [← hacc, List.length_append]
            have a1 := rowsL_length (cellOf l w) v0 u0 v d
            have a2 := rowL_length (cellOf l w) (v0 + v) u0 i
            have a3 := Nat.mul_le_mul (by omega : v ≤ 7) (by omega : d ≤ 8)
            omega
          have hnb : (acc.length + 1) * 8 ≤ 140737488355328 := by omega
          have hnb' : acc.length + 1 ≤ maxLen := by unfold maxLen; omega
          simp [L21_1, R21_0, R21_1, R21_2, R21_3, R21_4, R21_5, R21_6, R21_7, R21_8, R21_9, R21_10, R21_11, Try.f21, lpL21_0, lpL21_1, lpM21_0, lpM21_1, M21_0, M21_1, q1, q2, q3, q4, q10, q11, H16, hq, hH, intsO, wx2, ww1, xf, hle, w1, w2, w3, h1, h4, hx, hx', hnb, hnb']
          refine hn _ ⟨?_, ?_, ?_, ?_, ?_, ?_, ?_, .inr ⟨by rw [hnew]; simp, st.tick + 1 + 1 + 1, ?_, ?_⟩⟩ <;> simp [q1, q2, q3, q4, q10, H16, hnew, intsO])
    (by
      rintro st next ⟨q1, q2, q3, q4, q10, q11, H16, hc⟩
      have hle : ¬ u0 + (d : Int) ≤ u1 := by omega
      rcases hc with ⟨ha, hq⟩ | ⟨ha, tk, hq, hH⟩
      · simp [L21_1, R21_0, R21_1, R21_2, R21_3, R21_4, R21_5, R21_6, R21_7, R21_8, R21_9, R21_10, R21_11, Try.f21, lpL21_0, lpL21_1, lpM21_0, lpM21_1, M21_0, M21_1, q1, q2, q3, q4, q10, q11, H16, hq, wx2, ww1, xf, hle, Cf, ha]
      · simp [L21_1, R21_0, R21_1, R21_2, R21_3, R21_4, R21_5, R21_6, R21_7, R21_8, R21_9, R21_10, R21_11, Try.f21, lpL21_0, lpL21_1, lpM21_0, lpM21_1, M21_0, M21_1, q1, q2, q3, q4, q10, q11, H16, hq, hH, wx2, ww1, xf, hle]
        exact .inr ⟨ha, tk, by rw [List.length_append], rfl⟩)
  obtain ⟨out, ho⟩ := loopOut (body := fun st => runCode C (callK C (k + 8)) (k + 8) (K 21) L21_0 1 st) (keep := [1, 2, 3, 4, 9, 10]) (.ex 0) (fun st => Cf 10312 (st.ρ 9) (st.H 10312) nb)
    (fun i st => st.ρ 1 = .c (.int .i64 x) ∧ st.ρ 2 = .c (.int .i64 y) ∧ st.ρ 3 = .c (.int .i64 r) ∧ st.ρ 4 = .p 16 1 3 0 0 ∧ st.ρ 10 = .c (.int .i64 (v0 + i)) ∧
      st.H 16 = some (1, ⟨29, 3, false, [[.c (.int .i64 w), .c (.int .i64 h), .sq b true 1 (ints l)]]⟩) ∧
      Cf 10312 (st.ρ 9) (st.H 10312) (rowsL (cellOf l w) v0 u0 i d))
    m (k + 8) (by omega)
    (by
      rintro i st next hi ⟨q1, q2, q3, q4, q10, H16, hc⟩ hn
      obtain ⟨out, ho⟩ := hin i hi
      have hle : v0 + (i : Int) ≤ v1 := by omega
      have w3 : IntKind.i64.wrap (v0 + i + 1) = v0 + (i + 1) := by rw [wrap_small (by omega) (by omega)]; omega
      have hnx := rowsL_next (cellOf l w) v0 u0 i d
      rcases hc with ⟨ha, hq⟩ | ⟨ha, tk, hq, hH⟩
      · have hoA := fun st a1 a2 a3 a4 a5 a6 a7 a8 => ho st ⟨a1, a2, a3, a4, a5, a6, a7, .inl ⟨by rw [rowL_zero, List.append_nil]; exact ha, a8⟩⟩
        simp at hoA
        simp [L21_0, R21_0, R21_1, R21_2, R21_3, R21_4, R21_5, R21_6, R21_7, R21_8, R21_9, R21_10, R21_11, Try.f21, lpL21_0, lpL21_1, lpM21_0, lpM21_1, M21_0, M21_1, q1, q2, q3, q4, q10, H16, hq, wy2, wh1, wx1, yf, xe, hle, w3, hoA]
        refine hn _ ⟨?_, ?_, ?_, ?_, ?_, ?_, ?_⟩ <;> simp [hoA, q1, q2, q3, q4, q10, H16, hq, hnx]
      · have hoB := fun st a1 a2 a3 a4 a5 a6 a7 a8 a9 => ho st ⟨a1, a2, a3, a4, a5, a6, a7, .inr ⟨by rw [rowL_zero, List.append_nil]; exact ha, tk, by rw [rowL_zero, List.append_nil]; exact a8, by rw [rowL_zero, List.append_nil]; exact a9⟩⟩
        simp at hoB
        simp [L21_0, R21_0, R21_1, R21_2, R21_3, R21_4, R21_5, R21_6, R21_7, R21_8, R21_9, R21_10, R21_11, Try.f21, lpL21_0, lpL21_1, lpM21_0, lpM21_1, M21_0, M21_1, q1, q2, q3, q4, q10, H16, hq, hH, wy2, wh1, wx1, yf, xe, hle, w3, hoB]
        refine hn _ ⟨?_, ?_, ?_, ?_, ?_, ?_, ?_⟩ <;> simp [hoB, q1, q2, q3, q4, q10, H16, hq, hH, hnx])
    (by
      rintro st next ⟨q1, q2, q3, q4, q10, H16, hc⟩
      rw [hnb] at hc
      have hle : ¬ v0 + (m : Int) ≤ v1 := by omega
      rcases hc with ⟨ha, hq⟩ | ⟨ha, tk, hq, hH⟩
      · simp [L21_0, R21_0, R21_1, R21_2, R21_3, R21_4, R21_5, R21_6, R21_7, R21_8, R21_9, R21_10, R21_11, Try.f21, lpL21_0, lpL21_1, lpM21_0, lpM21_1, M21_0, M21_1, q1, q2, q3, q4, q10, H16, hq, wy2, wh1, yf, hle]
        exact .inl ⟨ha, rfl⟩
      · simp [L21_0, R21_0, R21_1, R21_2, R21_3, R21_4, R21_5, R21_6, R21_7, R21_8, R21_9, R21_10, R21_11, Try.f21, lpL21_0, lpL21_1, lpM21_0, lpM21_1, M21_0, M21_1, q1, q2, q3, q4, q10, H16, hq, hH, wy2, wh1, yf, hle]
        exact .inr ⟨ha, tk, rfl, rfl⟩)
  by_cases hz : nb = []
  · rw [hz] at ho
    have hoA := fun st a1 a2 a3 a4 a5 a6 a7 => And.intro (ho st ⟨a1, a2, a3, a4, a5, a6, .inl ⟨rfl, a7⟩⟩).1 (Cf_nil (ho st ⟨a1, a2, a3, a4, a5, a6, .inl ⟨rfl, a7⟩⟩).2)
    simp at hoA
    simp [R21_0, R21_1, R21_2, R21_3, R21_4, R21_5, R21_6, R21_7, R21_8, R21_9, R21_10, R21_11, Try.f21, lpL21_0, lpL21_1, lpM21_0, lpM21_1, M21_0, M21_1, fldV, wy1, ye, hoA, hz]
  · have hoA := fun st a1 a2 a3 a4 a5 a6 a7 => And.intro (ho st ⟨a1, a2, a3, a4, a5, a6, .inl ⟨rfl, a7⟩⟩).1 (Cf_some hz (ho st ⟨a1, a2, a3, a4, a5, a6, .inl ⟨rfl, a7⟩⟩).2)
    simp [intsO] at hoA
    simp [R21_0, R21_1, R21_2, R21_3, R21_4, R21_5, R21_6, R21_7, R21_8, R21_9, R21_10, R21_11, Try.f21, lpL21_0, lpL21_1, lpM21_0, lpM21_1, M21_0, M21_1, fldV, wy1, ye, hoA, hz, intsO]

end Go.Proofs.Ytemkckldfmpplaa.Eng
