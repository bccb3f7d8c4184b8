/- A deterministic reading of Go code over plain data: what functions of the program compute. No conditions. -/
import Derived.Test.YtalpgpjhloohfaaDoorLmbase
import Derived.Test.YtalpgpjhloohfaaDoorLmimpl
import Derived.Test.YtalpgpjhloohfaaDoorLmgood
import Derived.Test.YtalpgpjhloohfaaDoorLmitoa
import Derived.Test.YtalpgpjhloohfaaDoorLmappendck
import Derived.Test.YtalpgpjhloohfaaDoorLmquantity
import Derived.Test.YtalpgpjhloohfaaDoorLmsplit
import Derived.Test.YtalpgpjhloohfaaDoorLmnumtext
import Derived.Test.YtalpgpjhloohfaaDoorLmjoins
import Derived.Test.YtalpgpjhloohfaaDoorLmcuts
import Derived.Test.YtalpgpjhloohfaaDoorLmpfield
import Derived.Test.YtalpgpjhloohfaaDoorLmpfield2
import Derived.Test.YtalpgpjhloohfaaDoorLmfield
import Derived.Test.YtalpgpjhloohfaaDoorLmrepeat
import Derived.Test.YtalpgpjhloohfaaDoorLmfieldby
import Derived.Test.YtalpgpjhloohfaaDoorEngT
import Derived.Lib.IndexLaws
namespace Go.Proofs.YtalpgpjhloohfaaDoor.Eng
open Go Go.Proofs
set_option maxRecDepth 100000
set_option maxHeartbeats 2000000
set_option linter.unusedSimpArgs false
set_option linter.unusedVariables false
attribute [local simp] finK fin1 hpOf xi renQ isRoot runCode runOps Eng.step wantedV astep val ofO made loadV storeV find V.cells bin binT binA numT numFs eqCells un1 setAt fieldAddrV fieldV indexAddrV indexV bounds sliceV convV lenV foldV max2V min2V callO bor rdsO wrsO seen_none okD_none loops keepIds resV resultsV St.ev TK.agg refs refsL refsO V.one V.isC Value.oneCell' ren renL renO noTag noTagL noTagR noTagO nodup mapO passV frs psi refsR newD loopNext opsAt idx flatAt rootOf backR newsV appendV copyV clearV strV bytesV bldV bufV selfV bytesOf nilCmp buildV fillF chunk
attribute [local simp] cT cF cX cWR cOW cK cBL X ints_length ints_get ints_getElem ints_drop ints_take ints_append ints_nil ints_set
attribute [local simp] ints_replicate
attribute [local simp] putV_some putV_none putH_app applyD_nil applyD_cons seen_app gc_ρ gc_H gc_tick st0_ρ st0_H st0_tick retV callRo callV_if borL_nil borL_cons ints_snoc take_self callWr cutH_app findQ afterV exportV_0 exportV_n okD_nil okD_cons sub_seq0 sub_seq1 sub_cond0 sub_cond1 sub_block sub_loop sub_nil young_far young_none hidW_nil mayW_nil pairs okI ok_0 ok_1 ok_2
attribute [local simp] T3 T4 T9 T22 T24 T28 T55 T70
attribute [local simp] young_near clo cloF Region.binds Nat.testBit hidW declW mayW List.findIdx?_cons
theorem chnk_get (w : Nat) : ∀ (h : Nat) (c : List Int) (y : Nat) (hy : y < (chnk w h c).length), (chnk w h c)[y] = (c.drop (y * w)).take w
  | 0, c, y, hy => by simp [chnk] at hy
  | h + 1, c, 0, hy => by simp [chnk]
  | h + 1, c, y + 1, hy => by
    have hy' : y < (chnk w h (c.drop w)).length := by
      rw [chnk_len] at hy ⊢; omega
    have := chnk_get w h (c.drop w) y hy'
    simp only [chnk, List.getElem_cons_succ]
    rw [this, List.drop_drop, Nat.succ_mul, Nat.add_comm w]
theorem row_step (r : List Int) (x : Nat) (hx : x < r.length) : rowT (r.take (x + 1)) = if x = 0 then cellT r[x] else rowT (r.take x) ++ [32] ++ cellT r[x] := by
  have h := joinB_take (r.map cellT) 32 x (by simpa using hx)
  unfold rowT
  rw [List.map_take, List.map_take, h, List.getElem_map]
theorem rows_step (R : List (List Int)) (y : Nat) (hy : y < R.length) : rowsT (R.take (y + 1)) = rowsT (R.take y) ++ rowT R[y] ++ [10] := by
  unfold rowsT
  rw [List.take_succ_eq_append_getElem hy, List.flatMap_append, List.flatMap_singleton, List.append_assoc]
theorem c_l2Text (k : Nat) (b : Bool) (W H : Nat) (l : List Int) (hg : goodB W H l = true) (hk : 500 ≤ k) : callK C k 38 [fldV b W H l] [] = some (.c (.string (bs (textF W H l))), hpOf [] []) := by
  obtain ⟨k, rfl⟩ : ∃ m, k = m + 9 := ⟨k - 9, by omega⟩
  rw [callK_fn rfl F38 code38]
  obtain ⟨sh, hcl, hall, h64⟩ := good_length hg
  obtain ⟨_, _, a1, a2, b1, b2⟩ := shape_area sh
  have hcl' : l.length = W * H := by
    have : ((W * H : Nat) : Int) = (W : Int) * (H : Int) := Int.natCast_mul W H
    omega
  obtain ⟨hf, hw⟩ := chnk_flat W H l hcl'
  have hRl := chnk_len W H l
  have hRg := chnk_get W H l
  have hrows := rows_len (chnk W H l)
  unfold textF
  obtain ⟨R, hR⟩ : ∃ R, chnk W H l = R := ⟨_, rfl⟩
  have hRg' : ∀ (y : Nat) (hy : y < R.length), R[y] = (l.drop (y * W)).take W := by subst hR; exact hRg
  rw [hR] at hf hw hRl hrows ⊢
  have hcr : ∀ r ∈ R, r.all cellB = true := cells_rows (by rw [hf]; exact hall)
  have hB : ∀ y, y ≤ R.length → (rowsT (R.take y)).length ≤ 384 := by
    intro y hy
    have := rows_len (R.take y) W (by omega) (fun r hr => hw r (List.mem_of_mem_take hr)) (fun r hr => hcr r (List.mem_of_mem_take hr))
    have h8 : W * (R.take y).length ≤ 8 * 8 := Nat.mul_le_mul (by omega) (by rw [List.length_take]; omega)
    omega
  have hBox := fldV b W H l
  have hrow : ∀ (y : Nat) (hy : y < H) (P : List UInt8), P.length ≤ 384 → ∀ st : St, (st.ρ 1 = .p 16 1 3 0 0 ∧ st.H 16 = some (1, ⟨28, 3, false, [[.c (.int .i64 (W : Int)), .c (.int .i64 (H : Int)), .sq b true 1 (ints l)]]⟩) ∧ st.ρ 3 = .c (.string (bs P)) ∧ st.ρ 4 = .c (.int .i64 (y : Int)) ∧ st.ρ 5 = .c (.int .i64 0)) → ∃ s, loopRun (fun st => runCode C (callK C (k + 8)) (k + 8) (K 38) L38_1 2 st) [1, 3, 4, 5] (k + 8) st = some (.ex 2, s) ∧ (s.ρ 1 = .p 16 1 3 0 0 ∧ s.H 16 = some (1, ⟨28, 3, false, [[.c (.int .i64 (W : Int)), .c (.int .i64 (H : Int)), .sq b true 1 (ints l)]]⟩) ∧ s.ρ 3 = .c (.string (bs (P ++ rowT (R[y]'(by omega))))) ∧ s.ρ 4 = .c (.int .i64 (y : Int))) := by
    intro y hy P hP st hst
    obtain ⟨r, hr⟩ : ∃ r, R[y]'(by omega) = r := ⟨_, rfl⟩
    have hrw : r.length = W := by rw [← hr]; exact hw _ (List.getElem_mem _)
    have hrc : r.all cellB = true := by rw [← hr]; exact hcr _ (List.getElem_mem _)
    have hrl : ∀ x, x ≤ r.length → (rowT (r.take x)).length ≤ 100 := by
      intro x hx
      have := (row_len (r.take x) (by
        rw [List.all_eq_true] at hrc ⊢
        exact fun z hz => hrc z (List.mem_of_mem_take hz))).1
      rw [List.length_take] at this
      omega
    rw [hr]
    refine loopHas (body := fun st => runCode C (callK C (k + 8)) (k + 8) (K 38) L38_1 2 st) (keep := [1, 3, 4, 5]) (.ex 2) (fun s => s.ρ 1 = .p 16 1 3 0 0 ∧ s.H 16 = some (1, ⟨28, 3, false, [[.c (.int .i64 (W : Int)), .c (.int .i64 (H : Int)), .sq b true 1 (ints l)]]⟩) ∧ s.ρ 3 = .c (.string (bs (P ++ rowT r))) ∧ s.ρ 4 = .c (.int .i64 (y : Int)))
      (fun x s => s.ρ 1 = .p 16 1 3 0 0 ∧ s.H 16 = some (1, ⟨28, 3, false, [[.c (.int .i64 (W : Int)), .c (.int .i64 (H : Int)), .sq b true 1 (ints l)]]⟩) ∧ s.ρ 3 = .c (.string (bs (P ++ rowT (r.take x)))) ∧ s.ρ 4 = .c (.int .i64 (y : Int)) ∧ s.ρ 5 = .c (.int .i64 (x : Int)))
      W (k + 8) (by omega) ?_ ?_ st ?_
    · rintro x s next hx ⟨q1, H1, q3, q4, q5⟩ hn
      have hxr : x < r.length := by omega
      have hst2 := row_step r x hxr
      have hbl := hrl x (by omega)
      have hat := c_l2At (k + 8) b (W : Int) (H : Int) l (x : Int) (y : Int) hcl h64 (by omega) (by omega) (by omega) (by omega) (by omega)
      have hcv : cellOf l (W : Int) (x : Int) (y : Int) = r[x] := by
        have e1 : r[x]? = l[y * W + x]? := by
          rw [← hr, hRg' y (by omega), List.getElem?_take, if_pos hx, List.getElem?_drop]
        rw [List.getElem?_eq_getElem hxr] at e1
        unfold cellOf
        have e2 : ((y : Int) * (W : Int) + (x : Int)).toNat = y * W + x := by
          have : ((y * W + x : Nat) : Int) = (y : Int) * (W : Int) + (x : Int) := by simp
          omega
        rw [e2, List.getD_eq_getElem?_getD, ← e1]
        rfl
      rw [hcv] at hat
      have hcell := List.all_eq_true.1 hrc _ (List.getElem_mem hxr)
      have hclen := cell_len hcell
      obtain ⟨v, hv⟩ : ∃ v, r[x] = v := ⟨_, rfl⟩
      rw [hv] at hat hst2 hcell hclen
      have hwn := wrap_next hx (by omega : W ≤ 9000000000000000000)
      obtain ⟨S, hS⟩ : ∃ S, P ++ rowT (r.take x) = S := ⟨_, rfl⟩
      have hSl : S.length ≤ 500 := by rw [← hS, List.length_append]; omega
      rw [hS] at q3
      have hx2 : (x : Int) < (W : Int) := by omega
      simp [fldV] at hat
      have hnum : v ≠ -9999 → callK C (k + 8) 48 [.c (.int .i64 v)] [] = some (.c (.string (bs (cellT v))), hpOf [] []) := by
        intro hne
        unfold cellB at hcell
        simp only [Bool.or_eq_true, beq_iff_eq, Bool.and_eq_true, decide_eq_true_eq] at hcell
        unfold cellT
        rw [if_neg hne]
        exact c_l1Num (k + 8) v (by omega) (by omega) (by omega)
      have z1 : S.length + 1 ≤ 9223372036854775807 := by omega
      have z2 : S.length + 1 + 1 ≤ 9223372036854775807 := by omega
      have z3 : S.length + 1 + (cellT v).length ≤ 9223372036854775807 := by omega
      have z4 : S.length + (cellT v).length ≤ 9223372036854775807 := by omega
      by_cases hx0 : x = 0
      · have hnew : P ++ rowT (r.take (x + 1)) = S ++ cellT v := by
          rw [hst2, if_pos hx0, ← hS, hx0]; simp [rowT, joinB, Lib.join_nil]
        rw [hnew] at hn
        have c1 : ¬ (0 : Int) < (x : Int) := by omega
        have c2 : ¬ 0 < x := by omega
        by_cases hm : v = -9999
        · have hct : cellT v = [46] := by rw [hm]; rfl
          rw [hct] at hn
          rw [hm] at hat
          simp [L38_1, R38_0, R38_1, R38_2, R38_3, R38_4, R38_5, R38_6, R38_7, R38_8, R38_9, R38_10, R38_11, R38_12, R38_13, R38_14, R38_15, Tryd.f38, lpL38_0, lpL38_1, lpM38_0, lpM38_1, lpM38_2, M38_0, M38_1, M38_2, q1, H1, q3, q4, q5, hx2, hat, lit1, bs_append, bs_size, hwn, c1, c2, z1]
          exact hn _ ⟨by simp [q1], by simp [q1, H1], by simp [hx0], by simp [q4], by simp⟩
        · have hmb : (v == -9999) = false := by simpa using hm
          have hnu := hnum hm
          simp [L38_1, R38_0, R38_1, R38_2, R38_3, R38_4, R38_5, R38_6, R38_7, R38_8, R38_9, R38_10, R38_11, R38_12, R38_13, R38_14, R38_15, Tryd.f38, lpL38_0, lpL38_1, lpM38_0, lpM38_1, lpM38_2, M38_0, M38_1, M38_2, q1, H1, q3, q4, q5, hx2, hat, lit1, bs_append, bs_size, hwn, c1, c2, hm, hmb, hnu, z4]
          exact hn _ ⟨by simp [q1], by simp [q1, H1], by simp [hx0], by simp [q4], by simp⟩
      · have hnew : P ++ rowT (r.take (x + 1)) = S ++ 32 :: cellT v := by
          rw [hst2, if_neg hx0, ← hS]; simp
        rw [hnew] at hn
        have c1 : (0 : Int) < (x : Int) := by omega
        have c2 : 0 < x := by omega
        by_cases hm : v = -9999
        · have hct : cellT v = [46] := by rw [hm]; rfl
          rw [hct] at hn
          rw [hm] at hat
          simp [L38_1, R38_0, R38_1, R38_2, R38_3, R38_4, R38_5, R38_6, R38_7, R38_8, R38_9, R38_10, R38_11, R38_12, R38_13, R38_14, R38_15, Tryd.f38, lpL38_0, lpL38_1, lpM38_0, lpM38_1, lpM38_2, M38_0, M38_1, M38_2, q1, H1, q3, q4, q5, hx2, hat, lit1, bs_append, bs_size, hwn, c1, c2, z1, z2]
          exact hn _ ⟨by simp [q1], by simp [q1, H1], by simp [q3], by simp [q4], by simp⟩
        · have hmb : (v == -9999) = false := by simpa using hm
          have hnu := hnum hm
          simp [L38_1, R38_0, R38_1, R38_2, R38_3, R38_4, R38_5, R38_6, R38_7, R38_8, R38_9, R38_10, R38_11, R38_12, R38_13, R38_14, R38_15, Tryd.f38, lpL38_0, lpL38_1, lpM38_0, lpM38_1, lpM38_2, M38_0, M38_1, M38_2, q1, H1, q3, q4, q5, hx2, hat, lit1, bs_append, bs_size, hwn, c1, c2, hm, hmb, hnu, z1, z3]
          exact hn _ ⟨by simp [q1], by simp [q1, H1], by simp [q3], by simp [q4], by simp⟩
    · rintro s next ⟨q1, H1, q3, q4, q5⟩
      rw [show r.take W = r by rw [← hrw]; exact List.take_length] at q3
      simp [L38_1, R38_0, R38_1, R38_2, R38_3, R38_4, R38_5, R38_6, R38_7, R38_8, R38_9, R38_10, R38_11, R38_12, R38_13, R38_14, R38_15, Tryd.f38, lpL38_0, lpL38_1, lpM38_0, lpM38_1, lpM38_2, M38_0, M38_1, M38_2, q1, H1, q3, q4, q5]
    · obtain ⟨q1, H1, q3, q4, q5⟩ := hst
      exact ⟨q1, H1, by simp [q3, rowT, joinB, Lib.join_nil], q4, by simp [q5]⟩
  have hL := loopHas (body := fun st => runCode C (callK C (k + 8)) (k + 8) (K 38) L38_0 1 st) (keep := [1, 3, 4]) (.ex 0) (fun s => s.ρ 3 = .c (.string (bs (rowsT R))))
    (fun y s => s.ρ 1 = .p 16 1 3 0 0 ∧ s.H 16 = some (1, ⟨28, 3, false, [[.c (.int .i64 (W : Int)), .c (.int .i64 (H : Int)), .sq b true 1 (ints l)]]⟩) ∧ s.ρ 3 = .c (.string (bs (rowsT (R.take y)))) ∧ s.ρ 4 = .c (.int .i64 (y : Int)))
    H (k + 8) (by omega)
    (by
      rintro y s next hy ⟨q1, H1, q3, q4⟩ hn
      have hyR : y < R.length := by omega
      have hs := rows_step R y hyR
      have hPl := hB y (by omega)
      have hwn := wrap_next hy (by omega : H ≤ 9000000000000000000)
      have hy2 : (y : Int) < (H : Int) := by omega
      have hrl : (rowT R[y]).length ≤ 100 := by
        have := (row_len R[y] (hcr _ (List.getElem_mem hyR))).1
        rw [hw _ (List.getElem_mem hyR)] at this
        omega
      obtain ⟨P, hP⟩ : ∃ P, rowsT (R.take y) = P := ⟨_, rfl⟩
      rw [hP] at q3 hs hPl
      rw [hs] at hn
      simp [L38_0, R38_0, R38_1, R38_2, R38_3, R38_4, R38_5, R38_6, R38_7, R38_8, R38_9, R38_10, R38_11, R38_12, R38_13, R38_14, R38_15, Tryd.f38, lpL38_0, lpL38_1, lpM38_0, lpM38_1, lpM38_2, q1, H1, q3, q4, hy2]
      generalize hr : loopRun _ _ _ _ = res
      obtain ⟨s1, rfl, p1, P1, p3, p4⟩ := loop_at (hrow y hy P hPl) hr ⟨by simp [q1], by simp [q1, H1], by simp [q3], by simp [q4], by simp⟩
      obtain ⟨S, hS⟩ : ∃ S, P ++ rowT R[y] = S := ⟨_, rfl⟩
      have z1 : S.length + 1 ≤ 9223372036854775807 := by rw [← hS, List.length_append]; omega
      rw [hS] at p3 hn
      simp [R38_0, R38_1, R38_2, R38_3, R38_4, R38_5, R38_6, R38_7, R38_8, R38_9, R38_10, R38_11, R38_12, R38_13, R38_14, R38_15, Tryd.f38, lpL38_0, lpL38_1, lpM38_0, lpM38_1, lpM38_2, M38_0, M38_1, M38_2, p1, P1, p3, p4, lit1, bs_append, bs_size, z1, hwn]
      exact hn _ ⟨by simp [p1], by simp [p1, P1], by simp, by simp⟩)
    (by
      rintro s next ⟨q1, H1, q3, q4⟩
      rw [show R.take H = R by rw [← hRl]; exact List.take_length] at q3
      simp [L38_0, R38_0, R38_1, R38_2, R38_3, R38_4, R38_5, R38_6, R38_7, R38_8, R38_9, R38_10, R38_11, R38_12, R38_13, R38_14, R38_15, Tryd.f38, lpL38_0, lpL38_1, lpM38_0, lpM38_1, lpM38_2, M38_0, M38_1, M38_2, q1, H1, q3, q4])
  simp [R38_0, R38_1, R38_2, R38_3, R38_4, R38_5, R38_6, R38_7, R38_8, R38_9, R38_10, R38_11, R38_12, R38_13, R38_14, R38_15, Tryd.f38, lpL38_0, lpL38_1, lpM38_0, lpM38_1, lpM38_2, fldV, lit0]
  generalize hr : loopRun _ _ _ _ = res
  obtain ⟨s1, rfl, f3⟩ := loop_at hL hr ⟨by simp, by simp, by simp [rowsT], by simp⟩
  simp [R38_0, R38_1, R38_2, R38_3, R38_4, R38_5, R38_6, R38_7, R38_8, R38_9, R38_10, R38_11, R38_12, R38_13, R38_14, R38_15, Tryd.f38, lpL38_0, lpL38_1, lpM38_0, lpM38_1, lpM38_2, M38_0, M38_1, M38_2, f3]

end Go.Proofs.YtalpgpjhloohfaaDoor.Eng
