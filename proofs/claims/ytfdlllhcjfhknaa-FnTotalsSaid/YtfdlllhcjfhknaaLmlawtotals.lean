/- A deterministic reading of Go code over plain data: what functions of the program compute. No conditions. -/
import Derived.Test.YtfdlllhcjfhknaaLmbase
import Derived.Test.YtfdlllhcjfhknaaLmimpl
import Derived.Test.YtfdlllhcjfhknaaLmimplc
import Derived.Test.YtfdlllhcjfhknaaLmgood
import Derived.Test.YtfdlllhcjfhknaaLmnbh
import Derived.Test.YtfdlllhcjfhknaaLmfcore
import Derived.Test.YtfdlllhcjfhknaaLmvals
import Derived.Test.YtfdlllhcjfhknaaLmrepeat
import Derived.Test.YtfdlllhcjfhknaaLmfieldby
import Derived.Test.YtfdlllhcjfhknaaLmsubfield
import Derived.Test.YtfdlllhcjfhknaaLmtotals
import Derived.Test.YtfdlllhcjfhknaaLmdraws
import Derived.Test.YtfdlllhcjfhknaaLmfieldaux
import Derived.Test.YtfdlllhcjfhknaaLmdrawf
import Derived.Test.YtfdlllhcjfhknaaLmdrawa
import Derived.Test.YtfdlllhcjfhknaaLmdrawt
import Derived.Test.YtfdlllhcjfhknaaEngT
namespace Go.Proofs.Ytfdlllhcjfhknaa.Eng
open Go Go.Proofs
set_option maxRecDepth 100000
set_option maxHeartbeats 2000000
set_option linter.unusedSimpArgs false
set_option linter.unusedVariables false
attribute [local simp] finK fin1 hpOf xi renQ isRoot runCode runOps Eng.step wantedV astep val ofO made loadV storeV find V.cells bin binT un1 setAt fieldAddrV fieldV indexAddrV indexV bounds sliceV convV lenV foldV max2V min2V callO bor rdsO wrsO seen_none okD_none loops keepIds resV resultsV St.ev TK.agg refs refsL refsO V.one V.isC Value.oneCell' ren renL renO noTag noTagL noTagR noTagO nodup mapO passV frs psi refsR newD loopNext opsAt idx flatAt rootOf backR newsV appendV copyV clearV strV bytesOf buildV fillF chunk
attribute [local simp] cT cF cX cWR cOW cK X ints_length ints_get ints_getElem ints_drop ints_take ints_append ints_nil ints_set
attribute [local simp] ints_replicate
attribute [local simp] putV_some putV_none putH_app applyD_nil applyD_cons seen_app gc_ρ gc_H gc_tick st0_ρ st0_H st0_tick retV callRo callV_if borL_nil borL_cons ints_snoc take_self callWr cutH_app findQ afterV exportV_0 exportV_n okD_nil okD_cons sub_seq0 sub_seq1 sub_cond0 sub_cond1 sub_block sub_loop sub_nil young_far young_none hidW_nil mayW_nil pairs okI ok_0 ok_1 ok_2
attribute [local simp] T3 T4 T5 T9 T22 T24 T26 T29 T36 T73 T75 T86 T89 T103 T104 T106 T108 T109 T111 T114 T118 T134 T136 T157 T161 T168
attribute [local simp] young_near clo cloF Region.binds Nat.testBit hidW declW mayW
theorem vals_all {l : List Int} (h : l.all cellB = true) : ∀ x ∈ valsL l, -9000 ≤ x ∧ x ≤ 9000 := by
  intro x hx
  have := List.all_eq_true.1 (vals_ok h) x hx
  simpa [okV] using this
theorem cell_in {w h x y : Int} {l : List Int} (hl : (l.length : Int) = w * h) (hx : 0 ≤ x) (hx' : x < w) (hy : 0 ≤ y) (hy' : y < h) : cellOf l w x y ∈ l := by
  obtain ⟨_, _, _, h4⟩ := cell_ix hl hx hx' hy hy'
  exact List.mem_of_getElem? h4
theorem sub_facts {w h : Int} {l : List Int} {x y : Int} {W Hn : Nat} (hb : subB w h l x y W Hn = true) :
    goodB W Hn (tabL (W * Hn) W (subG l w x y)) = true ∧ hasB W Hn ((W : Int) - 1) ((Hn : Int) - 1) = true ∧
    cellOf (tabL (W * Hn) W (subG l w x y)) W ((W : Int) - 1) ((Hn : Int) - 1) = cellOf l w (x + W - 1) (y + Hn - 1) ∧ hasB w h (x + W - 1) (y + Hn - 1) = true ∧ goodB w h l = true ∧ 1 ≤ W ∧ W ≤ 8 ∧ 1 ≤ Hn ∧ Hn ≤ 8 ∧ 0 ≤ x ∧ x ≤ 8 ∧ 0 ≤ y ∧ y ≤ 8 := by
  simp only [subB, Bool.and_eq_true] at hb
  obtain ⟨g1, hh, hs, hf⟩ := hb
  obtain ⟨s1, n1, cl1, k1⟩ := good_length g1
  obtain ⟨_, _, p1, p2, p3, p4⟩ := shape_area s1
  obtain ⟨_, _, a3, a4, a5, a6⟩ := shape_area hs
  obtain ⟨x0, x1, y0, y1⟩ := has_bound hh
  have hfit := has_fit hh hs
  have hf' := hf
  simp only [fitB, Bool.and_eq_true, decide_eq_true_eq] at hf'
  have hlt := tabL_length (W * Hn) W (subG l w x y)
  refine ⟨?_, ?_, ?_, by rw [hfit, hf], g1, by omega, by omega, by omega, by omega, x0, by omega, y0, by omega⟩
  · unfold goodB
    rw [hs, hlt]
    simp only [Bool.true_and, Bool.and_eq_true, beq_iff_eq]
    refine ⟨by rw [Int.natCast_mul], ?_⟩
    rw [List.all_eq_true]
    intro z hz
    obtain ⟨i, hi, rfl⟩ := List.getElem_of_mem hz
    rw [hlt] at hi
    rw [tabL_get _ _ _ _ hi]
    have hW : 0 < W := by omega
    have e1 : (i : Int).tmod (W : Int) = ((i % W : Nat) : Int) := rfl
    have e2 : (i : Int) / (W : Int) = ((i / W : Nat) : Int) := rfl
    have h1 : i % W < W := Nat.mod_lt _ hW
    have h2 : i / W < Hn := Nat.div_lt_of_lt_mul hi
    rw [e1, e2]
    obtain ⟨a, ha⟩ : ∃ a, i % W = a := ⟨_, rfl⟩
    obtain ⟨b, hb⟩ : ∃ b, i / W = b := ⟨_, rfl⟩
    rw [ha] at h1 ⊢
    rw [hb] at h2 ⊢
    exact List.all_eq_true.1 cl1 _ (cell_in n1 (by omega) (by omega) (by omega) (by omega))
  · simp only [hasB, Bool.and_eq_true, decide_eq_true_eq]; omega
  · obtain ⟨W', rfl⟩ : ∃ W', W = W' + 1 := ⟨W - 1, by omega⟩
    obtain ⟨H', rfl⟩ : ∃ H', Hn = H' + 1 := ⟨Hn - 1, by omega⟩
    have hlt2 : H' * (W' + 1) + W' < (W' + 1) * (H' + 1) := by
      rw [Nat.mul_comm (W' + 1) (H' + 1), Nat.add_mul]; omega
    have ht := tabL_at (W := W' + 1) (N := (W' + 1) * (H' + 1)) (v := H') (u := W') (subG l w x y) (by omega) hlt2
    have hix : (((H' + 1 : Nat) : Int) - 1) * ((W' + 1 : Nat) : Int) + (((W' + 1 : Nat) : Int) - 1) = ((H' * (W' + 1) + W' : Nat) : Int) := by
      have : ((H' + 1 : Nat) : Int) - 1 = (H' : Int) := by omega
      rw [this]
      have : ((W' + 1 : Nat) : Int) - 1 = (W' : Int) := by omega
      rw [this]
      simp
    unfold cellOf
    rw [hix, Int.toNat_natCast, List.getD_eq_getElem?_getD, List.getElem?_eq_getElem (by rw [hlt]; exact hlt2), Option.getD_some, ht]
    unfold subG cellOf
    rw [show x + ((W' + 1 : Nat) : Int) - 1 = x + (W' : Int) by omega, show y + ((H' + 1 : Nat) : Int) - 1 = y + (H' : Int) by omega]
theorem law_FnTotals (code : List Int) (hl : code.length ≤ maxLen) (hb : ∀ x ∈ code, (Lit.int .u8 x).wf = true) : ∃ k, callK C k 5 [.sq false true 1 (u8s code)] [] = some (.c (.bool true), hpOf [] []) := by
  have hb' : ∀ x ∈ code, 0 ≤ x ∧ x ≤ 255 := fun x hx => by
    have := hb x hx
    simpa [Lit.wf, IntKind.min, IntKind.max, IntKind.signed, IntKind.bits] using this
  refine ⟨5000, ?_⟩
  rw [callK_fn (k := 4999) rfl F5 code5]
  have v0 := c_vBig 4999 code (by omega)
  by_cases h16 : 65536 < code.length
  · simp [h16] at v0
    simp [R5_0, R5_1, R5_2, R5_3, R5_4, R5_5, R5_6, R5_7, R5_8, R5_9, R5_10, R5_11, R5_12, R5_13, R5_14, R5_15, R5_16, R5_17, R5_18, R5_19, R5_20, R5_21, R5_22, R5_23, R5_24, Try.f5, v0]
  simp [h16] at v0
  obtain ⟨w, h, l, off, n, D1, hon, h64⟩ := c_DrawFieldRange 4999 code hb' hl (by omega)
  obtain ⟨w', h', l', off', n', x, y, u, v, D2, hon', h64'⟩ := c_DrawSubField 4999 code hb' hl (by omega)
  obtain ⟨L, hL⟩ : ∃ L, (l.drop off).take n = L := ⟨_, rfl⟩
  obtain ⟨L', hL'⟩ : ∃ L', (l'.drop off').take n' = L' := ⟨_, rfl⟩
  have hn : n = L.length := by rw [← hL, List.length_take, List.length_drop]; omega
  have hn' : n' = L'.length := by rw [← hL', List.length_take, List.length_drop]; omega
  have R1 := c_implRange 4999 w h L (by omega)
  have R2 := c_specRange 4999 true w h L (by omega)
  have T1 := c_FieldTotal 4999 w h L (by omega)
  have M1 := c_CountMissing 4999 w h L (by omega)
  have V1 := c_IsValidField 4999 true w h L (by omega)
  have S1 := c_implSub 4999 w' h' L' x y u v (by omega)
  simp [fldV] at R1 R2 T1 M1 V1
  simp [intsO] at D1 D2
  -- the second part: a part of a field
  have P2 : ∀ (w' h' : Int) (l' : List Int) (off' n' : Nat) (L' : List Int) (x y u v : Int), (l'.drop off').take n' = L' → L'.length ≤ 64 → (subB w' h' L' x y u v = false ∧ callK C 4999 42 [fldV true w' h' L', .c (.int .i64 x), .c (.int .i64 y), .c (.int .i64 u), .c (.int .i64 v)] [] = some (.tp [nilV, .c (.bool false)], hpOf [] []) ∧ callK C 4999 43 [fldV true w' h' L', .c (.int .i64 x), .c (.int .i64 y), .c (.int .i64 u), .c (.int .i64 v)] [] = some (.tp [nilV, .c (.bool false)], hpOf [] [])) ∨
      (∃ W Hn : Nat, u = W ∧ v = Hn ∧ subB w' h' L' x y W Hn = true ∧ callK C 4999 42 [fldV true w' h' L', .c (.int .i64 x), .c (.int .i64 y), .c (.int .i64 W), .c (.int .i64 Hn)] [] = some (.tp [ownV W Hn 0 2 (W * Hn), .c (.bool true)], hpOf [] [intsO (tabL (W * Hn) W (subG L' w' x y))]) ∧ callK C 4999 43 [fldV true w' h' L', .c (.int .i64 x), .c (.int .i64 y), .c (.int .i64 W), .c (.int .i64 Hn)] [] = some (.tp [ownV W Hn 0 2 (W * Hn), .c (.bool true)], hpOf [] [intsO (tabL (W * Hn) W (subG L' w' x y))])) := by
    intro w' h' l' off' n' L' x y u v _ _
    have i1 := c_implSub 4999 w' h' L' x y u v (by omega)
    cases hb : subB w' h' L' x y u v
    · rw [hb] at i1
      exact .inl ⟨rfl, i1, c_specSubNo 4999 true w' h' L' x y u v hb (by omega)⟩
    · rw [hb] at i1
      have hb' := hb
      simp only [subB, Bool.and_eq_true] at hb'
      obtain ⟨_, a2, a3, a4, a5, a6⟩ := shape_area hb'.2.2.1
      obtain ⟨W, rfl⟩ : ∃ W : Nat, u = W := ⟨u.toNat, by omega⟩
      obtain ⟨Hn, rfl⟩ : ∃ Hn : Nat, v = Hn := ⟨v.toNat, by omega⟩
      have e : ((W : Int) * (Hn : Int)).toNat = W * Hn := by rw [← Int.natCast_mul]; rfl
      rw [e] at i1
      exact .inr ⟨W, Hn, rfl, rfl, hb, i1, c_specSub 4999 true w' h' L' x y W Hn hb (by omega)⟩
  have key : ∀ (tt : Bool) (r : Option (V × Hp)), True := fun _ _ => trivial
  clear key S1
  have hn64 : L'.length ≤ 64 := by omega
  rcases P2 w' h' l' off' n' L' x y u v hL' hn64 with ⟨hs0, I2, S2⟩ | ⟨W, Hn, rfl, rfl, hs0, I2, S2⟩
  · simp [fldV, nilV] at I2 S2
    have VN := c_vFieldNil 4999 (by omega)
    simp [nilV] at VN
    cases hg : goodB w h L
    · have hr : rOk w h L = false := by simp [rOk, hg]
      simp [hg, rLo, rHi, hr, totI, missI] at R1 R2 T1 M1 V1
      simp [R5_0, R5_1, R5_2, R5_3, R5_4, R5_5, R5_6, R5_7, R5_8, R5_9, R5_10, R5_11, R5_12, R5_13, R5_14, R5_15, R5_16, R5_17, R5_18, R5_19, R5_20, R5_21, R5_22, R5_23, R5_24, Try.f5, undef, v0, D1, D2, hL, hL', hon, hon', R1, R2, T1, M1, V1, I2, S2, VN]
    · obtain ⟨s1, n1, cl1, k1⟩ := good_length hg
      have hvl := vals_len L
      have hva := vals_all cl1
      have hw1 : IntKind.i64.wrap ((n : Int) - ((n : Int) - ((valsL L).length : Int))) = ((valsL L).length : Int) := by rw [wrap_small (by omega) (by omega)]; omega
      by_cases h0 : valsL L = []
      · have hr : rOk w h L = false := by simp [rOk, hg, h0, neB_nil]
        rw [h0] at hw1
        simp [hg, rLo, rHi, hr, totI, missI, h0, ← hn] at R1 R2 T1 M1 V1
        simp at hw1
        simp [R5_0, R5_1, R5_2, R5_3, R5_4, R5_5, R5_6, R5_7, R5_8, R5_9, R5_10, R5_11, R5_12, R5_13, R5_14, R5_15, R5_16, R5_17, R5_18, R5_19, R5_20, R5_21, R5_22, R5_23, R5_24, Try.f5, undef, v0, D1, D2, hL, hL', hon, hon', R1, R2, T1, M1, V1, hw1, I2, S2, VN]
      · have hr : rOk w h L = true := by simp [rOk, hg, neB_ne h0]
        have hp : 0 < (valsL L).length := List.length_pos_iff.2 h0
        obtain ⟨mi1, mi2⟩ := minL_spec h0
        obtain ⟨ma1, ma2⟩ := maxL_spec h0
        have hlo := sum_ge (valsL L) (minL (valsL L)) mi2
        have hhi := sum_le (valsL L) (maxL (valsL L)) ma2
        have b1 := hva _ mi1
        have b2 := hva _ ma1
        simp [hg, rLo, rHi, hr, totI, missI, ← hn] at R1 R2 T1 M1 V1
        obtain ⟨lo, hlo'⟩ : ∃ q, minL (valsL L) = q := ⟨_, rfl⟩
        obtain ⟨hi, hhi'⟩ : ∃ q, maxL (valsL L) = q := ⟨_, rfl⟩
        obtain ⟨sm, hsm⟩ : ∃ q, (valsL L).sum = q := ⟨_, rfl⟩
        obtain ⟨q, hq⟩ : ∃ q, (valsL L).length = q := ⟨_, rfl⟩
        rw [hlo'] at R1 R2 hlo b1
        rw [hhi'] at R1 R2 hhi b2
        rw [hsm] at T1 hlo hhi
        rw [hq] at M1 hw1 hlo hhi hp hvl
        have wq1 : IntKind.i64.wrap (lo * (q : Int)) = lo * (q : Int) := by
          have p1 := Int.mul_le_mul_of_nonneg_right b1.1 (by omega : (0 : Int) ≤ (q : Int))
          have p2 := Int.mul_le_mul_of_nonneg_right b1.2 (by omega : (0 : Int) ≤ (q : Int))
          exact wrap_small (by omega) (by omega)
        have wq2 : IntKind.i64.wrap (hi * (q : Int)) = hi * (q : Int) := by
          have p1 := Int.mul_le_mul_of_nonneg_right b2.1 (by omega : (0 : Int) ≤ (q : Int))
          have p2 := Int.mul_le_mul_of_nonneg_right b2.2 (by omega : (0 : Int) ≤ (q : Int))
          exact wrap_small (by omega) (by omega)
        have z1 : ¬ sm < lo * (q : Int) := by omega
        have z2 : ¬ hi * (q : Int) < sm := by omega
        have z3 : ¬ (q : Int) < 1 := by omega
        have z4 : ¬ q < 1 := by omega
        simp [R5_0, R5_1, R5_2, R5_3, R5_4, R5_5, R5_6, R5_7, R5_8, R5_9, R5_10, R5_11, R5_12, R5_13, R5_14, R5_15, R5_16, R5_17, R5_18, R5_19, R5_20, R5_21, R5_22, R5_23, R5_24, Try.f5, undef, v0, D1, D2, hL, hL', hon, hon', R1, R2, T1, M1, V1, hw1, wq1, wq2, z1, z2, z3, z4, I2, S2, VN]
  · obtain ⟨gg, hh2, ce, hh3, g1, W1, W8, H1, H8, x0, x8, y0, y8⟩ := sub_facts hs0
    have hlt := tabL_length (W * Hn) W (subG L' w' x y)
    have C1 := c_CellAt 4999 W Hn (tabL (W * Hn) W (subG L' w' x y)) ((W : Int) - 1) ((Hn : Int) - 1) (by omega)
    have C2 := c_CellAt 4999 w' h' L' (x + W - 1) (y + Hn - 1) (by omega)
    have VF := c_vField 4999 true true W Hn (tabL (W * Hn) W (subG L' w' x y)) (by rw [hlt]; have := Nat.mul_le_mul W8 H8; omega) (by rw [hlt]; have := Nat.mul_le_mul W8 H8; omega)
    simp [cOk, gg, hh2, ce, fldV] at C1
    simp [cOk, g1, hh3, fldV] at C2
    simp [fldV] at VF
    simp [fldV, ownV, intsO] at I2 S2
    obtain ⟨R, hR⟩ : ∃ R, tabL (W * Hn) W (subG L' w' x y) = R := ⟨_, rfl⟩
    rw [hR] at C1 VF I2 S2 hlt
    have htk : R.take (W * Hn) = R := by rw [← hlt]; exact List.take_length
    have ww1 : IntKind.i64.wrap ((W : Int) - 1) = (W : Int) - 1 := wrap_small (by omega) (by omega)
    have ww2 : IntKind.i64.wrap ((Hn : Int) - 1) = (Hn : Int) - 1 := wrap_small (by omega) (by omega)
    have ww3 : IntKind.i64.wrap (x + (W : Int)) = x + (W : Int) := wrap_small (by omega) (by omega)
    have ww4 : IntKind.i64.wrap (y + (Hn : Int)) = y + (Hn : Int) := wrap_small (by omega) (by omega)
    have ww5 : IntKind.i64.wrap (x + (W : Int) - 1) = x + (W : Int) - 1 := wrap_small (by omega) (by omega)
    have ww6 : IntKind.i64.wrap (y + (Hn : Int) - 1) = y + (Hn : Int) - 1 := wrap_small (by omega) (by omega)
    cases hg : goodB w h L
    · have hr : rOk w h L = false := by simp [rOk, hg]
      simp [hg, rLo, rHi, hr, totI, missI] at R1 R2 T1 M1 V1
      simp [R5_0, R5_1, R5_2, R5_3, R5_4, R5_5, R5_6, R5_7, R5_8, R5_9, R5_10, R5_11, R5_12, R5_13, R5_14, R5_15, R5_16, R5_17, R5_18, R5_19, R5_20, R5_21, R5_22, R5_23, R5_24, Try.f5, undef, v0, D1, D2, hL, hL', hon, hon', R1, R2, T1, M1, V1, I2, S2, VF, C1, C2, htk, hlt, ww1, ww2, ww3, ww4, ww5, ww6]
    · obtain ⟨s1, n1, cl1, k1⟩ := good_length hg
      have hvl := vals_len L
      have hva := vals_all cl1
      have hw1 : IntKind.i64.wrap ((n : Int) - ((n : Int) - ((valsL L).length : Int))) = ((valsL L).length : Int) := by rw [wrap_small (by omega) (by omega)]; omega
      by_cases h0 : valsL L = []
      · have hr : rOk w h L = false := by simp [rOk, hg, h0, neB_nil]
        rw [h0] at hw1
        simp [hg, rLo, rHi, hr, totI, missI, h0, ← hn] at R1 R2 T1 M1 V1
        simp at hw1
        simp [R5_0, R5_1, R5_2, R5_3, R5_4, R5_5, R5_6, R5_7, R5_8, R5_9, R5_10, R5_11, R5_12, R5_13, R5_14, R5_15, R5_16, R5_17, R5_18, R5_19, R5_20, R5_21, R5_22, R5_23, R5_24, Try.f5, undef, v0, D1, D2, hL, hL', hon, hon', R1, R2, T1, M1, V1, hw1, I2, S2, VF, C1, C2, htk, hlt, ww1, ww2, ww3, ww4, ww5, ww6]
      · have hr : rOk w h L = true := by simp [rOk, hg, neB_ne h0]
        have hp : 0 < (valsL L).length := List.length_pos_iff.2 h0
        obtain ⟨mi1, mi2⟩ := minL_spec h0
        obtain ⟨ma1, ma2⟩ := maxL_spec h0
        have hlo := sum_ge (valsL L) (minL (valsL L)) mi2
        have hhi := sum_le (valsL L) (maxL (valsL L)) ma2
        have b1 := hva _ mi1
        have b2 := hva _ ma1
        simp [hg, rLo, rHi, hr, totI, missI, ← hn] at R1 R2 T1 M1 V1
        obtain ⟨lo, hlo'⟩ : ∃ q, minL (valsL L) = q := ⟨_, rfl⟩
        obtain ⟨hi, hhi'⟩ : ∃ q, maxL (valsL L) = q := ⟨_, rfl⟩
        obtain ⟨sm, hsm⟩ : ∃ q, (valsL L).sum = q := ⟨_, rfl⟩
        obtain ⟨q, hq⟩ : ∃ q, (valsL L).length = q := ⟨_, rfl⟩
        rw [hlo'] at R1 R2 hlo b1
        rw [hhi'] at R1 R2 hhi b2
        rw [hsm] at T1 hlo hhi
        rw [hq] at M1 hw1 hlo hhi hp hvl
        have wq1 : IntKind.i64.wrap (lo * (q : Int)) = lo * (q : Int) := by
          have p1 := Int.mul_le_mul_of_nonneg_right b1.1 (by omega : (0 : Int) ≤ (q : Int))
          have p2 := Int.mul_le_mul_of_nonneg_right b1.2 (by omega : (0 : Int) ≤ (q : Int))
          exact wrap_small (by omega) (by omega)
        have wq2 : IntKind.i64.wrap (hi * (q : Int)) = hi * (q : Int) := by
          have p1 := Int.mul_le_mul_of_nonneg_right b2.1 (by omega : (0 : Int) ≤ (q : Int))
          have p2 := Int.mul_le_mul_of_nonneg_right b2.2 (by omega : (0 : Int) ≤ (q : Int))
          exact wrap_small (by omega) (by omega)
        have z1 : ¬ sm < lo * (q : Int) := by omega
        have z2 : ¬ hi * (q : Int) < sm := by omega
        have z3 : ¬ (q : Int) < 1 := by omega
        have z4 : ¬ q < 1 := by omega
        simp [R5_0, R5_1, R5_2, R5_3, R5_4, R5_5, R5_6, R5_7, R5_8, R5_9, R5_10, R5_11, R5_12, R5_13, R5_14, R5_15, R5_16, R5_17, R5_18, R5_19, R5_20, R5_21, R5_22, R5_23, R5_24, Try.f5, undef, v0, D1, D2, hL, hL', hon, hon', R1, R2, T1, M1, V1, hw1, wq1, wq2, z1, z2, z3, z4, I2, S2, VF, C1, C2, htk, hlt, ww1, ww2, ww3, ww4, ww5, ww6]

end Go.Proofs.Ytfdlllhcjfhknaa.Eng
