/- A deterministic reading of Go code over plain data: what functions of the program compute. No conditions. -/
import Derived.Test.YtgegdikmmlinfaaDoorLmbase
import Derived.Test.YtgegdikmmlinfaaDoorLmimpl
import Derived.Test.YtgegdikmmlinfaaDoorLmgood
import Derived.Test.YtgegdikmmlinfaaDoorLmminmax
import Derived.Test.YtgegdikmmlinfaaDoorLmnodes
import Derived.Test.YtgegdikmmlinfaaDoorLmnodep
import Derived.Test.YtgegdikmmlinfaaDoorLmnodefn
import Derived.Test.YtgegdikmmlinfaaDoorLmisexpr
import Derived.Test.YtgegdikmmlinfaaDoorLmdepth
import Derived.Test.YtgegdikmmlinfaaDoorLmnodelaw
import Derived.Test.YtgegdikmmlinfaaDoorLmitoa
import Derived.Test.YtgegdikmmlinfaaDoorLmappendck
import Derived.Test.YtgegdikmmlinfaaDoorLmsplit
import Derived.Test.YtgegdikmmlinfaaDoorLmtextp
import Derived.Test.YtgegdikmmlinfaaDoorLmtextw
import Derived.Test.YtgegdikmmlinfaaDoorEngT
import Derived.Lib.ItoaLen
namespace Go.Proofs.YtgegdikmmlinfaaDoor.Eng
open Go Go.Proofs
set_option maxRecDepth 100000
set_option maxHeartbeats 2000000
set_option linter.unusedSimpArgs false
set_option linter.unusedVariables false
attribute [local simp] finK fin1 hpOf xi renQ isRoot runCode runOps Eng.step wantedV astep val ofO made loadV storeV find V.cells bin binT binA numT numFs eqCells un1 setAt fieldAddrV fieldV indexAddrV indexV bounds sliceV convV lenV foldV max2V min2V callO bor rdsO wrsO seen_none okD_none loops keepIds resV resultsV St.ev TK.agg refs refsL refsO V.one V.isC Value.oneCell' ren renL renO noTag noTagL noTagR noTagO nodup mapO passV frs psi refsR newD loopNext opsAt idx flatAt rootOf backR newsV appendV copyV clearV strV bytesOf nilCmp buildV fillF chunk
attribute [local simp] cT cF cX cWR cOW cK X ints_length ints_get ints_getElem ints_drop ints_take ints_append ints_nil ints_set
attribute [local simp] ints_replicate
attribute [local simp] putV_some putV_none putH_app applyD_nil applyD_cons seen_app gc_ρ gc_H gc_tick st0_ρ st0_H st0_tick retV callRo callV_if borL_nil borL_cons ints_snoc take_self callWr cutH_app findQ afterV exportV_0 exportV_n okD_nil okD_cons sub_seq0 sub_seq1 sub_cond0 sub_cond1 sub_block sub_loop sub_nil young_far young_none hidW_nil mayW_nil pairs okI ok_0 ok_1 ok_2
attribute [local simp] T3 T4 T9 T22 T26 T33 T35 T42 T43
attribute [local simp] young_near clo cloF Region.binds Nat.testBit hidW declW mayW List.findIdx?_cons
def bls (p : List Bool) : List (List V) := p.map fun x => [.c (.bool x)]
def blsO (p : List Bool) : Eng.Obj := ⟨4, 1, true, bls p⟩
theorem bls_snoc (p : List Bool) (x : Bool) : bls p ++ [[V.c (.bool x)]] = bls (p ++ [x]) := by simp [bls]
theorem bls_length (p : List Bool) : (bls p).length = p.length := by simp [bls]
theorem bls_take (p : List Bool) (n : Nat) : (bls p).take n = bls (p.take n) := by simp [bls]
theorem okBl (ty : TypeId) (p : List Bool) : okObj ⟨ty, 1, true, bls p⟩ = true := by simp [okObj, bls, V.one, V.isC, Value.oneCell']
theorem bls_one (x : Bool) : [[V.c (.bool x)]] = bls [x] := rfl
/-- The two stacks: nothing yet, or two objects. -/
def Ct (v w : V) (H : Hp) (R : List (List UInt8 × Bool)) : Prop := (R = [] ∧ v = .c (.slice none 0 0) ∧ w = .c (.slice none 0 0)) ∨ (R ≠ [] ∧ ∃ tk tk', v = .s 29800 tk 1 0 R.length ∧ H 29800 = some (tk, strsO (R.map (·.1))) ∧ w = .s 29912 tk' 1 0 R.length ∧ H 29912 = some (tk', blsO (R.map (·.2))))
theorem c_exprText (k : Nat) (b : Bool) (l : List (Int × Int)) (hg : goodE l = true) (hk : 400 ≤ k) : callK C k 13 [.sq b true 2 (ndL l)] [] = some (.c (.string (bs ((tks l l.length).headD ([], false)).1)), hpOf [] []) := by
  obtain ⟨k, rfl⟩ : ∃ m, k = m + 1 := ⟨k - 1, by omega⟩
  rw [callK_fn rfl F13 code13]
  have hag := fun q => c_arguments k q (by omega)
  have hsm := fun q => c_isSum k q (by omega)
  obtain ⟨h15, hr⟩ := good_run hg
  have hL := loopHas (body := fun st => runCode C (callK C (k + 0)) (k + 0) (K 13) L13_0 1 st) (keep := [3, 4, 13, 14, 15]) (.ex 0) (fun st => Ct (st.ρ 3) (st.ρ 4) st.H (tks l l.length).reverse)
    (fun i st => st.ρ 13 = .sq b true 2 (ndL l) ∧ st.ρ 14 = .c (.int .i64 (l.length : Int)) ∧ st.ρ 15 = .c (.int .i64 (i : Int)) ∧ Ct (st.ρ 3) (st.ρ 4) st.H (tks l i).reverse)
    l.length (k + 0) (by omega)
    (by
      rintro i st next hi ⟨q13, q14, q15, hc⟩ hx
      have hgi : 0 ≤ runO l (i + 1) := runO_mono (by omega : 0 ≤ runO l l.length) (l.length - (i + 1)) (i + 1) (by omega)
      obtain ⟨r1, r2, r3, r4⟩ := runO_back hgi
      obtain ⟨a0, a1, a2⟩ := ar_range (q := l.getD i (0, 0))
      have hlen := tks_len i r1
      have hbd := tks_bound (l := l) i r1
      have r5 := runO_le l i
      have nget := ndL_get l i hi
      have ha := hag l[i]
      have hs := hsm l[i]
      have hgd := getD_nd hi
      have hwn := wrap_next hi (by omega : l.length ≤ 9000000000000000000)
      rcases ar_cases (l.getD i (0, 0)) with e | e | e | e
      · -- a field or a number
        have a0 := a0 e
        rw [tks_0 e] at hx
        rw [hgd] at a0 e hx
        rw [argI_eq (by omega), e] at ha
        rw [List.reverse_cons] at hx
        obtain ⟨R, hR⟩ : ∃ R, (tks l i).reverse = R := ⟨_, rfl⟩
        rw [hR] at hx hc
        have hRl : R.length ≤ 15 := by rw [← hR, List.length_reverse]; omega
        obtain ⟨u, hu⟩ : ∃ u, smB l[i] = u := ⟨_, rfl⟩
        obtain ⟨q, hq⟩ : ∃ q, l[i] = q := ⟨_, rfl⟩
        rw [hu] at hs hx
        rw [hq] at nget ha hs a0 hx
        obtain ⟨c1, c2⟩ := q
        simp only [] at a0
        simp [ndE] at ha hs
        have hq0 : IntKind.i64.wrap (R.length : Int) = (R.length : Int) := wrap_small (by omega) (by omega)
        have n1 : (R.length + 1) * 16 ≤ 140737488355328 := by omega
        have n2 : R.length + 1 ≤ 9223372036854775807 := by omega
        have n3 : R.length + 1 ≤ 140737488355328 := by omega
        have htA : (strs (R.map (·.1))).take R.length = strs (R.map (·.1)) := List.take_of_length_le (by rw [strs_length, List.length_map]; exact Nat.le_refl _)
        have htB : (bls (R.map (·.2))).take R.length = bls (R.map (·.2)) := List.take_of_length_le (by rw [bls_length, List.length_map]; exact Nat.le_refl _)
        have hlA : (strs (R.map (·.1))).length = R.length := by rw [strs_length, List.length_map]
        have hlB : (bls (R.map (·.2))).length = R.length := by rw [bls_length, List.length_map]
        rcases a0 with ⟨rfl, ra, rb⟩ | ⟨rfl, ra, rb⟩
        · obtain ⟨n, rfl⟩ : ∃ n : Nat, c2 = n := ⟨c2.toNat, by omega⟩
          have hn3 : n < 4 := by omega
          have hw : IntKind.i64.wrap ((n : Int) + 1) = (n : Int) + 1 := wrap_small (by omega) (by omega)
          have bsz : (⟨#[97, 98, 99, 100]⟩ : ByteArray).size = 4 := rfl
          have f1 : (n : Int) + 1 ≤ 4 := by omega
          have f2 : (0 : Int) ≤ (n : Int) + 1 := by omega
          have f3 : (n : Int) ≤ (n : Int) + 1 := by omega
          have hex : (⟨#[97, 98, 99, 100]⟩ : ByteArray).extract n (n + 1) = bs [UInt8.ofNat (97 + n)] := by
            have : n = 0 ∨ n = 1 ∨ n = 2 ∨ n = 3 := by omega
            rcases this with rfl | rfl | rfl | rfl <;> rfl
          simp at hex
          rcases hc with ⟨hn, hv, hv2⟩ | ⟨hn, tk, tk', hv, hH, hv2, hH2⟩
          · subst hn
            simp at hq0
            simp [L13_0, R13_0, R13_1, R13_2, R13_3, R13_4, R13_5, R13_6, R13_7, R13_8, R13_9, R13_10, R13_11, R13_12, R13_13, R13_14, R13_15, R13_16, R13_17, R13_18, R13_19, R13_20, R13_21, R13_22, R13_23, R13_24, R13_25, R13_26, R13_27, R13_28, R13_29, R13_30, R13_31, Tryd.f13, lpL13_0, lpM13_0, M13_0, q13, q14, q15, hv, hv2, hi, nget, ndL_at, hq, ndE, ha, hs, hwn, hq0, hw, bsz, f1, f2, f3, hex, maxLen]
            refine hx _ ⟨by simp [q13], by simp [q14], by simp, .inr ⟨by simp, st.tick + 1 + 1 + 1 + 1 + 1 + 1 + 1 + 1, st.tick + 1 + 1 + 1 + 1 + 1 + 1 + 1 + 1, ?_, ?_, ?_, ?_⟩⟩
            all_goals simp [strsO, blsO, strs, bls, atT]
          · simp [strsO] at hH
            simp [blsO] at hH2
            simp [L13_0, R13_0, R13_1, R13_2, R13_3, R13_4, R13_5, R13_6, R13_7, R13_8, R13_9, R13_10, R13_11, R13_12, R13_13, R13_14, R13_15, R13_16, R13_17, R13_18, R13_19, R13_20, R13_21, R13_22, R13_23, R13_24, R13_25, R13_26, R13_27, R13_28, R13_29, R13_30, R13_31, Tryd.f13, lpL13_0, lpM13_0, M13_0, q13, q14, q15, hv, hv2, hi, nget, ndL_at, hq, ndE, ha, hs, hwn, hq0, hw, bsz, f1, f2, f3, hex, hH, hH2, htA, htB, hlA, hlB, strs_snoc, bls_snoc, okS, okBl, n1, n2, n3, maxLen]
            refine hx _ ⟨by simp [q13], by simp [q14], by simp, .inr ⟨by simp, st.tick + 1 + 1 + 1 + 1 + 1 + 1 + 1 + 1, st.tick + 1 + 1 + 1 + 1 + 1 + 1 + 1 + 1, ?_, ?_, ?_, ?_⟩⟩
            all_goals simp [strsO, blsO, atT]
        · have hd := c_Itoa k c2 (by omega) (by omega) (by omega)
          rw [itoa_nn ra] at hd
          rcases hc with ⟨hn, hv, hv2⟩ | ⟨hn, tk, tk', hv, hH, hv2, hH2⟩
          · subst hn
            simp at hq0
            simp [L13_0, R13_0, R13_1, R13_2, R13_3, R13_4, R13_5, R13_6, R13_7, R13_8, R13_9, R13_10, R13_11, R13_12, R13_13, R13_14, R13_15, R13_16, R13_17, R13_18, R13_19, R13_20, R13_21, R13_22, R13_23, R13_24, R13_25, R13_26, R13_27, R13_28, R13_29, R13_30, R13_31, Tryd.f13, lpL13_0, lpM13_0, M13_0, q13, q14, q15, hv, hv2, hi, nget, ndL_at, hq, ndE, ha, hs, hwn, hq0, hd, maxLen]
            refine hx _ ⟨by simp [q13], by simp [q14], by simp, .inr ⟨by simp, st.tick + 1 + 1 + 1 + 1 + 1 + 1 + 1 + 1 + 1, st.tick + 1 + 1 + 1 + 1 + 1 + 1 + 1 + 1 + 1, ?_, ?_, ?_, ?_⟩⟩
            all_goals simp [strsO, blsO, strs, bls, atT]
          · simp [strsO] at hH
            simp [blsO] at hH2
            simp [L13_0, R13_0, R13_1, R13_2, R13_3, R13_4, R13_5, R13_6, R13_7, R13_8, R13_9, R13_10, R13_11, R13_12, R13_13, R13_14, R13_15, R13_16, R13_17, R13_18, R13_19, R13_20, R13_21, R13_22, R13_23, R13_24, R13_25, R13_26, R13_27, R13_28, R13_29, R13_30, R13_31, Tryd.f13, lpL13_0, lpM13_0, M13_0, q13, q14, q15, hv, hv2, hi, nget, ndL_at, hq, ndE, ha, hs, hwn, hq0, hd, hH, hH2, htA, htB, hlA, hlB, strs_snoc, bls_snoc, okS, okBl, n1, n2, n3, maxLen]
            refine hx _ ⟨by simp [q13], by simp [q14], by simp, .inr ⟨by simp, st.tick + 1 + 1 + 1 + 1 + 1 + 1 + 1 + 1 + 1, st.tick + 1 + 1 + 1 + 1 + 1 + 1 + 1 + 1 + 1, ?_, ?_, ?_, ?_⟩⟩
            all_goals simp [strsO, blsO, atT]
      · -- above
        have a1 := a1 e
        cases hk2 : tks l i with
        | nil => rw [hk2] at hlen; simp only [List.length_nil] at hlen; omega
        | cons x s2 =>
          obtain ⟨t, c⟩ := x
          rw [tks_1 e hk2] at hx
          rw [hk2] at hlen hbd hc
          simp only [lenT, List.map_cons, List.sum_cons] at hbd
          rw [hgd] at a1 e hx
          rw [argI_eq (by omega), e] at ha
          rw [List.reverse_cons] at hx hc
          obtain ⟨u, hu⟩ : ∃ u, smB l[i] = u := ⟨_, rfl⟩
          obtain ⟨q, hq⟩ : ∃ q, l[i] = q := ⟨_, rfl⟩
          rw [hu] at hs hx
          rw [hq] at nget ha hs a1 hx
          obtain ⟨c1, c2⟩ := q
          simp only [] at a1
          obtain ⟨rfl, ra, rb⟩ := a1
          simp [ndE] at ha hs
          obtain ⟨P, hP⟩ : ∃ P, s2.reverse = P := ⟨_, rfl⟩
          rw [hP] at hx hc
          have hPl : P.length ≤ 15 := by
            rw [← hP, List.length_reverse]; simp only [List.length_cons] at hlen; omega
          rcases hc with ⟨hn, _⟩ | ⟨hn, tk, tk', hv, hH, hv2, hH2⟩
          · simp at hn
          · have hd := c_Itoa k c2 (by omega) (by omega) (by omega)
            rw [itoa_nn ra] at hd
            have hdl := dig_short ra rb
            obtain ⟨PA, hPA⟩ : ∃ PA, P.map (·.1) = PA := ⟨_, rfl⟩
            obtain ⟨PB, hPB⟩ : ∃ PB, P.map (·.2) = PB := ⟨_, rfl⟩
            obtain ⟨n, hnn⟩ : ∃ n, P.length = n := ⟨_, rfl⟩
            have hla : PA.length = n := by rw [← hPA, List.length_map, hnn]
            have hlb : PB.length = n := by rw [← hPB, List.length_map, hnn]
            rw [List.map_append, hPA] at hH
            rw [List.map_append, hPB] at hH2
            simp only [List.map_cons, List.map_nil] at hH hH2
            rw [List.length_append, hnn] at hv hv2
            simp only [List.length_cons, List.length_nil] at hv hv2
            have hlA : (strs (PA ++ [t])).length = n + 1 := by rw [strs_length, List.length_append, hla]; rfl
            have hlB : (bls (PB ++ [c])).length = n + 1 := by rw [bls_length, List.length_append, hlb]; rfl
            have htA : (strs (PA ++ [t])).take n = strs PA := by rw [strs_take, ← hla, List.take_left]
            have htB : (bls (PB ++ [c])).take n = bls PB := by rw [bls_take, ← hlb, List.take_left]
            have gA : (strs (PA ++ [t]))[n]? = some [.c (.string (bs t))] := by rw [← hla]; simp [strs]
            obtain ⟨A, hA⟩ : ∃ A, PA ++ [t] = A := ⟨_, rfl⟩
            obtain ⟨B, hB⟩ : ∃ B, PB ++ [c] = B := ⟨_, rfl⟩
            rw [hA] at hH hlA htA gA
            rw [hB] at hH2 hlB htB
            have wq : IntKind.i64.wrap (n : Int) = (n : Int) := wrap_small (by omega) (by omega)
            have n1 : (n + 1) * 16 ≤ 140737488355328 := by omega
            have n2 : n + 1 ≤ 9223372036854775807 := by omega
            have n3 : n + 1 ≤ 140737488355328 := by omega
            have z1 : 6 + t.length ≤ 9223372036854775807 := by omega
            have z2 : t.length + 6 + 1 ≤ 9223372036854775807 := by omega
            have z2b : t.length + 7 ≤ 9223372036854775807 := by omega
            have z3 : t.length + 1 + 1 + 1 + 1 + 1 + 1 + 1 + (Lib.decDigits c2.toNat).length ≤ 9223372036854775807 := by omega
            have z4 : t.length + ((Lib.decDigits c2.toNat).length + 1) + 1 + 1 + 1 + 1 + 1 + 1 + 1 ≤ 9223372036854775807 := by omega
            have z4b : t.length + ((Lib.decDigits c2.toNat).length + 1) + 7 ≤ 9223372036854775807 := by omega
            have n4 : (n : Int) ≤ (n : Int) + 1 := by omega
            have gA2 : ∀ h : n < (strs A).length, (strs A)[n]'h = [.c (.string (bs t))] := fun h => by
              rw [List.getElem?_eq_getElem h] at gA
              exact Option.some.inj gA
            have sa : P ++ [(abT (7, c2) t, u)] ≠ [] := by simp
            simp [strsO] at hH
            simp [blsO] at hH2
            simp [L13_0, R13_0, R13_1, R13_2, R13_3, R13_4, R13_5, R13_6, R13_7, R13_8, R13_9, R13_10, R13_11, R13_12, R13_13, R13_14, R13_15, R13_16, R13_17, R13_18, R13_19, R13_20, R13_21, R13_22, R13_23, R13_24, R13_25, R13_26, R13_27, R13_28, R13_29, R13_30, R13_31, Tryd.f13, lpL13_0, lpM13_0, M13_0, q13, q14, q15, hv, hv2, hi, nget, ndL_at, hq, ndE, ha, hs, hwn, wq, hH, hH2, hlA, hlB, htA, htB, strs_snoc, bls_snoc, okS, okBl, n1, n2, n3, maxLen, n4, gA, gA2, hd, litA, lit1, bs_append, bs_size, z1, z2, z2b, z3, z4, z4b]
            refine hx _ ⟨by simp [q13], by simp [q14], by simp, .inr ⟨sa, st.tick + 1 + 1 + 1 + 1 + 1 + 1 + 1 + 1 + 1 + 1 + 1 + 1 + 1 + 1, st.tick + 1 + 1 + 1 + 1 + 1 + 1 + 1 + 1 + 1 + 1 + 1 + 1 + 1 + 1, ?_, ?_, ?_, ?_⟩⟩
            all_goals simp [strsO, blsO, abT, hnn, hPA, hPB]
      · -- two arguments
        have a2 := a2 e
        cases hk2 : tks l i with
        | nil => rw [hk2] at hlen; simp only [List.length_nil] at hlen; omega
        | cons x0 s1 =>
          cases s1 with
          | nil => rw [hk2] at hlen; simp only [List.length_cons, List.length_nil] at hlen; omega
          | cons x1 s2 =>
            obtain ⟨y, bq⟩ := x0
            obtain ⟨x, c⟩ := x1
            rw [tks_2 e hk2] at hx
            rw [hk2] at hlen hbd hc
            simp only [lenT, List.map_cons, List.sum_cons] at hbd
            rw [hgd] at a2 e hx
            rw [argI_eq (by omega), e] at ha
            rw [List.reverse_cons] at hx hc
            rw [List.reverse_cons] at hc
            obtain ⟨u, hu⟩ : ∃ u, smB l[i] = u := ⟨_, rfl⟩
            obtain ⟨q, hq⟩ : ∃ q, l[i] = q := ⟨_, rfl⟩
            rw [hu] at hs hx
            rw [hq] at nget ha hs a2 hx
            obtain ⟨c1, c2⟩ := q
            simp only [] at a2
            obtain ⟨ra, rb, rfl⟩ := a2
            simp [ndE] at ha hs
            obtain ⟨P, hP⟩ : ∃ P, s2.reverse = P := ⟨_, rfl⟩
            rw [hP] at hx hc
            have hPl : P.length ≤ 15 := by
              rw [← hP, List.length_reverse]; simp only [List.length_cons] at hlen; omega
            rcases hc with ⟨hn, _⟩ | ⟨hn, tk, tk', hv, hH, hv2, hH2⟩
            · simp at hn
            · obtain ⟨PA, hPA⟩ : ∃ PA, P.map (·.1) = PA := ⟨_, rfl⟩
              obtain ⟨PB, hPB⟩ : ∃ PB, P.map (·.2) = PB := ⟨_, rfl⟩
              obtain ⟨n, hnn⟩ : ∃ n, P.length = n := ⟨_, rfl⟩
              have hla : PA.length = n := by rw [← hPA, List.length_map, hnn]
              have hlb : PB.length = n := by rw [← hPB, List.length_map, hnn]
              have hlR : (P ++ [(x, c)] ++ [(y, bq)]).length = n + 2 := by simp [hnn]
              rw [hlR] at hv hv2
              have hmA : (P ++ [(x, c)] ++ [(y, bq)]).map (·.1) = PA ++ [x, y] := by rw [← hPA]; simp
              have hmB : (P ++ [(x, c)] ++ [(y, bq)]).map (·.2) = PB ++ [c, bq] := by rw [← hPB]; simp
              rw [hmA] at hH
              rw [hmB] at hH2
              have hlA : (strs (PA ++ [x, y])).length = n + 2 := by rw [strs_length, List.length_append, hla]; rfl
              have hlB : (bls (PB ++ [c, bq])).length = n + 2 := by rw [bls_length, List.length_append, hlb]; rfl
              have htA : (strs (PA ++ [x, y])).take n = strs PA := by rw [strs_take, ← hla, List.take_left]
              have htB : (bls (PB ++ [c, bq])).take n = bls PB := by rw [bls_take, ← hlb, List.take_left]
              have gA : (strs (PA ++ [x, y]))[n]? = some [.c (.string (bs x))] := by rw [← hla]; simp [strs]
              have gC : (strs (PA ++ [x, y]))[n + 1]? = some [.c (.string (bs y))] := by rw [← hla]; simp [strs]
              have gB : (bls (PB ++ [c, bq]))[n + 1]? = some [.c (.bool bq)] := by rw [← hlb]; simp [bls]
              obtain ⟨A, hA⟩ : ∃ A, PA ++ [x, y] = A := ⟨_, rfl⟩
              obtain ⟨B, hB⟩ : ∃ B, PB ++ [c, bq] = B := ⟨_, rfl⟩
              rw [hA] at hH hlA htA gA gC
              rw [hB] at hH2 hlB htB gB
              have gA2 : ∀ h : n < (strs A).length, (strs A)[n]'h = [.c (.string (bs x))] := fun h => by
                rw [List.getElem?_eq_getElem h] at gA
                exact Option.some.inj gA
              have gC2 : ∀ h : n + 1 < (strs A).length, (strs A)[n + 1]'h = [.c (.string (bs y))] := fun h => by
                rw [List.getElem?_eq_getElem h] at gC
                exact Option.some.inj gC
              have gB2 : ∀ h : n + 1 < (bls B).length, (bls B)[n + 1]'h = [.c (.bool bq)] := fun h => by
                rw [List.getElem?_eq_getElem h] at gB
                exact Option.some.inj gB
              have wq : IntKind.i64.wrap (n : Int) = (n : Int) := wrap_small (by omega) (by omega)
              have n1 : (n + 1) * 16 ≤ 140737488355328 := by omega
              have n2 : n + 1 ≤ 9223372036854775807 := by omega
              have n3 : n + 1 ≤ 140737488355328 := by omega
              have n4 : (n : Int) ≤ (n : Int) + 2 := by omega
              have sa : ∀ z, P ++ [(z, u)] ≠ [] := by simp
              have zA : 4 + x.length ≤ 9223372036854775807 := by omega
              have zB : x.length + 4 + 1 ≤ 9223372036854775807 := by omega
              have zB2 : x.length + 5 ≤ 9223372036854775807 := by omega
              have zB3 : x.length + 1 + 1 + 1 + 1 + 1 ≤ 9223372036854775807 := by omega
              have zC : x.length + 1 + 1 + 1 + 1 + 1 + y.length ≤ 9223372036854775807 := by omega
              have zD : x.length + (y.length + 1) + 1 + 1 + 1 + 1 + 1 ≤ 9223372036854775807 := by omega
              have zD2 : x.length + (y.length + 1) + 5 ≤ 9223372036854775807 := by omega
              have zE : x.length + 1 ≤ 9223372036854775807 := by omega
              have zF : x.length + 1 + y.length ≤ 9223372036854775807 := by omega
              have zG : 1 + y.length ≤ 9223372036854775807 := by omega
              have zH : y.length + 1 + 1 ≤ 9223372036854775807 := by omega
              have zH2 : y.length + 2 ≤ 9223372036854775807 := by omega
              have zI : x.length + 1 + (y.length + 1 + 1) ≤ 9223372036854775807 := by omega
              have zI2 : x.length + 1 + (y.length + 2) ≤ 9223372036854775807 := by omega
              simp [strsO] at hH
              simp [blsO] at hH2
              have hcase : c1 = 3 ∨ c1 = 4 ∨ c1 = 5 ∨ c1 = 6 := by omega
              rcases hcase with rfl | rfl | rfl | rfl
              · cases bq
                · skip
                  simp [L13_0, R13_0, R13_1, R13_2, R13_3, R13_4, R13_5, R13_6, R13_7, R13_8, R13_9, R13_10, R13_11, R13_12, R13_13, R13_14, R13_15, R13_16, R13_17, R13_18, R13_19, R13_20, R13_21, R13_22, R13_23, R13_24, R13_25, R13_26, R13_27, R13_28, R13_29, R13_30, R13_31, Tryd.f13, lpL13_0, lpM13_0, M13_0, q13, q14, q15, hv, hv2, hi, nget, ndL_at, hq, ndE, ha, hs, hwn, wq, hH, hH2, hlA, hlB, htA, htB, strs_snoc, bls_snoc, okS, okBl, n1, n2, n3, maxLen, n4, gA, gA2, gC, gC2, gB, gB2, lit1, bs_append, bs_size, zE, zF]
                  refine hx _ ⟨by simp [q13], by simp [q14], by simp, .inr ⟨sa _, st.tick + 1 + 1 + 1 + 1 + 1 + 1 + 1 + 1 + 1 + 1 + 1 + 1 + 1 + 1, st.tick + 1 + 1 + 1 + 1 + 1 + 1 + 1 + 1 + 1 + 1 + 1 + 1 + 1 + 1, ?_, ?_, ?_, ?_⟩⟩
                  all_goals simp [strsO, blsO, biT, hnn, hPA, hPB]
                · skip
                  simp [L13_0, R13_0, R13_1, R13_2, R13_3, R13_4, R13_5, R13_6, R13_7, R13_8, R13_9, R13_10, R13_11, R13_12, R13_13, R13_14, R13_15, R13_16, R13_17, R13_18, R13_19, R13_20, R13_21, R13_22, R13_23, R13_24, R13_25, R13_26, R13_27, R13_28, R13_29, R13_30, R13_31, Tryd.f13, lpL13_0, lpM13_0, M13_0, q13, q14, q15, hv, hv2, hi, nget, ndL_at, hq, ndE, ha, hs, hwn, wq, hH, hH2, hlA, hlB, htA, htB, strs_snoc, bls_snoc, okS, okBl, n1, n2, n3, maxLen, n4, gA, gA2, gC, gC2, gB, gB2, lit1, bs_append, bs_size, zE, zF, zG, zH, zH2, zI, zI2]
                  refine hx _ ⟨by simp [q13], by simp [q14], by simp, .inr ⟨sa _, st.tick + 1 + 1 + 1 + 1 + 1 + 1 + 1 + 1 + 1 + 1 + 1 + 1 + 1 + 1 + 1, st.tick + 1 + 1 + 1 + 1 + 1 + 1 + 1 + 1 + 1 + 1 + 1 + 1 + 1 + 1 + 1, ?_, ?_, ?_, ?_⟩⟩
                  all_goals simp [strsO, blsO, biT, hnn, hPA, hPB]
              · cases bq
                · skip
                  simp [L13_0, R13_0, R13_1, R13_2, R13_3, R13_4, R13_5, R13_6, R13_7, R13_8, R13_9, R13_10, R13_11, R13_12, R13_13, R13_14, R13_15, R13_16, R13_17, R13_18, R13_19, R13_20, R13_21, R13_22, R13_23, R13_24, R13_25, R13_26, R13_27, R13_28, R13_29, R13_30, R13_31, Tryd.f13, lpL13_0, lpM13_0, M13_0, q13, q14, q15, hv, hv2, hi, nget, ndL_at, hq, ndE, ha, hs, hwn, wq, hH, hH2, hlA, hlB, htA, htB, strs_snoc, bls_snoc, okS, okBl, n1, n2, n3, maxLen, n4, gA, gA2, gC, gC2, gB, gB2, lit1, bs_append, bs_size, zE, zF]
                  refine hx _ ⟨by simp [q13], by simp [q14], by simp, .inr ⟨sa _, st.tick + 1 + 1 + 1 + 1 + 1 + 1 + 1 + 1 + 1 + 1 + 1 + 1 + 1 + 1 + 1 + 1, st.tick + 1 + 1 + 1 + 1 + 1 + 1 + 1 + 1 + 1 + 1 + 1 + 1 + 1 + 1 + 1 + 1, ?_, ?_, ?_, ?_⟩⟩
                  all_goals simp [strsO, blsO, biT, hnn, hPA, hPB]
                · skip
                  simp [L13_0, R13_0, R13_1, R13_2, R13_3, R13_4, R13_5, R13_6, R13_7, R13_8, R13_9, R13_10, R13_11, R13_12, R13_13, R13_14, R13_15, R13_16, R13_17, R13_18, R13_19, R13_20, R13_21, R13_22, R13_23, R13_24, R13_25, R13_26, R13_27, R13_28, R13_29, R13_30, R13_31, Tryd.f13, lpL13_0, lpM13_0, M13_0, q13, q14, q15, hv, hv2, hi, nget, ndL_at, hq, ndE, ha, hs, hwn, wq, hH, hH2, hlA, hlB, htA, htB, strs_snoc, bls_snoc, okS, okBl, n1, n2, n3, maxLen, n4, gA, gA2, gC, gC2, gB, gB2, lit1, bs_append, bs_size, zE, zF, zG, zH, zH2, zI, zI2]
                  refine hx _ ⟨by simp [q13], by simp [q14], by simp, .inr ⟨sa _, st.tick + 1 + 1 + 1 + 1 + 1 + 1 + 1 + 1 + 1 + 1 + 1 + 1 + 1 + 1 + 1 + 1 + 1, st.tick + 1 + 1 + 1 + 1 + 1 + 1 + 1 + 1 + 1 + 1 + 1 + 1 + 1 + 1 + 1 + 1 + 1, ?_, ?_, ?_, ?_⟩⟩
                  all_goals simp [strsO, blsO, biT, hnn, hPA, hPB]
              · skip
                simp [L13_0, R13_0, R13_1, R13_2, R13_3, R13_4, R13_5, R13_6, R13_7, R13_8, R13_9, R13_10, R13_11, R13_12, R13_13, R13_14, R13_15, R13_16, R13_17, R13_18, R13_19, R13_20, R13_21, R13_22, R13_23, R13_24, R13_25, R13_26, R13_27, R13_28, R13_29, R13_30, R13_31, Tryd.f13, lpL13_0, lpM13_0, M13_0, q13, q14, q15, hv, hv2, hi, nget, ndL_at, hq, ndE, ha, hs, hwn, wq, hH, hH2, hlA, hlB, htA, htB, strs_snoc, bls_snoc, okS, okBl, n1, n2, n3, maxLen, n4, gA, gA2, gC, gC2, gB, gB2, lit1, bs_append, bs_size, litM, zA, zB, zB2, zB3, zC, zD, zD2]
                refine hx _ ⟨by simp [q13], by simp [q14], by simp, .inr ⟨sa _, st.tick + 1 + 1 + 1 + 1 + 1 + 1 + 1 + 1 + 1 + 1 + 1 + 1, st.tick + 1 + 1 + 1 + 1 + 1 + 1 + 1 + 1 + 1 + 1 + 1 + 1, ?_, ?_, ?_, ?_⟩⟩
                all_goals simp [strsO, blsO, biT, hnn, hPA, hPB]
              · skip
                simp [L13_0, R13_0, R13_1, R13_2, R13_3, R13_4, R13_5, R13_6, R13_7, R13_8, R13_9, R13_10, R13_11, R13_12, R13_13, R13_14, R13_15, R13_16, R13_17, R13_18, R13_19, R13_20, R13_21, R13_22, R13_23, R13_24, R13_25, R13_26, R13_27, R13_28, R13_29, R13_30, R13_31, Tryd.f13, lpL13_0, lpM13_0, M13_0, q13, q14, q15, hv, hv2, hi, nget, ndL_at, hq, ndE, ha, hs, hwn, wq, hH, hH2, hlA, hlB, htA, htB, strs_snoc, bls_snoc, okS, okBl, n1, n2, n3, maxLen, n4, gA, gA2, gC, gC2, gB, gB2, lit1, bs_append, bs_size, litX, zA, zB, zB2, zB3, zC, zD, zD2]
                refine hx _ ⟨by simp [q13], by simp [q14], by simp, .inr ⟨sa _, st.tick + 1 + 1 + 1 + 1 + 1 + 1 + 1 + 1 + 1 + 1 + 1 + 1 + 1, st.tick + 1 + 1 + 1 + 1 + 1 + 1 + 1 + 1 + 1 + 1 + 1 + 1 + 1, ?_, ?_, ?_, ?_⟩⟩
                all_goals simp [strsO, blsO, biT, hnn, hPA, hPB]
      · omega)
    (by
      rintro st next ⟨q13, q14, q15, hc⟩
      simp [L13_0, R13_0, R13_1, R13_2, R13_3, R13_4, R13_5, R13_6, R13_7, R13_8, R13_9, R13_10, R13_11, R13_12, R13_13, R13_14, R13_15, R13_16, R13_17, R13_18, R13_19, R13_20, R13_21, R13_22, R13_23, R13_24, R13_25, R13_26, R13_27, R13_28, R13_29, R13_30, R13_31, Tryd.f13, lpL13_0, lpM13_0, M13_0, q13, q14, q15, ndL_length]
      rcases hc with ⟨hn, hv, hv2⟩ | ⟨hn, tk, tk', hv, hH, hv2, hH2⟩
      · exact .inl ⟨hn, by simp [hv], by simp [hv2]⟩
      · exact .inr ⟨hn, tk, tk', by simp [hv], by simp [hv, hv2, hH], by simp [hv2], by simp [hv, hv2, hH2]⟩)
  simp [R13_0, R13_1, R13_2, R13_3, R13_4, R13_5, R13_6, R13_7, R13_8, R13_9, R13_10, R13_11, R13_12, R13_13, R13_14, R13_15, R13_16, R13_17, R13_18, R13_19, R13_20, R13_21, R13_22, R13_23, R13_24, R13_25, R13_26, R13_27, R13_28, R13_29, R13_30, R13_31, Tryd.f13, lpL13_0, lpM13_0]
  generalize hrr : loopRun _ _ _ _ = res
  obtain ⟨s1, rfl, fc⟩ := loop_at hL hrr ⟨by simp, by simp [ndL_length], by simp, .inl ⟨by simp [tks], by simp, by simp⟩⟩
  have hlen := tks_len l.length (by omega : 0 ≤ runO l l.length)
  rw [hr] at hlen
  cases hk2 : tks l l.length with
  | nil => rw [hk2] at hlen; simp only [List.length_nil] at hlen; omega
  | cons x s2 =>
    obtain ⟨t, c⟩ := x
    rw [hk2] at hlen fc
    simp only [List.length_cons] at hlen
    obtain rfl : s2 = [] := List.length_eq_zero_iff.1 (by omega)
    rcases fc with ⟨hn, _⟩ | ⟨hn, tk, tk', hv, hH, hv2, hH2⟩
    · simp at hn
    · simp [strsO, strs] at hH hv
      simp [R13_0, R13_1, R13_2, R13_3, R13_4, R13_5, R13_6, R13_7, R13_8, R13_9, R13_10, R13_11, R13_12, R13_13, R13_14, R13_15, R13_16, R13_17, R13_18, R13_19, R13_20, R13_21, R13_22, R13_23, R13_24, R13_25, R13_26, R13_27, R13_28, R13_29, R13_30, R13_31, Tryd.f13, lpL13_0, lpM13_0, M13_0, hv, hH]
theorem c_implFormat (k : Nat) (b : Bool) (l : List (Int × Int)) (hk : 500 ≤ k) : callK C k 7 [.sq b true 2 (ndL l)] [] = some (.tp [.c (.string (bs (if goodE l = true then ((tks l l.length).headD ([], false)).1 else []))), .c (.bool (goodE l))], hpOf [] []) := by
  obtain ⟨k, rfl⟩ : ∃ m, k = m + 1 := ⟨k - 1, by omega⟩
  rw [callK_fn rfl F7 code7]
  have gd := c_IsExpression k b l (by omega)
  cases hg : goodE l
  · rw [hg] at gd
    simp [R7_0, R7_1, R7_2, R7_3, Tryd.f7, gd, lit0]
  · rw [hg] at gd
    have h := c_exprText k b l hg (by omega)
    obtain ⟨T, hT⟩ : ∃ T, ((tks l l.length).headD ([], false)).1 = T := ⟨_, rfl⟩
    rw [hT] at h ⊢
    simp [R7_0, R7_1, R7_2, R7_3, Tryd.f7, gd, h]
theorem c_specFormat (k : Nat) (b : Bool) (l : List (Int × Int)) (hk : 500 ≤ k) : callK C k 5 [.sq b true 2 (ndL l)] [] = some (.tp [.c (.string (bs (if goodE l = true then ((tks l l.length).headD ([], false)).1 else []))), .c (.bool (goodE l))], hpOf [] []) := by
  obtain ⟨k, rfl⟩ : ∃ m, k = m + 1 := ⟨k - 1, by omega⟩
  rw [callK_fn rfl F5 code5]
  have gd := c_l5Good k b l (by omega)
  cases hg : goodE l
  · rw [hg] at gd
    simp [R5_0, R5_1, R5_2, R5_3, Tryd.f5, gd, lit0]
  · rw [hg] at gd
    obtain ⟨h15, hr⟩ := good_run hg
    have hlen := tks_len l.length (by omega : 0 ≤ runO l l.length)
    obtain ⟨n, hn⟩ : ∃ n, l.length = n + 1 := by
      cases hl : l.length with
      | zero => rw [hl] at hr; simp [runO] at hr
      | succ n => exact ⟨n, rfl⟩
    cases hk2 : tks l l.length with
    | nil => rw [hk2, hr] at hlen; simp only [List.length_nil] at hlen; omega
    | cons x s2 =>
      obtain ⟨t, c⟩ := x
      have h := c_l5Text b l h15 n (by omega) (by rw [← hn]; omega) k (by omega) t c s2 (by rw [← hn]; exact hk2)
      have w1 : IntKind.i64.wrap ((l.length : Int) - 1) = (n : Int) := by rw [wrap_small (by omega) (by omega)]; omega
      simp [R5_0, R5_1, R5_2, R5_3, Tryd.f5, gd, h, ndL_length, w1]
theorem law_Format (k : Nat) (b : Bool) (l : List (Int × Int)) (hl : l.length ≤ 9223372036854775807) (hk : l.length + 3000 ≤ k) : callK C k 3 [.sq b true 2 (ndL l)] [] = some (.c (.bool true), hpOf [] []) := by
  obtain ⟨k, rfl⟩ : ∃ m, k = m + 1 := ⟨k - 1, by omega⟩
  rw [callK_fn rfl F3 code3]
  have z := c_szNodeS k b l 1048576 (by omega) (by omega) (by omega)
  by_cases h : (1048576 : Int) - (l.length : Int) < 0
  · rw [if_pos h] at z
    simp [R3_0, R3_1, R3_2, R3_3, R3_4, R3_5, R3_6, R3_7, R3_8, R3_9, R3_10, R3_11, R3_12, Tryd.f3, z]
  · rw [if_neg h] at z
    have t := c_toNodeS k b l (by omega) (by omega)
    have e := c_eqNodeS k true true l l (by omega) (by omega)
    have I := c_implFormat k true l (by omega)
    have S := c_specFormat k true l (by omega)
    obtain ⟨T, hT⟩ : ∃ T, (if goodE l = true then ((tks l l.length).headD ([], false)).1 else []) = T := ⟨_, rfl⟩
    rw [hT] at I S
    simp [ndO] at t
    cases hg : goodE l
    all_goals
      rw [hg] at I S
      simp [R3_0, R3_1, R3_2, R3_3, R3_4, R3_5, R3_6, R3_7, R3_8, R3_9, R3_10, R3_11, R3_12, Tryd.f3, undef, z, h, t, ndL_length, ndL_take, e, S, I, bs_neq, bs_toList]
theorem row_Format (l : List (Int × Int)) (w : l.length ≤ maxLen) : ∃ k, callK C k 3 [.sq false true 2 (ndL l)] [] = some (.c (.bool true), hpOf [] []) :=
  ⟨l.length + 3000, law_Format _ false l (by unfold maxLen at w; omega) (by omega)⟩

end Go.Proofs.YtgegdikmmlinfaaDoor.Eng
