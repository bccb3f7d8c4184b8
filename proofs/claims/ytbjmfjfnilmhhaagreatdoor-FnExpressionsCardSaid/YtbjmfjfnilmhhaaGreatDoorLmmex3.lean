/- A deterministic reading of Go code over plain data: what functions of the program compute, and what its laws come to. No conditions. -/
import Derived.Test.YtbjmfjfnilmhhaaGreatDoorEngT
import Derived.Lib.ItoaLen
import Derived.Lib.IndexLaws
import Derived.Test.YtbjmfjfnilmhhaaGreatDoorLmmex1
import Derived.Test.YtbjmfjfnilmhhaaGreatDoorLmmex2
namespace Go.Proofs.YtbjmfjfnilmhhaaGreatDoor.Eng
open Go Go.Proofs
set_option maxRecDepth 100000
set_option maxHeartbeats 2000000
set_option linter.unusedSimpArgs false
set_option linter.unusedVariables false
attribute [local simp] finK fin1 hpOf xi renQ isRoot runCode runOps stepX inlOf Eng.step wantedV astep val ofO made loadV storeV find V.cells bin binT binA numT numFs eqCells un1 setAt fieldAddrV fieldV indexAddrV indexV bounds sliceV convV lenV foldV max2V min2V callO bor rdsO wrsO seen_none okD_none loops keepIds resV resultsV St.ev TK.agg refs refsL refsO V.one V.isC Value.oneCell' ren renL renO noTag noTagL noTagR noTagO nodup mapO passV frs psi refsR newD loopNext opsAt idx flatAt rootOf backR newsV appendV copyV clearV strV bytesV bldV bufV selfV bytesOf nilCmp buildV fillF chunk freeL frzW cellSame sameV
attribute [local simp] cT cF cX cWR cOW cK cBL X ints_length ints_get ints_getElem ints_drop ints_take ints_append ints_nil ints_set
attribute [local simp] ints_replicate
attribute [local simp] putV_some putV_none putH_app applyD_nil applyD_cons seen_app gc_ρ gc_H gc_tick st0_ρ st0_H st0_tick retV callRo callV_if borL_nil borL_cons ints_snoc take_self callWr cutH_app findQ afterV exportV_0 exportV_n okD_nil okD_cons sub_seq0 sub_seq1 sub_cond0 sub_cond1 sub_block sub_loop sub_nil young_far young_none hidW_nil mayW_nil keepsF_nil keepsF_cons pairs okI ok_0 ok_1 ok_2
attribute [local simp] T3 T4 T5 T9 T22 T24 T33 T36 T38 T45 T48 T51 T52 T54 T56 T71 T72 T74 T77 T99 T104 T117 T121
attribute [local simp] young_near clo cloF Region.binds Nat.testBit hidW declW mayW List.findIdx?_cons
def bls (p : List Bool) : List (List V) := p.map fun x => [.c (.bool x)]
def blsO (p : List Bool) : Eng.Obj := ⟨4, 1, true, bls p⟩
theorem bls_snoc (p : List Bool) (x : Bool) : bls p ++ [[V.c (.bool x)]] = bls (p ++ [x]) := by simp [bls]
theorem bls_length (p : List Bool) : (bls p).length = p.length := by simp [bls]
theorem bls_take (p : List Bool) (n : Nat) : (bls p).take n = bls (p.take n) := by simp [bls]
theorem okBl (ty : TypeId) (p : List Bool) : okObj ⟨ty, 1, true, bls p⟩ = true := by simp [okObj, bls, V.one, V.isC, Value.oneCell']
theorem bls_one (x : Bool) : [[V.c (.bool x)]] = bls [x] := rfl
/-- The two stacks: nothing yet, or two objects. -/
def Ct (v w : V) (H : Hp) (R : List (List UInt8 × Bool)) : Prop := (R = [] ∧ v = .c (.slice none 0 0) ∧ w = .c (.slice none 0 0)) ∨ (R ≠ [] ∧ ∃ tk tk', v = .s 29800 tk 1 0 R.length ∧ H 29800 = some (tk, strsO (R.map (·.1))) ∧ w = .s 29912 tk' 1 0 R.length ∧ H 29912 = some (tk', blsO (R.map (·.2))))
theorem c_exprText (k : Nat) (b : Bool) (l : List (Int × Int)) (hg : goodE l = true) (hk : 400 ≤ k) : callK C k 19 [.sq b true 2 (ndL l)] [] = some (.c (.string (bs ((tks l l.length).headD ([], false)).1)), hpOf [] []) := by
  obtain ⟨k, rfl⟩ : ∃ m, k = m + 1 := ⟨k - 1, by omega⟩
  rw [callK_fn rfl F19 code19]
  have hag := fun q => c_arguments k q (by omega)
  have hsm := fun q => c_isSum k q (by omega)
  obtain ⟨h15, hr⟩ := good_run hg
  have hL := loopHas (body := fun st => runCode C (callK C (k + 0)) (k + 0) (K 19) L19_0 1 st) (keep := [3, 4, 13, 14, 15]) (.ex 0) (fun st => Ct (st.ρ 3) (st.ρ 4) st.H (tks l l.length).reverse)
    (fun i st => st.ρ 13 = .sq b true 2 (ndL l) ∧ st.ρ 14 = .c (.int .i64 (l.length : Int)) ∧ st.ρ 15 = .c (.int .i64 (i : Int)) ∧ Ct (st.ρ 3) (st.ρ 4) st.H (tks l i).reverse)
    l.length (k + 0) (by omega)
    (by
      rintro i st next hi ⟨q13, q14, q15, hc⟩ hx
      have hgi : 0 ≤ runO l (i + 1) := runO_mono (by omega : 0 ≤ runO l l.length) (l.length - (i + 1)) (i + 1) (by omega)
      obtain ⟨r1, r2, r3, r4⟩ := runO_back hgi
      obtain ⟨a0, a1, a2⟩ := ar_range (q := l.getD i (0, 0))
      have hlen := tks_len i r1
      have hbd := tks_bound (l := l) i r1
      have r5 := runO_le l i
      have nget := ndL_get l i hi
      have ha := hag l[i]
      have hs := hsm l[i]
      have hgd := getD_nd hi
      have hwn := wrap_next hi (by omega : l.length ≤ 9000000000000000000)
      rcases ar_cases (l.getD i (0, 0)) with e | e | e | e
      · -- a field or a number
        have a0 := a0 e
        rw [tks_0 e] at hx
        rw [hgd] at a0 e hx
        rw [argI_eq (by omega), e] at ha
        rw [List.reverse_cons] at hx
        obtain ⟨R, hR⟩ : ∃ R, (tks l i).reverse = R := ⟨_, rfl⟩
        rw [hR] at hx hc
        have hRl : R.length ≤ 15 := by rw [← hR, List.length_reverse]; omega
        obtain ⟨u, hu⟩ : ∃ u, smB l[i] = u := ⟨_, rfl⟩
        obtain ⟨q, hq⟩ : ∃ q, l[i] = q := ⟨_, rfl⟩
        rw [hu] at hs hx
        rw [hq] at nget ha hs a0 hx
        obtain ⟨c1, c2⟩ := q
        simp only [] at a0
        simp [ndE] at ha hs
        have hq0 : IntKind.i64.wrap (R.length : Int) = (R.length : Int) := wrap_small (by omega) (by omega)
        have n1 : (R.length + 1) * 16 ≤ 140737488355328 := by omega
        have n2 : R.length + 1 ≤ 9223372036854775807 := by omega
        have n3 : R.length + 1 ≤ 140737488355328 := by omega
        have htA : (strs (R.map (·.1))).take R.length = strs (R.map (·.1)) := List.take_of_length_le (by rw [strs_length, List.length_map]; exact Nat.le_refl _)
        have htB : (bls (R.map (·.2))).take R.length = bls (R.map (·.2)) := List.take_of_length_le (by rw [bls_length, List.length_map]; exact Nat.le_refl _)
        have hlA : (strs (R.map (·.1))).length = R.length := by rw [strs_length, List.length_map]
        have hlB : (bls (R.map (·.2))).length = R.length := by rw [bls_length, List.length_map]
        rcases a0 with ⟨rfl, ra, rb⟩ | ⟨rfl, ra, rb⟩
        · obtain ⟨n, rfl⟩ : ∃ n : Nat, c2 = n := ⟨c2.toNat, by omega⟩
          have hn3 : n < 4 := by omega
          have hw : IntKind.i64.wrap ((n : Int) + 1) = (n : Int) + 1 := wrap_small (by omega) (by omega)
          have bsz : (⟨#[97, 98, 99, 100]⟩ : ByteArray).size = 4 := rfl
          have f1 : (n : Int) + 1 ≤ 4 := by omega
          have f2 : (0 : Int) ≤ (n : Int) + 1 := by omega
          have f3 : (n : Int) ≤ (n : Int) + 1 := by omega
          have hex : (⟨#[97, 98, 99, 100]⟩ : ByteArray).extract n (n + 1) = bs [UInt8.ofNat (97 + n)] := by
            have : n = 0 ∨ n = 1 ∨ n = 2 ∨ n = 3 := by omega
            rcases this with rfl | rfl | rfl | rfl <;> rfl
          simp at hex
          rcases hc with ⟨hn, hv, hv2⟩ | ⟨hn, tk, tk', hv, hH, hv2, hH2⟩
          · subst hn
            simp at hq0
            simp [L19_0, R19_0, R19_1, R19_2, R19_3, R19_4, R19_5, R19_6, R19_7, R19_8, R19_9, R19_10, R19_11, R19_12, R19_13, R19_14, R19_15, R19_16, R19_17, R19_18, R19_19, R19_20, R19_21, R19_22, R19_23, R19_24, R19_25, R19_26, R19_27, R19_28, R19_29, R19_30, R19_31, Tryz.f19, lpL19_0, lpM19_0, M19_0, q13, q14, q15, hv, hv2, hi, nget, ndL_at, hq, ndE, ha, hs, hwn, hq0, hw, bsz, f1, f2, f3, hex, maxLen]
            refine hx _ ⟨by simp [q13], by simp [q14], by simp, .inr ⟨by simp, st.tick + 1 + 1 + 1 + 1 + 1 + 1 + 1 + 1, st.tick + 1 + 1 + 1 + 1 + 1 + 1 + 1 + 1, ?_, ?_, ?_, ?_⟩⟩
            all_goals simp [strsO, blsO, strs, bls, atT]
          · simp [strsO] at hH
            simp [blsO] at hH2
            simp [L19_0, R19_0, R19_1, R19_2, R19_3, R19_4, R19_5, R19_6, R19_7, R19_8, R19_9, R19_10, R19_11, R19_12, R19_13, R19_14, R19_15, R19_16, R19_17, R19_18, R19_19, R19_20, R19_21, R19_22, R19_23, R19_24, R19_25, R19_26, R19_27, R19_28, R19_29, R19_30, R19_31, Tryz.f19, lpL19_0, lpM19_0, M19_0, q13, q14, q15, hv, hv2, hi, nget, ndL_at, hq, ndE, ha, hs, hwn, hq0, hw, bsz, f1, f2, f3, hex, hH, hH2, htA, htB, hlA, hlB, strs_snoc, bls_snoc, okS, okBl, n1, n2, n3, maxLen]
            refine hx _ ⟨by simp [q13], by simp [q14], by simp, .inr ⟨by simp, st.tick + 1 + 1 + 1 + 1 + 1 + 1 + 1 + 1, st.tick + 1 + 1 + 1 + 1 + 1 + 1 + 1 + 1, ?_, ?_, ?_, ?_⟩⟩
            all_goals simp [strsO, blsO, atT]
        · have hd := c_Itoa k c2 (by omega) (by omega) (by omega)
          rw [itoa_nn ra] at hd
          rcases hc with ⟨hn, hv, hv2⟩ | ⟨hn, tk, tk', hv, hH, hv2, hH2⟩
          · subst hn
            simp at hq0
            simp [L19_0, R19_0, R19_1, R19_2, R19_3, R19_4, R19_5, R19_6, R19_7, R19_8, R19_9, R19_10, R19_11, R19_12, R19_13, R19_14, R19_15, R19_16, R19_17, R19_18, R19_19, R19_20, R19_21, R19_22, R19_23, R19_24, R19_25, R19_26, R19_27, R19_28, R19_29, R19_30, R19_31, Tryz.f19, lpL19_0, lpM19_0, M19_0, q13, q14, q15, hv, hv2, hi, nget, ndL_at, hq, ndE, ha, hs, hwn, hq0, hd, maxLen]
            refine hx _ ⟨by simp [q13], by simp [q14], by simp, .inr ⟨by simp, st.tick + 1 + 1 + 1 + 1 + 1 + 1 + 1 + 1 + 1, st.tick + 1 + 1 + 1 + 1 + 1 + 1 + 1 + 1 + 1, ?_, ?_, ?_, ?_⟩⟩
            all_goals simp [strsO, blsO, strs, bls, atT]
          · simp [strsO] at hH
            simp [blsO] at hH2
            simp [L19_0, R19_0, R19_1, R19_2, R19_3, R19_4, R19_5, R19_6, R19_7, R19_8, R19_9, R19_10, R19_11, R19_12, R19_13, R19_14, R19_15, R19_16, R19_17, R19_18, R19_19, R19_20, R19_21, R19_22, R19_23, R19_24, R19_25, R19_26, R19_27, R19_28, R19_29, R19_30, R19_31, Tryz.f19, lpL19_0, lpM19_0, M19_0, q13, q14, q15, hv, hv2, hi, nget, ndL_at, hq, ndE, ha, hs, hwn, hq0, hd, hH, hH2, htA, htB, hlA, hlB, strs_snoc, bls_snoc, okS, okBl, n1, n2, n3, maxLen]
            refine hx _ ⟨by simp [q13], by simp [q14], by simp, .inr ⟨by simp, st.tick + 1 + 1 + 1 + 1 + 1 + 1 + 1 + 1 + 1, st.tick + 1 + 1 + 1 + 1 + 1 + 1 + 1 + 1 + 1, ?_, ?_, ?_, ?_⟩⟩
            all_goals simp [strsO, blsO, atT]
      · -- above
        have a1 := a1 e
        cases hk2 : tks l i with
        | nil => rw [hk2] at hlen; simp only [List.length_nil] at hlen; omega
        | cons x s2 =>
          obtain ⟨t, c⟩ := x
          rw [tks_1 e hk2] at hx
          rw [hk2] at hlen hbd hc
          simp only [lenT, List.map_cons, List.sum_cons] at hbd
          rw [hgd] at a1 e hx
          rw [argI_eq (by omega), e] at ha
          rw [List.reverse_cons] at hx hc
          obtain ⟨u, hu⟩ : ∃ u, smB l[i] = u := ⟨_, rfl⟩
          obtain ⟨q, hq⟩ : ∃ q, l[i] = q := ⟨_, rfl⟩
          rw [hu] at hs hx
          rw [hq] at nget ha hs a1 hx
          obtain ⟨c1, c2⟩ := q
          simp only [] at a1
          obtain ⟨rfl, ra, rb⟩ := a1
          simp [ndE] at ha hs
          obtain ⟨P, hP⟩ : ∃ P, s2.reverse = P := ⟨_, rfl⟩
          rw [hP] at hx hc
          have hPl : P.length ≤ 15 := by
            rw [← hP, List.length_reverse]; simp only [List.length_cons] at hlen; omega
          rcases hc with ⟨hn, _⟩ | ⟨hn, tk, tk', hv, hH, hv2, hH2⟩
          · simp at hn
          · have hd := c_Itoa k c2 (by omega) (by omega) (by omega)
            rw [itoa_nn ra] at hd
            have hdl := dig_short ra rb
            obtain ⟨PA, hPA⟩ : ∃ PA, P.map (·.1) = PA := ⟨_, rfl⟩
            obtain ⟨PB, hPB⟩ : ∃ PB, P.map (·.2) = PB := ⟨_, rfl⟩
            obtain ⟨n, hnn⟩ : ∃ n, P.length = n := ⟨_, rfl⟩
            have hla : PA.length = n := by rw [← hPA, List.length_map, hnn]
            have hlb : PB.length = n := by rw [← hPB, List.length_map, hnn]
            rw [List.map_append, hPA] at hH
            rw [List.map_append, hPB] at hH2
            simp only [List.map_cons, List.map_nil] at hH hH2
            rw [List.length_append, hnn] at hv hv2
            simp only [List.length_cons, List.length_nil] at hv hv2
            have hlA : (strs (PA ++ [t])).length = n + 1 := by rw [strs_length, List.length_append, hla]; rfl
            have hlB : (bls (PB ++ [c])).length = n + 1 := by rw [bls_length, List.length_append, hlb]; rfl
            have htA : (strs (PA ++ [t])).take n = strs PA := by rw [strs_take, ← hla, List.take_left]
            have htB : (bls (PB ++ [c])).take n = bls PB := by rw [bls_take, ← hlb, List.take_left]
            have gA : (strs (PA ++ [t]))[n]? = some [.c (.string (bs t))] := by rw [← hla]; simp [strs]
            obtain ⟨A, hA⟩ : ∃ A, PA ++ [t] = A := ⟨_, rfl⟩
            obtain ⟨B, hB⟩ : ∃ B, PB ++ [c] = B := ⟨_, rfl⟩
            rw [hA] at hH hlA htA gA
            rw [hB] at hH2 hlB htB
            have wq : IntKind.i64.wrap (n : Int) = (n : Int) := wrap_small (by omega) (by omega)
            have n1 : (n + 1) * 16 ≤ 140737488355328 := by omega
            have n2 : n + 1 ≤ 9223372036854775807 := by omega
            have n3 : n + 1 ≤ 140737488355328 := by omega
            have z1 : 6 + t.length ≤ 9223372036854775807 := by omega
            have z2 : t.length + 6 + 1 ≤ 9223372036854775807 := by omega
            have z2b : t.length + 7 ≤ 9223372036854775807 := by omega
            have z3 : t.length + 1 + 1 + 1 + 1 + 1 + 1 + 1 + (Lib.decDigits c2.toNat).length ≤ 9223372036854775807 := by omega
            have z4 : t.length + ((Lib.decDigits c2.toNat).length + 1) + 1 + 1 + 1 + 1 + 1 + 1 + 1 ≤ 9223372036854775807 := by omega
            have z4b : t.length + ((Lib.decDigits c2.toNat).length + 1) + 7 ≤ 9223372036854775807 := by omega
            have n4 : (n : Int) ≤ (n : Int) + 1 := by omega
            have gA2 : ∀ h : n < (strs A).length, (strs A)[n]'h = [.c (.string (bs t))] := fun h => by
              rw [List.getElem?_eq_getElem h] at gA
              exact Option.some.inj gA
            have sa : P ++ [(abT (7, c2) t, u)] ≠ [] := by simp
            simp [strsO] at hH
            simp [blsO] at hH2
            simp [L19_0, R19_0, R19_1, R19_2, R19_3, R19_4, R19_5, R19_6, R19_7, R19_8, R19_9, R19_10, R19_11, R19_12, R19_13, R19_14, R19_15, R19_16, R19_17, R19_18, R19_19, R19_20, R19_21, R19_22, R19_23, R19_24, R19_25, R19_26, R19_27, R19_28, R19_29, R19_30, R19_31, Tryz.f19, lpL19_0, lpM19_0, M19_0, q13, q14, q15, hv, hv2, hi, nget, ndL_at, hq, ndE, ha, hs, hwn, wq, hH, hH2, hlA, hlB, htA, htB, strs_snoc, bls_snoc, okS, okBl, n1, n2, n3, maxLen, n4, gA, gA2, hd, litA, lit1, bs_append, bs_size, z1, z2, z2b, z3, z4, z4b]
            refine hx _ ⟨by simp [q13], by simp [q14], by simp, .inr ⟨sa, st.tick + 1 + 1 + 1 + 1 + 1 + 1 + 1 + 1 + 1 + 1 + 1 + 1 + 1 + 1, st.tick + 1 + 1 + 1 + 1 + 1 + 1 + 1 + 1 + 1 + 1 + 1 + 1 + 1 + 1, ?_, ?_, ?_, ?_⟩⟩
            all_goals simp [strsO, blsO, abT, hnn, hPA, hPB]
      · -- two arguments
        have a2 := a2 e
        cases hk2 : tks l i with
        | nil => rw [hk2] at hlen; simp only [List.length_nil] at hlen; omega
        | cons x0 s1 =>
          cases s1 with
          | nil => rw [hk2] at hlen; simp only [List.length_cons, List.length_nil] at hlen; omega
          | cons x1 s2 =>
            obtain ⟨y, bq⟩ := x0
            obtain ⟨x, c⟩ := x1
            rw [tks_2 e hk2] at hx
            rw [hk2] at hlen hbd hc
            simp only [lenT, List.map_cons, List.sum_cons] at hbd
            rw [hgd] at a2 e hx
            rw [argI_eq (by omega), e] at ha
            rw [List.reverse_cons] at hx hc
            rw [List.reverse_cons] at hc
            obtain ⟨u, hu⟩ : ∃ u, smB l[i] = u := ⟨_, rfl⟩
            obtain ⟨q, hq⟩ : ∃ q, l[i] = q := ⟨_, rfl⟩
            rw [hu] at hs hx
            rw [hq] at nget ha hs a2 hx
            obtain ⟨c1, c2⟩ := q
            simp only [] at a2
            obtain ⟨ra, rb, rfl⟩ := a2
            simp [ndE] at ha hs
            obtain ⟨P, hP⟩ : ∃ P, s2.reverse = P := ⟨_, rfl⟩
            rw [hP] at hx hc
            have hPl : P.length ≤ 15 := by
              rw [← hP, List.length_reverse]; simp only [List.length_cons] at hlen; omega
            rcases hc with ⟨hn, _⟩ | ⟨hn, tk, tk', hv, hH, hv2, hH2⟩
            · simp at hn
            · obtain ⟨PA, hPA⟩ : ∃ PA, P.map (·.1) = PA := ⟨_, rfl⟩
              obtain ⟨PB, hPB⟩ : ∃ PB, P.map (·.2) = PB := ⟨_, rfl⟩
              obtain ⟨n, hnn⟩ : ∃ n, P.length = n := ⟨_, rfl⟩
              have hla : PA.length = n := by rw [← hPA, List.length_map, hnn]
              have hlb : PB.length = n := by rw [← hPB, List.length_map, hnn]
              have hlR : (P ++ [(x, c)] ++ [(y, bq)]).length = n + 2 := by simp [hnn]
              rw [hlR] at hv hv2
              have hmA : (P ++ [(x, c)] ++ [(y, bq)]).map (·.1) = PA ++ [x, y] := by rw [← hPA]; simp
              have hmB : (P ++ [(x, c)] ++ [(y, bq)]).map (·.2) = PB ++ [c, bq] := by rw [← hPB]; simp
              rw [hmA] at hH
              rw [hmB] at hH2
              have hlA : (strs (PA ++ [x, y])).length = n + 2 := by rw [strs_length, List.length_append, hla]; rfl
              have hlB : (bls (PB ++ [c, bq])).length = n + 2 := by rw [bls_length, List.length_append, hlb]; rfl
              have htA : (strs (PA ++ [x, y])).take n = strs PA := by rw [strs_take, ← hla, List.take_left]
              have htB : (bls (PB ++ [c, bq])).take n = bls PB := by rw [bls_take, ← hlb, List.take_left]
              have gA : (strs (PA ++ [x, y]))[n]? = some [.c (.string (bs x))] := by rw [← hla]; simp [strs]
              have gC : (strs (PA ++ [x, y]))[n + 1]? = some [.c (.string (bs y))] := by rw [← hla]; simp [strs]
              have gB : (bls (PB ++ [c, bq]))[n + 1]? = some [.c (.bool bq)] := by rw [← hlb]; simp [bls]
              obtain ⟨A, hA⟩ : ∃ A, PA ++ [x, y] = A := ⟨_, rfl⟩
              obtain ⟨B, hB⟩ : ∃ B, PB ++ [c, bq] = B := ⟨_, rfl⟩
              rw [hA] at hH hlA htA gA gC
              rw [hB] at hH2 hlB htB gB
              have gA2 : ∀ h : n < (strs A).length, (strs A)[n]'h = [.c (.string (bs x))] := fun h => by
                rw [List.getElem?_eq_getElem h] at gA
                exact Option.some.inj gA
              have gC2 : ∀ h : n + 1 < (strs A).length, (strs A)[n + 1]'h = [.c (.string (bs y))] := fun h => by
                rw [List.getElem?_eq_getElem h] at gC
                exact Option.some.inj gC
              have gB2 : ∀ h : n + 1 < (bls B).length, (bls B)[n + 1]'h = [.c (.bool bq)] := fun h => by
                rw [List.getElem?_eq_getElem h] at gB
                exact Option.some.inj gB
              have wq : IntKind.i64.wrap (n : Int) = (n : Int) := wrap_small (by omega) (by omega)
              have n1 : (n + 1) * 16 ≤ 140737488355328 := by omega
              have n2 : n + 1 ≤ 9223372036854775807 := by omega
              have n3 : n + 1 ≤ 140737488355328 := by omega
              have n4 : (n : Int) ≤ (n : Int) + 2 := by omega
              have sa : ∀ z, P ++ [(z, u)] ≠ [] := by simp
              have zA : 4 + x.length ≤ 9223372036854775807 := by omega
              have zB : x.length + 4 + 1 ≤ 9223372036854775807 := by omega
              have zB2 : x.length + 5 ≤ 9223372036854775807 := by omega
              have zB3 : x.length + 1 + 1 + 1 + 1 + 1 ≤ 9223372036854775807 := by omega
              have zC : x.length + 1 + 1 + 1 + 1 + 1 + y.length ≤ 9223372036854775807 := by omega
              have zD : x.length + (y.length + 1) + 1 + 1 + 1 + 1 + 1 ≤ 9223372036854775807 := by omega
              have zD2 : x.length + (y.length + 1) + 5 ≤ 9223372036854775807 := by omega
              have zE : x.length + 1 ≤ 9223372036854775807 := by omega
              have zF : x.length + 1 + y.length ≤ 9223372036854775807 := by omega
              have zG : 1 + y.length ≤ 9223372036854775807 := by omega
              have zH : y.length + 1 + 1 ≤ 9223372036854775807 := by omega
              have zH2 : y.length + 2 ≤ 9223372036854775807 := by omega
              have zI : x.length + 1 + (y.length + 1 + 1) ≤ 9223372036854775807 := by omega
              have zI2 : x.length + 1 + (y.length + 2) ≤ 9223372036854775807 := by omega
              simp [strsO] at hH
              simp [blsO] at hH2
              have hcase : c1 = 3 ∨ c1 = 4 ∨ c1 = 5 ∨ c1 = 6 := by omega
              rcases hcase with rfl | rfl | rfl | rfl
              · cases bq
                · skip
                  simp [L19_0, R19_0, R19_1, R19_2, R19_3, R19_4, R19_5, R19_6, R19_7, R19_8, R19_9, R19_10, R19_11, R19_12, R19_13, R19_14, R19_15, R19_16, R19_17, R19_18, R19_19, R19_20, R19_21, R19_22, R19_23, R19_24, R19_25, R19_26, R19_27, R19_28, R19_29, R19_30, R19_31, Tryz.f19, lpL19_0, lpM19_0, M19_0, q13, q14, q15, hv, hv2, hi, nget, ndL_at, hq, ndE, ha, hs, hwn, wq, hH, hH2, hlA, hlB, htA, htB, strs_snoc, bls_snoc, okS, okBl, n1, n2, n3, maxLen, n4, gA, gA2, gC, gC2, gB, gB2, lit1, bs_append, bs_size, zE, zF]
                  refine hx _ ⟨by simp [q13], by simp [q14], by simp, .inr ⟨sa _, st.tick + 1 + 1 + 1 + 1 + 1 + 1 + 1 + 1 + 1 + 1 + 1 + 1 + 1 + 1, st.tick + 1 + 1 + 1 + 1 + 1 + 1 + 1 + 1 + 1 + 1 + 1 + 1 + 1 + 1, ?_, ?_, ?_, ?_⟩⟩
                  all_goals simp [strsO, blsO, biT, hnn, hPA, hPB]
                · skip
                  simp [L19_0, R19_0, R19_1, R19_2, R19_3, R19_4, R19_5, R19_6, R19_7, R19_8, R19_9, R19_10, R19_11, R19_12, R19_13, R19_14, R19_15, R19_16, R19_17, R19_18, R19_19, R19_20, R19_21, R19_22, R19_23, R19_24, R19_25, R19_26, R19_27, R19_28, R19_29, R19_30, R19_31, Tryz.f19, lpL19_0, lpM19_0, M19_0, q13, q14, q15, hv, hv2, hi, nget, ndL_at, hq, ndE, ha, hs, hwn, wq, hH, hH2, hlA, hlB, htA, htB, strs_snoc, bls_snoc, okS, okBl, n1, n2, n3, maxLen, n4, gA, gA2, gC, gC2, gB, gB2, lit1, bs_append, bs_size, zE, zF, zG, zH, zH2, zI, zI2]
                  refine hx _ ⟨by simp [q13], by simp [q14], by simp, .inr ⟨sa _, st.tick + 1 + 1 + 1 + 1 + 1 + 1 + 1 + 1 + 1 + 1 + 1 + 1 + 1 + 1 + 1, st.tick + 1 + 1 + 1 + 1 + 1 + 1 + 1 + 1 + 1 + 1 + 1 + 1 + 1 + 1 + 1, ?_, ?_, ?_, ?_⟩⟩
                  all_goals simp [strsO, blsO, biT, hnn, hPA, hPB]
              · cases bq
                · skip
                  simp [L19_0, R19_0, R19_1, R19_2, R19_3, R19_4, R19_5, R19_6, R19_7, R19_8, R19_9, R19_10, R19_11, R19_12, R19_13, R19_14, R19_15, R19_16, R19_17, R19_18, R19_19, R19_20, R19_21, R19_22, R19_23, R19_24, R19_25, R19_26, R19_27, R19_28, R19_29, R19_30, R19_31, Tryz.f19, lpL19_0, lpM19_0, M19_0, q13, q14, q15, hv, hv2, hi, nget, ndL_at, hq, ndE, ha, hs, hwn, wq, hH, hH2, hlA, hlB, htA, htB, strs_snoc, bls_snoc, okS, okBl, n1, n2, n3, maxLen, n4, gA, gA2, gC, gC2, gB, gB2, lit1, bs_append, bs_size, zE, zF]
                  refine hx _ ⟨by simp [q13], by simp [q14], by simp, .inr ⟨sa _, st.tick + 1 + 1 + 1 + 1 + 1 + 1 + 1 + 1 + 1 + 1 + 1 + 1 + 1 + 1 + 1 + 1, st.tick + 1 + 1 + 1 + 1 + 1 + 1 + 1 + 1 + 1 + 1 + 1 + 1 + 1 + 1 + 1 + 1, ?_, ?_, ?_, ?_⟩⟩
                  all_goals simp [strsO, blsO, biT, hnn, hPA, hPB]
                · skip
                  simp [L19_0, R19_0, R19_1, R19_2, R19_3, R19_4, R19_5, R19_6, R19_7, R19_8, R19_9, R19_10, R19_11, R19_12, R19_13, R19_14, R19_15, R19_16, R19_17, R19_18, R19_19, R19_20, R19_21, R19_22, R19_23, R19_24, R19_25, R19_26, R19_27, R19_28, R19_29, R19_30, R19_31, Tryz.f19, lpL19_0, lpM19_0, M19_0, q13, q14, q15, hv, hv2, hi, nget, ndL_at, hq, ndE, ha, hs, hwn, wq, hH, hH2, hlA, hlB, htA, htB, strs_snoc, bls_snoc, okS, okBl, n1, n2, n3, maxLen, n4, gA, gA2, gC, gC2, gB, gB2, lit1, bs_append, bs_size, zE, zF, zG, zH, zH2, zI, zI2]
                  refine hx _ ⟨by simp [q13], by simp [q14], by simp, .inr ⟨sa _, st.tick + 1 + 1 + 1 + 1 + 1 + 1 + 1 + 1 + 1 + 1 + 1 + 1 + 1 + 1 + 1 + 1 + 1, st.tick + 1 + 1 + 1 + 1 + 1 + 1 + 1 + 1 + 1 + 1 + 1 + 1 + 1 + 1 + 1 + 1 + 1, ?_, ?_, ?_, ?_⟩⟩
                  all_goals simp [strsO, blsO, biT, hnn, hPA, hPB]
              · skip
                simp [L19_0, R19_0, R19_1, R19_2, R19_3, R19_4, R19_5, R19_6, R19_7, R19_8, R19_9, R19_10, R19_11, R19_12, R19_13, R19_14, R19_15, R19_16, R19_17, R19_18, R19_19, R19_20, R19_21, R19_22, R19_23, R19_24, R19_25, R19_26, R19_27, R19_28, R19_29, R19_30, R19_31, Tryz.f19, lpL19_0, lpM19_0, M19_0, q13, q14, q15, hv, hv2, hi, nget, ndL_at, hq, ndE, ha, hs, hwn, wq, hH, hH2, hlA, hlB, htA, htB, strs_snoc, bls_snoc, okS, okBl, n1, n2, n3, maxLen, n4, gA, gA2, gC, gC2, gB, gB2, lit1, bs_append, bs_size, litM, zA, zB, zB2, zB3, zC, zD, zD2]
                refine hx _ ⟨by simp [q13], by simp [q14], by simp, .inr ⟨sa _, st.tick + 1 + 1 + 1 + 1 + 1 + 1 + 1 + 1 + 1 + 1 + 1 + 1, st.tick + 1 + 1 + 1 + 1 + 1 + 1 + 1 + 1 + 1 + 1 + 1 + 1, ?_, ?_, ?_, ?_⟩⟩
                all_goals simp [strsO, blsO, biT, hnn, hPA, hPB]
              · skip
                simp [L19_0, R19_0, R19_1, R19_2, R19_3, R19_4, R19_5, R19_6, R19_7, R19_8, R19_9, R19_10, R19_11, R19_12, R19_13, R19_14, R19_15, R19_16, R19_17, R19_18, R19_19, R19_20, R19_21, R19_22, R19_23, R19_24, R19_25, R19_26, R19_27, R19_28, R19_29, R19_30, R19_31, Tryz.f19, lpL19_0, lpM19_0, M19_0, q13, q14, q15, hv, hv2, hi, nget, ndL_at, hq, ndE, ha, hs, hwn, wq, hH, hH2, hlA, hlB, htA, htB, strs_snoc, bls_snoc, okS, okBl, n1, n2, n3, maxLen, n4, gA, gA2, gC, gC2, gB, gB2, lit1, bs_append, bs_size, litX, zA, zB, zB2, zB3, zC, zD, zD2]
                refine hx _ ⟨by simp [q13], by simp [q14], by simp, .inr ⟨sa _, st.tick + 1 + 1 + 1 + 1 + 1 + 1 + 1 + 1 + 1 + 1 + 1 + 1 + 1, st.tick + 1 + 1 + 1 + 1 + 1 + 1 + 1 + 1 + 1 + 1 + 1 + 1 + 1, ?_, ?_, ?_, ?_⟩⟩
                all_goals simp [strsO, blsO, biT, hnn, hPA, hPB]
      · omega)
    (by
      rintro st next ⟨q13, q14, q15, hc⟩
      simp [L19_0, R19_0, R19_1, R19_2, R19_3, R19_4, R19_5, R19_6, R19_7, R19_8, R19_9, R19_10, R19_11, R19_12, R19_13, R19_14, R19_15, R19_16, R19_17, R19_18, R19_19, R19_20, R19_21, R19_22, R19_23, R19_24, R19_25, R19_26, R19_27, R19_28, R19_29, R19_30, R19_31, Tryz.f19, lpL19_0, lpM19_0, M19_0, q13, q14, q15, ndL_length]
      rcases hc with ⟨hn, hv, hv2⟩ | ⟨hn, tk, tk', hv, hH, hv2, hH2⟩
      · exact .inl ⟨hn, by simp [hv], by simp [hv2]⟩
      · exact .inr ⟨hn, tk, tk', by simp [hv], by simp [hv, hv2, hH], by simp [hv2], by simp [hv, hv2, hH2]⟩)
  simp [R19_0, R19_1, R19_2, R19_3, R19_4, R19_5, R19_6, R19_7, R19_8, R19_9, R19_10, R19_11, R19_12, R19_13, R19_14, R19_15, R19_16, R19_17, R19_18, R19_19, R19_20, R19_21, R19_22, R19_23, R19_24, R19_25, R19_26, R19_27, R19_28, R19_29, R19_30, R19_31, Tryz.f19, lpL19_0, lpM19_0]
  generalize hrr : loopRun _ _ _ _ = res
  obtain ⟨s1, rfl, fc⟩ := loop_at hL hrr ⟨by simp, by simp [ndL_length], by simp, .inl ⟨by simp [tks], by simp, by simp⟩⟩
  have hlen := tks_len l.length (by omega : 0 ≤ runO l l.length)
  rw [hr] at hlen
  cases hk2 : tks l l.length with
  | nil => rw [hk2] at hlen; simp only [List.length_nil] at hlen; omega
  | cons x s2 =>
    obtain ⟨t, c⟩ := x
    rw [hk2] at hlen fc
    simp only [List.length_cons] at hlen
    obtain rfl : s2 = [] := List.length_eq_zero_iff.1 (by omega)
    rcases fc with ⟨hn, _⟩ | ⟨hn, tk, tk', hv, hH, hv2, hH2⟩
    · simp at hn
    · simp [strsO, strs] at hH hv
      simp [R19_0, R19_1, R19_2, R19_3, R19_4, R19_5, R19_6, R19_7, R19_8, R19_9, R19_10, R19_11, R19_12, R19_13, R19_14, R19_15, R19_16, R19_17, R19_18, R19_19, R19_20, R19_21, R19_22, R19_23, R19_24, R19_25, R19_26, R19_27, R19_28, R19_29, R19_30, R19_31, Tryz.f19, lpL19_0, lpM19_0, M19_0, hv, hH]
theorem c_implFormat (k : Nat) (b : Bool) (l : List (Int × Int)) (hk : 500 ≤ k) : callK C k 6 [.sq b true 2 (ndL l)] [] = some (.tp [.c (.string (bs (if goodE l = true then ((tks l l.length).headD ([], false)).1 else []))), .c (.bool (goodE l))], hpOf [] []) := by
  obtain ⟨k, rfl⟩ : ∃ m, k = m + 1 := ⟨k - 1, by omega⟩
  rw [callK_fn rfl F6 code6]
  have gd := c_IsExpression k b l (by omega)
  cases hg : goodE l
  · rw [hg] at gd
    simp [R6_0, R6_1, R6_2, R6_3, Tryz.f6, gd, lit0]
  · rw [hg] at gd
    have h := c_exprText k b l hg (by omega)
    obtain ⟨T, hT⟩ : ∃ T, ((tks l l.length).headD ([], false)).1 = T := ⟨_, rfl⟩
    rw [hT] at h ⊢
    simp [R6_0, R6_1, R6_2, R6_3, Tryz.f6, gd, h]
theorem c_specFormat (k : Nat) (b : Bool) (l : List (Int × Int)) (hk : 500 ≤ k) : callK C k 8 [.sq b true 2 (ndL l)] [] = some (.tp [.c (.string (bs (if goodE l = true then ((tks l l.length).headD ([], false)).1 else []))), .c (.bool (goodE l))], hpOf [] []) := by
  obtain ⟨k, rfl⟩ : ∃ m, k = m + 1 := ⟨k - 1, by omega⟩
  rw [callK_fn rfl F8 code8]
  have gd := c_l5Good k b l (by omega)
  cases hg : goodE l
  · rw [hg] at gd
    simp [R8_0, R8_1, R8_2, R8_3, Tryz.f8, gd, lit0]
  · rw [hg] at gd
    obtain ⟨h15, hr⟩ := good_run hg
    have hlen := tks_len l.length (by omega : 0 ≤ runO l l.length)
    obtain ⟨n, hn⟩ : ∃ n, l.length = n + 1 := by
      cases hl : l.length with
      | zero => rw [hl] at hr; simp [runO] at hr
      | succ n => exact ⟨n, rfl⟩
    cases hk2 : tks l l.length with
    | nil => rw [hk2, hr] at hlen; simp only [List.length_nil] at hlen; omega
    | cons x s2 =>
      obtain ⟨t, c⟩ := x
      have h := c_l5Text b l h15 n (by omega) (by rw [← hn]; omega) k (by omega) t c s2 (by rw [← hn]; exact hk2)
      have w1 : IntKind.i64.wrap ((l.length : Int) - 1) = (n : Int) := by rw [wrap_small (by omega) (by omega)]; omega
      simp [R8_0, R8_1, R8_2, R8_3, Tryz.f8, gd, h, ndL_length, w1]

end Go.Proofs.YtbjmfjfnilmhhaaGreatDoor.Eng
namespace Go.Proofs.YtbjmfjfnilmhhaaGreatDoor.Eng
open Go Go.Proofs
set_option maxRecDepth 100000
set_option maxHeartbeats 2000000
set_option linter.unusedSimpArgs false
set_option linter.unusedVariables false
attribute [local simp] finK fin1 hpOf xi renQ isRoot runCode runOps stepX inlOf Eng.step wantedV astep val ofO made loadV storeV find V.cells bin binT binA numT numFs eqCells un1 setAt fieldAddrV fieldV indexAddrV indexV bounds sliceV convV lenV foldV max2V min2V callO bor rdsO wrsO seen_none okD_none loops keepIds resV resultsV St.ev TK.agg refs refsL refsO V.one V.isC Value.oneCell' ren renL renO noTag noTagL noTagR noTagO nodup mapO passV frs psi refsR newD loopNext opsAt idx flatAt rootOf backR newsV appendV copyV clearV strV bytesV bldV bufV selfV bytesOf nilCmp buildV fillF chunk freeL frzW cellSame sameV
attribute [local simp] cT cF cX cWR cOW cK cBL X ints_length ints_get ints_getElem ints_drop ints_take ints_append ints_nil ints_set
attribute [local simp] ints_replicate
attribute [local simp] putV_some putV_none putH_app applyD_nil applyD_cons seen_app gc_ρ gc_H gc_tick st0_ρ st0_H st0_tick retV callRo callV_if borL_nil borL_cons ints_snoc take_self callWr cutH_app findQ afterV exportV_0 exportV_n okD_nil okD_cons sub_seq0 sub_seq1 sub_cond0 sub_cond1 sub_block sub_loop sub_nil young_far young_none hidW_nil mayW_nil keepsF_nil keepsF_cons pairs okI ok_0 ok_1 ok_2
attribute [local simp] T3 T4 T5 T9 T22 T24 T33 T36 T38 T45 T48 T51 T52 T54 T56 T71 T72 T74 T77 T99 T104 T117 T121
/-- What stands behind a text's beginning. -/
def stripL : List UInt8 → List UInt8 → Option (List UInt8)
  | [], t => some t
  | _ :: _, [] => none
  | a :: p, b :: t => if a = b then stripL p t else none
theorem strip_len : ∀ (p t r : List UInt8), stripL p t = some r → t = p ++ r
  | [], t, r, h => by cases h; rfl
  | _ :: _, [], r, h => by cases h
  | a :: p, b :: t, r, h => by
    unfold stripL at h
    split at h
    · rename_i e
      rw [e, List.cons_append, ← strip_len p t r h]
    · cases h
def isD (c : UInt8) : Bool := decide (48 ≤ c.toNat) && decide (c.toNat ≤ 57)
/-- A number and what stands behind it. -/
noncomputable def numP (t : List UInt8) : Option (Int × List UInt8) := match pI (t.takeWhile isD) with
  | some v => some (v, t.dropWhile isD)
  | none => none
mutual
noncomputable def pT : Nat → List UInt8 → Option (List (Int × Int) × List UInt8)
  | 0, _ => none
  | n + 1, t => match stripL [109, 105, 110, 40] t with
    | some r => pP n 5 r
    | none => match stripL [109, 97, 120, 40] t with
      | some r => pP n 6 r
      | none => match stripL [97, 98, 111, 118, 101, 40] t with
        | some r => match pS n r with
          | none => none
          | some (l, r1) => match stripL [44] r1 with
            | none => none
            | some r2 => match numP r2 with
              | none => none
              | some (v, r3) => match stripL [41] r3 with
                | none => none
                | some r4 => some (l ++ [(7, v)], r4)
        | none => match stripL [40] t with
          | some r => match pS n r with
            | none => none
            | some (l, r1) => match stripL [41] r1 with
              | none => none
              | some r2 => some (l, r2)
          | none => match t with
            | [] => none
            | c :: r => if 97 ≤ c.toNat ∧ c.toNat ≤ 100 then some ([(1, (c.toNat : Int) - 97)], r) else match numP (c :: r) with
              | none => none
              | some (v, r') => some ([(2, v)], r')
noncomputable def pP : Nat → Int → List UInt8 → Option (List (Int × Int) × List UInt8)
  | 0, _, _ => none
  | n + 1, k, r => match pS n r with
    | none => none
    | some (l1, r1) => match stripL [44] r1 with
      | none => none
      | some r2 => match pS n r2 with
        | none => none
        | some (l2, r3) => match stripL [41] r3 with
          | none => none
          | some r4 => some (l1 ++ l2 ++ [(k, 0)], r4)
noncomputable def pS : Nat → List UInt8 → Option (List (Int × Int) × List UInt8)
  | 0, _ => none
  | n + 1, t => match pT n t with
    | none => none
    | some (l, r) => pL n l r
noncomputable def pL : Nat → List (Int × Int) → List UInt8 → Option (List (Int × Int) × List UInt8)
  | 0, _, _ => none
  | n + 1, l, r => match stripL [43] r with
    | some r1 => match pT n r1 with
      | none => none
      | some (l2, r2) => pL n (l ++ l2 ++ [(3, 0)]) r2
    | none => match stripL [45] r with
      | some r1 => match pT n r1 with
        | none => none
        | some (l2, r2) => pL n (l ++ l2 ++ [(4, 0)]) r2
      | none => some (l, r)
end
theorem strip_some {p t r : List UInt8} (h : stripL p t = some r) : t.length = p.length + r.length := by
  rw [strip_len p t r h, List.length_append]
theorem pI_ne {v : Int} (h : pI [] = some v) : False := by
  obtain ⟨_, _, h3⟩ := pI_inv h
  have := unsg_itoa v
  rw [h3] at this
  obtain ⟨b, r, hd, _⟩ := dec_head v.natAbs
  have h1 := this.1
  rw [hd] at h1
  exact absurd h1 (by simp [unsg])
theorem numP_len {t r : List UInt8} {v : Int} (h : numP t = some (v, r)) : r.length + 1 ≤ t.length := by
  unfold numP at h
  split at h
  · rename_i w hw
    cases h
    have hs : t.takeWhile isD ++ t.dropWhile isD = t := List.takeWhile_append_dropWhile
    have hl := congrArg List.length hs
    rw [List.length_append] at hl
    cases ht : t.takeWhile isD with
    | nil => rw [ht] at hw; exact (pI_ne hw).elim
    | cons a b => rw [ht] at hl; simp only [List.length_cons] at hl; omega
  · cases h
/-- What is read: every node costs a sign at least. -/
theorem p_len : ∀ n, (∀ t l r, pT n t = some (l, r) → r.length + 1 ≤ t.length ∧ l.length + r.length ≤ t.length) ∧ (∀ k t l r, pP n k t = some (l, r) → r.length + 3 ≤ t.length ∧ l.length + r.length ≤ t.length) ∧
    (∀ t l r, pS n t = some (l, r) → r.length + 1 ≤ t.length ∧ l.length + r.length ≤ t.length) ∧ (∀ l0 t l r, pL n l0 t = some (l, r) → r.length ≤ t.length ∧ l.length + r.length ≤ l0.length + t.length)
  | 0 => ⟨fun t l r h => by simp [pT] at h, fun k t l r h => by simp [pP] at h, fun t l r h => by simp [pS] at h, fun l0 t l r h => by simp [pL] at h⟩
  | n + 1 => by
    obtain ⟨iT, iP, iS, iL⟩ := p_len n
    refine ⟨fun t l r h => ?_, fun k t l r h => ?_, fun t l r h => ?_, fun l0 t l r h => ?_⟩
    · unfold pT at h
      split at h
      · rename_i r0 h0
        have := strip_some h0
        have := iP _ _ _ _ h
        simp only [List.length_cons, List.length_nil] at *
        omega
      · split at h
        · rename_i r0 h0
          have := strip_some h0
          have := iP _ _ _ _ h
          simp only [List.length_cons, List.length_nil] at *
          omega
        · split at h
          · rename_i r0 h0
            have := strip_some h0
            split at h
            · cases h
            rename_i l1 r1 h1
            have := iS _ _ _ h1
            split at h
            · cases h
            rename_i r2 h2
            have := strip_some h2
            split at h
            · cases h
            rename_i v r3 h3
            have := numP_len h3
            split at h
            · cases h
            rename_i r4 h4
            have := strip_some h4
            cases h
            simp only [List.length_cons, List.length_nil, List.length_append] at *
            omega
          · split at h
            · rename_i r0 h0
              have := strip_some h0
              split at h
              · cases h
              rename_i l1 r1 h1
              have := iS _ _ _ h1
              split at h
              · cases h
              rename_i r2 h2
              have := strip_some h2
              cases h
              simp only [List.length_cons, List.length_nil] at *
              omega
            · split at h
              · cases h
              · split at h
                · cases h
                  simp only [List.length_cons, List.length_nil]
                  omega
                · split at h
                  · cases h
                  rename_i v r' h'
                  have := numP_len h'
                  cases h
                  simp only [List.length_cons, List.length_nil] at *
                  omega
    · unfold pP at h
      split at h
      · cases h
      rename_i l1 r1 h1
      have := iS _ _ _ h1
      split at h
      · cases h
      rename_i r2 h2
      have := strip_some h2
      split at h
      · cases h
      rename_i l2 r3 h3
      have := iS _ _ _ h3
      split at h
      · cases h
      rename_i r4 h4
      have := strip_some h4
      cases h
      simp only [List.length_cons, List.length_nil, List.length_append] at *
      omega
    · unfold pS at h
      split at h
      · cases h
      rename_i l1 r1 h1
      have := iT _ _ _ h1
      have := iL _ _ _ _ h
      omega
    · unfold pL at h
      split at h
      · rename_i r1 h1
        have := strip_some h1
        split at h
        · cases h
        rename_i l2 r2 h2
        have := iT _ _ _ h2
        have := iL _ _ _ _ h
        simp only [List.length_cons, List.length_nil, List.length_append] at *
        omega
      · split at h
        · rename_i r1 h1
          have := strip_some h1
          split at h
          · cases h
          rename_i l2 r2 h2
          have := iT _ _ _ h2
          have := iL _ _ _ _ h
          simp only [List.length_cons, List.length_nil, List.length_append] at *
          omega
        · cases h
          exact ⟨Nat.le_refl _, Nat.le_refl _⟩

end Go.Proofs.YtbjmfjfnilmhhaaGreatDoor.Eng
namespace Go.Proofs.YtbjmfjfnilmhhaaGreatDoor.Eng
open Go Go.Proofs
set_option maxRecDepth 100000
set_option maxHeartbeats 2000000
set_option linter.unusedSimpArgs false
set_option linter.unusedVariables false
attribute [local simp] finK fin1 hpOf xi renQ isRoot runCode runOps stepX inlOf Eng.step wantedV astep val ofO made loadV storeV find V.cells bin binT binA numT numFs eqCells un1 setAt fieldAddrV fieldV indexAddrV indexV bounds sliceV convV lenV foldV max2V min2V callO bor rdsO wrsO seen_none okD_none loops keepIds resV resultsV St.ev TK.agg refs refsL refsO V.one V.isC Value.oneCell' ren renL renO noTag noTagL noTagR noTagO nodup mapO passV frs psi refsR newD loopNext opsAt idx flatAt rootOf backR newsV appendV copyV clearV strV bytesV bldV bufV selfV bytesOf nilCmp buildV fillF chunk freeL frzW cellSame sameV
attribute [local simp] cT cF cX cWR cOW cK cBL X ints_length ints_get ints_getElem ints_drop ints_take ints_append ints_nil ints_set
attribute [local simp] ints_replicate
attribute [local simp] putV_some putV_none putH_app applyD_nil applyD_cons seen_app gc_ρ gc_H gc_tick st0_ρ st0_H st0_tick retV callRo callV_if borL_nil borL_cons ints_snoc take_self callWr cutH_app findQ afterV exportV_0 exportV_n okD_nil okD_cons sub_seq0 sub_seq1 sub_cond0 sub_cond1 sub_block sub_loop sub_nil young_far young_none hidW_nil mayW_nil keepsF_nil keepsF_cons pairs okI ok_0 ok_1 ok_2
attribute [local simp] T3 T4 T5 T9 T22 T24 T33 T36 T38 T45 T48 T51 T52 T54 T56 T71 T72 T74 T77 T99 T104 T117 T121
attribute [local simp] young_near clo cloF Region.binds Nat.testBit hidW declW mayW List.findIdx?_cons
theorem strip_is : ∀ (p t : List UInt8), stripL p t = if p.length ≤ t.length ∧ t.take p.length = p then some (t.drop p.length) else none
  | [], t => by simp [stripL]
  | a :: p, [] => by simp [stripL]
  | a :: p, b :: t => by
    have ih := strip_is p t
    simp only [stripL, List.length_cons, List.take_succ_cons, List.drop_succ_cons, List.cons.injEq, Nat.add_le_add_iff_right]
    by_cases h : a = b
    · subst h
      rw [if_pos rfl, ih]
      by_cases h2 : p.length ≤ t.length ∧ t.take p.length = p
      · rw [if_pos h2, if_pos ⟨h2.1, rfl, h2.2⟩]
      · rw [if_neg h2, if_neg fun h3 => h2 ⟨h3.1, h3.2.2⟩]
    · rw [if_neg h, if_neg fun h3 => h h3.2.1.symm]
def hasP (p t : List UInt8) : Bool := (stripL p t).isSome
def restP (p t : List UInt8) : List UInt8 := (stripL p t).getD t
theorem hasP_is (p t : List UInt8) : hasP p t = (decide (p.length ≤ t.length) && decide (t.take p.length = p)) := by
  unfold hasP
  rw [strip_is]
  by_cases h1 : p.length ≤ t.length <;> by_cases h2 : t.take p.length = p <;> simp [h1, h2]
theorem restP_is (p t : List UInt8) : restP p t = if hasP p t = true then t.drop p.length else t := by
  unfold restP hasP
  rw [strip_is]
  by_cases h : p.length ≤ t.length ∧ t.take p.length = p
  · rw [if_pos h]; rfl
  · rw [if_neg h]; rfl
theorem restP_len (p t : List UInt8) : (restP p t).length ≤ t.length := by
  rw [restP_is]
  split
  · rw [List.length_drop]; omega
  · exact Nat.le_refl _
theorem c_HasP (k : Nat) (t p : List UInt8) (hk : 1 ≤ k) : callK C k 107 [.c (.string (bs t)), .c (.string (bs p))] [] = some (.c (.bool (hasP p t)), hpOf [] []) := by
  obtain ⟨k, rfl⟩ : ∃ m, k = m + 1 := ⟨k - 1, by omega⟩
  rw [callK_fn rfl F107 code107]
  rw [hasP_is]
  by_cases h : p.length ≤ t.length
  · have g1 : (p.length : Int) ≤ (t.length : Int) := by omega
    simp [R107_0, R107_1, Tryz.f107, bs_size, bs_extract, bs_neq, undef, g1, h]
  · have g1 : ¬ (p.length : Int) ≤ (t.length : Int) := by omega
    simp [R107_0, R107_1, Tryz.f107, bs_size, bs_extract, bs_neq, undef, g1, h]
theorem c_lCutP (k : Nat) (t p : List UInt8) (hk : 2 ≤ k) : callK C k 95 [.c (.string (bs t)), .c (.string (bs p))] [] = some (.tp [.c (.string (bs (restP p t))), .c (.bool (hasP p t))], hpOf [] []) := by
  obtain ⟨k, rfl⟩ : ∃ m, k = m + 1 := ⟨k - 1, by omega⟩
  rw [callK_fn rfl F95 code95]
  have h := c_HasP k t p (by omega)
  rw [restP_is]
  cases hn : hasP p t
  · rw [hn] at h
    simp [R95_0, R95_1, R95_2, R95_3, Tryz.f95, h, lit0]
  · rw [hn] at h
    have h2 := hn
    rw [hasP_is] at h2
    simp only [Bool.and_eq_true, decide_eq_true_eq] at h2
    have g1 : (p.length : Int) ≤ (t.length : Int) := by omega
    have g2 : p.length ≤ t.length := h2.1
    have ht : (t.drop p.length).take (t.length - p.length) = t.drop p.length := List.take_of_length_le (by simp)
    simp [R95_0, R95_1, R95_2, R95_3, Tryz.f95, h, lit0, bs_size, bs_extract, g1, g2, ht]
theorem c_CutP (k : Nat) (t p : List UInt8) (hk : 3 ≤ k) : callK C k 75 [.c (.string (bs t)), .c (.string (bs p))] [] = some (.tp [.c (.string (bs (restP p t))), .c (.bool (hasP p t))], hpOf [] []) := by
  obtain ⟨k, rfl⟩ : ∃ m, k = m + 1 := ⟨k - 1, by omega⟩
  rw [callK_fn rfl F75 code75]
  have h := c_lCutP k t p (by omega)
  simp [R75_0, R75_1, Tryz.f75, h, lit0]
/-- The program's parser: what is left of the text, its list, whether it failed. -/
def pO (t : List UInt8) (v : V) (f : Bool) : Eng.Obj := ⟨45, 3, false, [[.c (.string (bs t)), v, .c (.bool f)]]⟩
abbrev nilL : V := .c (.slice none 0 0)
/-- What a call is handed. -/
def frP (t : List UInt8) (l : List (Int × Int)) (f : Bool) : List Eng.Obj := if l = [] then [pO t nilL f] else [pO t (.s 1 0 2 0 l.length) f, ndO l]
/-- What a call ends with: a value, whether the list is another one. -/
def endV (v : V) (l l' : List (Int × Int)) (ch : Bool) (t : List UInt8) (f : Bool) : Option (V × Hp) :=
  some (v, if l = [] then (if ch then hpOf [some (pO t (.s 1 2 2 0 l'.length) f)] [ndO l'] else hpOf [some (pO t nilL f)] []) else (if ch then hpOf [some (pO t (.s 2 2 2 0 l'.length) f), none] [ndO l'] else hpOf [some (pO t (.s 1 0 2 0 l.length) f), some (ndO l)] []))
theorem c_take (k : Nat) (t p : List UInt8) (l : List (Int × Int)) (f : Bool) (hk : 10 ≤ k) : callK C k 43 [.p 0 0 3 0 0, .c (.string (bs p))] (frP t l f) = endV (.c (.bool (hasP p t))) l l false (restP p t) f := by
  obtain ⟨k, rfl⟩ : ∃ m, k = m + 1 := ⟨k - 1, by omega⟩
  rw [callK_fn rfl F43 code43]
  have h := c_CutP k t p (by omega)
  unfold frP endV
  by_cases hl : l = []
  · simp [R43_0, R43_1, R43_2, R43_3, Tryz.f43, hl, pO, h, lit0]
  · simp [R43_0, R43_1, R43_2, R43_3, Tryz.f43, hl, pO, h, lit0, ndO]
/-- A frame whose slot 0 points to the parser: what the parser holds. -/
structure PSt (l0 : List (Int × Int)) (H : Hp) (t : List UInt8) (l : List (Int × Int)) (f : Bool) (v : V) : Prop where
  h0 : H 0 = some (0, pO t v f)
  hv : (l = [] ∧ l0 = [] ∧ v = nilL ∧ H 1 = none) ∨ (l ≠ [] ∧ l = l0 ∧ v = .s 1 0 2 0 l.length ∧ H 1 = some (0, ndO l)) ∨ (l ≠ [] ∧ ∃ id vr, 16 ≤ id ∧ v = .s id vr 2 0 l.length ∧ H id = some (vr, ndO l) ∧ H 1 = none)
def chV (ch : Bool) (tick site n : Nat) (v : V) : V := if ch = true then .s (16 * site) tick 2 0 n else v
theorem roots_c (cs : List Value) : (cs.map V.c).flatMap (rootOf false) = [] := by
  induction cs with
  | nil => rfl
  | cons a r ih =>
    rw [List.map_cons, List.flatMap_cons, ih]
    rfl
theorem pass_c (Hx : Hp) (φ : Nat → Nat → Option (Nat × Nat)) (cs : List Value) : mapO (passV true false Hx φ) (cs.map V.c) = some (cs.map V.c) := by
  induction cs with
  | nil => rfl
  | cons a r ih =>
    simp only [List.map_cons, mapO]
    rw [ih]
    rfl
/-- A value without names. -/
structure Pl (w : V) : Prop where
  rf : refs w = []
  nt : noTag w = true
  rn : ∀ φ, ren φ w = some w
theorem Pl.c (v : Value) : Pl (.c v) := ⟨rfl, rfl, fun _ => rfl⟩
theorem Pl.tp : Pl (.tp []) := ⟨rfl, rfl, fun _ => rfl⟩
theorem callP (k : Nat) (f : FuncId) (cs : List Value) (hw : WR f = true) (ho : OW f = false) {l0 : List (Int × Int)} {H : Hp} {t : List UInt8} {l : List (Int × Int)} {fl : Bool} {v : V} (P : PSt l0 H t l fl v) {w : V} (hpl : Pl w) {l' : List (Int × Int)} {ch : Bool} {t' : List UInt8} {f' : Bool}
    (hc : callK C k f (.p 0 0 3 0 0 :: cs.map V.c) (frP t l fl) = endV w l l' ch t' f') (hch : ch = false → l' = l) (hne : ch = true → l' ≠ []) (tick site : Nat) (hs : 1 ≤ site) :
    ∃ δ, callV C (callK C k) H tick site f (.p 0 0 3 0 0 :: cs.map V.c) = some (some w, δ) ∧ PSt l0 (applyD H δ) t' l' f' (chV ch tick site l'.length v) ∧ ∀ x, H x = none → x ≠ 16 * site → applyD H δ x = none := by
  obtain ⟨w1, w2, w3⟩ := hpl
  have hroots : (V.p 0 0 3 0 0 :: cs.map V.c).flatMap (rootOf false) = [(0, 0)] := by
    rw [List.flatMap_cons, roots_c]
    rfl
  have hcw : C.wr f = true := by rw [cWR]; exact hw
  have hco : C.own f = false := by rw [cOW]; exact ho
  rw [callV_wr hcw, hco, hroots]
  have s0 : ¬ 0 = 16 * site := by omega
  have s1 : ¬ 1 = 16 * site := by omega
  obtain ⟨h0, hv⟩ := P
  simp [pO] at h0
  rcases hv with ⟨rfl, rfl, rfl, h1⟩ | ⟨hl, rfl, rfl, h1⟩ | ⟨hl, id, vr, hid, rfl, hi, h1⟩
  · simp [frP, pO] at hc
    cases ch
    · have := hch rfl
      subst this
      simp [endV, pO] at hc
      simp [hco, h0, pass_c, hc, w1, w2, w3]
      refine ⟨⟨by simp [putH_app, pO, chV], .inl ⟨rfl, rfl, rfl, by simp [putH_app, h1]⟩⟩, ?_⟩
      · intro x hx hxs
        have x0 : ¬ x = 0 := by rintro rfl; rw [h0] at hx; cases hx
        simp [x0, hxs, hx]
    · simp [endV, pO] at hc
      simp [hco, h0, pass_c, hc, w1, w2, w3, ndO]
      refine ⟨⟨by simp [putH_app, pO, chV, s0], .inr (.inr ⟨hne rfl, 16 * site, tick, by omega, by simp [chV], by simp [putH_app, ndO], by simp [putH_app, s1, h1]⟩)⟩, ?_⟩
      · intro x hx hxs
        have x0 : ¬ x = 0 := by rintro rfl; rw [h0] at hx; cases hx
        simp [x0, hxs, hx]
  · simp [frP, pO, hl, ndO] at hc h1
    cases ch
    · have := hch rfl
      subst this
      simp [endV, pO, hl, ndO] at hc
      simp [hco, h0, h1, pass_c, hc, w1, w2, w3, ndO]
      refine ⟨⟨by simp [putH_app, pO, chV], .inr (.inl ⟨hl, rfl, rfl, by simp [putH_app, ndO]⟩)⟩, ?_⟩
      · intro x hx hxs
        have x0 : ¬ x = 0 := by rintro rfl; rw [h0] at hx; cases hx
        have x1 : ¬ x = 1 := by rintro rfl; rw [h1] at hx; cases hx
        simp [x0, hxs, x1, hx]
    · simp [endV, pO, hl, ndO] at hc
      simp [hco, h0, h1, pass_c, hc, w1, w2, w3, ndO]
      refine ⟨⟨by simp [putH_app, pO, chV, s0], .inr (.inr ⟨hne rfl, 16 * site, tick, by omega, by simp [chV], by simp [putH_app, ndO], by simp [putH_app, s1]⟩)⟩, ?_⟩
      · intro x hx hxs
        have x0 : ¬ x = 0 := by rintro rfl; rw [h0] at hx; cases hx
        have x1 : ¬ x = 1 := by rintro rfl; rw [h1] at hx; cases hx
        simp [x0, hxs, x1, hx]
  · simp [frP, pO, hl, ndO] at hc hi
    have i0 : ¬ id = 0 := by omega
    have i0' : ¬ 0 = id := by omega
    have i1 : ¬ 1 = id := by omega
    cases ch
    · have := hch rfl
      subst this
      simp [endV, pO, hl, ndO] at hc
      simp [hco, h0, hi, i0, i0', pass_c, hc, w1, w2, w3, ndO]
      refine ⟨⟨by simp [putH_app, pO, chV, i0'], .inr (.inr ⟨hl, id, vr, hid, by simp [chV], by simp [putH_app, ndO], by simp [putH_app, i1, h1]⟩)⟩, ?_⟩
      · intro x hx hxs
        have x0 : ¬ x = 0 := by rintro rfl; rw [h0] at hx; cases hx
        have xi : ¬ x = id := by rintro rfl; rw [hi] at hx; cases hx
        simp [x0, hxs, xi, hx]
    · simp [endV, pO, hl, ndO] at hc
      simp [hco, h0, hi, i0, i0', pass_c, hc, w1, w2, w3, ndO]
      refine ⟨⟨by simp [putH_app, pO, chV, s0, i0'], .inr (.inr ⟨hne rfl, 16 * site, tick, by omega, by simp [chV], by simp [putH_app, ndO], by simp [putH_app, s1, i1, h1]⟩)⟩, ?_⟩
      · intro x hx hxs
        have x0 : ¬ x = 0 := by rintro rfl; rw [h0] at hx; cases hx
        have xi : ¬ x = id := by rintro rfl; rw [hi] at hx; cases hx
        simp [x0, hxs, xi, hx]
/-- A frame's end. -/
theorem finP {l0 : List (Int × Int)} {H : Hp} {t : List UInt8} {l : List (Int × Int)} {f : Bool} {v : V} (P : PSt l0 H t l f v) {w : V} (hpl : Pl w) : ∃ ch, exportV (if l0 = [] then 1 else 2) w H = endV w l0 l ch t f ∧ (ch = false → l = l0) ∧ (ch = true → l ≠ []) := by
  obtain ⟨w1, w2, w3⟩ := hpl
  obtain ⟨h0, hv⟩ := P
  simp [pO] at h0
  rcases hv with ⟨rfl, rfl, rfl, h1⟩ | ⟨hl, rfl, rfl, h1⟩ | ⟨hl, id, vr, hid, rfl, hi, h1⟩
  · refine ⟨false, ?_, fun _ => rfl, fun h => by cases h⟩
    simp [endV, h0, w1, w3, pO]
  · refine ⟨false, ?_, fun _ => rfl, fun h => by cases h⟩
    simp [ndO] at h1
    simp [endV, h0, h1, w1, w3, pO, hl, ndO]
  · refine ⟨true, ?_, (fun h => by cases h), fun _ => hl⟩
    simp [ndO] at hi
    have i0 : ¬ id = 0 := by omega
    have i1 : ¬ id = 1 := by omega
    have i2 : ¬ id < 2 := by omega
    by_cases hl0 : l0 = []
    · simp [endV, h0, hi, i0, i1, i2, w1, w3, pO, hl0, ndO]
    · simp [endV, h0, h1, hi, i0, i1, i2, w1, w3, pO, hl0, ndO]
/-- The list as it was handed over. -/
def oldV (l0 : List (Int × Int)) : V := if l0 = [] then nilL else .s 1 0 2 0 l0.length
theorem finP0 {l0 : List (Int × Int)} {H : Hp} {t : List UInt8} {l : List (Int × Int)} {f : Bool} (P : PSt l0 H t l f (oldV l0)) {w : V} (hpl : Pl w) : l = l0 ∧ exportV (if l0 = [] then 1 else 2) w H = endV w l0 l0 false t f := by
  obtain ⟨w1, w2, w3⟩ := hpl
  obtain ⟨h0, hv⟩ := P
  rcases hv with ⟨rfl, rfl, e, h1⟩ | ⟨hl, rfl, e, h1⟩ | ⟨hl, id, vr, hid, e, hi, h1⟩
  · simp [pO, oldV] at h0
    refine ⟨rfl, ?_⟩
    simp [endV, h0, w1, w3, pO]
  · simp [pO, oldV, hl] at h0
    refine ⟨rfl, ?_⟩
    simp [ndO] at h1
    simp [endV, h0, h1, w1, w3, pO, hl, ndO]
  · exfalso
    unfold oldV at e
    split at e
    · cases e
    · simp only [V.s.injEq] at e
      omega
/-- What a round of a loop keeps. -/
theorem PSt.gc {l0 : List (Int × Int)} {t : List UInt8} {l : List (Int × Int)} {f : Bool} {v : V} {st : St} (keep : List Nat) (hk : 0 ∈ keep) (q0 : st.ρ 0 = .p 0 0 3 0 0) (P : PSt l0 st.H t l f v) : PSt l0 (Eng.gc keep st).H t l f v := by
  obtain ⟨h0, hv⟩ := P
  have hl : ∀ x, x < 16 → (Eng.gc keep st).H x = st.H x := by
    intro x hx
    rw [gc_H, show decide (x < 16) = true by simpa using hx]
    rfl
  refine ⟨by rw [hl 0 (by omega)]; exact h0, ?_⟩
  rcases hv with ⟨rfl, rfl, e, h1⟩ | ⟨hl', rfl, e, h1⟩ | ⟨hl', id, vr, hid, e, hi, h1⟩
  · exact .inl ⟨rfl, rfl, e, by rw [hl 1 (by omega)]; exact h1⟩
  · exact .inr (.inl ⟨hl', rfl, e, by rw [hl 1 (by omega)]; exact h1⟩)
  · refine .inr (.inr ⟨hl', id, vr, hid, e, ?_, by rw [hl 1 (by omega)]; exact h1⟩)
    have hA : ((0, 0) : Nat × Nat) ∈ keep.flatMap fun t => refs (st.ρ t) := List.mem_flatMap.2 ⟨0, hk, by rw [q0]; simp⟩
    have hB : ((id, vr) : Nat × Nat) ∈ (keep.flatMap fun t => refs (st.ρ t)).flatMap fun x => match find st.H x.1 x.2 with
      | some o => refsO o
      | none => [] := List.mem_flatMap.2 ⟨(0, 0), hA, by simp [h0, pO, e]⟩
    have hC : (keepIds keep st).contains id = true := by
      rw [List.contains_iff_mem]
      unfold keepIds
      exact List.mem_map.2 ⟨(id, vr), List.mem_append.2 (.inr hB), rfl⟩
    rw [gc_H, hC]
    simpa using hi
theorem PSt.same {l0 : List (Int × Int)} {H H' : Hp} {t t' : List UInt8} {l : List (Int × Int)} {f f' : Bool} {v : V} (P : PSt l0 H t l f v) (h0 : H' 0 = some (0, pO t' v f')) (hs : ∀ x, x ≠ 0 → H' x = H x) : PSt l0 H' t' l f' v := by
  obtain ⟨_, hv⟩ := P
  refine ⟨h0, ?_⟩
  rcases hv with ⟨rfl, rfl, e, h1⟩ | ⟨hl', rfl, e, h1⟩ | ⟨hl', id, vr, hid, e, hi, h1⟩
  · exact .inl ⟨rfl, rfl, e, by rw [hs 1 (by omega)]; exact h1⟩
  · exact .inr (.inl ⟨hl', rfl, e, by rw [hs 1 (by omega)]; exact h1⟩)
  · exact .inr (.inr ⟨hl', id, vr, hid, e, by rw [hs id (by omega)]; exact hi, by rw [hs 1 (by omega)]; exact h1⟩)
theorem frP_len (t : List UInt8) (l : List (Int × Int)) (f : Bool) : (frP t l f).length = if l = [] then 1 else 2 := by
  unfold frP
  split <;> rfl
/-- A frame's begin. -/
theorem PSt.st0 (t : List UInt8) (l : List (Int × Int)) (f : Bool) (args : List V) : PSt l (Eng.st0 args (frP t l f)).H t l f (oldV l) ∧ ∀ x, 2 ≤ x → (Eng.st0 args (frP t l f)).H x = none := by
  by_cases hl : l = []
  · subst hl
    refine ⟨⟨by simp [frP, oldV], .inl ⟨rfl, rfl, rfl, by simp [frP]⟩⟩, ?_⟩
    intro x hx
    simp [frP, show ¬ x = 0 by omega]
  · refine ⟨⟨by simp [frP, hl, oldV], .inr (.inl ⟨hl, rfl, by simp [oldV, hl], by simp [frP, hl]⟩)⟩, ?_⟩
    intro x hx
    obtain ⟨y, rfl⟩ : ∃ y, x = y + 2 := ⟨x - 2, by omega⟩
    simp [frP, hl]
theorem c_need (k : Nat) (t p : List UInt8) (l : List (Int × Int)) (f : Bool) (hk : 20 ≤ k) : callK C k 73 [.p 0 0 3 0 0, .c (.string (bs p))] (frP t l f) = endV (.tp []) l l false (restP p t) (f || !hasP p t) := by
  obtain ⟨k, rfl⟩ : ∃ m, k = m + 1 := ⟨k - 1, by omega⟩
  rw [callK_fn rfl F73 code73]
  have h := c_take k t p l f (by omega)
  unfold frP endV at h ⊢
  by_cases hl : l = []
  · simp [hl, pO] at h
    cases hh : hasP p t <;> (rw [hh] at h; simp [R73_0, R73_1, Tryz.f73, hl, pO, h])
  · simp [hl, pO, ndO] at h
    cases hh : hasP p t <;> (rw [hh] at h; simp [R73_0, R73_1, Tryz.f73, hl, pO, h, ndO])

end Go.Proofs.YtbjmfjfnilmhhaaGreatDoor.Eng
namespace Go.Proofs.YtbjmfjfnilmhhaaGreatDoor.Eng
open Go Go.Proofs
set_option maxRecDepth 100000
set_option maxHeartbeats 2000000
set_option linter.unusedSimpArgs false
set_option linter.unusedVariables false
attribute [local simp] finK fin1 hpOf xi renQ isRoot runCode runOps stepX inlOf Eng.step wantedV astep val ofO made loadV storeV find V.cells bin binT binA numT numFs eqCells un1 setAt fieldAddrV fieldV indexAddrV indexV bounds sliceV convV lenV foldV max2V min2V callO bor rdsO wrsO seen_none okD_none loops keepIds resV resultsV St.ev TK.agg refs refsL refsO V.one V.isC Value.oneCell' ren renL renO noTag noTagL noTagR noTagO nodup mapO passV frs psi refsR newD loopNext opsAt idx flatAt rootOf backR newsV appendV copyV clearV strV bytesV bldV bufV selfV bytesOf nilCmp buildV fillF chunk freeL frzW cellSame sameV
attribute [local simp] cT cF cX cWR cOW cK cBL X ints_length ints_get ints_getElem ints_drop ints_take ints_append ints_nil ints_set
attribute [local simp] ints_replicate
attribute [local simp] putV_some putV_none putH_app applyD_nil applyD_cons seen_app gc_ρ gc_H gc_tick st0_ρ st0_H st0_tick retV callRo callV_if borL_nil borL_cons ints_snoc take_self callWr cutH_app findQ afterV exportV_0 exportV_n okD_nil okD_cons sub_seq0 sub_seq1 sub_cond0 sub_cond1 sub_block sub_loop sub_nil young_far young_none hidW_nil mayW_nil keepsF_nil keepsF_cons pairs okI ok_0 ok_1 ok_2
attribute [local simp] T3 T4 T5 T9 T22 T24 T33 T36 T38 T45 T48 T51 T52 T54 T56 T71 T72 T74 T77 T99 T104 T117 T121
attribute [local simp] young_near clo cloF Region.binds Nat.testBit hidW declW mayW List.findIdx?_cons
/-- The digits ahead. -/
theorem dig_facts (t : List UInt8) : ∃ m, m ≤ t.length ∧ t.takeWhile isD = t.take m ∧ t.dropWhile isD = t.drop m ∧ (∀ i (h : i < t.length), i < m → 48 ≤ t[i].toNat ∧ t[i].toNat ≤ 57) ∧ (∀ h : m < t.length, t[m].toNat < 48 ∨ 57 < t[m].toNat) := by
  induction t with
  | nil => exact ⟨0, by simp, by simp, by simp, by simp, by simp⟩
  | cons a t ih =>
    by_cases ha : isD a = true
    · obtain ⟨m, h1, h2, h3, h4, h5⟩ := ih
      refine ⟨m + 1, by simpa using h1, by simp [List.takeWhile, ha, h2], by simp [List.dropWhile, ha, h3], ?_, ?_⟩
      · intro i hi hm
        cases i with
        | zero => simpa [isD] using ha
        | succ i => simpa using h4 i (by simpa using hi) (by omega)
      · intro h
        simpa using h5 (by simpa using h)
    · refine ⟨0, by simp, by simp [List.takeWhile, ha], by simp [List.dropWhile, ha], by simp, ?_⟩
      intro _
      simp [isD] at ha
      simp only [List.getElem_cons_zero]
      omega
theorem c_number (k : Nat) (t : List UInt8) (l : List (Int × Int)) (f : Bool) (h20 : t.length ≤ 1048576) (hk : t.length + 30 ≤ k) : callK C k 74 [.p 0 0 3 0 0] (frP t l f) = endV (.c (.int .i64 (pV (t.takeWhile isD)))) l l false (t.dropWhile isD) (f || !pB (t.takeWhile isD)) := by
  obtain ⟨k, rfl⟩ : ∃ m, k = m + 9 := ⟨k - 9, by omega⟩
  rw [callK_fn rfl F74 code74]
  obtain ⟨m, m1, m2, m3, m4, m5⟩ := dig_facts t
  have hp := c_implParse (k + 8) (t.take m) (by simp; omega) (by omega)
  rw [m2, m3]
  obtain ⟨P, _⟩ := PSt.st0 t l f [.p 0 0 3 0 0]
  have hL := loopHas (body := fun st => runCode C (callK C (k + 8)) (k + 8) (K 74) L74_0 1 st) (keep := [0, 3]) (.ex 0) (fun st => st.ρ 0 = .p 0 0 3 0 0 ∧ st.ρ 3 = .c (.int .i64 (m : Int)) ∧ PSt l st.H t l f (oldV l))
    (fun i st => st.ρ 0 = .p 0 0 3 0 0 ∧ st.ρ 3 = .c (.int .i64 (i : Int)) ∧ PSt l st.H t l f (oldV l))
    m (k + 8) (by omega)
    (by
      rintro i st next hi ⟨q0, q3, P⟩ hx
      have hit : i < t.length := by omega
      obtain ⟨g1, g2⟩ := m4 i hit hi
      have hb := byteAt_bs hit
      have hwn := wrap_next hit (by omega)
      have c1 : (48 : Int) ≤ ((t[i].toNat : Nat) : Int) := by omega
      have c2 : ((t[i].toNat : Nat) : Int) ≤ 57 := by omega
      have P' := P.gc [0, 3] (by simp) q0
      have h0 := P.h0
      simp [pO] at h0
      simp [L74_0, R74_0, R74_1, R74_2, R74_3, R74_4, R74_5, R74_6, R74_7, Tryz.f74, lpL74_0, lpM74_0, undef, q0, q3, h0, bs_size, hit, hb, c1, c2, hwn]
      exact hx _ ⟨by simp [q0], by simp, P'⟩)
    (by
      rintro st next ⟨q0, q3, P⟩
      have P' := P.gc [0, 3] (by simp) q0
      have h0 := P.h0
      simp [pO] at h0
      by_cases hm : m < t.length
      · have hb := byteAt_bs hm
        rcases m5 hm with g | g
        · have c1 : ¬ (48 : Int) ≤ ((t[m].toNat : Nat) : Int) := by omega
          simp [L74_0, R74_0, R74_1, R74_2, R74_3, R74_4, R74_5, R74_6, R74_7, Tryz.f74, lpL74_0, lpM74_0, undef, q0, q3, h0, bs_size, hm, hb, c1]
          exact P'
        · have c1 : (48 : Int) ≤ ((t[m].toNat : Nat) : Int) := by omega
          have c2 : ¬ ((t[m].toNat : Nat) : Int) ≤ 57 := by omega
          simp [L74_0, R74_0, R74_1, R74_2, R74_3, R74_4, R74_5, R74_6, R74_7, Tryz.f74, lpL74_0, lpM74_0, undef, q0, q3, h0, bs_size, hm, hb, c1, c2]
          exact P'
      · simp [L74_0, R74_0, R74_1, R74_2, R74_3, R74_4, R74_5, R74_6, R74_7, Tryz.f74, lpL74_0, lpM74_0, undef, q0, q3, h0, bs_size, hm]
        exact P')
  rw [frP_len]
  simp [R74_0, R74_1, R74_2, R74_3, R74_4, R74_5, R74_6, R74_7, Tryz.f74, lpL74_0, lpM74_0]
  generalize hr : loopRun _ _ _ _ = res
  obtain ⟨s1, rfl, q0, q3, P1⟩ := loop_at hL hr ⟨by simp, by simp, P⟩
  have h0 := P1.h0
  simp [pO] at h0
  have hmi : (m : Int) ≤ (t.length : Int) := by omega
  have htk : (t.drop m).take (t.length - m) = t.drop m := List.take_of_length_le (by simp)
  cases hf : f <;> cases hb : pB (t.take m) <;> (subst hf; rw [hb] at hp; simp [R74_0, R74_1, R74_2, R74_3, R74_4, R74_5, R74_6, R74_7, Tryz.f74, lpL74_0, lpM74_0, M74_0, q0, q3, h0, bs_size, bs_extract, m1, hmi, hp, htk]; exact (finP0 (P1.same (by simp [putH_app, pO]) (fun x hx => by simp [putH_app, hx])) (Pl.c _)).2)

end Go.Proofs.YtbjmfjfnilmhhaaGreatDoor.Eng
namespace Go.Proofs.YtbjmfjfnilmhhaaGreatDoor.Eng
open Go Go.Proofs
set_option maxRecDepth 100000
set_option maxHeartbeats 2000000
set_option linter.unusedSimpArgs false
set_option linter.unusedVariables false
attribute [local simp] finK fin1 hpOf xi renQ isRoot runCode runOps stepX inlOf Eng.step wantedV astep val ofO made loadV storeV find V.cells bin binT binA numT numFs eqCells un1 setAt fieldAddrV fieldV indexAddrV indexV bounds sliceV convV lenV foldV max2V min2V callO bor rdsO wrsO seen_none okD_none loops keepIds resV resultsV St.ev TK.agg refs refsL refsO V.one V.isC Value.oneCell' ren renL renO noTag noTagL noTagR noTagO nodup mapO passV frs psi refsR newD loopNext opsAt idx flatAt rootOf backR newsV appendV copyV clearV strV bytesV bldV bufV selfV bytesOf nilCmp buildV fillF chunk freeL frzW cellSame sameV
attribute [local simp] cT cF cX cWR cOW cK cBL X ints_length ints_get ints_getElem ints_drop ints_take ints_append ints_nil ints_set
attribute [local simp] ints_replicate
attribute [local simp] putV_some putV_none putH_app applyD_nil applyD_cons seen_app gc_ρ gc_H gc_tick st0_ρ st0_H st0_tick retV callRo callV_if borL_nil borL_cons ints_snoc take_self callWr cutH_app findQ afterV exportV_0 exportV_n okD_nil okD_cons sub_seq0 sub_seq1 sub_cond0 sub_cond1 sub_block sub_loop sub_nil young_far young_none hidW_nil mayW_nil keepsF_nil keepsF_cons pairs okI ok_0 ok_1 ok_2
attribute [local simp] T3 T4 T5 T9 T22 T24 T33 T36 T38 T45 T48 T51 T52 T54 T56 T71 T72 T74 T77 T99 T104 T117 T121
attribute [local simp] young_near clo cloF Region.binds Nat.testBit hidW declW mayW List.findIdx?_cons
/-- What a part of the parser does, as the model says. -/
structure OutP (e : Nat) (r : Option (List (Int × Int) × List UInt8)) (t : List UInt8) (l : List (Int × Int)) (t' : List UInt8) (l' : List (Int × Int)) (f' : Bool) : Prop where
  ok : ∀ q u, r = some (q, u) → f' = false ∧ t' = u ∧ l' = l ++ q
  no : r = none → f' = true
  len : t'.length ≤ t.length
  sz : l'.length + t'.length ≤ l.length + t.length + e + (if f' = true then 1 else 0)
/-- A call's end. -/
def EndOk (e : Nat) (r : Option (List (Int × Int) × List UInt8)) (t : List UInt8) (l : List (Int × Int)) (res : Option (V × Hp)) : Prop := ∃ t' l' f' ch, res = endV (.tp []) l l' ch t' f' ∧ (ch = false → l' = l) ∧ (ch = true → l' ≠ []) ∧ OutP e r t l t' l' f'
def CtrT (f : FuncId) (a : List Value) (e n : Nat) (p : List UInt8 → Option (List (Int × Int) × List UInt8)) (need : Nat) : Prop := ∀ k t l, 30 * n + 1000 ≤ k → 3 * t.length + need ≤ n → t.length ≤ 450 → l.length + t.length ≤ 1000 → EndOk e (p t) t l (callK C k f (.p 0 0 3 0 0 :: a.map V.c) (frP t l false))
theorem EndOk.of {e : Nat} {r : Option (List (Int × Int) × List UInt8)} {t : List UInt8} {l : List (Int × Int)} {H : Hp} {t' : List UInt8} {l' : List (Int × Int)} {f' : Bool} {v : V} (P : PSt l H t' l' f' v) (o : OutP e r t l t' l' f') : EndOk e r t l (exportV (if l = [] then 1 else 2) (.tp []) H) := by
  obtain ⟨ch, q1, q2, q3⟩ := finP P Pl.tp
  exact ⟨_, _, _, ch, q1, q2, q3, o⟩
/-- .. from a state that may have failed. -/
def AnyS (f : FuncId) (e n : Nat) (p : List UInt8 → Option (List (Int × Int) × List UInt8)) (need : Nat) : Prop := ∀ k t l b, 30 * n + 1000 ≤ k → 3 * t.length + need ≤ n → t.length ≤ 450 → (b = false → l.length + t.length ≤ 1000) →
  ∃ t' l' f' ch, callK C k f [.p 0 0 3 0 0] (frP t l b) = endV (.tp []) l l' ch t' f' ∧ (ch = false → l' = l) ∧ (ch = true → l' ≠ []) ∧ (b = true → t' = t ∧ l' = l ∧ f' = true) ∧ (b = false → OutP e (p t) t l t' l' f')
theorem failT (k : Nat) (t : List UInt8) (l : List (Int × Int)) (hk : 50 ≤ k) : callK C k 42 [.p 0 0 3 0 0] (frP t l true) = endV (.tp []) l l false t true := by
  obtain ⟨k, rfl⟩ : ∃ m, k = m + 9 := ⟨k - 9, by omega⟩
  rw [callK_fn rfl F42 code42]
  obtain ⟨P, _⟩ := PSt.st0 t l true [.p 0 0 3 0 0]
  rw [frP_len]
  have hst : (Eng.st0 [.p 0 0 3 0 0] (frP t l true)).ρ 0 = .p 0 0 3 0 0 := rfl
  generalize Eng.st0 [.p 0 0 3 0 0] (frP t l true) = st at P hst ⊢
  have h0 := P.h0
  simp [pO] at h0
  simp [R42_0, R42_1, R42_2, R42_3, R42_4, R42_5, R42_6, R42_7, R42_8, R42_9, R42_10, R42_11, R42_12, R42_13, R42_14, R42_15, R42_16, R42_17, Tryz.f42, hst, h0]
  exact (finP0 (P.same (by simp [putH_app, pO]) (fun x hx => by simp [putH_app, hx])) Pl.tp).2
/-- The loop of a sum that has failed. -/
theorem loopF (k kk : Nat) {l0 : List (Int × Int)} {t : List UInt8} {l : List (Int × Int)} {v : V} (st : St) (q0 : st.ρ 0 = .p 0 0 3 0 0) (P : PSt l0 st.H t l true v) :
    ∃ s, loopRun (fun st => runCode C (callK C k) k (K 20) L20_0 1 st) [0] (kk + 1) st = some (.ex 0, s) ∧ PSt l0 s.H t l true v := by
  have P' := P.gc [0] (by simp) q0
  have q0' : (Eng.gc [0] st).ρ 0 = .p 0 0 3 0 0 := by simp [q0]
  have h0 := P'.h0
  simp only [loopRun_succ]
  generalize Eng.gc [0] st = s1 at P' q0' h0 ⊢
  simp [pO] at h0
  simp [L20_0, R20_0, R20_1, R20_2, R20_3, R20_4, R20_5, R20_6, R20_7, R20_8, Tryz.f20, lpL20_0, q0', h0]
  exact P'
theorem failS (k : Nat) (t : List UInt8) (l : List (Int × Int)) (hk : 80 ≤ k) : callK C k 20 [.p 0 0 3 0 0] (frP t l true) = endV (.tp []) l l false t true := by
  obtain ⟨k, rfl⟩ : ∃ m, k = m + 9 := ⟨k - 9, by omega⟩
  rw [callK_fn rfl F20 code20]
  obtain ⟨P, _⟩ := PSt.st0 t l true [.p 0 0 3 0 0]
  rw [frP_len]
  have hst : (Eng.st0 [.p 0 0 3 0 0] (frP t l true)).ρ 0 = .p 0 0 3 0 0 := rfl
  generalize Eng.st0 [.p 0 0 3 0 0] (frP t l true) = st at P hst ⊢
  obtain ⟨δ, e1, P1, _⟩ := callP (k + 8) 42 [] rfl rfl P Pl.tp (failT (k + 8) t l (by omega)) (fun _ => rfl) (fun h => by cases h) st.tick 2 (by omega)
  have P1' : PSt l (applyD st.H δ) t l true (oldV l) := P1
  simp only [List.map_nil] at e1
  simp [-callV_if, R20_0, R20_1, R20_2, R20_3, R20_4, R20_5, R20_6, R20_7, R20_8, Tryz.f20, lpL20_0, hst, e1]
  generalize hr : loopRun _ _ _ _ = res
  have hL : ∀ st : St, (st.ρ 0 = .p 0 0 3 0 0 ∧ PSt l st.H t l true (oldV l)) → ∃ s, loopRun (fun st => runCode C (callK C (k + 8)) (k + 8) (K 20) L20_0 1 st) [0] (k + 7 + 1) st = some (.ex 0, s) ∧ PSt l s.H t l true (oldV l) := fun st h => loopF (k + 8) (k + 7) st h.1 h.2
  obtain ⟨s1, rfl, P2⟩ := loop_at hL hr ⟨by simp [hst], by simpa using P1'⟩
  simp
  exact (finP0 P2 Pl.tp).2
theorem anyS_of {n : Nat} (h : CtrT 20 [] 0 n (pS n) 2) : AnyS 20 0 n (pS n) 2 := by
  intro k t l b hk hn ht hl
  cases b
  · obtain ⟨t', l', f', ch, e, a, c, o⟩ := h k t l hk hn ht (hl rfl)
    exact ⟨t', l', f', ch, e, a, c, (fun h => by cases h), fun _ => o⟩
  · exact ⟨t, l, true, false, failS k t l (by omega), fun _ => rfl, (fun h => by cases h), fun _ => ⟨rfl, rfl, rfl⟩, fun h => by cases h⟩
theorem anyT_of {n : Nat} (h : CtrT 42 [] 0 n (pT n) 1) : AnyS 42 0 n (pT n) 1 := by
  intro k t l b hk hn ht hl
  cases b
  · obtain ⟨t', l', f', ch, e, a, c, o⟩ := h k t l hk hn ht (hl rfl)
    exact ⟨t', l', f', ch, e, a, c, (fun h => by cases h), fun _ => o⟩
  · exact ⟨t, l, true, false, failT k t l (by omega), fun _ => rfl, (fun h => by cases h), fun _ => ⟨rfl, rfl, rfl⟩, fun h => by cases h⟩
theorem lt44 : (⟨#[44]⟩ : ByteArray) = bs [44] := rfl
theorem lt41 : (⟨#[41]⟩ : ByteArray) = bs [41] := rfl
theorem lt40 : (⟨#[40]⟩ : ByteArray) = bs [40] := rfl
theorem lt43 : (⟨#[43]⟩ : ByteArray) = bs [43] := rfl
theorem lt45 : (⟨#[45]⟩ : ByteArray) = bs [45] := rfl
theorem ltM : (⟨#[109, 105, 110, 40]⟩ : ByteArray) = bs [109, 105, 110, 40] := rfl
theorem ltX : (⟨#[109, 97, 120, 40]⟩ : ByteArray) = bs [109, 97, 120, 40] := rfl
theorem ltA : (⟨#[97, 98, 111, 118, 101, 40]⟩ : ByteArray) = bs [97, 98, 111, 118, 101, 40] := rfl
theorem hasP_some {p t r : List UInt8} (h : stripL p t = some r) : hasP p t = true ∧ restP p t = r := by simp [hasP, restP, h]
theorem hasP_none {p t : List UInt8} (h : stripL p t = none) : hasP p t = false ∧ restP p t = t := by simp [hasP, restP, h]
theorem ndE_pair (a b : Int) : [V.c (.int .i64 a), V.c (.int .i64 b)] = ndE (a, b) := rfl
theorem ndL_one (q : Int × Int) : [ndE q] = ndL [q] := rfl
theorem ndL_apq (l m : List (Int × Int)) : ndL l ++ ndL m = ndL (l ++ m) := by simp [ndL]
theorem okQ1 (ty : TypeId) (a b : Int) : okObj ⟨ty, 2, true, [[V.c (.int .i64 a), V.c (.int .i64 b)]]⟩ = true := by simp [okObj, V.one, V.isC, Value.oneCell']
theorem okQ2 (ty : TypeId) (l : List (Int × Int)) (a b : Int) : okObj ⟨ty, 2, true, ndL l ++ [[V.c (.int .i64 a), V.c (.int .i64 b)]]⟩ = true := by
  rw [ndE_pair, ndL_one, ndL_apq]
  exact okN ty _
theorem or_f {a b : Bool} (h : (a || b) = false) : a = false := by
  cases a with
  | false => rfl
  | true => cases h
theorem pair_step (n : Nat) (hS : AnyS 20 0 n (pS n) 2) (kind : Int) : CtrT 72 [.int .i64 kind] 1 (n + 1) (pP (n + 1) kind) 3 := by
  intro k t l hk hn ht hl
  obtain ⟨k, rfl⟩ : ∃ m, k = m + 9 := ⟨k - 9, by omega⟩
  rw [callK_fn rfl F72 code72]
  obtain ⟨P, _⟩ := PSt.st0 t l false (.p 0 0 3 0 0 :: List.map V.c [.int .i64 kind])
  rw [frP_len]
  have hst : (Eng.st0 (.p 0 0 3 0 0 :: List.map V.c [.int .i64 kind]) (frP t l false)).ρ 0 = .p 0 0 3 0 0 := rfl
  have hst1 : (Eng.st0 (.p 0 0 3 0 0 :: List.map V.c [.int .i64 kind]) (frP t l false)).ρ 1 = .c (.int .i64 kind) := rfl
  generalize Eng.st0 (.p 0 0 3 0 0 :: List.map V.c [.int .i64 kind]) (frP t l false) = st at P hst hst1 ⊢
  obtain ⟨t1, l1, f1, c1, e1, a1, b1, _, o1⟩ := hS (k + 8) t l false (by omega) (by omega) ht (fun _ => hl)
  have o1 := o1 rfl
  obtain ⟨δ1, d1, P1, _⟩ := callP (k + 8) 20 [] rfl rfl P Pl.tp e1 a1 b1 st.tick 2 (by omega)
  obtain ⟨δ2, d2, P2, _⟩ := callP (k + 8) 73 [.string (bs [44])] rfl rfl P1 Pl.tp (c_need (k + 8) t1 [44] l1 f1 (by omega)) (fun _ => rfl) (fun h => by cases h) (st.tick + 1) 66 (by omega)
  obtain ⟨t2, ht2⟩ : ∃ t2, restP [44] t1 = t2 := ⟨_, rfl⟩
  obtain ⟨f2, hf2⟩ : ∃ f2, (f1 || !hasP [44] t1) = f2 := ⟨_, rfl⟩
  have hlen2 : t2.length ≤ t1.length := by rw [← ht2]; exact restP_len _ _
  rw [ht2, hf2] at P2
  have hl1 := o1.len
  have hsz1 := o1.sz
  obtain ⟨t3, l3, f3, c3, e3, a3, b3, x3, o3⟩ := hS (k + 8) t2 l1 f2 (by omega) (by omega) (by omega) (fun h => by
    rw [or_f (hf2.trans h)] at hsz1
    simp at hsz1
    omega)
  obtain ⟨δ3, d3, P3, _⟩ := callP (k + 8) 20 [] rfl rfl P2 Pl.tp e3 a3 b3 (st.tick + 1 + 1) 130 (by omega)
  obtain ⟨δ4, d4, P4, _⟩ := callP (k + 8) 73 [.string (bs [41])] rfl rfl P3 Pl.tp (c_need (k + 8) t3 [41] l3 f3 (by omega)) (fun _ => rfl) (fun h => by cases h) (st.tick + 1 + 1 + 1) 194 (by omega)
  obtain ⟨t4, ht4⟩ : ∃ t4, restP [41] t3 = t4 := ⟨_, rfl⟩
  obtain ⟨f4, hf4⟩ : ∃ f4, (f3 || !hasP [41] t3) = f4 := ⟨_, rfl⟩
  have hlen4 : t4.length ≤ t3.length := by rw [← ht4]; exact restP_len _ _
  rw [ht4, hf4] at P4
  simp only [List.map_nil, List.map_cons] at d1 d2 d3 d4
  generalize hv4 : chV false (st.tick + 1 + 1 + 1) 194 l3.length (chV c3 (st.tick + 1 + 1) 130 l3.length (chV false (st.tick + 1) 66 l1.length (chV c1 st.tick 2 l1.length (oldV l)))) = v4 at P4
  have hszall : l3.length + t3.length ≤ l.length + t.length + (if f3 = true then 1 else 0) := by
    cases f2
    · have o3 := o3 rfl
      have := o3.sz
      rw [or_f hf2] at hsz1
      simp at hsz1
      omega
    · obtain ⟨y1, y2, y3⟩ := x3 rfl
      rw [y1, y2, y3]
      have : (if f1 = true then 1 else 0) ≤ 1 := by split <;> omega
      simp
      omega
  have hb : l3.length ≤ 1001 := by
    have : (if f3 = true then 1 else 0) ≤ 1 := by split <;> omega
    omega
  have hbb1 : (l3.length + 1) * 16 ≤ 140737488355328 := by omega
  have hbb2 : l3.length + 1 ≤ maxLen := by unfold maxLen; omega
  have hout : OutP 1 (pP (n + 1) kind t) t l t4 (l3 ++ [(kind, 0)]) f4 := by
    have hlen3 : t3.length ≤ t2.length := by
      cases f2
      · exact (o3 rfl).len
      · rw [(x3 rfl).1]
        exact Nat.le_refl _
    have f34 : f3 = true → f4 = true := by
      intro h
      rw [h] at hf4
      exact hf4.symm
    have f23 : f2 = true → f3 = true := fun h => (x3 h).2.2
    have f12 : f1 = true → f2 = true := by
      intro h
      rw [h] at hf2
      exact hf2.symm
    have key : (∀ q u, pP (n + 1) kind t = some (q, u) → f4 = false ∧ t4 = u ∧ l3 ++ [(kind, 0)] = l ++ q) ∧ (pP (n + 1) kind t = none → f4 = true) := by
      unfold pP
      cases h1 : pS n t with
      | none =>
        refine ⟨(fun q u h => by cases h), fun _ => f34 (f23 (f12 (o1.no h1)))⟩
      | some r1 =>
        obtain ⟨m1, u1⟩ := r1
        obtain ⟨y1, y2, y3⟩ := o1.ok m1 u1 h1
        subst y1 y2
        simp only []
        cases h2 : stripL [44] t1 with
        | none =>
          have := (hasP_none h2).1
          rw [this] at hf2
          exact ⟨(fun q u h => by cases h), fun _ => f34 (f23 hf2.symm)⟩
        | some u2 =>
          obtain ⟨z1, z2⟩ := hasP_some h2
          rw [z2] at ht2
          rw [z1] at hf2
          subst ht2
          have hf2' : f2 = false := hf2.symm
          subst hf2'
          have o3' := o3 rfl
          simp only []
          cases h3 : pS n u2 with
          | none => exact ⟨(fun q u h => by cases h), fun _ => f34 (o3'.no h3)⟩
          | some r3 =>
            obtain ⟨m3, u3⟩ := r3
            obtain ⟨y4, y5, y6⟩ := o3'.ok m3 u3 h3
            subst y4 y5
            simp only []
            cases h4 : stripL [41] t3 with
            | none =>
              have := (hasP_none h4).1
              rw [this] at hf4
              exact ⟨(fun q u h => by cases h), fun _ => hf4.symm⟩
            | some u4 =>
              obtain ⟨z3, z4⟩ := hasP_some h4
              rw [z4] at ht4
              rw [z3] at hf4
              refine ⟨fun q u h => ?_, fun h => by cases h⟩
              cases h
              exact ⟨hf4.symm, ht4.symm, by rw [y6, y3]; simp⟩
    refine ⟨key.1, key.2, by omega, ?_⟩
    have : (if f3 = true then 1 else 0) ≤ (if f4 = true then 1 else 0) := by
      cases f3
      · simp
      · rw [f34 rfl]
        simp
    simp only [List.length_append, List.length_cons, List.length_nil]
    omega
  have h0 := P4.h0
  simp [pO] at h0
  rcases P4.hv with ⟨g1, g2, g3, g4⟩ | ⟨g1, g2, g3, g4⟩ | ⟨g1, id, vr, g2, g3, g4, g5⟩
  · rw [g3] at h0
    simp [-callV_if, R72_0, R72_1, R72_2, R72_3, R72_4, Tryz.f72, hst, hst1, lt44, lt41, d1, d2, d3, d4, h0, okQ1, maxLen]
    subst g1
    exact EndOk.of (v := .s 4248 (st.tick + 1 + 1 + 1 + 1) 2 0 1) ⟨by simp [putH_app, pO], .inr (.inr ⟨by simp, 4248, st.tick + 1 + 1 + 1 + 1, by omega, by simp, by simp [putH_app, ndO, ndL, ndE], by simp [putH_app, g4]⟩)⟩ hout
  · rw [g3] at h0
    simp [ndO] at g4
    simp [-callV_if, R72_0, R72_1, R72_2, R72_3, R72_4, Tryz.f72, hst, hst1, lt44, lt41, d1, d2, d3, d4, h0, g4, okQ1, okQ2, hbb1, hbb2, ndL_length, ndL_take]
    exact EndOk.of (v := .s 4248 (st.tick + 1 + 1 + 1 + 1) 2 0 (l3.length + 1)) ⟨by simp [putH_app, pO], .inr (.inr ⟨by simp, 4248, st.tick + 1 + 1 + 1 + 1, by omega, by simp, by simp [putH_app, ndO, ndL, ndE], by simp [putH_app]⟩)⟩ hout
  · rw [g3] at h0 hv4
    have hid : id = 2080 ∨ id = 32 := by
      cases c3 <;> cases c1 <;> simp [chV] at hv4
      · exfalso
        unfold oldV at hv4
        split at hv4
        · cases hv4
        · simp only [V.s.injEq] at hv4
          omega
      · omega
      · omega
      · omega
    have n1 : ¬ id = 4224 := by omega
    have n2 : ¬ 4248 = id := by omega
    have n3 : ¬ 0 = id := by omega
    have n4 : ¬ 1 = id := by omega
    have n5 : ¬ id = 4248 := by omega
    simp [ndO] at g4
    simp [-callV_if, R72_0, R72_1, R72_2, R72_3, R72_4, Tryz.f72, hst, hst1, lt44, lt41, d1, d2, d3, d4, h0, g4, n1, n2, n3, okQ1, okQ2, hbb1, hbb2, ndL_length, ndL_take]
    exact EndOk.of (v := .s 4248 (st.tick + 1 + 1 + 1 + 1) 2 0 (l3.length + 1)) ⟨by simp [putH_app, pO, n3], .inr (.inr ⟨by simp, 4248, st.tick + 1 + 1 + 1 + 1, by omega, by simp, by simp [putH_app, ndO, ndL, ndE], by simp [putH_app, n4, g5]⟩)⟩ hout

end Go.Proofs.YtbjmfjfnilmhhaaGreatDoor.Eng
namespace Go.Proofs.YtbjmfjfnilmhhaaGreatDoor.Eng
open Go Go.Proofs
set_option maxRecDepth 100000
set_option maxHeartbeats 2000000
set_option linter.unusedSimpArgs false
set_option linter.unusedVariables false
attribute [local simp] finK fin1 hpOf xi renQ isRoot runCode runOps stepX inlOf Eng.step wantedV astep val ofO made loadV storeV find V.cells bin binT binA numT numFs eqCells un1 setAt fieldAddrV fieldV indexAddrV indexV bounds sliceV convV lenV foldV max2V min2V callO bor rdsO wrsO seen_none okD_none loops keepIds resV resultsV St.ev TK.agg refs refsL refsO V.one V.isC Value.oneCell' ren renL renO noTag noTagL noTagR noTagO nodup mapO passV frs psi refsR newD loopNext opsAt idx flatAt rootOf backR newsV appendV copyV clearV strV bytesV bldV bufV selfV bytesOf nilCmp buildV fillF chunk freeL frzW cellSame sameV
attribute [local simp] cT cF cX cWR cOW cK cBL X ints_length ints_get ints_getElem ints_drop ints_take ints_append ints_nil ints_set
attribute [local simp] ints_replicate
attribute [local simp] putV_some putV_none putH_app applyD_nil applyD_cons seen_app gc_ρ gc_H gc_tick st0_ρ st0_H st0_tick retV callRo callV_if borL_nil borL_cons ints_snoc take_self callWr cutH_app findQ afterV exportV_0 exportV_n okD_nil okD_cons sub_seq0 sub_seq1 sub_cond0 sub_cond1 sub_block sub_loop sub_nil young_far young_none hidW_nil mayW_nil keepsF_nil keepsF_cons pairs okI ok_0 ok_1 ok_2
attribute [local simp] T3 T4 T5 T9 T22 T24 T33 T36 T38 T45 T48 T51 T52 T54 T56 T71 T72 T74 T77 T99 T104 T117 T121
attribute [local simp] young_near clo cloF Region.binds Nat.testBit hidW declW mayW List.findIdx?_cons
def Vok (x : Nat) (v : V) : Prop := ∀ id vr n, v = .s id vr 2 0 n → id ≠ x
theorem Vok.old (x : Nat) (hx : 2 ≤ x) (l : List (Int × Int)) : Vok x (oldV l) := by
  intro id vr n e
  unfold oldV at e
  split at e
  · cases e
  · simp only [V.s.injEq] at e
    omega
theorem Vok.ch {x : Nat} {v : V} (h : Vok x v) (ch : Bool) (tick site n : Nat) (hs : 16 * site ≠ x) : Vok x (chV ch tick site n v) := by
  intro id vr m e
  cases ch
  · exact h id vr m e
  · simp only [chV, if_true, V.s.injEq] at e
    omega
theorem sum_end (k : Nat) {l0 : List (Int × Int)} {t : List UInt8} {L : List (Int × Int)} {v : V} (hk : 1000 ≤ k) (st : St) (q0 : st.ρ 0 = .p 0 0 3 0 0) (P : PSt l0 st.H t L false v) (h1 : stripL [43] t = none) (h2 : stripL [45] t = none) :
    ∃ s, runCode C (callK C k) k (K 20) L20_0 1 st = some (.ret, s) ∧ PSt l0 s.H t L false v := by
  obtain ⟨p1, p2⟩ := hasP_none h1
  obtain ⟨p3, p4⟩ := hasP_none h2
  obtain ⟨δ1, d1, P1, _⟩ := callP k 43 [.string (bs [43])] rfl rfl P (Pl.c _) (c_take k t [43] L false (by omega)) (fun _ => rfl) (fun h => by cases h) (st.tick + 1 + 1) 194 (by omega)
  rw [p2] at P1
  obtain ⟨δ2, d2, P2, _⟩ := callP k 43 [.string (bs [45])] rfl rfl P1 (Pl.c _) (c_take k t [45] L false (by omega)) (fun _ => rfl) (fun h => by cases h) (st.tick + 1 + 1 + 1) 322 (by omega)
  rw [p4] at P2
  rw [p1] at d1
  rw [p3] at d2
  simp only [List.map_nil, List.map_cons] at d1 d2
  have h0 := P.h0
  simp [pO] at h0
  simp [-callV_if, L20_0, R20_0, R20_1, R20_2, R20_3, R20_4, R20_5, R20_6, R20_7, R20_8, Tryz.f20, lpL20_0, q0, h0, lt43, lt45, d1, d2]
  exact P2
def RndOk (n : Nat) (kind : Int) (r : List UInt8) (L l0 : List (Int × Int)) (s : St) : Prop := s.ρ 0 = .p 0 0 3 0 0 ∧ ∃ t' l' f' v', PSt l0 s.H t' (l' ++ [(kind, 0)]) f' v' ∧ Vok 8320 v' ∧ OutP 0 (pT n r) r L t' l' f'
theorem RndOk.mk {n : Nat} {kind : Int} {r : List UInt8} {L l0 : List (Int × Int)} {s : St} {t' : List UInt8} {l' : List (Int × Int)} {f' : Bool} (tk : Nat) (q0 : s.ρ 0 = .p 0 0 3 0 0) (h0 : s.H 0 = some (0, pO t' (.s 8344 tk 2 0 (l'.length + 1)) f')) (hi : s.H 8344 = some (tk, ndO (l' ++ [(kind, 0)]))) (h1 : s.H 1 = none) (o : OutP 0 (pT n r) r L t' l' f') : RndOk n kind r L l0 s :=
  ⟨q0, t', l', f', .s 8344 tk 2 0 (l'.length + 1), ⟨h0, .inr (.inr ⟨by simp, 8344, tk, by omega, by simp, hi, h1⟩)⟩, (fun id vr m e => by simp only [V.s.injEq] at e; omega), o⟩
theorem sum_round (k n : Nat) (hT : AnyS 42 0 n (pT n) 1) {l0 : List (Int × Int)} {t r : List UInt8} {L : List (Int × Int)} {v : V} (hk : 30 * n + 1000 ≤ k) (st : St) (q0 : st.ρ 0 = .p 0 0 3 0 0) (P : PSt l0 st.H t L false v) (hv : Vok 8320 v) (kind : Int)
    (hs : (kind = 3 ∧ stripL [43] t = some r) ∨ (kind = 4 ∧ stripL [43] t = none ∧ stripL [45] t = some r)) (hn : 3 * r.length + 1 ≤ n) (ht : r.length ≤ 450) (hl : L.length + r.length ≤ 1000) :
    ∃ s, runCode C (callK C k) k (K 20) L20_0 1 st = some (.nrm, s) ∧ RndOk n kind r L l0 s := by
  obtain ⟨t1, l1, f1, c1, e1, a1, b1, _, o1⟩ := hT k r L false hk hn ht (fun _ => hl)
  have o1 := o1 rfl
  have hsz := o1.sz
  have hb : l1.length ≤ 1001 := by
    have : (if f1 = true then 1 else 0) ≤ 1 := by split <;> omega
    omega
  have hbb1 : (l1.length + 1) * 16 ≤ 140737488355328 := by omega
  have hbb2 : l1.length + 1 ≤ maxLen := by unfold maxLen; omega
  have h0 := P.h0
  simp [pO] at h0
  rcases hs with ⟨rfl, h1⟩ | ⟨rfl, h1, h2⟩
  · obtain ⟨p1, p2⟩ := hasP_some h1
    obtain ⟨δ1, d1, P1, _⟩ := callP k 43 [.string (bs [43])] rfl rfl P (Pl.c _) (c_take k t [43] L false (by omega)) (fun _ => rfl) (fun h => by cases h) (st.tick + 1 + 1) 194 (by omega)
    rw [p2] at P1
    rw [p1] at d1
    obtain ⟨δ2, d2, P2, _⟩ := callP k 42 [] rfl rfl P1 Pl.tp e1 a1 b1 (st.tick + 1 + 1 + 1 + 1) 450 (by omega)
    simp only [List.map_nil, List.map_cons] at d1 d2
    have hv2 : Vok 8320 (chV c1 (st.tick + 1 + 1 + 1 + 1) 450 l1.length (chV false (st.tick + 1 + 1) 194 L.length v)) := (hv.ch false _ _ _ (by omega)).ch c1 _ _ _ (by omega)
    generalize chV c1 (st.tick + 1 + 1 + 1 + 1) 450 l1.length (chV false (st.tick + 1 + 1) 194 L.length v) = v2 at P2 hv2
    have h02 := P2.h0
    simp [pO] at h02
    rcases P2.hv with ⟨g1, g2, g3, g4⟩ | ⟨g1, g2, g3, g4⟩ | ⟨g1, id, vr, g2, g3, g4, g5⟩
    · rw [g3] at h02
      simp [-callV_if, L20_0, R20_0, R20_1, R20_2, R20_3, R20_4, R20_5, R20_6, R20_7, R20_8, Tryz.f20, lpL20_0, q0, h0, lt43, lt45, d1, d2, h02, okQ1, maxLen]
      subst g1
      exact RndOk.mk (st.tick + 1 + 1 + 1 + 1 + 1) (by simp [q0]) (by simp [putH_app, pO]) (by simp [putH_app, ndO, ndL, ndE]) (by simp [putH_app, g4]) o1
    · rw [g3] at h02
      simp [ndO] at g4
      simp [-callV_if, L20_0, R20_0, R20_1, R20_2, R20_3, R20_4, R20_5, R20_6, R20_7, R20_8, Tryz.f20, lpL20_0, q0, h0, lt43, lt45, d1, d2, h02, g4, okQ1, okQ2, hbb1, hbb2, ndL_length, ndL_take]
      exact RndOk.mk (st.tick + 1 + 1 + 1 + 1 + 1) (by simp [q0]) (by simp [putH_app, pO]) (by simp [putH_app, ndO, ndL, ndE]) (by simp [putH_app]) o1
    · rw [g3] at h02
      have n1 : ¬ id = 8320 := hv2 id vr l1.length g3
      have n3 : ¬ 0 = id := by omega
      have n4 : ¬ 1 = id := by omega
      simp [ndO] at g4
      simp [-callV_if, L20_0, R20_0, R20_1, R20_2, R20_3, R20_4, R20_5, R20_6, R20_7, R20_8, Tryz.f20, lpL20_0, q0, h0, lt43, lt45, d1, d2, h02, g4, n1, n3, okQ1, okQ2, hbb1, hbb2, ndL_length, ndL_take]
      exact RndOk.mk (st.tick + 1 + 1 + 1 + 1 + 1) (by simp [q0]) (by simp [putH_app, pO]) (by simp [putH_app, ndO, ndL, ndE]) (by simp [putH_app, n4, g5]) o1
  · obtain ⟨p1, p2⟩ := hasP_none h1
    obtain ⟨p3, p4⟩ := hasP_some h2
    obtain ⟨δ0, d0, P0, _⟩ := callP k 43 [.string (bs [43])] rfl rfl P (Pl.c _) (c_take k t [43] L false (by omega)) (fun _ => rfl) (fun h => by cases h) (st.tick + 1 + 1) 194 (by omega)
    rw [p2] at P0
    rw [p1] at d0
    obtain ⟨δ1, d1, P1, _⟩ := callP k 43 [.string (bs [45])] rfl rfl P0 (Pl.c _) (c_take k t [45] L false (by omega)) (fun _ => rfl) (fun h => by cases h) (st.tick + 1 + 1 + 1) 322 (by omega)
    rw [p4] at P1
    rw [p3] at d1
    obtain ⟨δ2, d2, P2, _⟩ := callP k 42 [] rfl rfl P1 Pl.tp e1 a1 b1 (st.tick + 1 + 1 + 1 + 1 + 1) 450 (by omega)
    simp only [List.map_nil, List.map_cons] at d0 d1 d2
    have hv2 : Vok 8320 (chV c1 (st.tick + 1 + 1 + 1 + 1 + 1) 450 l1.length (chV false (st.tick + 1 + 1 + 1) 322 L.length (chV false (st.tick + 1 + 1) 194 L.length v))) := ((hv.ch false _ _ _ (by omega)).ch false _ _ _ (by omega)).ch c1 _ _ _ (by omega)
    generalize chV c1 (st.tick + 1 + 1 + 1 + 1 + 1) 450 l1.length (chV false (st.tick + 1 + 1 + 1) 322 L.length (chV false (st.tick + 1 + 1) 194 L.length v)) = v2 at P2 hv2
    have h02 := P2.h0
    simp [pO] at h02
    rcases P2.hv with ⟨g1, g2, g3, g4⟩ | ⟨g1, g2, g3, g4⟩ | ⟨g1, id, vr, g2, g3, g4, g5⟩
    · rw [g3] at h02
      simp [-callV_if, L20_0, R20_0, R20_1, R20_2, R20_3, R20_4, R20_5, R20_6, R20_7, R20_8, Tryz.f20, lpL20_0, q0, h0, lt43, lt45, d0, d1, d2, h02, okQ1, maxLen]
      subst g1
      exact RndOk.mk (st.tick + 1 + 1 + 1 + 1 + 1 + 1) (by simp [q0]) (by simp [putH_app, pO]) (by simp [putH_app, ndO, ndL, ndE]) (by simp [putH_app, g4]) o1
    · rw [g3] at h02
      simp [ndO] at g4
      simp [-callV_if, L20_0, R20_0, R20_1, R20_2, R20_3, R20_4, R20_5, R20_6, R20_7, R20_8, Tryz.f20, lpL20_0, q0, h0, lt43, lt45, d0, d1, d2, h02, g4, okQ1, okQ2, hbb1, hbb2, ndL_length, ndL_take]
      exact RndOk.mk (st.tick + 1 + 1 + 1 + 1 + 1 + 1) (by simp [q0]) (by simp [putH_app, pO]) (by simp [putH_app, ndO, ndL, ndE]) (by simp [putH_app]) o1
    · rw [g3] at h02
      have n1 : ¬ id = 8320 := hv2 id vr l1.length g3
      have n3 : ¬ 0 = id := by omega
      have n4 : ¬ 1 = id := by omega
      simp [ndO] at g4
      simp [-callV_if, L20_0, R20_0, R20_1, R20_2, R20_3, R20_4, R20_5, R20_6, R20_7, R20_8, Tryz.f20, lpL20_0, q0, h0, lt43, lt45, d0, d1, d2, h02, g4, n1, n3, okQ1, okQ2, hbb1, hbb2, ndL_length, ndL_take]
      exact RndOk.mk (st.tick + 1 + 1 + 1 + 1 + 1 + 1) (by simp [q0]) (by simp [putH_app, pO]) (by simp [putH_app, ndO, ndL, ndE]) (by simp [putH_app, n4, g5]) o1
/-- What the loop of a sum ends with. -/
def LpOk (n : Nat) (q L0 : List (Int × Int)) (t : List UInt8) (l0 : List (Int × Int)) (s : St) : Prop := ∃ t' l' f' v', PSt l0 s.H t' l' f' v' ∧ (∀ q' u, pL n q t = some (q', u) → f' = false ∧ t' = u ∧ l' = L0 ++ q') ∧ (pL n q t = none → f' = true) ∧ t'.length ≤ t.length ∧ l'.length + t'.length ≤ (L0 ++ q).length + t.length + (if f' = true then 1 else 0)
theorem pL_plus (n : Nat) (q : List (Int × Int)) (t r : List UInt8) (h : stripL [43] t = some r) : pL (n + 1) q t = match pT n r with
  | none => none
  | some (l2, r2) => pL n (q ++ l2 ++ [(3, 0)]) r2 := by
  conv => lhs; unfold pL
  rw [h]
  all_goals (simp only []; cases pT n r <;> rfl)
theorem pL_minus (n : Nat) (q : List (Int × Int)) (t r : List UInt8) (h : stripL [43] t = none) (h2 : stripL [45] t = some r) : pL (n + 1) q t = match pT n r with
  | none => none
  | some (l2, r2) => pL n (q ++ l2 ++ [(4, 0)]) r2 := by
  conv => lhs; unfold pL
  rw [h, h2]
  all_goals (simp only []; cases pT n r <;> rfl)
theorem pL_end (n : Nat) (q : List (Int × Int)) (t : List UInt8) (h : stripL [43] t = none) (h2 : stripL [45] t = none) : pL (n + 1) q t = some (q, t) := by
  unfold pL
  rw [h, h2]
theorem loop_ok : ∀ n, (∀ m, m < n → AnyS 42 0 m (pT m) 1) → ∀ k kk, 30 * n + 1000 ≤ k → n + 1 ≤ kk → ∀ (st : St) (l0 : List (Int × Int)) (t : List UInt8) (L0 q : List (Int × Int)) (v : V), st.ρ 0 = .p 0 0 3 0 0 → PSt l0 st.H t (L0 ++ q) false v → Vok 8320 v → 3 * t.length + 1 ≤ n → t.length ≤ 450 → (L0 ++ q).length + t.length ≤ 1000 →
    ∃ e s, loopRun (fun st => runCode C (callK C k) k (K 20) L20_0 1 st) [0] kk st = some (e, s) ∧ (e = .ret ∨ e = .ex 0) ∧ LpOk n q L0 t l0 s := by
  intro n
  induction n with
  | zero => intro _ k kk _ _ st l0 t L0 q v _ _ _ hn; omega
  | succ n ih =>
    intro hT k kk hk hkk st l0 t L0 q v q0 P hv hn ht hl
    obtain ⟨kk, rfl⟩ : ∃ m, kk = m + 1 := ⟨kk - 1, by omega⟩
    have hc : (L0 ++ q).length = L0.length + q.length := by simp
    have P' := P.gc [0] (by simp) q0
    have q0' : (Eng.gc [0] st).ρ 0 = .p 0 0 3 0 0 := by simp [q0]
    have round : ∀ (kind : Int) (r : List UInt8), ((kind = 3 ∧ stripL [43] t = some r) ∨ (kind = 4 ∧ stripL [43] t = none ∧ stripL [45] t = some r)) → r.length + 1 = t.length → (pL (n + 1) q t = match pT n r with
        | none => none
        | some (l2, r2) => pL n (q ++ l2 ++ [(kind, 0)]) r2) →
        ∃ e s, loopRun (fun st => runCode C (callK C k) k (K 20) L20_0 1 st) [0] (kk + 1) st = some (e, s) ∧ (e = .ret ∨ e = .ex 0) ∧ LpOk (n + 1) q L0 t l0 s := by
      intro kind r hs hrl hpL
      obtain ⟨s1, e1, q1, t1, l1, f1, v1, P1, hv1, o1⟩ := sum_round k n (hT n (by omega)) (by omega) (Eng.gc [0] st) q0' P' hv kind hs (by omega) (by omega) (by omega)
      have o1len := o1.len
      have o1sz := o1.sz
      rw [loopRun_succ]
      simp only [e1, loopNext]
      cases f1
      · simp at o1sz
        cases hp : pT n r with
        | none => have := o1.no hp; cases this
        | some x =>
          obtain ⟨l2, r2⟩ := x
          obtain ⟨_, y2, y3⟩ := o1.ok l2 r2 hp
          subst y2
          rw [hp] at hpL
          simp only [] at hpL
          have hlist : l1 ++ [(kind, 0)] = L0 ++ (q ++ l2 ++ [(kind, 0)]) := by rw [y3]; simp
          rw [hlist] at P1
          have hlen : (L0 ++ (q ++ l2 ++ [(kind, 0)])).length = l1.length + 1 := by rw [← hlist]; simp
          obtain ⟨e, s, g1, g2, t', l', f', v', g3, g4, g5, g6, g7⟩ := ih (fun m hm => hT m (by omega)) k kk (by omega) (by omega) s1 l0 t1 L0 (q ++ l2 ++ [(kind, 0)]) v1 q1 P1 hv1 (by omega) (by omega) (by rw [hlen]; simp at hl; omega)
          refine ⟨e, s, g1, g2, t', l', f', v', g3, ?_, ?_, by omega, ?_⟩
          · rw [hpL]; exact g4
          · rw [hpL]; exact g5
          · rw [hlen] at g7
            omega
      · obtain ⟨kk, rfl⟩ : ∃ m, kk = m + 1 := ⟨kk - 1, by omega⟩
        obtain ⟨s, g1, g2⟩ := loopF k kk s1 q1 P1
        have hpn : pT n r = none := by
          cases hp : pT n r with
          | none => rfl
          | some x => obtain ⟨l2, r2⟩ := x; have := (o1.ok l2 r2 hp).1; cases this
        rw [hpn] at hpL
        simp only [] at hpL
        refine ⟨.ex 0, s, g1, .inr rfl, t1, _, true, v1, g2, ?_, fun _ => rfl, by omega, ?_⟩
        · rw [hpL]; intro _ _ h; cases h
        · simp at o1sz ⊢
          omega
    cases h1 : stripL [43] t with
    | some r =>
      have := strip_some h1
      exact round 3 r (.inl ⟨rfl, h1⟩) (by simp at this; omega) (pL_plus n q t r h1)
    | none =>
      cases h2 : stripL [45] t with
      | some r =>
        have := strip_some h2
        exact round 4 r (.inr ⟨rfl, h1, h2⟩) (by simp at this; omega) (pL_minus n q t r h1 h2)
      | none =>
        obtain ⟨s, e, PP⟩ := sum_end k (by omega) (Eng.gc [0] st) q0' P' h1 h2
        rw [loopRun_succ]
        simp only [e, loopNext]
        refine ⟨.ret, s, rfl, .inl rfl, t, _, false, v, PP, ?_, ?_, Nat.le_refl _, by simp⟩
        · rw [pL_end n q t h1 h2]
          intro q' u h
          cases h
          exact ⟨rfl, rfl, rfl⟩
        · rw [pL_end n q t h1 h2]
          intro h
          cases h
theorem loop_any {LP : St → Option (Ex × St)} {D : St → Prop} {Q : Ex → St → Prop} (h : ∀ st, D st → ∃ e s, LP st = some (e, s) ∧ Q e s) {st : St} {res : Option (Ex × St)} (hr : LP st = res) (hD : D st) : ∃ e s, res = some (e, s) ∧ Q e s := by
  obtain ⟨e, s, h1, h2⟩ := h st hD
  exact ⟨e, s, hr ▸ h1, h2⟩
theorem sum_step (n : Nat) (hT : ∀ m, m ≤ n → CtrT 42 [] 0 m (pT m) 1) : CtrT 20 [] 0 (n + 1) (pS (n + 1)) 2 := by
  intro k t l hk hn ht hl
  obtain ⟨k, rfl⟩ : ∃ m, k = m + 9 := ⟨k - 9, by omega⟩
  rw [callK_fn rfl F20 code20]
  obtain ⟨P, _⟩ := PSt.st0 t l false (.p 0 0 3 0 0 :: List.map V.c [])
  rw [frP_len]
  have hst : (Eng.st0 (.p 0 0 3 0 0 :: List.map V.c []) (frP t l false)).ρ 0 = .p 0 0 3 0 0 := rfl
  generalize Eng.st0 (.p 0 0 3 0 0 :: List.map V.c []) (frP t l false) = st at P hst ⊢
  obtain ⟨t1, l1, f1, c1, e1, a1, b1, o1⟩ := hT n (Nat.le_refl _) (k + 8) t l (by omega) (by omega) ht hl
  obtain ⟨δ1, d1, P1, _⟩ := callP (k + 8) 42 [] rfl rfl P Pl.tp e1 a1 b1 st.tick 2 (by omega)
  simp only [List.map_nil] at d1
  have hv1 : Vok 8320 (chV c1 st.tick 2 l1.length (oldV l)) := (Vok.old 8320 (by omega) l).ch c1 _ _ _ (by omega)
  have o1len := o1.len
  have o1sz := o1.sz
  have hpS : pS (n + 1) t = match pT n t with
    | none => none
    | some (q, r) => pL n q r := by unfold pS; rfl
  simp [-callV_if, R20_0, R20_1, R20_2, R20_3, R20_4, R20_5, R20_6, R20_7, R20_8, Tryz.f20, lpL20_0, hst, d1]
  generalize hr : loopRun _ _ _ _ = res
  cases f1
  · simp at o1sz
    cases hp : pT n t with
    | none => have := o1.no hp; cases this
    | some x =>
      obtain ⟨q, r⟩ := x
      obtain ⟨_, y2, y3⟩ := o1.ok q r hp
      subst y2 y3
      rw [hp] at hpS
      simp only [] at hpS
      have hpl := (p_len n).1 t q t1 hp
      have hL := fun (s0 : St) (hs : s0.ρ 0 = .p 0 0 3 0 0 ∧ PSt l s0.H t1 (l ++ q) false (chV c1 st.tick 2 (l ++ q).length (oldV l))) => loop_ok n (fun m hm => anyT_of (hT m (by omega))) (k + 8) (k + 8) (by omega) (by omega) s0 l t1 l q _ hs.1 hs.2 hv1 (by omega) (by omega) (by simp at o1sz ⊢; omega)
      obtain ⟨e, s1, rfl, g2, t', l', f', v', g3, g4, g5, g6, g7⟩ := loop_any hL hr ⟨by simp [hst], by simpa using P1⟩
      have ho : OutP 0 (pS (n + 1) t) t l t' l' f' := by
        rw [hpS]
        exact ⟨g4, g5, by omega, by simp at g7 o1sz ⊢; omega⟩
      have := EndOk.of g3 ho
      rcases g2 with rfl | rfl <;> simpa using this
  · have hpn : pT n t = none := by
      cases hp : pT n t with
      | none => rfl
      | some x => obtain ⟨l2, r2⟩ := x; have := (o1.ok l2 r2 hp).1; cases this
    rw [hpn] at hpS
    simp only [] at hpS
    have hL : ∀ s0 : St, (s0.ρ 0 = .p 0 0 3 0 0 ∧ PSt l s0.H t1 l1 true (chV c1 st.tick 2 l1.length (oldV l))) → ∃ e s, loopRun (fun st => runCode C (callK C (k + 8)) (k + 8) (K 20) L20_0 1 st) [0] (k + 7 + 1) s0 = some (e, s) ∧ (e = Ex.ex 0 ∧ PSt l s.H t1 l1 true (chV c1 st.tick 2 l1.length (oldV l))) := fun s0 hs => by
      obtain ⟨s, e, h⟩ := loopF (k + 8) (k + 7) s0 hs.1 hs.2
      exact ⟨_, s, e, rfl, h⟩
    obtain ⟨e, s1, rfl, rfl, g3⟩ := loop_any hL hr ⟨by simp [hst], by simpa using P1⟩
    have ho : OutP 0 (pS (n + 1) t) t l t1 l1 true := by
      rw [hpS]
      exact ⟨(fun _ _ h => by cases h), fun _ => rfl, o1len, by simp at o1sz ⊢; omega⟩
    simpa using EndOk.of g3 ho

end Go.Proofs.YtbjmfjfnilmhhaaGreatDoor.Eng
namespace Go.Proofs.YtbjmfjfnilmhhaaGreatDoor.Eng
open Go Go.Proofs
set_option maxRecDepth 100000
set_option maxHeartbeats 2000000
set_option linter.unusedSimpArgs false
set_option linter.unusedVariables false
attribute [local simp] finK fin1 hpOf xi renQ isRoot runCode runOps stepX inlOf Eng.step wantedV astep val ofO made loadV storeV find V.cells bin binT binA numT numFs eqCells un1 setAt fieldAddrV fieldV indexAddrV indexV bounds sliceV convV lenV foldV max2V min2V callO bor rdsO wrsO seen_none okD_none loops keepIds resV resultsV St.ev TK.agg refs refsL refsO V.one V.isC Value.oneCell' ren renL renO noTag noTagL noTagR noTagO nodup mapO passV frs psi refsR newD loopNext opsAt idx flatAt rootOf backR newsV appendV copyV clearV strV bytesV bldV bufV selfV bytesOf nilCmp buildV fillF chunk freeL frzW cellSame sameV
attribute [local simp] cT cF cX cWR cOW cK cBL X ints_length ints_get ints_getElem ints_drop ints_take ints_append ints_nil ints_set
attribute [local simp] ints_replicate
attribute [local simp] putV_some putV_none putH_app applyD_nil applyD_cons seen_app gc_ρ gc_H gc_tick st0_ρ st0_H st0_tick retV callRo callV_if borL_nil borL_cons ints_snoc take_self callWr cutH_app findQ afterV exportV_0 exportV_n okD_nil okD_cons sub_seq0 sub_seq1 sub_cond0 sub_cond1 sub_block sub_loop sub_nil young_far young_none hidW_nil mayW_nil keepsF_nil keepsF_cons pairs okI ok_0 ok_1 ok_2
attribute [local simp] T3 T4 T5 T9 T22 T24 T33 T36 T38 T45 T48 T51 T52 T54 T56 T71 T72 T74 T77 T99 T104 T117 T121
attribute [local simp] young_near clo cloF Region.binds Nat.testBit hidW declW mayW List.findIdx?_cons
noncomputable def tcA : Code := (.seq (.region 10 R42_10 true) (.region 11 R42_11 false))
noncomputable def tcN : Code := (.region 2 R42_2 true)
theorem tcA_is : (.seq (.region 10 R42_10 true) (.region 11 R42_11 false)) = tcA := rfl
theorem tcN_is : (.region 2 R42_2 true) = tcN := rfl
/-- A node with a number is put. -/
def PutOk (x : Int) (l0 : List (Int × Int)) (t : List UInt8) (l : List (Int × Int)) (f : Bool) (s : St) : Prop := s.ρ 0 = .p 0 0 3 0 0 ∧ ∃ v', PSt l0 s.H (t.dropWhile isD) (l ++ [(x, pV (t.takeWhile isD))]) (f || !pB (t.takeWhile isD)) v'
theorem PutOk.mk {x : Int} {l0 : List (Int × Int)} {t : List UInt8} {l : List (Int × Int)} {f : Bool} {s : St} (a tk : Nat) (ha : 16 ≤ a) (q0 : s.ρ 0 = .p 0 0 3 0 0) (h0 : s.H 0 = some (0, pO (t.dropWhile isD) (.s a tk 2 0 (l.length + 1)) (f || !pB (t.takeWhile isD)))) (hi : s.H a = some (tk, ndO (l ++ [(x, pV (t.takeWhile isD))]))) (h1 : s.H 1 = none) : PutOk x l0 t l f s :=
  ⟨q0, .s a tk 2 0 (l.length + 1), ⟨h0, .inr (.inr ⟨by simp, a, tk, ha, by simp, hi, h1⟩)⟩⟩
theorem reg2 (k n : Nat) {l0 : List (Int × Int)} {t : List UInt8} {l : List (Int × Int)} {f : Bool} (st : St) (q0 : st.ρ 0 = .p 0 0 3 0 0) (P : PSt l0 st.H t l f (oldV l0)) (hn : st.H 2192 = none) (h20 : t.length ≤ 450) (hl : l.length ≤ 1001) (hk : 1000 ≤ k) :
    ∃ s, runCode C (callK C k) k (K 42) tcN n st = some (.nrm, s) ∧ PutOk 2 l0 t l f s := by
  have N := c_number k t l f (by omega) (by omega)
  have hbb1 : (l.length + 1) * 16 ≤ 140737488355328 := by omega
  have hbb2 : l.length + 1 ≤ maxLen := by unfold maxLen; omega
  obtain ⟨vn, hvn⟩ : ∃ vn, pV (t.takeWhile isD) = vn := ⟨_, rfl⟩
  obtain ⟨tn, htn⟩ : ∃ tn, t.dropWhile isD = tn := ⟨_, rfl⟩
  obtain ⟨fn, hfn⟩ : ∃ fn, (f || !pB (t.takeWhile isD)) = fn := ⟨_, rfl⟩
  rw [hvn, htn, hfn] at N
  have h0 := P.h0
  simp [pO] at h0
  unfold tcN
  rcases P.hv with ⟨g1, g2, g3, g4⟩ | ⟨g1, g2, g3, g4⟩ | ⟨g1, id, vr, g2, g3, g4, g5⟩
  · rw [g3] at h0
    subst g1
    simp [frP, endV, pO] at N
    simp [R42_0, R42_1, R42_2, R42_3, R42_4, R42_5, R42_6, R42_7, R42_8, R42_9, R42_10, R42_11, R42_12, R42_13, R42_14, R42_15, R42_16, R42_17, Tryz.f42, q0, h0, N, hn, okQ1, maxLen]
    refine PutOk.mk 2216 st.tick (by omega) (by simp [q0]) ?_ ?_ ?_
    · rw [hfn, htn]; simp [putH_app, pO]
    · rw [hvn]; simp [putH_app, ndO, ndL, ndE]
    · simp [putH_app, g4]
  · rw [g3] at h0
    simp [frP, endV, pO, g1, ndO] at N g4
    simp [R42_0, R42_1, R42_2, R42_3, R42_4, R42_5, R42_6, R42_7, R42_8, R42_9, R42_10, R42_11, R42_12, R42_13, R42_14, R42_15, R42_16, R42_17, Tryz.f42, q0, h0, g4, N, hn, okQ1, okQ2, hbb1, hbb2, ndL_length, ndL_take]
    refine PutOk.mk 2216 st.tick (by omega) (by simp [q0]) ?_ ?_ ?_
    · rw [hfn, htn]; simp [putH_app, pO]
    · rw [hvn]; simp [putH_app, ndO, ndL, ndE]
    · simp [putH_app]
  · exfalso
    unfold oldV at g3
    split at g3
    · cases g3
    · simp only [V.s.injEq] at g3
      omega
theorem reg10 (k n : Nat) {l0 : List (Int × Int)} {t : List UInt8} {l : List (Int × Int)} {f : Bool} {v : V} (st : St) (q0 : st.ρ 0 = .p 0 0 3 0 0) (P : PSt l0 st.H t l f v) (hv : ∀ id vr m, v = .s id vr 2 0 m → id = 1 ∨ id = 8224) (hn : st.H 10384 = none) (h20 : t.length ≤ 450) (hl : l.length ≤ 1001) (hk : 1000 ≤ k) :
    ∃ s, runCode C (callK C k) k (K 42) (.region 10 R42_10 true) n st = some (.nrm, s) ∧ PutOk 7 l0 t l f s := by
  have N := c_number k t l f (by omega) (by omega)
  have hbb1 : (l.length + 1) * 16 ≤ 140737488355328 := by omega
  have hbb2 : l.length + 1 ≤ maxLen := by unfold maxLen; omega
  obtain ⟨vn, hvn⟩ : ∃ vn, pV (t.takeWhile isD) = vn := ⟨_, rfl⟩
  obtain ⟨tn, htn⟩ : ∃ tn, t.dropWhile isD = tn := ⟨_, rfl⟩
  obtain ⟨fn, hfn⟩ : ∃ fn, (f || !pB (t.takeWhile isD)) = fn := ⟨_, rfl⟩
  rw [hvn, htn, hfn] at N
  have h0 := P.h0
  simp [pO] at h0
  rcases P.hv with ⟨g1, g2, g3, g4⟩ | ⟨g1, g2, g3, g4⟩ | ⟨g1, id, vr, g2, g3, g4, g5⟩
  · rw [g3] at h0
    subst g1
    simp [frP, endV, pO] at N
    simp [R42_0, R42_1, R42_2, R42_3, R42_4, R42_5, R42_6, R42_7, R42_8, R42_9, R42_10, R42_11, R42_12, R42_13, R42_14, R42_15, R42_16, R42_17, Tryz.f42, q0, h0, N, hn, okQ1, maxLen]
    refine PutOk.mk 10408 st.tick (by omega) (by simp [q0]) ?_ ?_ ?_
    · rw [hfn, htn]; simp [putH_app, pO]
    · rw [hvn]; simp [putH_app, ndO, ndL, ndE]
    · simp [putH_app, g4]
  · rw [g3] at h0
    simp [frP, endV, pO, g1, ndO] at N g4
    simp [R42_0, R42_1, R42_2, R42_3, R42_4, R42_5, R42_6, R42_7, R42_8, R42_9, R42_10, R42_11, R42_12, R42_13, R42_14, R42_15, R42_16, R42_17, Tryz.f42, q0, h0, g4, N, hn, okQ1, okQ2, hbb1, hbb2, ndL_length, ndL_take]
    refine PutOk.mk 10408 st.tick (by omega) (by simp [q0]) ?_ ?_ ?_
    · rw [hfn, htn]; simp [putH_app, pO]
    · rw [hvn]; simp [putH_app, ndO, ndL, ndE]
    · simp [putH_app]
  · have hid : id = 8224 := by
      rcases hv id vr l.length g3 with h | h
      · omega
      · exact h
    subst hid
    rw [g3] at h0
    simp [frP, endV, pO, g1, ndO] at N g4
    simp [R42_0, R42_1, R42_2, R42_3, R42_4, R42_5, R42_6, R42_7, R42_8, R42_9, R42_10, R42_11, R42_12, R42_13, R42_14, R42_15, R42_16, R42_17, Tryz.f42, q0, h0, g4, N, hn, okQ1, okQ2, hbb1, hbb2, ndL_length, ndL_take]
    refine PutOk.mk 10408 st.tick (by omega) (by simp [q0]) ?_ ?_ ?_
    · rw [hfn, htn]; simp [putH_app, pO]
    · rw [hvn]; simp [putH_app, ndO, ndL, ndE]
    · simp [putH_app, g5]
theorem tailA (k n : Nat) {l0 : List (Int × Int)} {t : List UInt8} {l : List (Int × Int)} {f : Bool} {v : V} (st : St) (q0 : st.ρ 0 = .p 0 0 3 0 0) (P : PSt l0 st.H t l f v) (hv : ∀ id vr m, v = .s id vr 2 0 m → id = 1 ∨ id = 8224) (hn : st.H 10384 = none) (h20 : t.length ≤ 450) (hl : l.length ≤ 1001) (hk : 1000 ≤ k) :
    ∃ s, runCode C (callK C k) k (K 42) tcA n st = some (.nrm, s) ∧ ∃ v', PSt l0 s.H (restP [41] (t.dropWhile isD)) (l ++ [(7, pV (t.takeWhile isD))]) ((f || !pB (t.takeWhile isD)) || !hasP [41] (t.dropWhile isD)) v' := by
  obtain ⟨s, e, r0, v', P'⟩ := reg10 k n st q0 P hv hn h20 hl hk
  obtain ⟨δ, d, P2, _⟩ := callP k 73 [.string (bs [41])] rfl rfl P' Pl.tp (c_need k (t.dropWhile isD) [41] _ _ (by omega)) (fun _ => rfl) (fun h => by cases h) s.tick 706 (by omega)
  simp only [List.map_nil, List.map_cons] at d
  have hseq : tcA = .seq (.region 10 R42_10 true) (.region 11 R42_11 false) := rfl
  rw [hseq]
  have hrun : ∀ (a b : Code), runCode C (callK C k) k (K 42) (.seq a b) n st = (match runCode C (callK C k) k (K 42) a n st with
    | some (.nrm, st') => runCode C (callK C k) k (K 42) b (n + loops a) st'
    | r => r) := fun a b => by
    simp only [runCode]
    cases runCode C (callK C k) k (K 42) a n st with
    | none => rfl
    | some r => obtain ⟨e, s⟩ := r; cases e <;> rfl
  rw [hrun, e]
  simp only []
  have e2 : ∃ s2, runCode C (callK C k) k (K 42) (.region 11 R42_11 false) (n + loops (.region 10 R42_10 true)) s = some (.nrm, s2) ∧ s2.H = applyD s.H δ := by
    simp [-callV_if, R42_0, R42_1, R42_2, R42_3, R42_4, R42_5, R42_6, R42_7, R42_8, R42_9, R42_10, R42_11, R42_12, R42_13, R42_14, R42_15, R42_16, R42_17, Tryz.f42, r0, lt41, d]
  obtain ⟨s2, e2, h2⟩ := e2
  exact ⟨s2, e2, _, by rw [h2]; exact P2⟩
/-- What a term leaves. -/
def TmOk (n : Nat) (t : List UInt8) (l : List (Int × Int)) (s : St) : Prop := ∃ t' l' f' v', PSt l s.H t' l' f' v' ∧ OutP 0 (pT n t) t l t' l' f'
theorem TmOk.fin {n : Nat} {t : List UInt8} {l : List (Int × Int)} {s : St} (h : TmOk n t l s) : EndOk 0 (pT n t) t l (exportV (if l = [] then 1 else 2) (.tp []) s.H) := by
  obtain ⟨t', l', f', v', P, o⟩ := h
  exact EndOk.of P o
theorem takes (k : Nat) {l : List (Int × Int)} {t : List UInt8} {v : V} {H : Hp} (P : PSt l H t l false v) (p : List UInt8) (hp : stripL p t = none) (tick site : Nat) (hs : 1 ≤ site) (hk : 10 ≤ k) : ∃ δ, callV C (callK C k) H tick site 43 [.p 0 0 3 0 0, .c (.string (bs p))] = some (some (.c (.bool false)), δ) ∧ PSt l (applyD H δ) t l false v ∧ ∀ x, H x = none → x ≠ 16 * site → applyD H δ x = none := by
  obtain ⟨p1, p2⟩ := hasP_none hp
  obtain ⟨δ, d, P1, hn⟩ := callP k 43 [.string (bs p)] rfl rfl P (Pl.c _) (c_take k t p l false hk) (fun _ => rfl) (fun h => by cases h) tick site hs
  rw [p2] at P1
  rw [p1] at d
  exact ⟨δ, d, P1, hn⟩
theorem takesY (k : Nat) {l : List (Int × Int)} {t r : List UInt8} {v : V} {H : Hp} (P : PSt l H t l false v) (p : List UInt8) (hp : stripL p t = some r) (tick site : Nat) (hs : 1 ≤ site) (hk : 10 ≤ k) : ∃ δ, callV C (callK C k) H tick site 43 [.p 0 0 3 0 0, .c (.string (bs p))] = some (some (.c (.bool true)), δ) ∧ PSt l (applyD H δ) r l false v ∧ ∀ x, H x = none → x ≠ 16 * site → applyD H δ x = none := by
  obtain ⟨p1, p2⟩ := hasP_some hp
  obtain ⟨δ, d, P1, hn⟩ := callP k 43 [.string (bs p)] rfl rfl P (Pl.c _) (c_take k t p l false hk) (fun _ => rfl) (fun h => by cases h) tick site hs
  rw [p2] at P1
  rw [p1] at d
  exact ⟨δ, d, P1, hn⟩
theorem pT_eq (n : Nat) (t : List UInt8) : pT (n + 1) t = match stripL [109, 105, 110, 40] t with
    | some r => pP n 5 r
    | none => match stripL [109, 97, 120, 40] t with
      | some r => pP n 6 r
      | none => match stripL [97, 98, 111, 118, 101, 40] t with
        | some r => match pS n r with
          | none => none
          | some (l, r1) => match stripL [44] r1 with
            | none => none
            | some r2 => match numP r2 with
              | none => none
              | some (v, r3) => match stripL [41] r3 with
                | none => none
                | some r4 => some (l ++ [(7, v)], r4)
        | none => match stripL [40] t with
          | some r => match pS n r with
            | none => none
            | some (l, r1) => match stripL [41] r1 with
              | none => none
              | some r2 => some (l, r2)
          | none => match t with
            | [] => none
            | c :: r => if 97 ≤ c.toNat ∧ c.toNat ≤ 100 then some ([(1, (c.toNat : Int) - 97)], r) else match numP (c :: r) with
              | none => none
              | some (v, r') => some ([(2, v)], r') := by
  conv => lhs; unfold pT
  all_goals
    cases stripL [109, 105, 110, 40] t with
    | some r => rfl
    | none =>
      cases stripL [109, 97, 120, 40] t with
      | some r => rfl
      | none =>
        cases stripL [97, 98, 111, 118, 101, 40] t with
        | some r => rfl
        | none =>
          cases stripL [40] t with
          | some r => rfl
          | none => cases t <;> rfl
theorem drop_le (t : List UInt8) : (t.dropWhile isD).length ≤ t.length := by
  obtain ⟨m, _, _, h, _⟩ := dig_facts t
  rw [h, List.length_drop]
  omega
theorem numP_v {t : List UInt8} (h : pB (t.takeWhile isD) = true) : numP t = some (pV (t.takeWhile isD), t.dropWhile isD) := by
  unfold pB at h
  unfold numP pV
  cases hp : pI (t.takeWhile isD) with
  | none => rw [hp] at h; cases h
  | some v => rfl
theorem numP_n {t : List UInt8} (h : pB (t.takeWhile isD) = false) : numP t = none := by
  unfold pB at h
  unfold numP
  cases hp : pI (t.takeWhile isD) with
  | none => rfl
  | some v => rw [hp] at h; cases h
theorem out_min {n : Nat} {t r : List UInt8} {l : List (Int × Int)} {t' : List UInt8} {l' : List (Int × Int)} {f' : Bool} (kind : Int) (hp : pT (n + 1) t = pP n kind r) (hr : r.length + 4 = t.length) (o : OutP 1 (pP n kind r) r l t' l' f') : OutP 0 (pT (n + 1) t) t l t' l' f' := by
  obtain ⟨a, b, c, d⟩ := o
  rw [hp]
  exact ⟨a, b, by omega, by omega⟩
theorem term_step (n : Nat) (hP : ∀ kind, CtrT 72 [.int .i64 kind] 1 n (pP n kind) 3) (hS : CtrT 20 [] 0 n (pS n) 2) : CtrT 42 [] 0 (n + 1) (pT (n + 1)) 1 := by
  intro k t l hk hn ht hl
  obtain ⟨k, rfl⟩ : ∃ m, k = m + 9 := ⟨k - 9, by omega⟩
  rw [callK_fn rfl F42 code42]
  obtain ⟨P, hN⟩ := PSt.st0 t l false (.p 0 0 3 0 0 :: List.map V.c [])
  rw [frP_len]
  have hst : (Eng.st0 (.p 0 0 3 0 0 :: List.map V.c []) (frP t l false)).ρ 0 = .p 0 0 3 0 0 := rfl
  generalize Eng.st0 (.p 0 0 3 0 0 :: List.map V.c []) (frP t l false) = st at P hst hN ⊢
  have hNA := hN 10384 (by omega)
  have hN2 := hN 2192 (by omega)
  have hNL := hN 16608 (by omega)
  have h0 := P.h0
  simp [pO] at h0
  rw [tcA_is, tcN_is]
  cases t with
  | nil =>
    have hn0 : (pT (n + 1) []) = none := by
      unfold pT
      simp [stripL]
    simp [-callV_if, R42_0, R42_1, R42_2, R42_3, R42_4, R42_5, R42_6, R42_7, R42_8, R42_9, R42_10, R42_11, R42_12, R42_13, R42_14, R42_15, R42_16, R42_17, Tryz.f42, hst, h0, lit0, bs_neq]
    refine EndOk.of (t' := []) (l' := l) (f' := true) (P.same (by simp [putH_app, pO]) (fun x hx => by simp [putH_app, hx])) ?_
    rw [hn0]
    exact ⟨(fun _ _ h => by cases h), fun _ => rfl, Nat.le_refl _, by simp⟩
  | cons c r =>
    generalize hT : c :: r = T at P h0 ht hl hn ⊢
    have hTne : ¬ T = [] := by rw [← hT]; simp
    have hTl : T.length = r.length + 1 := by rw [← hT]; simp
    have E := pT_eq n T
    cases h1 : stripL [109, 105, 110, 40] T with
    | some r1 =>
      have hs1 := strip_some h1
      simp at hs1
      rw [h1] at E
      obtain ⟨δ1, d1, P1, _⟩ := takesY (k + 8) P _ h1 (st.tick + 1) 194 (by omega) (by omega)
      obtain ⟨t', l', f', ch, e, a, b, o⟩ := hP 5 (k + 8) r1 l (by omega) (by omega) (by omega) (by omega)
      obtain ⟨δ2, d2, P2, _⟩ := callP (k + 8) 72 [.int .i64 5] rfl rfl P1 Pl.tp e a b (st.tick + 1 + 1) 258 (by omega)
      simp only [List.map_nil, List.map_cons] at d2
      simp [-callV_if, R42_0, R42_1, R42_2, R42_3, R42_4, R42_5, R42_6, R42_7, R42_8, R42_9, R42_10, R42_11, R42_12, R42_13, R42_14, R42_15, R42_16, R42_17, Tryz.f42, hst, h0, lit0, bs_neq, hTne, ltM, ltX, ltA, lt40, d1, d2]
      exact EndOk.of P2 (out_min 5 E (by omega) o)
    | none =>
    rw [h1] at E
    obtain ⟨δ1, d1, P1, N1⟩ := takes (k + 8) P _ h1 (st.tick + 1) 194 (by omega) (by omega)
    cases h2 : stripL [109, 97, 120, 40] T with
    | some r1 =>
      have hs1 := strip_some h2
      simp at hs1
      rw [h2] at E
      obtain ⟨δ2, d2, P2, _⟩ := takesY (k + 8) P1 _ h2 (st.tick + 1 + 1) 322 (by omega) (by omega)
      obtain ⟨t', l', f', ch, e, a, b, o⟩ := hP 6 (k + 8) r1 l (by omega) (by omega) (by omega) (by omega)
      obtain ⟨δ3, d3, P3, _⟩ := callP (k + 8) 72 [.int .i64 6] rfl rfl P2 Pl.tp e a b (st.tick + 1 + 1 + 1) 386 (by omega)
      simp only [List.map_nil, List.map_cons] at d3
      simp [-callV_if, R42_0, R42_1, R42_2, R42_3, R42_4, R42_5, R42_6, R42_7, R42_8, R42_9, R42_10, R42_11, R42_12, R42_13, R42_14, R42_15, R42_16, R42_17, Tryz.f42, hst, h0, lit0, bs_neq, hTne, ltM, ltX, ltA, lt40, d1, d2, d3]
      exact EndOk.of P3 (out_min 6 E (by omega) o)
    | none =>
    rw [h2] at E
    obtain ⟨δ2, d2, P2, N2⟩ := takes (k + 8) P1 _ h2 (st.tick + 1 + 1) 322 (by omega) (by omega)
    cases h3 : stripL [97, 98, 111, 118, 101, 40] T with
    | some r1 =>
      have hs1 := strip_some h3
      simp at hs1
      rw [h3] at E
      simp only [] at E
      obtain ⟨δ3, d3, P3, N3⟩ := takesY (k + 8) P2 _ h3 (st.tick + 1 + 1 + 1) 450 (by omega) (by omega)
      obtain ⟨t1, l1, f1, c1, e, a, b, o⟩ := hS (k + 8) r1 l (by omega) (by omega) (by omega) (by omega)
      obtain ⟨δ4, d4, P4, N4⟩ := callP (k + 8) 20 [] rfl rfl P3 Pl.tp e a b (st.tick + 1 + 1 + 1 + 1) 514 (by omega)
      obtain ⟨δ5, d5, P5, N5⟩ := callP (k + 8) 73 [.string (bs [44])] rfl rfl P4 Pl.tp (c_need (k + 8) t1 [44] l1 f1 (by omega)) (fun _ => rfl) (fun h => by cases h) (st.tick + 1 + 1 + 1 + 1 + 1) 578 (by omega)
      simp only [List.map_nil, List.map_cons] at d4 d5
      have olen := o.len
      have osz := o.sz
      have hf1 : (if f1 = true then 1 else 0) ≤ 1 := by split <;> omega
      obtain ⟨t2, ht2⟩ : ∃ t2, restP [44] t1 = t2 := ⟨_, rfl⟩
      obtain ⟨f2, hf2⟩ : ∃ f2, (f1 || !hasP [44] t1) = f2 := ⟨_, rfl⟩
      have hlen2 : t2.length ≤ t1.length := by rw [← ht2]; exact restP_len _ _
      have hlen3 := drop_le t2
      have hlen4 := restP_len [41] (t2.dropWhile isD)
      rw [ht2, hf2] at P5
      have hnone : applyD (applyD (applyD (applyD (applyD st.H δ1) δ2) δ3) δ4) δ5 10384 = none := N5 _ (N4 _ (N3 _ (N2 _ (N1 _ hNA (by omega)) (by omega)) (by omega)) (by omega)) (by omega)
      have hTA := fun (s0 : St) (hs : s0.ρ 0 = .p 0 0 3 0 0 ∧ PSt l s0.H t2 l1 f2 (chV false (st.tick + 1 + 1 + 1 + 1 + 1) 578 l1.length (chV c1 (st.tick + 1 + 1 + 1 + 1) 514 l1.length (oldV l))) ∧ s0.H 10384 = none) => tailA (k + 8) 0 s0 hs.1 hs.2.1 (by
        intro id vr m e
        cases c1
        · simp only [chV, Bool.false_eq_true, if_false, oldV] at e
          split at e
          · cases e
          · simp only [V.s.injEq] at e
            omega
        · simp only [chV, Bool.false_eq_true, if_false, if_true, V.s.injEq] at e
          omega) hs.2.2 (by omega) (by omega) (by omega)
      simp [-callV_if, R42_0, R42_1, R42_2, R42_3, R42_4, R42_5, R42_6, R42_7, R42_8, R42_9, R42_10, R42_11, R42_12, R42_13, R42_14, R42_15, R42_16, R42_17, Tryz.f42, hst, h0, lit0, bs_neq, hTne, ltM, ltX, ltA, lt40, lt44, d1, d2, d3, d4, d5]
      generalize hr : runCode _ _ _ _ tcA _ _ = res
      obtain ⟨s1, rfl, v', P6⟩ := loop_at hTA hr ⟨by simp [hst], by simpa using P5, by simpa using hnone⟩
      simp
      refine EndOk.of P6 ?_
      obtain ⟨f3, hf3⟩ : ∃ f3, (f2 || !pB (t2.takeWhile isD)) = f3 := ⟨_, rfl⟩
      obtain ⟨f4, hf4⟩ : ∃ f4, (f3 || !hasP [41] (t2.dropWhile isD)) = f4 := ⟨_, rfl⟩
      rw [hf3, hf4]
      have g12 : f1 = true → f2 = true := by intro h; rw [h] at hf2; exact hf2.symm
      have g23 : f2 = true → f3 = true := by intro h; rw [h] at hf3; exact hf3.symm
      have g34 : f3 = true → f4 = true := by intro h; rw [h] at hf4; exact hf4.symm
      have key : (∀ q u, pT (n + 1) T = some (q, u) → f4 = false ∧ restP [41] (t2.dropWhile isD) = u ∧ l1 ++ [(7, pV (t2.takeWhile isD))] = l ++ q) ∧ (pT (n + 1) T = none → f4 = true) := by
        rw [E]
        cases k1 : pS n r1 with
        | none => exact ⟨(fun q u h => by cases h), fun _ => g34 (g23 (g12 (o.no k1)))⟩
        | some x =>
          obtain ⟨q1, u1⟩ := x
          obtain ⟨y1, y2, y3⟩ := o.ok q1 u1 k1
          subst y1 y2
          simp only []
          cases k2 : stripL [44] t1 with
          | none =>
            rw [(hasP_none k2).1] at hf2
            exact ⟨(fun q u h => by cases h), fun _ => g34 (g23 hf2.symm)⟩
          | some u2 =>
            obtain ⟨z1, z2⟩ := hasP_some k2
            rw [z2] at ht2
            rw [z1] at hf2
            subst ht2
            have hf2' : f2 = false := hf2.symm
            subst hf2'
            simp only []
            cases k3 : pB (u2.takeWhile isD) with
            | false =>
              rw [k3] at hf3
              rw [numP_n k3]
              exact ⟨(fun q u h => by cases h), fun _ => g34 hf3.symm⟩
            | true =>
              rw [k3] at hf3
              have hf3' : f3 = false := hf3.symm
              subst hf3'
              rw [numP_v k3]
              simp only []
              cases k4 : stripL [41] (u2.dropWhile isD) with
              | none =>
                rw [(hasP_none k4).1] at hf4
                exact ⟨(fun q u h => by cases h), fun _ => hf4.symm⟩
              | some u4 =>
                obtain ⟨z3, z4⟩ := hasP_some k4
                rw [z3] at hf4
                rw [z4]
                refine ⟨fun q u h => ?_, (fun h => by cases h)⟩
                cases h
                exact ⟨hf4.symm, rfl, by rw [y3]; simp⟩
      refine ⟨key.1, key.2, by omega, ?_⟩
      have : (if f1 = true then 1 else 0) ≤ (if f4 = true then 1 else 0) := by
        cases f1
        · simp
        · rw [g34 (g23 (g12 rfl))]
          simp
      simp only [List.length_append, List.length_cons, List.length_nil]
      omega
    | none =>
    rw [h3] at E
    obtain ⟨δ3, d3, P3, N3⟩ := takes (k + 8) P2 _ h3 (st.tick + 1 + 1 + 1) 450 (by omega) (by omega)
    cases h4 : stripL [40] T with
    | some r1 =>
      have hs1 := strip_some h4
      simp at hs1
      rw [h4] at E
      simp only [] at E
      obtain ⟨δ4, d4, P4, _⟩ := takesY (k + 8) P3 _ h4 (st.tick + 1 + 1 + 1 + 1) 770 (by omega) (by omega)
      obtain ⟨t1, l1, f1, c1, e, a, b, o⟩ := hS (k + 8) r1 l (by omega) (by omega) (by omega) (by omega)
      obtain ⟨δ5, d5, P5, _⟩ := callP (k + 8) 20 [] rfl rfl P4 Pl.tp e a b (st.tick + 1 + 1 + 1 + 1 + 1) 834 (by omega)
      obtain ⟨δ6, d6, P6, _⟩ := callP (k + 8) 73 [.string (bs [41])] rfl rfl P5 Pl.tp (c_need (k + 8) t1 [41] l1 f1 (by omega)) (fun _ => rfl) (fun h => by cases h) (st.tick + 1 + 1 + 1 + 1 + 1 + 1) 898 (by omega)
      simp only [List.map_nil, List.map_cons] at d5 d6
      have olen := o.len
      have osz := o.sz
      simp [-callV_if, R42_0, R42_1, R42_2, R42_3, R42_4, R42_5, R42_6, R42_7, R42_8, R42_9, R42_10, R42_11, R42_12, R42_13, R42_14, R42_15, R42_16, R42_17, Tryz.f42, hst, h0, lit0, bs_neq, hTne, ltM, ltX, ltA, lt40, lt41, d1, d2, d3, d4, d5, d6]
      refine EndOk.of P6 ?_
      have hlen2 := restP_len [41] t1
      obtain ⟨f2, hf2⟩ : ∃ f2, (f1 || !hasP [41] t1) = f2 := ⟨_, rfl⟩
      rw [hf2]
      have g12 : f1 = true → f2 = true := by intro h; rw [h] at hf2; exact hf2.symm
      have key : (∀ q u, pT (n + 1) T = some (q, u) → f2 = false ∧ restP [41] t1 = u ∧ l1 = l ++ q) ∧ (pT (n + 1) T = none → f2 = true) := by
        rw [E]
        cases k1 : pS n r1 with
        | none => exact ⟨(fun q u h => by cases h), fun _ => g12 (o.no k1)⟩
        | some x =>
          obtain ⟨q1, u1⟩ := x
          obtain ⟨y1, y2, y3⟩ := o.ok q1 u1 k1
          subst y1 y2
          simp only []
          cases k2 : stripL [41] t1 with
          | none =>
            rw [(hasP_none k2).1] at hf2
            exact ⟨(fun q u h => by cases h), fun _ => hf2.symm⟩
          | some u2 =>
            obtain ⟨z1, z2⟩ := hasP_some k2
            rw [z1] at hf2
            rw [z2]
            refine ⟨fun q u h => ?_, (fun h => by cases h)⟩
            cases h
            exact ⟨hf2.symm, rfl, y3⟩
      refine ⟨key.1, key.2, by omega, ?_⟩
      have : (if f1 = true then 1 else 0) ≤ (if f2 = true then 1 else 0) := by
        cases f1
        · simp
        · rw [g12 rfl]
          simp
      omega
    | none =>
    rw [h4] at E
    obtain ⟨δ4, d4, P4, N4⟩ := takes (k + 8) P3 _ h4 (st.tick + 1 + 1 + 1 + 1) 770 (by omega) (by omega)
    have hH2 : applyD (applyD (applyD (applyD st.H δ1) δ2) δ3) δ4 2192 = none := N4 _ (N3 _ (N2 _ (N1 _ hN2 (by omega)) (by omega)) (by omega)) (by omega)
    have hHL : applyD (applyD (applyD (applyD st.H δ1) δ2) δ3) δ4 16608 = none := N4 _ (N3 _ (N2 _ (N1 _ hNL (by omega)) (by omega)) (by omega)) (by omega)
    have E2 : pT (n + 1) T = if 97 ≤ c.toNat ∧ c.toNat ≤ 100 then some ([((1 : Int), (c.toNat : Int) - 97)], r) else match numP T with
        | none => none
        | some (v, r') => some ([(2, v)], r') := by
      rw [E, ← hT]
    have hb : byteAt (bs T) 0 = ((c.toNat : Nat) : Int) := by
      rw [← hT]
      exact byteAt_bs (l := c :: r) (i := 0) (by simp)
    have hTp : 0 < T.length := by omega
    have h04 := P4.h0
    simp [pO] at h04
    by_cases hc : 97 ≤ c.toNat ∧ c.toNat ≤ 100
    · have c1 : (97 : Int) ≤ ((c.toNat : Nat) : Int) := by omega
      have c2 : ((c.toNat : Nat) : Int) ≤ 100 := by omega
      have w1 : IntKind.u8.wrap (((c.toNat : Nat) : Int) - 97) = ((c.toNat : Nat) : Int) - 97 := by
        show ((((c.toNat : Nat) : Int) - 97) % 256) = _
        omega
      have w2 : IntKind.i64.wrap (((c.toNat : Nat) : Int) - 97) = ((c.toNat : Nat) : Int) - 97 := wrap_small (by omega) (by omega)
      rw [if_pos hc] at E2
      have hdr : T.tail.take (T.length - 1) = r := by rw [← hT]; simp
      have hT1 : (1 : Int) ≤ (T.length : Int) := by omega
      have hT1' : 1 ≤ T.length := by omega
      have hbb1 : (l.length + 1) * 16 ≤ 140737488355328 := by omega
      have hbb2 : l.length + 1 ≤ maxLen := by unfold maxLen; omega
      have ho : OutP 0 (pT (n + 1) T) T l r (l ++ [(1, (c.toNat : Int) - 97)]) false := by
        rw [E2]
        refine ⟨fun q u h => ?_, (fun h => by cases h), by omega, by simp; omega⟩
        cases h
        exact ⟨rfl, rfl, rfl⟩
      by_cases hl0 : l = []
      · have hov : oldV l = nilL := by simp [oldV, hl0]
        have g4 := P4.hv
        rw [hov] at h04 g4
        have g1 : applyD (applyD (applyD (applyD st.H δ1) δ2) δ3) δ4 1 = none := by
          rcases g4 with ⟨_, _, _, g⟩ | ⟨g, _⟩ | ⟨g, _⟩
          · exact g
          · exact absurd hl0 g
          · exact absurd hl0 g
        simp [-callV_if, R42_0, R42_1, R42_2, R42_3, R42_4, R42_5, R42_6, R42_7, R42_8, R42_9, R42_10, R42_11, R42_12, R42_13, R42_14, R42_15, R42_16, R42_17, Tryz.f42, hst, h0, lit0, bs_neq, hTne, ltM, ltX, ltA, lt40, d1, d2, d3, d4, h04, hb, hTp, bs_size, c1, c2, w1, w2, hHL, okQ1, maxLen, bs_extract, hT1, hT1', hdr]
        subst hl0
        exact EndOk.of (t' := r) (l' := [(1, (c.toNat : Int) - 97)]) (f' := false) (v := .s 16632 (st.tick + 1 + 1 + 1 + 1 + 1 + 1) 2 0 1) ⟨by simp [putH_app, pO], .inr (.inr ⟨by simp, 16632, st.tick + 1 + 1 + 1 + 1 + 1 + 1, by omega, by simp, by simp [putH_app, ndO, ndL, ndE], by simp [putH_app, g1]⟩)⟩ (by simpa using ho)
      · have hov : oldV l = .s 1 0 2 0 l.length := by simp [oldV, hl0]
        have g4 := P4.hv
        rw [hov] at h04 g4
        have g1 : applyD (applyD (applyD (applyD st.H δ1) δ2) δ3) δ4 1 = some (0, ndO l) := by
          rcases g4 with ⟨g, _⟩ | ⟨_, _, _, g⟩ | ⟨_, id, vr, g2, g3, _⟩
          · exact absurd g hl0
          · exact g
          · simp only [V.s.injEq] at g3
            omega
        simp [ndO] at g1
        simp [-callV_if, R42_0, R42_1, R42_2, R42_3, R42_4, R42_5, R42_6, R42_7, R42_8, R42_9, R42_10, R42_11, R42_12, R42_13, R42_14, R42_15, R42_16, R42_17, Tryz.f42, hst, h0, lit0, bs_neq, hTne, ltM, ltX, ltA, lt40, d1, d2, d3, d4, h04, hb, hTp, bs_size, c1, c2, w1, w2, hHL, g1, okQ1, okQ2, hbb1, hbb2, ndL_length, ndL_take, bs_extract, hT1, hT1', hdr]
        exact EndOk.of (t' := r) (l' := l ++ [(1, (c.toNat : Int) - 97)]) (f' := false) (v := .s 16632 (st.tick + 1 + 1 + 1 + 1 + 1 + 1) 2 0 (l.length + 1)) ⟨by simp [putH_app, pO], .inr (.inr ⟨by simp, 16632, st.tick + 1 + 1 + 1 + 1 + 1 + 1, by omega, by simp, by simp [putH_app, ndO, ndL, ndE], by simp [putH_app]⟩)⟩ ho
    · rw [if_neg hc] at E2
      have hTN := fun (s0 : St) (hs : s0.ρ 0 = .p 0 0 3 0 0 ∧ PSt l s0.H T l false (oldV l) ∧ s0.H 2192 = none) => reg2 (k + 8) 0 s0 hs.1 hs.2.1 hs.2.2 ht (by omega) (by omega)
      have fin : ∀ res, (∃ s, res = some (Ex.nrm, s) ∧ PutOk 2 l T l false s) → ∃ s, res = some (Ex.nrm, s) ∧ EndOk 0 (pT (n + 1) T) T l (exportV (if l = [] then 1 else 2) (.tp []) s.H) := by
        rintro res ⟨s, e, _, v', P6⟩
        refine ⟨s, e, EndOk.of P6 ?_⟩
        have hlen3 := drop_le T
        rw [E2]
        simp only [Bool.false_or]
        cases k3 : pB (T.takeWhile isD) with
        | false =>
          rw [numP_n k3]
          exact ⟨(fun q u h => by cases h), fun _ => rfl, hlen3, by simp; omega⟩
        | true =>
          have hnl := numP_v k3
          have hlt := numP_len hnl
          rw [hnl]
          refine ⟨fun q u h => ?_, (fun h => by cases h), hlen3, by simp; omega⟩
          cases h
          exact ⟨rfl, rfl, rfl⟩
      have hTN2 := fun s0 hs => fin _ (hTN s0 hs)
      by_cases c1 : (97 : Int) ≤ ((c.toNat : Nat) : Int)
      · have c2 : ¬ ((c.toNat : Nat) : Int) ≤ 100 := by omega
        simp [-callV_if, R42_0, R42_1, R42_2, R42_3, R42_4, R42_5, R42_6, R42_7, R42_8, R42_9, R42_10, R42_11, R42_12, R42_13, R42_14, R42_15, R42_16, R42_17, Tryz.f42, hst, h0, lit0, bs_neq, hTne, ltM, ltX, ltA, lt40, d1, d2, d3, d4, h04, hb, hTp, bs_size, c1, c2]
        generalize hr : runCode _ _ _ _ tcN _ _ = res
        obtain ⟨s1, rfl, P6⟩ := loop_at hTN2 hr ⟨by simp [hst], by simpa using P4, by simpa using hH2⟩
        simpa using P6
      · simp [-callV_if, R42_0, R42_1, R42_2, R42_3, R42_4, R42_5, R42_6, R42_7, R42_8, R42_9, R42_10, R42_11, R42_12, R42_13, R42_14, R42_15, R42_16, R42_17, Tryz.f42, hst, h0, lit0, bs_neq, hTne, ltM, ltX, ltA, lt40, d1, d2, d3, d4, h04, hb, hTp, bs_size, c1]
        generalize hr : runCode _ _ _ _ tcN _ _ = res
        obtain ⟨s1, rfl, P6⟩ := loop_at hTN2 hr ⟨by simp [hst], by simpa using P4, by simpa using hH2⟩
        simpa using P6

end Go.Proofs.YtbjmfjfnilmhhaaGreatDoor.Eng
namespace Go.Proofs.YtbjmfjfnilmhhaaGreatDoor.Eng
open Go Go.Proofs
set_option maxRecDepth 100000
set_option maxHeartbeats 2000000
set_option linter.unusedSimpArgs false
set_option linter.unusedVariables false
attribute [local simp] finK fin1 hpOf xi renQ isRoot runCode runOps stepX inlOf Eng.step wantedV astep val ofO made loadV storeV find V.cells bin binT binA numT numFs eqCells un1 setAt fieldAddrV fieldV indexAddrV indexV bounds sliceV convV lenV foldV max2V min2V callO bor rdsO wrsO seen_none okD_none loops keepIds resV resultsV St.ev TK.agg refs refsL refsO V.one V.isC Value.oneCell' ren renL renO noTag noTagL noTagR noTagO nodup mapO passV frs psi refsR newD loopNext opsAt idx flatAt rootOf backR newsV appendV copyV clearV strV bytesV bldV bufV selfV bytesOf nilCmp buildV fillF chunk freeL frzW cellSame sameV
attribute [local simp] cT cF cX cWR cOW cK cBL X ints_length ints_get ints_getElem ints_drop ints_take ints_append ints_nil ints_set
attribute [local simp] ints_replicate
attribute [local simp] putV_some putV_none putH_app applyD_nil applyD_cons seen_app gc_ρ gc_H gc_tick st0_ρ st0_H st0_tick retV callRo callV_if borL_nil borL_cons ints_snoc take_self callWr cutH_app findQ afterV exportV_0 exportV_n okD_nil okD_cons sub_seq0 sub_seq1 sub_cond0 sub_cond1 sub_block sub_loop sub_nil young_far young_none hidW_nil mayW_nil keepsF_nil keepsF_cons pairs okI ok_0 ok_1 ok_2
attribute [local simp] T3 T4 T5 T9 T22 T24 T33 T36 T38 T45 T48 T51 T52 T54 T56 T71 T72 T74 T77 T99 T104 T117 T121
def textE (q : List (Int × Int)) : List UInt8 := ((tks q q.length).headD ([], false)).1
/-- The expression with a text. -/
noncomputable def parseE (s : List UInt8) : Option (List (Int × Int)) := match pS (3 * s.length + 2) s with
  | some (q, []) => if goodE q = true ∧ textE q = s then some q else none
  | _ => none

end Go.Proofs.YtbjmfjfnilmhhaaGreatDoor.Eng
namespace Go.Proofs.YtbjmfjfnilmhhaaGreatDoor.Eng
open Go Go.Proofs
set_option maxRecDepth 100000
set_option maxHeartbeats 2000000
set_option linter.unusedSimpArgs false
set_option linter.unusedVariables false
attribute [local simp] finK fin1 hpOf xi renQ isRoot runCode runOps stepX inlOf Eng.step wantedV astep val ofO made loadV storeV find V.cells bin binT binA numT numFs eqCells un1 setAt fieldAddrV fieldV indexAddrV indexV bounds sliceV convV lenV foldV max2V min2V callO bor rdsO wrsO seen_none okD_none loops keepIds resV resultsV St.ev TK.agg refs refsL refsO V.one V.isC Value.oneCell' ren renL renO noTag noTagL noTagR noTagO nodup mapO passV frs psi refsR newD loopNext opsAt idx flatAt rootOf backR newsV appendV copyV clearV strV bytesV bldV bufV selfV bytesOf nilCmp buildV fillF chunk freeL frzW cellSame sameV
attribute [local simp] cT cF cX cWR cOW cK cBL X ints_length ints_get ints_getElem ints_drop ints_take ints_append ints_nil ints_set
attribute [local simp] ints_replicate
attribute [local simp] putV_some putV_none putH_app applyD_nil applyD_cons seen_app gc_ρ gc_H gc_tick st0_ρ st0_H st0_tick retV callRo callV_if borL_nil borL_cons ints_snoc take_self callWr cutH_app findQ afterV exportV_0 exportV_n okD_nil okD_cons sub_seq0 sub_seq1 sub_cond0 sub_cond1 sub_block sub_loop sub_nil young_far young_none hidW_nil mayW_nil keepsF_nil keepsF_cons pairs okI ok_0 ok_1 ok_2
attribute [local simp] T3 T4 T5 T9 T22 T24 T33 T36 T38 T45 T48 T51 T52 T54 T56 T71 T72 T74 T77 T99 T104 T117 T121
attribute [local simp] young_near clo cloF Region.binds Nat.testBit hidW declW mayW List.findIdx?_cons
theorem allP : ∀ n m, m ≤ n → CtrT 42 [] 0 m (pT m) 1 ∧ (∀ kind, CtrT 72 [.int .i64 kind] 1 m (pP m kind) 3) ∧ CtrT 20 [] 0 m (pS m) 2
  | 0, m, h => by
    obtain rfl : m = 0 := by omega
    exact ⟨fun k t l _ hn => by omega, fun kind k t l _ hn => by omega, fun k t l _ hn => by omega⟩
  | n + 1, m, h => by
    have ih := allP n
    by_cases hm : m = n + 1
    · subst hm
      obtain ⟨a, b, c⟩ := ih n (Nat.le_refl _)
      exact ⟨term_step n b c, fun kind => pair_step n (anyS_of c) kind, sum_step n fun m hm => (ih m hm).1⟩
    · exact ih m (by omega)
theorem c_IsExprNil (k : Nat) (hk : 10 ≤ k) : callK C k 9 [.c (.slice none 0 0)] [] = some (.c (.bool false), hpOf [] []) := by
  obtain ⟨k, rfl⟩ : ∃ m, k = m + 5 := ⟨k - 5, by omega⟩
  rw [callK_fn rfl F9 code9]
  simp [R9_0, R9_1, R9_2, R9_3, R9_4, R9_5, R9_6, R9_7, R9_8, R9_9, R9_10, R9_11, R9_12, Tryz.f9, lpL9_0, lpM9_0, M9_0, L9_0, loopRun_succ]
theorem c_l5GoodNil (k : Nat) (hk : 10 ≤ k) : callK C k 21 [.c (.slice none 0 0)] [] = some (.c (.bool false), hpOf [] []) := by
  obtain ⟨k, rfl⟩ : ∃ m, k = m + 5 := ⟨k - 5, by omega⟩
  rw [callK_fn rfl F21 code21]
  simp [R21_0, R21_1, R21_2, R21_3, R21_4, R21_5, R21_6, R21_7, R21_8, R21_9, R21_10, R21_11, Tryz.f21, lpL21_0, lpM21_0, M21_0, L21_0, loopRun_succ]
def resE (r : Option (List (Int × Int))) : Option (V × Hp) := match r with
  | some q => some (.tp [.s 0 2 2 0 q.length, .c (.bool true)], hpOf [] [ndO q])
  | none => some (.tp [.c (.slice none 0 0), .c (.bool false)], hpOf [] [])
theorem goodE_ne {q : List (Int × Int)} (h : goodE q = true) : q ≠ [] := by
  rintro rfl
  simp [goodE, runO] at h
theorem c_implParseE (k : Nat) (s : List UInt8) (h : s.length ≤ 9223372036854775807) (hk : 60000 ≤ k) : callK C k 7 [.c (.string (bs s))] [] = resE (if s.length ≤ 450 then parseE s else none) := by
  obtain ⟨k, rfl⟩ : ∃ m, k = m + 9 := ⟨k - 9, by omega⟩
  rw [callK_fn rfl F7 code7]
  by_cases h450 : s.length ≤ 450
  · have h450' : ¬ (450 : Int) < (s.length : Int) := by omega
    rw [if_pos h450]
    obtain ⟨t', l', f', ch, e, a, b, o⟩ := (allP (3 * s.length + 2) _ (Nat.le_refl _)).2.2 (k + 8) s [] (by omega) (by omega) h450 (by simp; omega)
    have hpa : parseE s = match pS (3 * s.length + 2) s with
      | some (q, []) => if goodE q = true ∧ textE q = s then some q else none
      | _ => none := rfl
    cases ch
    · have := a rfl
      subst this
      simp [frP, endV, pO] at e
      have hI := c_IsExprNil (k + 8) (by omega)
      have hnone : parseE s = none := by
        rw [hpa]
        split
        · rename_i q hq
          have := (o.ok q [] hq).2.2
          have hq0 : q = [] := by simpa using this.symm
          rw [if_neg]
          rintro ⟨g, _⟩
          exact goodE_ne g hq0
        · rfl
      rw [hnone]
      cases f'
      · by_cases ht : t' = []
        · simp [R7_0, R7_1, R7_2, R7_3, R7_4, R7_5, R7_6, R7_7, Tryz.f7, bs_size, h450', e, lit0, bs_neq, ht, hI, resE, pO]
        · simp [R7_0, R7_1, R7_2, R7_3, R7_4, R7_5, R7_6, R7_7, Tryz.f7, bs_size, h450', e, lit0, bs_neq, ht, hI, resE, pO]
      · simp [R7_0, R7_1, R7_2, R7_3, R7_4, R7_5, R7_6, R7_7, Tryz.f7, bs_size, h450', e, lit0, bs_neq, hI, resE, pO]
    · have hne := b rfl
      simp [frP, endV, pO, ndO] at e
      have hI := c_IsExpression (k + 8) true l' (by omega)
      cases f'
      · by_cases ht : t' = []
        · subst ht
          obtain ⟨q, hq, rfl⟩ : ∃ q, pS (3 * s.length + 2) s = some (q, []) ∧ l' = q := by
            cases hp : pS (3 * s.length + 2) s with
            | none => have := o.no hp; cases this
            | some x =>
              obtain ⟨q, u⟩ := x
              obtain ⟨_, y2, y3⟩ := o.ok q u hp
              subst y2
              exact ⟨q, rfl, by simpa using y3⟩
          rw [hq] at hpa
          simp only [] at hpa
          rw [hpa]
          cases hg : goodE l'
          · rw [hg] at hI
            simp [R7_0, R7_1, R7_2, R7_3, R7_4, R7_5, R7_6, R7_7, Tryz.f7, bs_size, h450', e, lit0, bs_neq, hI, resE, pO, ndO, ndL_length, ndL_take]
          · rw [hg] at hI
            have hT := c_exprText (k + 8) true l' hg (by omega)
            by_cases htx : textE l' = s
            · rw [show ((tks l' l'.length).headD ([], false)).1 = s from htx] at hT
              simp [R7_0, R7_1, R7_2, R7_3, R7_4, R7_5, R7_6, R7_7, Tryz.f7, bs_size, h450', e, lit0, bs_neq, hI, hT, htx, resE, pO, ndO, ndL_length, ndL_take]
            · rw [show ((tks l' l'.length).headD ([], false)).1 = textE l' from rfl] at hT
              simp [R7_0, R7_1, R7_2, R7_3, R7_4, R7_5, R7_6, R7_7, Tryz.f7, bs_size, h450', e, lit0, bs_neq, hI, hT, htx, resE, pO, ndO, ndL_length, ndL_take]
        · have hnone : parseE s = none := by
            rw [hpa]
            split
            · rename_i q hq
              exact absurd (o.ok q [] hq).2.1 ht
            · rfl
          rw [hnone]
          simp [R7_0, R7_1, R7_2, R7_3, R7_4, R7_5, R7_6, R7_7, Tryz.f7, bs_size, h450', e, lit0, bs_neq, ht, resE, pO, ndO]
      · have hnone : parseE s = none := by
          rw [hpa]
          split
          · rename_i q hq
            have := (o.ok q [] hq).1
            cases this
          · rfl
        rw [hnone]
        simp [R7_0, R7_1, R7_2, R7_3, R7_4, R7_5, R7_6, R7_7, Tryz.f7, bs_size, h450', e, lit0, bs_neq, resE, pO, ndO]
  · have h450' : (450 : Int) < (s.length : Int) := by omega
    rw [if_neg h450]
    simp [R7_0, R7_1, R7_2, R7_3, R7_4, R7_5, R7_6, R7_7, Tryz.f7, bs_size, h450', resE]

end Go.Proofs.YtbjmfjfnilmhhaaGreatDoor.Eng
namespace Go.Proofs.YtbjmfjfnilmhhaaGreatDoor.Eng
open Go Go.Proofs
set_option maxRecDepth 100000
set_option maxHeartbeats 2000000
set_option linter.unusedSimpArgs false
set_option linter.unusedVariables false
attribute [local simp] finK fin1 hpOf xi renQ isRoot runCode runOps stepX inlOf Eng.step wantedV astep val ofO made loadV storeV find V.cells bin binT binA numT numFs eqCells un1 setAt fieldAddrV fieldV indexAddrV indexV bounds sliceV convV lenV foldV max2V min2V callO bor rdsO wrsO seen_none okD_none loops keepIds resV resultsV St.ev TK.agg refs refsL refsO V.one V.isC Value.oneCell' ren renL renO noTag noTagL noTagR noTagO nodup mapO passV frs psi refsR newD loopNext opsAt idx flatAt rootOf backR newsV appendV copyV clearV strV bytesV bldV bufV selfV bytesOf nilCmp buildV fillF chunk freeL frzW cellSame sameV
attribute [local simp] cT cF cX cWR cOW cK cBL X ints_length ints_get ints_getElem ints_drop ints_take ints_append ints_nil ints_set
attribute [local simp] ints_replicate
attribute [local simp] putV_some putV_none putH_app applyD_nil applyD_cons seen_app gc_ρ gc_H gc_tick st0_ρ st0_H st0_tick retV callRo callV_if borL_nil borL_cons ints_snoc take_self callWr cutH_app findQ afterV exportV_0 exportV_n okD_nil okD_cons sub_seq0 sub_seq1 sub_cond0 sub_cond1 sub_block sub_loop sub_nil young_far young_none hidW_nil mayW_nil keepsF_nil keepsF_cons pairs okI ok_0 ok_1 ok_2
attribute [local simp] T3 T4 T5 T9 T22 T24 T33 T36 T38 T45 T48 T51 T52 T54 T56 T71 T72 T74 T77 T99 T104 T117 T121
attribute [local simp] young_near clo cloF Region.binds Nat.testBit hidW declW mayW List.findIdx?_cons
theorem dec_len4 {u : Nat} (h : u ≤ 9999) : (Lib.decDigits u).length ≤ 4 := by
  rw [Lib.decDigits_length]
  have : ∀ (k u : Nat), u < 10 ^ (k + 1) → Lib.nDigits u ≤ k + 1 := by
    intro k
    induction k with
    | zero => intro u hu; rw [Lib.nDigits_small (by omega)]; omega
    | succ k ih =>
      intro u hu
      by_cases h10 : u < 10
      · rw [Lib.nDigits_small h10]; omega
      · rw [Lib.nDigits_big h10]
        have := ih (u / 10) (by rw [Nat.pow_succ] at hu; omega)
        omega
  exact this 3 u (by omega)
theorem tks_bound12 {l : List (Int × Int)} : ∀ i, 0 ≤ runO l i → lenT (tks l i) ≤ 12 * i
  | 0, _ => by simp [tks, lenT]
  | i + 1, h => by
    obtain ⟨h1, h2, h3, h4⟩ := runO_back h
    have ih := tks_bound12 i h1
    obtain ⟨r0, r1, r2⟩ := ar_range (q := l.getD i (0, 0))
    rcases ar_cases (l.getD i (0, 0)) with e | e | e | e
    · rw [tks_0 e]
      have hat : (atT (l.getD i (0, 0))).length ≤ 4 := by
        unfold atT
        split
        · simp
        · rename_i hn
          rcases r0 e with hr | hr
          · exact absurd hr.1 hn
          · exact dec_len4 (by omega)
      simp only [lenT, List.map_cons, List.sum_cons] at ih ⊢
      omega
    · have hl := tks_len i h1
      cases hs : tks l i with
      | nil => rw [hs] at hl; simp only [List.length_nil] at hl; omega
      | cons x s =>
        obtain ⟨t, b⟩ := x
        rw [tks_1 e hs]
        rw [hs] at ih
        have hd : (Lib.decDigits (l.getD i (0, 0)).2.toNat).length ≤ 4 := dec_len4 (by have := r1 e; omega)
        simp only [lenT, List.map_cons, List.sum_cons, abT, List.length_append, List.length_cons, List.length_nil] at ih ⊢
        omega
    · have hl := tks_len i h1
      cases hs : tks l i with
      | nil => rw [hs] at hl; simp only [List.length_nil] at hl; omega
      | cons x s =>
        cases s with
        | nil => rw [hs] at hl; simp only [List.length_cons, List.length_nil] at hl; omega
        | cons y s =>
          obtain ⟨t, b⟩ := x
          obtain ⟨u, c⟩ := y
          rw [tks_2 e hs]
          rw [hs] at ih
          have hb : (biT (l.getD i (0, 0)) u t b).length ≤ u.length + t.length + 6 := by
            unfold biT
            split
            · simp only [List.length_append, List.length_cons, List.length_nil]; omega
            · split
              · simp only [List.length_append, List.length_cons, List.length_nil]; omega
              · cases b <;> simp only [if_true, Bool.false_eq_true, if_false, List.length_append, List.length_cons, List.length_nil] <;> omega
          simp only [lenT, List.map_cons, List.sum_cons] at ih ⊢
          omega
    · omega
theorem text_le {q : List (Int × Int)} (h : goodE q = true) : (textE q).length ≤ 180 := by
  obtain ⟨h15, hr⟩ := good_run h
  have h1 := tks_bound12 (l := q) q.length (by omega)
  unfold textE
  cases hs : tks q q.length with
  | nil => simp
  | cons x s =>
    rw [hs] at h1
    simp only [lenT, List.map_cons, List.sum_cons] at h1
    simp only [List.headD_cons]
    omega
theorem parse_long {s : List UInt8} (h : 180 < s.length) : parseE s = none := by
  unfold parseE
  split
  · split
    · rename_i h2
      have := text_le h2.1
      rw [h2.2] at this
      omega
    · rfl
  · rfl
theorem c_implParseX (k : Nat) (s : List UInt8) (h : s.length ≤ 9223372036854775807) (hk : 60000 ≤ k) : callK C k 7 [.c (.string (bs s))] [] = resE (parseE s) := by
  rw [c_implParseE k s h hk]
  by_cases h450 : s.length ≤ 450
  · rw [if_pos h450]
  · rw [if_neg h450, parse_long (by omega)]
theorem parse_good {s : List UInt8} {q : List (Int × Int)} (h : parseE s = some q) : goodE q = true := by
  unfold parseE at h
  split at h
  · split at h
    · rename_i h2
      cases h
      exact h2.1
    · cases h
  · cases h

end Go.Proofs.YtbjmfjfnilmhhaaGreatDoor.Eng
namespace Go.Proofs.YtbjmfjfnilmhhaaGreatDoor.Eng
open Go Go.Proofs
set_option maxRecDepth 100000
set_option maxHeartbeats 2000000
set_option linter.unusedSimpArgs false
set_option linter.unusedVariables false
attribute [local simp] finK fin1 hpOf xi renQ isRoot runCode runOps stepX inlOf Eng.step wantedV astep val ofO made loadV storeV find V.cells bin binT binA numT numFs eqCells un1 setAt fieldAddrV fieldV indexAddrV indexV bounds sliceV convV lenV foldV max2V min2V callO bor rdsO wrsO seen_none okD_none loops keepIds resV resultsV St.ev TK.agg refs refsL refsO V.one V.isC Value.oneCell' ren renL renO noTag noTagL noTagR noTagO nodup mapO passV frs psi refsR newD loopNext opsAt idx flatAt rootOf backR newsV appendV copyV clearV strV bytesV bldV bufV selfV bytesOf nilCmp buildV fillF chunk freeL frzW cellSame sameV
attribute [local simp] cT cF cX cWR cOW cK cBL X ints_length ints_get ints_getElem ints_drop ints_take ints_append ints_nil ints_set
attribute [local simp] ints_replicate
attribute [local simp] putV_some putV_none putH_app applyD_nil applyD_cons seen_app gc_ρ gc_H gc_tick st0_ρ st0_H st0_tick retV callRo callV_if borL_nil borL_cons ints_snoc take_self callWr cutH_app findQ afterV exportV_0 exportV_n okD_nil okD_cons sub_seq0 sub_seq1 sub_cond0 sub_cond1 sub_block sub_loop sub_nil young_far young_none hidW_nil mayW_nil keepsF_nil keepsF_cons pairs okI ok_0 ok_1 ok_2
attribute [local simp] T3 T4 T5 T9 T22 T24 T33 T36 T38 T45 T48 T51 T52 T54 T56 T71 T72 T74 T77 T99 T104 T117 T121
/-- What may stand behind an expression. -/
def okRt (r : List UInt8) : Prop := r = [] ∨ ∃ c s, r = c :: s ∧ (c = 43 ∨ c = 45 ∨ c = 41 ∨ c = 44)
def TTp (t : List UInt8) (g : List (Int × Int)) : Prop := ∀ n r, 3 * t.length ≤ n → okRt r → pT n (t ++ r) = some (g, r)
def SSp (t : List UInt8) (g : List (Int × Int)) : Prop := ∀ n r, 3 * t.length + 1 ≤ n → okRt r → ∃ m, n ≤ m + t.length ∧ pS n (t ++ r) = pL m g r
theorem strip_app (p r : List UInt8) : stripL p (p ++ r) = some r := by
  induction p with
  | nil => rfl
  | cons a p ih => simp [stripL, ih]
theorem strip_ne {a b : UInt8} {p t : List UInt8} (h : a ≠ b) : stripL (a :: p) (b :: t) = none := by simp [stripL, h]
theorem okRt_c {c : UInt8} {s : List UInt8} (h : c = 43 ∨ c = 45 ∨ c = 41 ∨ c = 44) : okRt (c :: s) := .inr ⟨c, s, rfl, h⟩
theorem pL_fin {n : Nat} {g : List (Int × Int)} {r : List UInt8} (hn : 1 ≤ n) (h : r = [] ∨ ∃ c s, r = c :: s ∧ (c = 41 ∨ c = 44)) : pL n g r = some (g, r) := by
  obtain ⟨n, rfl⟩ : ∃ m, n = m + 1 := ⟨n - 1, by omega⟩
  unfold pL
  rcases h with rfl | ⟨c, s, rfl, rfl | rfl⟩ <;> simp [stripL]
theorem dec_rng (u : Nat) : ∀ b ∈ Lib.decDigits u, 48 ≤ b.toNat ∧ b.toNat ≤ 57 := by
  intro b hb
  obtain ⟨i, hi, rfl⟩ := List.getElem_of_mem hb
  obtain ⟨d, hd⟩ := Lib.digit_of_decFrom _ _ _ (dec_digits u) i _ (List.getElem?_eq_getElem hi)
  unfold Lib.digitVal at hd
  split at hd
  · rename_i hh; exact hh
  · cases hd
theorem num_app {v : Int} {r : List UInt8} (h0 : 0 ≤ v) (h1 : v ≤ 9000) (hr : okRt r) : numP (Lib.decDigits v.toNat ++ r) = some (v, r) := by
  have hall : ∀ b ∈ Lib.decDigits v.toNat, isD b = true := by
    intro b hb
    have := dec_rng v.toNat b hb
    simp only [isD, Bool.and_eq_true, decide_eq_true_eq]
    omega
  have ht : (Lib.decDigits v.toNat ++ r).takeWhile isD = Lib.decDigits v.toNat := by
    rw [List.takeWhile_append_of_pos hall]
    rcases hr with rfl | ⟨c, s, rfl, rfl | rfl | rfl | rfl⟩ <;> simp [isD]
  have hd : (Lib.decDigits v.toNat ++ r).dropWhile isD = r := by
    rw [List.dropWhile_append_of_pos hall]
    rcases hr with rfl | ⟨c, s, rfl, rfl | rfl | rfl | rfl⟩ <;> simp [isD]
  have hp := pI_some (n := v) (by omega) (by omega)
  rw [itoa_nn h0] at hp
  unfold numP
  rw [ht, hd, hp]
theorem TT_SS {t : List UInt8} {g : List (Int × Int)} (h : TTp t g) : SSp t g := by
  intro n r hn hr
  obtain ⟨n, rfl⟩ : ∃ m, n = m + 1 := ⟨n - 1, by omega⟩
  by_cases ht : t.length = 0
  · have e := h 0 r (by omega) hr
    simp [pT] at e
  · refine ⟨n, by omega, ?_⟩
    conv => lhs; unfold pS
    rw [h n r (by omega) hr]
theorem TT_par {t : List UInt8} {g : List (Int × Int)} (h : SSp t g) : TTp ([40] ++ t ++ [41]) g := by
  intro n r hn hr
  simp only [List.length_append, List.length_cons, List.length_nil] at hn
  obtain ⟨n, rfl⟩ : ∃ m, n = m + 1 := ⟨n - 1, by omega⟩
  obtain ⟨m, hm, e⟩ := h n (41 :: r) (by omega) (okRt_c (by simp))
  rw [pL_fin (by omega) (.inr ⟨41, r, rfl, by simp⟩)] at e
  have e0 : [40] ++ t ++ [41] ++ r = 40 :: (t ++ 41 :: r) := by simp
  rw [e0]
  unfold pT
  simp [stripL, e]
theorem SS_end {t : List UInt8} {g : List (Int × Int)} (h : SSp t g) {n : Nat} {r : List UInt8} (hn : 3 * t.length + 2 ≤ n) (hr : r = [] ∨ ∃ c s, r = c :: s ∧ (c = 41 ∨ c = 44)) : pS n (t ++ r) = some (g, r) := by
  have ho : okRt r := by
    rcases hr with rfl | ⟨c, s, rfl, rfl | rfl⟩
    · exact .inl rfl
    · exact okRt_c (by simp)
    · exact okRt_c (by simp)
  obtain ⟨m, hm, e⟩ := h n r (by omega) ho
  rw [e, pL_fin (by omega) hr]
theorem TT_two {w : List UInt8} {k : Int} (hw : (w = [109, 105, 110, 40] ∧ k = 5) ∨ (w = [109, 97, 120, 40] ∧ k = 6)) {x y : List UInt8} {g1 g2 : List (Int × Int)} (hx : SSp x g1) (hy : SSp y g2) : TTp (w ++ x ++ [44] ++ y ++ [41]) (g1 ++ g2 ++ [(k, 0)]) := by
  intro n r hn hr
  have hl : w.length = 4 := by rcases hw with ⟨rfl, _⟩ | ⟨rfl, _⟩ <;> rfl
  simp only [List.length_append, List.length_cons, List.length_nil, hl] at hn
  obtain ⟨n, rfl⟩ : ∃ m, n = m + 2 := ⟨n - 2, by omega⟩
  have e1 := SS_end hx (n := n) (r := 44 :: (y ++ 41 :: r)) (by omega) (.inr ⟨44, _, rfl, by simp⟩)
  have e2 := SS_end hy (n := n) (r := 41 :: r) (by omega) (.inr ⟨41, _, rfl, by simp⟩)
  have e0 : w ++ x ++ [44] ++ y ++ [41] ++ r = w ++ (x ++ 44 :: (y ++ 41 :: r)) := by simp
  have hP : pP (n + 1) k (x ++ 44 :: (y ++ 41 :: r)) = some (g1 ++ g2 ++ [(k, 0)], r) := by
    unfold pP
    simp [e1, e2, stripL]
  rw [e0]
  unfold pT
  rcases hw with ⟨rfl, rfl⟩ | ⟨rfl, rfl⟩
  · rw [strip_app]
    exact hP
  · rw [strip_app, show stripL [109, 105, 110, 40] ([109, 97, 120, 40] ++ (x ++ 44 :: (y ++ 41 :: r))) = none by simp [stripL]]
    exact hP
theorem TT_above {q : Int × Int} {x : List UInt8} {g : List (Int × Int)} (h0 : 0 ≤ q.2) (h1 : q.2 ≤ 9000) (hx : SSp x g) : TTp (abT q x) (g ++ [(7, q.2)]) := by
  intro n r hn hr
  unfold abT at hn ⊢
  simp only [List.length_append, List.length_cons, List.length_nil] at hn
  obtain ⟨n, rfl⟩ : ∃ m, n = m + 1 := ⟨n - 1, by omega⟩
  have e1 := SS_end hx (n := n) (r := 44 :: (Lib.decDigits q.2.toNat ++ 41 :: r)) (by omega) (.inr ⟨44, _, rfl, by simp⟩)
  have e2 := num_app h0 h1 (okRt_c (c := 41) (s := r) (by simp))
  have e0 : [97, 98, 111, 118, 101, 40] ++ x ++ [44] ++ Lib.decDigits q.2.toNat ++ [41] ++ r = 97 :: 98 :: 111 :: 118 :: 101 :: 40 :: (x ++ 44 :: (Lib.decDigits q.2.toNat ++ 41 :: r)) := by simp
  rw [e0]
  unfold pT
  simp [stripL, e1, e2]
theorem TT_leaf {q : Int × Int} (h : arI q = 0) : TTp (atT q) [q] := by
  intro n r hn hr
  obtain ⟨q1, q2⟩ := q
  have r0 := ar_range.1 h
  simp only [] at r0
  rcases r0 with ⟨rfl, ra, rb⟩ | ⟨rfl, ra, rb⟩
  · simp only [atT, if_true, List.length_cons, List.length_nil] at hn ⊢
    obtain ⟨n, rfl⟩ : ∃ m, n = m + 1 := ⟨n - 1, by omega⟩
    have hb : ∀ c s, r = c :: s → c ≠ 98 := by
      rintro c s rfl
      rcases hr with h | ⟨c', s', h, h'⟩
      · cases h
      · cases h
        rcases h' with rfl | rfl | rfl | rfl <;> decide
    have : q2 = 0 ∨ q2 = 1 ∨ q2 = 2 ∨ q2 = 3 := by omega
    unfold pT
    rcases this with rfl | rfl | rfl | rfl
    · have hs : stripL [98, 111, 118, 101, 40] r = none := by
        cases r with
        | nil => rfl
        | cons c s => exact strip_ne (Ne.symm (hb c s rfl))
      simp [stripL, hs]
    · simp [stripL]
    · simp [stripL]
    · simp [stripL]
  · have he : atT (2, q2) = Lib.decDigits q2.toNat := by simp [atT]
    rw [he] at hn ⊢
    have hnum := num_app ra rb hr
    obtain ⟨b, s, hd, h1, h2⟩ := dec_head q2.toNat
    rw [hd] at hn hnum ⊢
    simp only [List.length_cons] at hn
    obtain ⟨n, rfl⟩ : ∃ m, n = m + 1 := ⟨n - 1, by omega⟩
    have b1 : (109 : UInt8) ≠ b := by rintro rfl; simp at h2
    have b2 : (97 : UInt8) ≠ b := by rintro rfl; simp at h2
    have b3 : (40 : UInt8) ≠ b := by rintro rfl; simp at h1
    have b4 : ¬ (97 ≤ b.toNat ∧ b.toNat ≤ 100) := by omega
    unfold pT
    rw [List.cons_append] at hnum ⊢
    rw [strip_ne b1, strip_ne b1, strip_ne b2, strip_ne b3]
    simp only [b4, if_false, hnum]
theorem SS_sum {x y : List UInt8} {g1 g2 : List (Int × Int)} (hx : SSp x g1) (hy : TTp y g2) {c : UInt8} {k : Int} (hc : (c = 43 ∧ k = 3) ∨ (c = 45 ∧ k = 4)) : SSp (x ++ [c] ++ y) (g1 ++ g2 ++ [(k, 0)]) := by
  intro n r hn hr
  simp only [List.length_append, List.length_cons, List.length_nil] at hn ⊢
  obtain ⟨m, hm, e⟩ := hx n (c :: (y ++ r)) (by omega) (okRt_c (by rcases hc with ⟨rfl, _⟩ | ⟨rfl, _⟩ <;> simp))
  obtain ⟨m, rfl⟩ : ∃ j, m = j + 1 := ⟨m - 1, by omega⟩
  refine ⟨m, by omega, ?_⟩
  have e0 : x ++ [c] ++ y ++ r = x ++ c :: (y ++ r) := by simp
  rw [e0, e]
  have e2 := hy m r (by omega) hr
  conv => lhs; unfold pL
  rcases hc with ⟨rfl, rfl⟩ | ⟨rfl, rfl⟩
  · simp [stripL, e2]
  · simp [stripL, e2]
def sgE (l : List (Int × Int)) (a i : Nat) : List (Int × Int) := (l.drop a).take (i - a)
theorem sg_app {l : List (Int × Int)} {a b c : Nat} (h1 : a ≤ b) (h2 : b ≤ c) : sgE l a b ++ sgE l b c = sgE l a c := by
  unfold sgE
  rw [show c - a = (b - a) + (c - b) by omega, List.take_add, List.drop_drop, show a + (b - a) = b by omega]
theorem sg_one {l : List (Int × Int)} {i : Nat} (h : i < l.length) : sgE l i (i + 1) = [l.getD i (0, 0)] := by
  unfold sgE
  rw [show i + 1 - i = 1 by omega, getD_nd h]
  rw [List.drop_eq_getElem_cons h]
  rfl
theorem rt_top {l : List (Int × Int)} : ∀ i, i < l.length → 0 ≤ runO l (i + 1) → ∀ a d s, stk l (i + 1) = (a, d) :: s → ∃ t, tks l (i + 1) = (t, smB (l.getD i (0, 0))) :: tks l a ∧ (smB (l.getD i (0, 0)) = false → TTp t (sgE l a (i + 1))) ∧ SSp t (sgE l a (i + 1)) := by
  intro i
  induction i using Nat.strongRecOn with
  | _ i ih =>
    intro hi h a d s hst
    obtain ⟨h1, h2, h3, h4⟩ := runO_back h
    obtain ⟨r0, r1, r2⟩ := ar_range (q := l.getD i (0, 0))
    rcases ar_cases (l.getD i (0, 0)) with e | e | e | e
    · rw [stk_0 e] at hst
      injection hst with e1 _
      injection e1 with e1 _
      subst e1
      have := TT_leaf e
      rw [sg_one hi]
      exact ⟨_, tks_0 e, fun _ => this, TT_SS this⟩
    · obtain ⟨j, rfl⟩ : ∃ j, i = j + 1 := by
        cases i with
        | zero => rw [e] at h3; exact absurd h3 (by simp [runO])
        | succ j => exact ⟨j, rfl⟩
      obtain ⟨a1, d1, ha, hs⟩ := stk_top j h1
      rw [stk_1 e hs] at hst
      injection hst with e1 _
      injection e1 with e1 _
      subst e1
      obtain ⟨t, ht, _, hS⟩ := ih j (by omega) (by omega) h1 _ _ _ hs
      obtain ⟨g1, g2, g3⟩ := r1 e
      have := TT_above g2 g3 hS
      have hq : (7, (l.getD (j + 1) (0, 0)).2) = l.getD (j + 1) (0, 0) := by rw [← g1]
      rw [hq, ← sg_one hi, sg_app (by omega) (by omega)] at this
      exact ⟨_, tks_1 e ht, fun _ => this, TT_SS this⟩
    · obtain ⟨j, rfl⟩ : ∃ j, i = j + 1 := by
        cases i with
        | zero => rw [e] at h3; exact absurd h3 (by simp [runO])
        | succ j => exact ⟨j, rfl⟩
      obtain ⟨a1, d1, ha, hs⟩ := stk_top j h1
      have hl := stk_len (j + 1) h1
      have ha0 : 0 ≤ runO l a1 := runO_mono h1 (j + 1 - a1) a1 (by omega)
      have hla := stk_len a1 ha0
      rw [hs] at hl
      simp only [List.length_cons] at hl
      obtain ⟨b, rfl⟩ : ∃ b, a1 = b + 1 := by
        cases a1 with
        | zero => simp only [stk, List.length_nil] at hl; omega
        | succ b => exact ⟨b, rfl⟩
      obtain ⟨a2, d2, hc, hs'⟩ := stk_top b ha0
      rw [stk_2 e (by rw [hs, hs'])] at hst
      injection hst with e1 _
      injection e1 with e1 _
      subst e1
      obtain ⟨y, hy, hyT, hyS⟩ := ih j (by omega) (by omega) h1 _ _ _ hs
      obtain ⟨x, hx, hxT, hxS⟩ := ih b (by omega) (by omega) ha0 _ _ _ hs'
      rw [hx] at hy
      obtain ⟨g1, g2, g3⟩ := r2 e
      have hsg : ∀ k : Int, k = (l.getD (j + 1) (0, 0)).1 → sgE l a2 (b + 1) ++ sgE l (b + 1) (j + 1) ++ [(k, 0)] = sgE l a2 (j + 1 + 1) := by
        intro k hk
        have hq : (k, (0 : Int)) = l.getD (j + 1) (0, 0) := Prod.ext hk g3.symm
        rw [hq, ← sg_one hi, sg_app (by omega) (by omega), sg_app (by omega) (by omega)]
      refine ⟨_, tks_2 e hy, ?_⟩
      have hk : (l.getD (j + 1) (0, 0)).1 = 3 ∨ (l.getD (j + 1) (0, 0)).1 = 4 ∨ (l.getD (j + 1) (0, 0)).1 = 5 ∨ (l.getD (j + 1) (0, 0)).1 = 6 := by omega
      have hyy : TTp (if smB (l.getD j (0, 0)) = true then [40] ++ y ++ [41] else y) (sgE l (b + 1) (j + 1)) := by
        by_cases hb : smB (l.getD j (0, 0)) = true
        · rw [if_pos hb]; exact TT_par hyS
        · rw [if_neg hb]; exact hyT (by simpa using hb)
      rcases hk with hk | hk | hk | hk
      · have := SS_sum hxS hyy (c := 43) (k := 3) (.inl ⟨rfl, rfl⟩)
        rw [hsg 3 hk.symm] at this
        refine ⟨fun h => absurd h (by simp only [smB, hk]; decide), ?_⟩
        unfold biT
        rw [if_neg (by omega), if_neg (by omega), if_pos hk]
        exact this
      · have := SS_sum hxS hyy (c := 45) (k := 4) (.inr ⟨rfl, rfl⟩)
        rw [hsg 4 hk.symm] at this
        refine ⟨fun h => absurd h (by simp only [smB, hk]; decide), ?_⟩
        unfold biT
        rw [if_neg (by omega), if_neg (by omega), if_neg (by omega)]
        exact this
      · have := TT_two (.inl ⟨rfl, rfl⟩) hxS hyS
        rw [hsg 5 hk.symm] at this
        unfold biT
        rw [if_pos hk]
        exact ⟨fun _ => this, TT_SS this⟩
      · have := TT_two (.inr ⟨rfl, rfl⟩) hxS hyS
        rw [hsg 6 hk.symm] at this
        unfold biT
        rw [if_neg (by omega), if_pos hk]
        exact ⟨fun _ => this, TT_SS this⟩
    · omega
/-- A text that was printed is read back. -/
theorem parse_text {l : List (Int × Int)} (h : goodE l = true) : parseE (textE l) = some l := by
  obtain ⟨h15, hr⟩ := good_run h
  obtain ⟨n, hn⟩ : ∃ n, l.length = n + 1 := by
    cases hl : l.length with
    | zero => rw [hl] at hr; simp [runO] at hr
    | succ n => exact ⟨n, rfl⟩
  have h0 : 0 ≤ runO l (n + 1) := by rw [← hn]; omega
  obtain ⟨a, d, ha, hs⟩ := stk_top n h0
  obtain ⟨t, ht, _, hS⟩ := rt_top n (by omega) h0 a d _ hs
  have hl := stk_len (n + 1) h0
  have ha0 : 0 ≤ runO l a := runO_mono h0 (n + 1 - a) a (by omega)
  have hla := stk_len a ha0
  rw [hs, ← hn, hr] at hl
  simp only [List.length_cons] at hl
  have hz : a = 0 := by
    cases a with
    | zero => rfl
    | succ b => have := runO_pos ha0; omega
  subst hz
  have he : textE l = t := by unfold textE; rw [hn, ht]; rfl
  have hsg : sgE l 0 (n + 1) = l := by
    unfold sgE
    rw [← hn]
    simp
  rw [hsg] at hS
  have e := SS_end hS (n := 3 * t.length + 2) (r := []) (Nat.le_refl _) (.inl rfl)
  rw [List.append_nil] at e
  unfold parseE
  rw [he, e]
  simp only []
  rw [if_pos ⟨h, he⟩]

end Go.Proofs.YtbjmfjfnilmhhaaGreatDoor.Eng
namespace Go.Proofs.YtbjmfjfnilmhhaaGreatDoor.Eng
open Go Go.Proofs
set_option maxRecDepth 100000
set_option maxHeartbeats 2000000
set_option linter.unusedSimpArgs false
set_option linter.unusedVariables false
attribute [local simp] finK fin1 hpOf xi renQ isRoot runCode runOps stepX inlOf Eng.step wantedV astep val ofO made loadV storeV find V.cells bin binT binA numT numFs eqCells un1 setAt fieldAddrV fieldV indexAddrV indexV bounds sliceV convV lenV foldV max2V min2V callO bor rdsO wrsO seen_none okD_none loops keepIds resV resultsV St.ev TK.agg refs refsL refsO V.one V.isC Value.oneCell' ren renL renO noTag noTagL noTagR noTagO nodup mapO passV frs psi refsR newD loopNext opsAt idx flatAt rootOf backR newsV appendV copyV clearV strV bytesV bldV bufV selfV bytesOf nilCmp buildV fillF chunk freeL frzW cellSame sameV
attribute [local simp] cT cF cX cWR cOW cK cBL X ints_length ints_get ints_getElem ints_drop ints_take ints_append ints_nil ints_set
attribute [local simp] ints_replicate
attribute [local simp] putV_some putV_none putH_app applyD_nil applyD_cons seen_app gc_ρ gc_H gc_tick st0_ρ st0_H st0_tick retV callRo callV_if borL_nil borL_cons ints_snoc take_self callWr cutH_app findQ afterV exportV_0 exportV_n okD_nil okD_cons sub_seq0 sub_seq1 sub_cond0 sub_cond1 sub_block sub_loop sub_nil young_far young_none hidW_nil mayW_nil keepsF_nil keepsF_cons pairs okI ok_0 ok_1 ok_2
attribute [local simp] T3 T4 T5 T9 T22 T24 T33 T36 T38 T45 T48 T51 T52 T54 T56 T71 T72 T74 T77 T99 T104 T117 T121
attribute [local simp] young_near clo cloF Region.binds Nat.testBit hidW declW mayW List.findIdx?_cons
theorem c_vNodes (k : Nat) (b c : Bool) (l m : List (Int × Int)) (hl : l.length ≤ 1048576) (hk : l.length + 10 ≤ k) : callK C k 10 [.sq b true 2 (ndL l), .sq c true 2 (ndL m)] [] = some (.c (.bool (decide (l = m))), hpOf [] []) := by
  obtain ⟨k, rfl⟩ : ∃ m, k = m + 3 := ⟨k - 3, by omega⟩
  rw [callK_fn rfl F10 code10]
  by_cases hlm : l = m
  · subst hlm
    have hL := loopHas (body := fun st => runCode C (callK C (k + 2)) (k + 2) (K 10) L10_0 1 st) (keep := [0, 1, 5]) (.ex 0) (fun st => True)
      (fun i st => st.ρ 0 = .sq b true 2 (ndL l) ∧ st.ρ 1 = .sq c true 2 (ndL l) ∧ st.ρ 5 = .c (.int .i64 (i : Int)))
      l.length (k + 2) (by omega)
      (by
        rintro i st next hi ⟨h0, h1, h5⟩ hn
        have nget := ndL_get l i hi
        simp [L10_0, R10_0, R10_1, R10_2, R10_3, R10_4, R10_5, R10_6, R10_7, R10_8, Tryz.f10, lpL10_0, lpM10_0, M10_0, h0, h1, h5, hi, ndL_length, nget, ndL_at, ndE, wrap_next hi (by omega : l.length ≤ 9000000000000000000)]
        simp only [and_true] at hn
        refine hn _ ⟨?_, ?_, ?_⟩ <;> simp [h0, h1])
      (by
        rintro st next ⟨h0, h1, h5⟩
        simp [L10_0, R10_0, R10_1, R10_2, R10_3, R10_4, R10_5, R10_6, R10_7, R10_8, Tryz.f10, lpL10_0, lpM10_0, M10_0, h0, h1, h5, ndL_length])
    simp [R10_0, R10_1, R10_2, R10_3, R10_4, R10_5, R10_6, R10_7, R10_8, Tryz.f10, lpL10_0, lpM10_0, ndL_length]
    generalize hr : loopRun _ _ _ _ = res
    obtain ⟨s1, rfl, _⟩ := loop_at hL hr (by simp)
    simp [R10_0, R10_1, R10_2, R10_3, R10_4, R10_5, R10_6, R10_7, R10_8, Tryz.f10, lpL10_0, lpM10_0, M10_0]
  · by_cases hll : l.length = m.length
    · have hL := loopHas (body := fun st => runCode C (callK C (k + 2)) (k + 2) (K 10) L10_0 1 st) (keep := [0, 1, 5]) .ret (fun st => st.ρ 4 = .c (.bool false))
        (fun i st => st.ρ 0 = .sq b true 2 (ndL l) ∧ st.ρ 1 = .sq c true 2 (ndL m) ∧ st.ρ 5 = .c (.int .i64 (i : Int)) ∧ l.take i = m.take i)
        l.length (k + 2) (by omega)
        (by
          rintro i st next hi ⟨h0, h1, h5, ht⟩ hn
          have hi' : i < m.length := by omega
          have nget := ndL_get l i hi
          have nget' := ndL_get m i hi'
          by_cases hx : l[i] = m[i]
          · have ht' : l.take (i + 1) = m.take (i + 1) := by rw [List.take_succ_eq_append_getElem hi, List.take_succ_eq_append_getElem hi', ht, hx]
            simp [L10_0, R10_0, R10_1, R10_2, R10_3, R10_4, R10_5, R10_6, R10_7, R10_8, Tryz.f10, lpL10_0, lpM10_0, M10_0, h0, h1, h5, hi, hi', ndL_length, nget, nget', ndL_at, ndE, hx, wrap_next hi (by omega : l.length ≤ 9000000000000000000)]
            exact hn _ ⟨by simp [h0], by simp [h1], by simp, ht'⟩
          · have hx' : (l[i].1 = m[i].1 → ¬ l[i].2 = m[i].2) := fun e1 e2 => hx (Prod.ext e1 e2)
            have hx3 : ¬ l[i].1 = m[i].1 ∨ ¬ l[i].2 = m[i].2 := by
              by_cases e1 : l[i].1 = m[i].1
              · exact .inr (hx' e1)
              · exact .inl e1
            simp [L10_0, R10_0, R10_1, R10_2, R10_3, R10_4, R10_5, R10_6, R10_7, R10_8, Tryz.f10, lpL10_0, lpM10_0, M10_0, h0, h1, h5, hi, hi', ndL_length, nget, nget', ndL_at, ndE, hx3, hx'])
        (by
          rintro st next ⟨h0, h1, h5, ht⟩
          rw [List.take_of_length_le (by omega), List.take_of_length_le (by omega)] at ht
          exact absurd ht hlm)
      have hll' : (l.length : Int) = m.length := by omega
      simp [R10_0, R10_1, R10_2, R10_3, R10_4, R10_5, R10_6, R10_7, R10_8, Tryz.f10, lpL10_0, lpM10_0, ndL_length, hll]
      generalize hr : loopRun _ _ _ _ = res
      obtain ⟨s1, rfl, f4⟩ := loop_at hL hr ⟨by simp, by simp, by simp, by simp⟩
      simp [R10_0, R10_1, R10_2, R10_3, R10_4, R10_5, R10_6, R10_7, R10_8, Tryz.f10, lpL10_0, lpM10_0, M10_0, f4, hlm]
    · have hll' : ¬ (l.length : Int) = m.length := by omega
      simp [R10_0, R10_1, R10_2, R10_3, R10_4, R10_5, R10_6, R10_7, R10_8, Tryz.f10, lpL10_0, lpM10_0, M10_0, ndL_length, hlm, hll']
theorem c_vNodesNil (k : Nat) (c : Bool) (hk : 10 ≤ k) : callK C k 10 [.c (.slice none 0 0), .sq c true 2 []] [] = some (.c (.bool true), hpOf [] []) := by
  obtain ⟨k, rfl⟩ : ∃ m, k = m + 3 := ⟨k - 3, by omega⟩
  rw [callK_fn rfl F10 code10]
  simp [R10_0, R10_1, R10_2, R10_3, R10_4, R10_5, R10_6, R10_7, R10_8, Tryz.f10, lpL10_0, lpM10_0, M10_0, L10_0, loopRun_succ]
theorem c_vInts (k : Nat) (b c : Bool) (l : List Int) (hl : l.length ≤ 1048576) (hk : l.length + 10 ≤ k) : callK C k 35 [.sq b true 1 (ints l), .sq c true 1 (ints l)] [] = some (.c (.bool true), hpOf [] []) := by
  obtain ⟨k, rfl⟩ : ∃ m, k = m + 3 := ⟨k - 3, by omega⟩
  rw [callK_fn rfl F35 code35]
  have hL := loopHas (body := fun st => runCode C (callK C (k + 2)) (k + 2) (K 35) L35_0 1 st) (keep := [0, 1, 5]) (.ex 0) (fun st => True)
    (fun i st => st.ρ 0 = .sq b true 1 (ints l) ∧ st.ρ 1 = .sq c true 1 (ints l) ∧ st.ρ 5 = .c (.int .i64 (i : Int)))
    l.length (k + 2) (by omega)
    (by
      rintro i st next hi ⟨q0, q1, q5⟩ hx
      have hwn := wrap_next hi (by omega)
      simp [L35_0, R35_0, R35_1, R35_2, R35_3, R35_4, R35_5, R35_6, R35_7, R35_8, Tryz.f35, lpL35_0, lpM35_0, M35_0, q0, q1, q5, hi, hwn] at hx ⊢
      exact hx _ (by simp [q0]) (by simp [q1]) (by simp))
    (by
      rintro st next ⟨q0, q1, q5⟩
      simp [L35_0, R35_0, R35_1, R35_2, R35_3, R35_4, R35_5, R35_6, R35_7, R35_8, Tryz.f35, lpL35_0, lpM35_0, M35_0, q0, q1, q5])
  simp [R35_0, R35_1, R35_2, R35_3, R35_4, R35_5, R35_6, R35_7, R35_8, Tryz.f35, lpL35_0, lpM35_0]
  generalize hr2 : loopRun _ _ _ _ = res
  obtain ⟨s1, rfl, _⟩ := loop_at hL hr2 ⟨by simp, by simp, by simp⟩
  simp [R35_0, R35_1, R35_2, R35_3, R35_4, R35_5, R35_6, R35_7, R35_8, Tryz.f35, lpL35_0, lpM35_0, M35_0]
theorem c_vField (k : Nat) (b c : Bool) (w h : Int) (l : List Int) (hl : l.length ≤ 1048576) (hk : l.length + 20 ≤ k) : callK C k 15 [fldV b w h l, fldV c w h l] [] = some (.c (.bool true), hpOf [] []) := by
  obtain ⟨k, rfl⟩ : ∃ m, k = m + 1 := ⟨k - 1, by omega⟩
  rw [callK_fn rfl F15 code15]
  have e := c_vInts k b c l hl (by omega)
  simp [R15_0, R15_1, Tryz.f15, fldV, e]
theorem c_vFieldNil (k : Nat) (hk : 20 ≤ k) : callK C k 15 [nilV, nilV] [] = some (.c (.bool true), hpOf [] []) := by
  obtain ⟨k, rfl⟩ : ∃ m, k = m + 9 := ⟨k - 9, by omega⟩
  rw [callK_fn rfl F15 code15]
  have e : callK C (k + 8) 35 [.c (.slice none 0 0), .c (.slice none 0 0)] [] = some (.c (.bool true), hpOf [] []) := by
    rw [callK_fn (k := k + 7) rfl F35 code35]
    simp [R35_0, R35_1, R35_2, R35_3, R35_4, R35_5, R35_6, R35_7, R35_8, Tryz.f35, lpL35_0, lpM35_0, M35_0, L35_0, loopRun_succ]
  simp [R15_0, R15_1, Tryz.f15, nilV, e]
theorem c_vBig (k : Nat) (code : List Int) (hk : 1 ≤ k) : callK C k 4 [.sq false true 1 (u8s code)] [] = some (.c (.bool (decide (65536 < code.length))), hpOf [] []) := by
  obtain ⟨k, rfl⟩ : ∃ m, k = m + 1 := ⟨k - 1, by omega⟩
  rw [callK_fn rfl F4 code4]
  have : ((65536 : Int) < (code.length : Int)) = (65536 < code.length) := by apply propext; omega
  simp [R4_0, R4_1, Tryz.f4, u8s_length, this]
theorem c_spoiltE (k : Nat) (c : Cur) (m : Nat) (t : List UInt8) (h : c.P m) (hm : m ≤ 100000000) (hl : t.length ≤ 1000) (hk : 100 ≤ k) : ∃ (r : List UInt8) (c' : Cur), callK C k 27 [.p 0 0 3 0 0, .c (.string (bs t)), .c (.string (bs [97, 43, 40, 49]))] [curO c] = some (.c (.string (bs r)), hpOf [some (curO c')] []) ∧ r.length ≤ 3000 := by
  obtain ⟨k, rfl⟩ : ∃ m, k = m + 9 := ⟨k - 9, by omega⟩
  rw [callK_fn rfl F27 code27]
  by_cases h0 : t = []
  · subst h0
    refine ⟨[97], c, ?_, by simp⟩
    simp [R27_0, R27_1, R27_2, R27_3, R27_4, R27_5, R27_6, R27_7, R27_8, R27_9, R27_10, Tryz.f27, curO, curE, lit0, bs_neq, bs_size, bs_extract]
  have hp : 0 < t.length := List.length_pos_iff.2 h0
  obtain ⟨r1, c1, e1, r1a, r1b, p1⟩ := c_pick (k + 8) c m t.length h (by omega) (by omega) (by omega)
  obtain ⟨i, rfl⟩ : ∃ i : Nat, r1 = i := ⟨r1.toNat, by omega⟩
  have hi : i < t.length := by omega
  obtain ⟨r2, c2, e2, r2a, r2b, p2⟩ := c_pick (k + 8) c1 _ 4 p1 (by omega) (by omega) (by omega)
  obtain ⟨r3, c3, e3, r3a, r3b, p3⟩ := c_pick (k + 8) c2 _ 3 p2 (by omega) (by omega) (by omega)
  simp [curO, curE] at e1 e2 e3
  have g1 : (i : Int) ≤ (t.length : Int) := by omega
  have g2 : i ≤ t.length := by omega
  have g3 : (i : Int) + 1 ≤ (t.length : Int) := by omega
  have g4 : i + 1 ≤ t.length := by omega
  have g5 : (0 : Int) ≤ (i : Int) + 1 := by omega
  have g6 : ((i : Int) + 1).toNat = i + 1 := by omega
  have w1 : IntKind.i64.wrap ((i : Int) + 1) = (i : Int) + 1 := wrap_small (by omega) (by omega)
  obtain ⟨T1, hT1⟩ : ∃ T, (bs t).extract 0 i = bs T ∧ T.length ≤ 1000 := ⟨_, bs_extract t 0 i, by simp; omega⟩
  obtain ⟨T2, hT2⟩ : ∃ T, (bs t).extract i t.length = bs T ∧ T.length ≤ 1000 := ⟨_, bs_extract t i t.length, by simp; omega⟩
  obtain ⟨T3, hT3⟩ : ∃ T, (bs t).extract (i + 1) t.length = bs T ∧ T.length ≤ 1000 := ⟨_, bs_extract t (i + 1) t.length, by simp; omega⟩
  obtain ⟨hT1, n1⟩ := hT1
  obtain ⟨hT2, n2⟩ := hT2
  obtain ⟨hT3, n3⟩ := hT3
  have a1 : T1.length + 1 ≤ 9223372036854775807 := by omega
  have a2 : T1.length + 1 + T2.length ≤ 9223372036854775807 := by omega
  have a3 : T1.length + 1 + T3.length ≤ 9223372036854775807 := by omega
  have a4 : T1.length + T3.length ≤ 9223372036854775807 := by omega
  have a5 : T1.length + (T2.length + 1) ≤ 9223372036854775807 := by omega
  have a6 : T1.length + (T3.length + 1) ≤ 9223372036854775807 := by omega
  have hX : ∀ j, (bs [97, 43, 40, 49]).extract j 4 = bs (([97, 43, 40, 49].drop j).take (4 - j)) := fun j => bs_extract _ j 4
  have hY : ∀ l : List UInt8, (bs l).extract 0 1 = bs (l.take 1) := fun l => by rw [bs_extract]; simp
  have hq : r3 = 0 ∨ r3 = 1 ∨ r3 = 2 := by omega
  have hj : r2 = 0 ∨ r2 = 1 ∨ r2 = 2 ∨ r2 = 3 := by omega
  obtain ⟨wv, hwv⟩ : ∃ wv : UInt8, (r2 = 0 ∧ wv = 97) ∨ (r2 = 1 ∧ wv = 43) ∨ (r2 = 2 ∧ wv = 40) ∨ (r2 = 3 ∧ wv = 49) := by
    rcases hj with h | h | h | h
    · exact ⟨97, by simp [h]⟩
    · exact ⟨43, by simp [h]⟩
    · exact ⟨40, by simp [h]⟩
    · exact ⟨49, by simp [h]⟩
  rcases hq with rfl | rfl | rfl
  · refine ⟨T1 ++ [wv] ++ T2, c3, ?_, by simp; omega⟩
    rcases hwv with ⟨rfl, rfl⟩ | ⟨rfl, rfl⟩ | ⟨rfl, rfl⟩ | ⟨rfl, rfl⟩ <;>
      simp [R27_0, R27_1, R27_2, R27_3, R27_4, R27_5, R27_6, R27_7, R27_8, R27_9, R27_10, Tryz.f27, curO, curE, lit0, bs_neq, bs_size, h0, e1, e2, e3, hT1, hT2, hT3, hX, hY, bs_append, g1, g2, g3, g4, g5, g6, w1, a1, a2, a3, a4, a5, a6]
  · refine ⟨T1 ++ [wv] ++ T3, c3, ?_, by simp; omega⟩
    rcases hwv with ⟨rfl, rfl⟩ | ⟨rfl, rfl⟩ | ⟨rfl, rfl⟩ | ⟨rfl, rfl⟩ <;>
      simp [R27_0, R27_1, R27_2, R27_3, R27_4, R27_5, R27_6, R27_7, R27_8, R27_9, R27_10, Tryz.f27, curO, curE, lit0, bs_neq, bs_size, h0, e1, e2, e3, hT1, hT2, hT3, hX, hY, bs_append, g1, g2, g3, g4, g5, g6, w1, a1, a2, a3, a4, a5, a6]
  · refine ⟨T1 ++ T3, c3, ?_, by simp; omega⟩
    rcases hwv with ⟨rfl, rfl⟩ | ⟨rfl, rfl⟩ | ⟨rfl, rfl⟩ | ⟨rfl, rfl⟩ <;>
      simp [R27_0, R27_1, R27_2, R27_3, R27_4, R27_5, R27_6, R27_7, R27_8, R27_9, R27_10, Tryz.f27, curO, curE, lit0, bs_neq, bs_size, h0, e1, e2, e3, hT1, hT2, hT3, hX, hY, bs_append, g1, g2, g3, g4, g5, g6, w1, a1, a2, a3, a4, a5, a6]
theorem c_DrawIsE (k : Nat) (code : List Int) (hb : ∀ x ∈ code, 0 ≤ x ∧ x ≤ 255) (hl : code.length ≤ maxLen) (hk : 600 ≤ k) : ∃ l, callK C k 18 [.sq false true 1 (u8s code)] [] = some (.s 0 2 2 0 l.length, hpOf [] [ndO l]) ∧ l.length ≤ 41 := by
  obtain ⟨k, rfl⟩ : ∃ m, k = m + 9 := ⟨k - 9, by omega⟩
  rw [callK_fn rfl F18 code18]
  obtain ⟨l, c1, e1, l41, p1⟩ := c_anyExpression (k + 8) ⟨code, 0, 0⟩ 0 ⟨hb, hl, Nat.le_refl _⟩ (by omega) (by omega)
  simp [curO, curE, ndO] at e1
  refine ⟨l, ?_, l41⟩
  simp [R18_0, R18_1, R18_2, Tryz.f18, e1, ndO]
theorem c_DrawFormatE (k : Nat) (code : List Int) (hb : ∀ x ∈ code, 0 ≤ x ∧ x ≤ 255) (hl : code.length ≤ maxLen) (hk : 700 ≤ k) : ∃ l, callK C k 5 [.sq false true 1 (u8s code)] [] = some (.s 0 2 2 0 l.length, hpOf [] [ndO l]) ∧ l.length ≤ 41 := by
  obtain ⟨k, rfl⟩ : ∃ m, k = m + 9 := ⟨k - 9, by omega⟩
  rw [callK_fn rfl F5 code5]
  obtain ⟨l, e1, l41⟩ := c_DrawIsE (k + 8) code hb hl (by omega)
  simp [ndO] at e1
  refine ⟨l, ?_, l41⟩
  simp [R5_0, R5_1, Tryz.f5, e1, ndO]
theorem c_DrawParseE (k : Nat) (code : List Int) (hb : ∀ x ∈ code, 0 ≤ x ∧ x ≤ 255) (hl : code.length ≤ maxLen) (hk : 700 ≤ k) : ∃ t, callK C k 11 [.sq false true 1 (u8s code)] [] = some (.c (.string (bs t)), hpOf [] []) ∧ t.length ≤ 3000 := by
  obtain ⟨k, rfl⟩ : ∃ m, k = m + 9 := ⟨k - 9, by omega⟩
  rw [callK_fn rfl F11 code11]
  obtain ⟨l, c1, e1, l40, p1⟩ := c_expression (k + 8) ⟨code, 0, 0⟩ 0 ⟨hb, hl, Nat.le_refl _⟩ (by omega) (by omega)
  have S := c_specFormat (k + 8) true l (by omega)
  obtain ⟨T, hT⟩ : ∃ T, (if goodE l = true then ((tks l l.length).headD ([], false)).1 else []) = T := ⟨_, rfl⟩
  have hTl : T.length ≤ 180 := by
    rw [← hT]
    split
    · rename_i hg
      exact text_le hg
    · simp
  rw [hT] at S
  obtain ⟨b, c2, e2, p2⟩ := c_one (k + 8) c1 _ 4 p1 (by omega) (by omega) (by omega)
  obtain ⟨r, c3, e3, r3⟩ := c_spoiltE (k + 8) c2 _ T p2 (by omega) (by omega) (by omega)
  simp [curO, curE, ndO] at e1 e2 e3
  cases b
  · refine ⟨T, ?_, by omega⟩
    simp [R11_0, R11_1, R11_2, R11_3, R11_4, R11_5, R11_6, Tryz.f11, e1, S, e2, lit0, ndL_length, ndL_take]
  · refine ⟨r, ?_, by omega⟩
    have hw : (⟨#[97, 43, 40, 49]⟩ : ByteArray) = bs [97, 43, 40, 49] := rfl
    simp [R11_0, R11_1, R11_2, R11_3, R11_4, R11_5, R11_6, Tryz.f11, e1, S, e2, e3, hw, lit0, ndL_length, ndL_take]
theorem c_implFormatNil (k : Nat) (hk : 500 ≤ k) : callK C k 6 [.c (.slice none 0 0)] [] = some (.tp [.c (.string (bs [])), .c (.bool false)], hpOf [] []) := by
  obtain ⟨k, rfl⟩ : ∃ m, k = m + 1 := ⟨k - 1, by omega⟩
  rw [callK_fn rfl F6 code6]
  have gd := c_IsExprNil k (by omega)
  simp [R6_0, R6_1, R6_2, R6_3, Tryz.f6, gd, lit0]

end Go.Proofs.YtbjmfjfnilmhhaaGreatDoor.Eng
namespace Go.Proofs.YtbjmfjfnilmhhaaGreatDoor.Eng
open Go Go.Proofs
set_option maxRecDepth 100000
set_option maxHeartbeats 2000000
set_option linter.unusedSimpArgs false
set_option linter.unusedVariables false
attribute [local simp] finK fin1 hpOf xi renQ isRoot runCode runOps stepX inlOf Eng.step wantedV astep val ofO made loadV storeV find V.cells bin binT binA numT numFs eqCells un1 setAt fieldAddrV fieldV indexAddrV indexV bounds sliceV convV lenV foldV max2V min2V callO bor rdsO wrsO seen_none okD_none loops keepIds resV resultsV St.ev TK.agg refs refsL refsO V.one V.isC Value.oneCell' ren renL renO noTag noTagL noTagR noTagO nodup mapO passV frs psi refsR newD loopNext opsAt idx flatAt rootOf backR newsV appendV copyV clearV strV bytesV bldV bufV selfV bytesOf nilCmp buildV fillF chunk freeL frzW cellSame sameV
attribute [local simp] cT cF cX cWR cOW cK cBL X ints_length ints_get ints_getElem ints_drop ints_take ints_append ints_nil ints_set
attribute [local simp] ints_replicate
attribute [local simp] putV_some putV_none putH_app applyD_nil applyD_cons seen_app gc_ρ gc_H gc_tick st0_ρ st0_H st0_tick retV callRo callV_if borL_nil borL_cons ints_snoc take_self callWr cutH_app findQ afterV exportV_0 exportV_n okD_nil okD_cons sub_seq0 sub_seq1 sub_cond0 sub_cond1 sub_block sub_loop sub_nil young_far young_none hidW_nil mayW_nil keepsF_nil keepsF_cons pairs okI ok_0 ok_1 ok_2
attribute [local simp] T3 T4 T5 T9 T22 T24 T33 T36 T38 T45 T48 T51 T52 T54 T56 T71 T72 T74 T77 T99 T104 T117 T121
theorem evR_cases (l : List (Int × Int)) (p : List Fd) : evR l p = some (.tp [nilV, .c (.bool false)], hpOf [] []) ∨ ∃ w h z, z.length ≤ 64 ∧ evR l p = some (.tp [ownV w h 0 2 z.length, .c (.bool true)], hpOf [] [intsO z]) := by
  unfold evR
  by_cases hc : (goodE l && alikeF p) = true
  · rw [if_pos hc]
    simp only [Bool.and_eq_true] at hc
    obtain ⟨hg, ha⟩ := hc
    cases p with
    | nil => cases ha
    | cons q0 r =>
      unfold alikeF at ha
      simp only [Bool.and_eq_true, decide_eq_true_eq] at ha
      obtain ⟨ha, h3⟩ := ha
      rw [List.all_eq_true] at ha
      have hFs : ∀ q ∈ q0 :: r, goodB q0.w q0.h q.l = true := by
        intro q hq
        have := ha q hq
        simp only [likeB, Bool.and_eq_true, beq_iff_eq] at this
        obtain ⟨t1, t2, t3⟩ := this
        rw [t2, t3] at t1
        exact t1
      have hs : shapeB q0.w q0.h = true := good_shape (hFs q0 (by simp))
      have hw : evW (q0 :: r) = q0.w := rfl
      have hh : evH (q0 :: r) = q0.h := rfl
      rw [hw, hh]
      obtain ⟨h15, hr⟩ := good_run hg
      unfold evV
      cases hE : evA q0.w q0.h (q0 :: r) l l.length with
      | none => exact .inl rfl
      | some A =>
        obtain ⟨a1, a2⟩ := evA_ok hs hFs l.length A (by omega) hE
        cases A with
        | nil => simp at a1; omega
        | cons z A =>
          have := good_length (a2 z (by simp))
          exact .inr ⟨_, _, z, this.2.2.2, rfl⟩
  · rw [if_neg hc]
    exact .inl rfl
theorem evR_good {l : List (Int × Int)} {p : List Fd} {w h : Int} {z : List Int} (hR : evR l p = some (.tp [ownV w h 0 2 z.length, .c (.bool true)], hpOf [] [intsO z])) : goodE l = true := by
  cases hg : goodE l
  · unfold evR at hR
    rw [hg] at hR
    simp [resF, nilV, ownV] at hR
  · rfl

end Go.Proofs.YtbjmfjfnilmhhaaGreatDoor.Eng
namespace Go.Proofs.YtbjmfjfnilmhhaaGreatDoor.Eng
open Go Go.Proofs
set_option maxRecDepth 100000
set_option maxHeartbeats 2000000
set_option linter.unusedSimpArgs false
set_option linter.unusedVariables false
attribute [local simp] finK fin1 hpOf xi renQ isRoot runCode runOps stepX inlOf Eng.step wantedV astep val ofO made loadV storeV find V.cells bin binT binA numT numFs eqCells un1 setAt fieldAddrV fieldV indexAddrV indexV bounds sliceV convV lenV foldV max2V min2V callO bor rdsO wrsO seen_none okD_none loops keepIds resV resultsV St.ev TK.agg refs refsL refsO V.one V.isC Value.oneCell' ren renL renO noTag noTagL noTagR noTagO nodup mapO passV frs psi refsR newD loopNext opsAt idx flatAt rootOf backR newsV appendV copyV clearV strV bytesV bldV bufV selfV bytesOf nilCmp buildV fillF chunk freeL frzW cellSame sameV
attribute [local simp] cT cF cX cWR cOW cK cBL X ints_length ints_get ints_getElem ints_drop ints_take ints_append ints_nil ints_set
attribute [local simp] ints_replicate
attribute [local simp] putV_some putV_none putH_app applyD_nil applyD_cons seen_app gc_ρ gc_H gc_tick st0_ρ st0_H st0_tick retV callRo callV_if borL_nil borL_cons ints_snoc take_self callWr cutH_app findQ afterV exportV_0 exportV_n okD_nil okD_cons sub_seq0 sub_seq1 sub_cond0 sub_cond1 sub_block sub_loop sub_nil young_far young_none hidW_nil mayW_nil keepsF_nil keepsF_cons pairs okI ok_0 ok_1 ok_2
attribute [local simp] T3 T4 T5 T9 T22 T24 T33 T36 T38 T45 T48 T51 T52 T54 T56 T71 T72 T74 T77 T99 T104 T117 T121
attribute [local simp] young_near clo cloF Region.binds Nat.testBit hidW declW mayW List.findIdx?_cons
/-- The law answers true. -/
def YesX (k : Nat) (c : Code) (st : St) : Prop := ∃ s, runCode C (callK C k) k (K 3) c 0 st = some (.ret, s) ∧ s.ρ 2 = .c (.bool true)
/-- What the last draw has made. -/
structure LxE (l : List (Int × Int)) (P : List Fg) (lo hi nid nvr id vr : Nat) (s : St) : Prop where
  q15 : s.ρ 15 = .s nid nvr 2 0 l.length
  q16 : s.ρ 16 = .s id vr 3 0 P.length
  Hn : s.H nid = some (nvr, ndO l)
  hP : HasG s.H P lo hi
  Ho : s.H id = some (vr, flG P)
  n0 : lo ≤ nid
  n1 : nid < hi
  i0 : lo ≤ id
  i1 : id < hi
  lb : Bt 1 ≤ lo
theorem LxE.keep {l : List (Int × Int)} {P : List Fg} {lo hi nid nvr id vr : Nat} {s s' : St} (I : LxE l P lo hi nid nvr id vr s) (q15 : s'.ρ 15 = s.ρ 15) (q16 : s'.ρ 16 = s.ρ 16) (hk : ∀ x, lo ≤ x → x < hi → s'.H x = s.H x) : LxE l P lo hi nid nvr id vr s' := by
  obtain ⟨a, b, Hn, hP, Ho, n0, n1, i0, i1, lb⟩ := I
  exact ⟨by rw [q15, a], by rw [q16, b], by rw [hk _ n0 n1]; exact Hn, hP.keep hk (Nat.le_refl _), by rw [hk _ i0 i1]; exact Ho, n0, n1, i0, i1, lb⟩
/-- Two heaps that hold the same things far out. -/
def FarS (H H0 : Hp) : Prop := ∀ x, 4294967296 ≤ x → H x = H0 x
theorem FarS.rf (H : Hp) : FarS H H := fun _ _ => rfl
theorem FarS.put {H H0 : Hp} (h : FarS H H0) {i : Nat} (hi : i < 4294967296) (v : Option (Nat × Eng.Obj)) : FarS (putH H i v) H0 := by
  intro x hx
  rw [putH_app, if_neg (by omega)]
  exact h x hx
theorem LxE.far {l : List (Int × Int)} {P : List Fg} {lo hi nid nvr id vr : Nat} {s s' : St} (I : LxE l P lo hi nid nvr id vr s) (q15 : s'.ρ 15 = s.ρ 15) (q16 : s'.ρ 16 = s.ρ 16) (hk : FarS s'.H s.H) : LxE l P lo hi nid nvr id vr s' := I.keep q15 q16 fun x a _ => hk x (by have := I.lb; unfold Bt at this; omega)
theorem LxE.nds {l : List (Int × Int)} {P : List Fg} {lo hi nid nvr id vr : Nat} {s : St} (I : LxE l P lo hi nid nvr id vr s) (H : Hp) (h : FarS H s.H) : Eng.bor H 4 (.s nid nvr 2 0 l.length) = some (.sq true true 2 (ndL l)) := by
  have hb := I.lb
  have h0 := I.n0
  unfold Bt at hb
  simp [Eng.bor, find, h nid (by omega), I.Hn, ndO, ndL_length, ndL_take]
theorem LxE.fds {l : List (Int × Int)} {P : List Fg} {lo hi nid nvr id vr : Nat} {s : St} (I : LxE l P lo hi nid nvr id vr s) (H : Hp) (h : FarS H s.H) : Eng.bor H 4 (.s id vr 3 0 P.length) = some (.sq true false 3 ((P.map Fg.fd).map Fd.cells)) := by
  have hb := I.lb
  have h0 := I.i0
  unfold Bt at hb
  exact bor_flG (I.hP.keep (fun x a _ => h x (by omega)) (Nat.le_refl _)) (by rw [h id (by omega)]; exact I.Ho) 2
noncomputable def xD : Code := (.seq (.seq (.region 23 R3_23 false) (.cond (.tmp 149) (.seq (.region 24 R3_24 false) (.seq (.region 25 R3_25 false) (.seq (.region 26 R3_26 false) (.cond (.tmp 182) (.seq (.region 27 R3_27 false) .ret) .skip)))) .skip)) (.seq (.region 28 R3_28 false) .ret))
noncomputable def xC : Code := (.seq (.region 19 R3_19 false) (.seq (.seq (.region 20 R3_20 false) (.seq (.region 21 R3_21 false) (.cond (.tmp 148) (.seq (.region 22 R3_22 false) .ret) .skip))) (.seq (.seq (.region 23 R3_23 false) (.cond (.tmp 149) (.seq (.region 24 R3_24 false) (.seq (.region 25 R3_25 false) (.seq (.region 26 R3_26 false) (.cond (.tmp 182) (.seq (.region 27 R3_27 false) .ret) .skip)))) .skip)) (.seq (.region 28 R3_28 false) .ret))))
noncomputable def xB : Code := (.seq (.region 15 R3_15 false) (.seq (.seq (.region 16 R3_16 false) (.seq (.region 17 R3_17 false) (.cond (.tmp 122) (.seq (.region 18 R3_18 false) .ret) .skip))) (.seq (.region 19 R3_19 false) (.seq (.seq (.region 20 R3_20 false) (.seq (.region 21 R3_21 false) (.cond (.tmp 148) (.seq (.region 22 R3_22 false) .ret) .skip))) (.seq (.seq (.region 23 R3_23 false) (.cond (.tmp 149) (.seq (.region 24 R3_24 false) (.seq (.region 25 R3_25 false) (.seq (.region 26 R3_26 false) (.cond (.tmp 182) (.seq (.region 27 R3_27 false) .ret) .skip)))) .skip)) (.seq (.region 28 R3_28 false) .ret))))))
noncomputable def xA : Code := (.seq (.region 14 R3_14 false) (.seq (.region 15 R3_15 false) (.seq (.seq (.region 16 R3_16 false) (.seq (.region 17 R3_17 false) (.cond (.tmp 122) (.seq (.region 18 R3_18 false) .ret) .skip))) (.seq (.region 19 R3_19 false) (.seq (.seq (.region 20 R3_20 false) (.seq (.region 21 R3_21 false) (.cond (.tmp 148) (.seq (.region 22 R3_22 false) .ret) .skip))) (.seq (.seq (.region 23 R3_23 false) (.cond (.tmp 149) (.seq (.region 24 R3_24 false) (.seq (.region 25 R3_25 false) (.seq (.region 26 R3_26 false) (.cond (.tmp 182) (.seq (.region 27 R3_27 false) .ret) .skip)))) .skip)) (.seq (.region 28 R3_28 false) .ret)))))))
noncomputable def xP : Code := (.seq (.region 9 R3_9 false) (.seq (.region 10 R3_10 false) (.seq (.region 11 R3_11 false) (.seq (.seq (.region 12 R3_12 false) (.cond (.tmp 96) (.seq (.region 13 R3_13 false) .ret) .skip)) (.seq (.region 14 R3_14 false) (.seq (.region 15 R3_15 false) (.seq (.seq (.region 16 R3_16 false) (.seq (.region 17 R3_17 false) (.cond (.tmp 122) (.seq (.region 18 R3_18 false) .ret) .skip))) (.seq (.region 19 R3_19 false) (.seq (.seq (.region 20 R3_20 false) (.seq (.region 21 R3_21 false) (.cond (.tmp 148) (.seq (.region 22 R3_22 false) .ret) .skip))) (.seq (.seq (.region 23 R3_23 false) (.cond (.tmp 149) (.seq (.region 24 R3_24 false) (.seq (.region 25 R3_25 false) (.seq (.region 26 R3_26 false) (.cond (.tmp 182) (.seq (.region 27 R3_27 false) .ret) .skip)))) .skip)) (.seq (.region 28 R3_28 false) .ret)))))))))))
theorem xD_is : (.seq (.seq (.region 23 R3_23 false) (.cond (.tmp 149) (.seq (.region 24 R3_24 false) (.seq (.region 25 R3_25 false) (.seq (.region 26 R3_26 false) (.cond (.tmp 182) (.seq (.region 27 R3_27 false) .ret) .skip)))) .skip)) (.seq (.region 28 R3_28 false) .ret)) = xD := rfl
theorem xC_is : (.seq (.region 19 R3_19 false) (.seq (.seq (.region 20 R3_20 false) (.seq (.region 21 R3_21 false) (.cond (.tmp 148) (.seq (.region 22 R3_22 false) .ret) .skip))) (.seq (.seq (.region 23 R3_23 false) (.cond (.tmp 149) (.seq (.region 24 R3_24 false) (.seq (.region 25 R3_25 false) (.seq (.region 26 R3_26 false) (.cond (.tmp 182) (.seq (.region 27 R3_27 false) .ret) .skip)))) .skip)) (.seq (.region 28 R3_28 false) .ret)))) = xC := rfl
theorem xB_is : (.seq (.region 15 R3_15 false) (.seq (.seq (.region 16 R3_16 false) (.seq (.region 17 R3_17 false) (.cond (.tmp 122) (.seq (.region 18 R3_18 false) .ret) .skip))) (.seq (.region 19 R3_19 false) (.seq (.seq (.region 20 R3_20 false) (.seq (.region 21 R3_21 false) (.cond (.tmp 148) (.seq (.region 22 R3_22 false) .ret) .skip))) (.seq (.seq (.region 23 R3_23 false) (.cond (.tmp 149) (.seq (.region 24 R3_24 false) (.seq (.region 25 R3_25 false) (.seq (.region 26 R3_26 false) (.cond (.tmp 182) (.seq (.region 27 R3_27 false) .ret) .skip)))) .skip)) (.seq (.region 28 R3_28 false) .ret)))))) = xB := rfl
theorem xA_is : (.seq (.region 14 R3_14 false) (.seq (.region 15 R3_15 false) (.seq (.seq (.region 16 R3_16 false) (.seq (.region 17 R3_17 false) (.cond (.tmp 122) (.seq (.region 18 R3_18 false) .ret) .skip))) (.seq (.region 19 R3_19 false) (.seq (.seq (.region 20 R3_20 false) (.seq (.region 21 R3_21 false) (.cond (.tmp 148) (.seq (.region 22 R3_22 false) .ret) .skip))) (.seq (.seq (.region 23 R3_23 false) (.cond (.tmp 149) (.seq (.region 24 R3_24 false) (.seq (.region 25 R3_25 false) (.seq (.region 26 R3_26 false) (.cond (.tmp 182) (.seq (.region 27 R3_27 false) .ret) .skip)))) .skip)) (.seq (.region 28 R3_28 false) .ret))))))) = xA := rfl
theorem xP_is : (.seq (.region 9 R3_9 false) (.seq (.region 10 R3_10 false) (.seq (.region 11 R3_11 false) (.seq (.seq (.region 12 R3_12 false) (.cond (.tmp 96) (.seq (.region 13 R3_13 false) .ret) .skip)) (.seq (.region 14 R3_14 false) (.seq (.region 15 R3_15 false) (.seq (.seq (.region 16 R3_16 false) (.seq (.region 17 R3_17 false) (.cond (.tmp 122) (.seq (.region 18 R3_18 false) .ret) .skip))) (.seq (.region 19 R3_19 false) (.seq (.seq (.region 20 R3_20 false) (.seq (.region 21 R3_21 false) (.cond (.tmp 148) (.seq (.region 22 R3_22 false) .ret) .skip))) (.seq (.seq (.region 23 R3_23 false) (.cond (.tmp 149) (.seq (.region 24 R3_24 false) (.seq (.region 25 R3_25 false) (.seq (.region 26 R3_26 false) (.cond (.tmp 182) (.seq (.region 27 R3_27 false) .ret) .skip)))) .skip)) (.seq (.region 28 R3_28 false) .ret))))))))))) = xP := rfl
theorem xD_no (k : Nat) (st : St) (q18 : st.ρ 18 = .c (.bool false)) : YesX k xD st := by
  unfold YesX xD
  simp [R3_0, R3_1, R3_2, R3_3, R3_4, R3_5, R3_6, R3_7, R3_8, R3_9, R3_10, R3_11, R3_12, R3_13, R3_14, R3_15, R3_16, R3_17, R3_18, R3_19, R3_20, R3_21, R3_22, R3_23, R3_24, R3_25, R3_26, R3_27, R3_28, Tryz.f3, q18]
theorem xB_no (k : Nat) (l : List (Int × Int)) (P : List Fg) (lo hi nid nvr id vr : Nat) (st : St) (I : LxE l P lo hi nid nvr id vr st) (P9 : P.length ≤ 9) (hR : evR l (P.map Fg.fd) = some (.tp [nilV, .c (.bool false)], hpOf [] [])) (hk : 7000 ≤ k) (hC : ∀ s, LxE l P lo hi nid nvr id vr s → s.ρ 18 = .c (.bool false) → YesX k xC s) : YesX k xB st := by
  have E := c_implEvaluate k true true l (P.map Fg.fd) (by simp; omega) (by omega)
  have S := c_specEvaluate k true true l (P.map Fg.fd) (by simp; omega) (by simp; omega)
  have VN := c_vFieldNil k (by omega)
  rw [hR] at E S
  have eN := I.nds
  have eF := I.fds
  have q15 := I.q15
  have q16 := I.q16
  simp [nilV] at E S VN
  simp only [List.map_map] at eF E S
  unfold YesX xB
  rw [xC_is]
  simp (maxDischargeDepth := 30) [-Eng.bor, bor_sq, bor_c, R3_0, R3_1, R3_2, R3_3, R3_4, R3_5, R3_6, R3_7, R3_8, R3_9, R3_10, R3_11, R3_12, R3_13, R3_14, R3_15, R3_16, R3_17, R3_18, R3_19, R3_20, R3_21, R3_22, R3_23, R3_24, R3_25, R3_26, R3_27, R3_28, Tryz.f3, q15, q16, eN, eF, E, S, VN, FarS.rf, FarS.put]
  simp [VN]
  exact hC _ (I.far (by simp) (by simp) (by repeat (first | exact FarS.rf _ | refine FarS.put ?_ (by omega) _))) (by simp)
/-- A field that a call has answered. -/
structure FxE (w h : Int) (z : List Int) (A v B u r : Nat) (s : St) : Prop where
  q : s.ρ r = .p A v 3 0 0
  H1 : s.H A = some (v, ⟨38, 3, false, [[.c (.int .i64 w), .c (.int .i64 h), .s B u 1 0 z.length]]⟩)
  H2 : s.H B = some (u, intsO z)
theorem xB_yes (k : Nat) (l : List (Int × Int)) (P : List Fg) (lo hi nid nvr id vr : Nat) (st : St) (I : LxE l P lo hi nid nvr id vr st) (P9 : P.length ≤ 9) (w h : Int) (z : List Int) (hz : z.length ≤ 64) (hR : evR l (P.map Fg.fd) = some (.tp [ownV w h 0 2 z.length, .c (.bool true)], hpOf [] [intsO z])) (hk : 7000 ≤ k) (hC : ∀ s v u, LxE l P lo hi nid nvr id vr s → s.ρ 18 = .c (.bool true) → FxE w h z 15472 v 15408 u 17 s → YesX k xC s) : YesX k xB st := by
  have E := c_implEvaluate k true true l (P.map Fg.fd) (by simp; omega) (by omega)
  have S := c_specEvaluate k true true l (P.map Fg.fd) (by simp; omega) (by simp; omega)
  have VF := c_vField k true true w h z (by omega) (by omega)
  rw [hR] at E S
  have eN := I.nds
  have eF := I.fds
  have q15 := I.q15
  have q16 := I.q16
  simp [ownV, intsO] at E S
  simp [fldV] at VF
  simp only [List.map_map] at eF E S
  unfold YesX xB
  rw [xC_is]
  simp (maxDischargeDepth := 30) [-Eng.bor, bor_sq, bor_c, R3_0, R3_1, R3_2, R3_3, R3_4, R3_5, R3_6, R3_7, R3_8, R3_9, R3_10, R3_11, R3_12, R3_13, R3_14, R3_15, R3_16, R3_17, R3_18, R3_19, R3_20, R3_21, R3_22, R3_23, R3_24, R3_25, R3_26, R3_27, R3_28, Tryz.f3, q15, q16, eN, eF, E, S, VF, FarS.rf, FarS.put]
  simp [VF, ints_take]
  exact hC _ st.tick st.tick (I.far (by simp) (by simp) (by repeat (first | exact FarS.rf _ | refine FarS.put ?_ (by omega) _))) (by simp) ⟨by simp, by simp [putH_app], by simp [putH_app, intsO]⟩
theorem xC_bad (k : Nat) (l : List (Int × Int)) (P : List Fg) (lo hi nid nvr id vr : Nat) (st : St) (I : LxE l P lo hi nid nvr id vr st) (q18 : st.ρ 18 = .c (.bool false)) (hg : goodE l = false) (hk : 7000 ≤ k) : YesX k xC st := by
  have S := c_specFoldNo k true l hg (by omega)
  have F := c_implFoldNo k true l hg (by omega)
  have VN := c_vNodesNil k true (by omega)
  have hz : ndL [] = [] := rfl
  have eN := I.nds
  have q15 := I.q15
  simp [ndO, hz] at S
  unfold YesX xC
  rw [xD_is]
  simp (maxDischargeDepth := 30) [-Eng.bor, bor_sq, bor_c, R3_0, R3_1, R3_2, R3_3, R3_4, R3_5, R3_6, R3_7, R3_8, R3_9, R3_10, R3_11, R3_12, R3_13, R3_14, R3_15, R3_16, R3_17, R3_18, R3_19, R3_20, R3_21, R3_22, R3_23, R3_24, R3_25, R3_26, R3_27, R3_28, Tryz.f3, q15, eN, F, S, FarS.rf, FarS.put]
  have hl0 : ¬ (l.length : Int) < 0 := by omega
  simp [VN, q15, hl0]
  refine xD_no k _ ?_
  simp [q18]
theorem xC_good (k : Nat) (l : List (Int × Int)) (P : List Fg) (lo hi nid nvr id vr : Nat) (st : St) (I : LxE l P lo hi nid nvr id vr st) (hg : goodE l = true) (hk : 7000 ≤ k) (hl : l.length ≤ 41) (F0 : List (Int × Int)) (hF0 : fAll l.length l = F0)
    (hC : ∀ s F u, LxE l P lo hi nid nvr id vr s → s.ρ 18 = st.ρ 18 → s.ρ 17 = st.ρ 17 → (∀ x, 15000 ≤ x → x < 17000 → s.H x = st.H x) → s.ρ 21 = .s F u 2 0 F0.length → s.H F = some (u, ndO F0) → F = 19488 → s.ρ 22 = .c (.bool true) → YesX k xD s) : YesX k xC st := by
  have S := c_specFold k true l hg (by omega)
  have F := c_implFold k true l hg (by omega)
  rw [hF0] at S F
  have hle := (fAll_good l.length l hg).2
  rw [hF0] at hle
  have hle' : ¬ (l.length : Int) < (F0.length : Int) := by omega
  have VN := c_vNodes k true true F0 F0 (by omega) (by omega)
  have eN := I.nds
  have q15 := I.q15
  simp [ndO] at S F
  simp at VN
  unfold YesX xC
  rw [xD_is]
  simp (maxDischargeDepth := 30) [-Eng.bor, bor_sq, bor_c, R3_0, R3_1, R3_2, R3_3, R3_4, R3_5, R3_6, R3_7, R3_8, R3_9, R3_10, R3_11, R3_12, R3_13, R3_14, R3_15, R3_16, R3_17, R3_18, R3_19, R3_20, R3_21, R3_22, R3_23, R3_24, R3_25, R3_26, R3_27, R3_28, Tryz.f3, q15, eN, F, S, FarS.rf, FarS.put]
  simp [VN, ndL_length, ndL_take, q15, hle']
  exact hC _ 19488 st.tick (I.far (by simp) (by simp) (by repeat (first | exact FarS.rf _ | refine FarS.put ?_ (by omega) _))) (by simp) (by simp) (fun x h1 h2 => by simp only [putH_app]; rw [if_neg (by omega), if_neg (by omega)]) (by simp) (by simp [putH_app, ndO]) rfl (by simp)
theorem xD_yes (k : Nat) (l : List (Int × Int)) (P : List Fg) (lo hi nid nvr id vr : Nat) (st : St) (I : LxE l P lo hi nid nvr id vr st) (P9 : P.length ≤ 9) (hg : goodE l = true) (w h : Int) (z : List Int) (hz : z.length ≤ 64) (hR : evR l (P.map Fg.fd) = some (.tp [ownV w h 0 2 z.length, .c (.bool true)], hpOf [] [intsO z])) (hk : 7000 ≤ k) (hl : l.length ≤ 41) (F0 : List (Int × Int)) (hF0 : fAll l.length l = F0) (v u : Nat) (q18 : st.ρ 18 = .c (.bool true)) (G : FxE w h z 15472 v 15408 u 17 st) (F uF : Nat) (q21 : st.ρ 21 = .s F uF 2 0 F0.length) (HF : st.H F = some (uF, ndO F0)) (q22 : st.ρ 22 = .c (.bool true)) (hFs : F = 19488) : YesX k xD st := by
  obtain ⟨fg, fl⟩ := fAll_good l.length l hg
  have fi := fAll_idem hg F0.length
  have fe := evR_fold (P.map Fg.fd) hg
  rw [hF0] at fg fl fi fe
  rw [hR] at fe
  subst hFs
  obtain ⟨q17, H1, H2⟩ := G
  have E := c_implEvaluate k true true F0 (P.map Fg.fd) (by simp; omega) (by omega)
  rw [fe] at E
  have FF := c_implFold k true F0 fg (by omega)
  rw [fi] at FF
  have VN := c_vNodes k true true F0 F0 (by omega) (by omega)
  have VF := c_vField k true true w h z (by omega) (by omega)
  have eF := I.fds
  have q16 := I.q16
  have eN : ∀ H : Hp, H 19488 = some (uF, ndO F0) → Eng.bor H 4 (.s 19488 uF 2 0 F0.length) = some (.sq true true 2 (ndL F0)) := by
    intro H hH
    simp [Eng.bor, find, hH, ndO, ndL_length, ndL_take]
  simp [ownV, intsO] at E
  simp [ndO] at FF HF
  simp only [ndO] at eN
  simp at VN
  simp [fldV] at VF
  simp [intsO] at H2
  simp only [List.map_map] at eF E
  unfold YesX xD
  simp (maxDischargeDepth := 30) [-Eng.bor, bor_sq, bor_c, R3_0, R3_1, R3_2, R3_3, R3_4, R3_5, R3_6, R3_7, R3_8, R3_9, R3_10, R3_11, R3_12, R3_13, R3_14, R3_15, R3_16, R3_17, R3_18, R3_19, R3_20, R3_21, R3_22, R3_23, R3_24, R3_25, R3_26, R3_27, R3_28, Tryz.f3, q16, q17, q18, q21, q22, eN, eF, E, FF, VN, VF, FarS.rf, FarS.put, HF]
  simp [VF, VN, ints_take, H1, H2, HF, ndL_length, ndL_take, q21, q22, q17, FF]

end Go.Proofs.YtbjmfjfnilmhhaaGreatDoor.Eng
namespace Go.Proofs.YtbjmfjfnilmhhaaGreatDoor.Eng
open Go Go.Proofs
set_option maxRecDepth 100000
set_option maxHeartbeats 2000000
set_option linter.unusedSimpArgs false
set_option linter.unusedVariables false
attribute [local simp] finK fin1 hpOf xi renQ isRoot runCode runOps stepX inlOf Eng.step wantedV astep val ofO made loadV storeV find V.cells bin binT binA numT numFs eqCells un1 setAt fieldAddrV fieldV indexAddrV indexV bounds sliceV convV lenV foldV max2V min2V callO bor rdsO wrsO seen_none okD_none loops keepIds resV resultsV St.ev TK.agg refs refsL refsO V.one V.isC Value.oneCell' ren renL renO noTag noTagL noTagR noTagO nodup mapO passV frs psi refsR newD loopNext opsAt idx flatAt rootOf backR newsV appendV copyV clearV strV bytesV bldV bufV selfV bytesOf nilCmp buildV fillF chunk freeL frzW cellSame sameV
attribute [local simp] cT cF cX cWR cOW cK cBL X ints_length ints_get ints_getElem ints_drop ints_take ints_append ints_nil ints_set
attribute [local simp] ints_replicate
attribute [local simp] putV_some putV_none putH_app applyD_nil applyD_cons seen_app gc_ρ gc_H gc_tick st0_ρ st0_H st0_tick retV callRo callV_if borL_nil borL_cons ints_snoc take_self callWr cutH_app findQ afterV exportV_0 exportV_n okD_nil okD_cons sub_seq0 sub_seq1 sub_cond0 sub_cond1 sub_block sub_loop sub_nil young_far young_none hidW_nil mayW_nil keepsF_nil keepsF_cons pairs okI ok_0 ok_1 ok_2
attribute [local simp] T3 T4 T5 T9 T22 T24 T33 T36 T38 T45 T48 T51 T52 T54 T56 T71 T72 T74 T77 T99 T104 T117 T121
attribute [local simp] young_near clo cloF Region.binds Nat.testBit hidW declW mayW List.findIdx?_cons
theorem parse_of {s : List UInt8} {q : List (Int × Int)} (h : parseE s = some q) : goodE q = true ∧ textE q = s := by
  unfold parseE at h
  split at h
  · split at h
    · rename_i h2
      cases h
      exact h2
    · cases h
  · cases h
theorem parse_e : parseE [] = none := by
  simp [parseE, pS, pT, stripL]
theorem xA_ok (k : Nat) (code : List Int) (hb : ∀ x ∈ code, 0 ≤ x ∧ x ≤ 255) (hl : code.length ≤ maxLen) (st : St) (q0 : st.ρ 0 = .sq false true 1 (u8s code)) (ht : 1 ≤ st.tick) (hk : 8000 ≤ k) : YesX k xA st := by
  obtain ⟨k, rfl⟩ : ∃ m, k = m + 1 := ⟨k - 1, by omega⟩
  unfold YesX xA
  rw [xB_is]
  simp [R3_0, R3_1, R3_2, R3_3, R3_4, R3_5, R3_6, R3_7, R3_8, R3_9, R3_10, R3_11, R3_12, R3_13, R3_14, R3_15, R3_16, R3_17, R3_18, R3_19, R3_20, R3_21, R3_22, R3_23, R3_24, R3_25, R3_26, R3_27, R3_28, Tryz.f3, q0]
  generalize hr : (callK C (k + 1)).inl 12 _ _ _ = res
  obtain ⟨l, nid, nvr, P, id, vr, H', tk', e, l41, Hn, n0, n1, P9, hP, Ho, i0, i1, old, le⟩ := i_DrawEvaluate k code hb hl st.H (st.tick + 1) (by omega) (by omega)
  rw [hr] at e
  subst e
  have hb1 : Bt 1 ≤ Bt (st.tick + 1) := Bt_mono (by omega)
  simp
  have I : ∀ s : St, s.ρ 15 = .s nid nvr 2 0 l.length → s.ρ 16 = .s id vr 3 0 P.length → s.H = H' → LxE l P (Bt (st.tick + 1)) (Bt tk') nid nvr id vr s := by
    intro s h1 h2 h3
    subst h3
    exact ⟨h1, h2, Hn, hP, Ho, n0, n1, i0, i1, hb1⟩
  obtain ⟨F0, hF0⟩ : ∃ F0, fAll l.length l = F0 := ⟨_, rfl⟩
  rcases evR_cases l (P.map Fg.fd) with hR | ⟨w, h, z, hz, hR⟩
  · refine xB_no (k + 1) l P _ _ nid nvr id vr _ (I _ (by simp) (by simp) rfl) P9 hR (by omega) ?_
    intro s J q18
    cases hg : goodE l
    · exact xC_bad (k + 1) l P _ _ nid nvr id vr s J q18 hg (by omega)
    · refine xC_good (k + 1) l P _ _ nid nvr id vr s J hg (by omega) l41 F0 hF0 ?_
      intro s2 F u J2 e18 e17 e15 e21 eF eFs e22
      exact xD_no (k + 1) s2 (by rw [e18, q18])
  · have hg := evR_good hR
    refine xB_yes (k + 1) l P _ _ nid nvr id vr _ (I _ (by simp) (by simp) rfl) P9 w h z hz hR (by omega) ?_
    intro s v u J q18 G
    refine xC_good (k + 1) l P _ _ nid nvr id vr s J hg (by omega) l41 F0 hF0 ?_
    intro s2 F u2 J2 e18 e17 e15 e21 eF eFs e22
    obtain ⟨G1, G2, G3⟩ := G
    exact xD_yes (k + 1) l P _ _ nid nvr id vr s2 J2 P9 hg w h z hz hR (by omega) l41 F0 hF0 v u (by rw [e18, q18]) ⟨by rw [e17, G1], by rw [e15 _ (by omega) (by omega), G2], by rw [e15 _ (by omega) (by omega), G3]⟩ F u2 e21 eF e22 eFs
theorem xP_ok (k : Nat) (code : List Int) (hb : ∀ x ∈ code, 0 ≤ x ∧ x ≤ 255) (hl : code.length ≤ maxLen) (st : St) (q0 : st.ρ 0 = .sq false true 1 (u8s code)) (ht : 1 ≤ st.tick) (hk : 70000 ≤ k) : YesX k xP st := by
  obtain ⟨t, e1, t3⟩ := c_DrawParseE k code hb hl (by omega)
  have Pa := c_implParseX k t (by omega) (by omega)
  have fin : ∀ s, s.ρ 0 = .sq false true 1 (u8s code) → 1 ≤ s.tick → YesX k xA s := fun s h1 h2 => xA_ok k code hb hl s h1 h2 (by omega)
  unfold YesX xP
  rw [xA_is]
  cases hp : parseE t with
  | none =>
    rw [hp] at Pa
    have FN := c_implFormatNil k (by omega)
    simp [resE] at Pa
    simp [R3_0, R3_1, R3_2, R3_3, R3_4, R3_5, R3_6, R3_7, R3_8, R3_9, R3_10, R3_11, R3_12, R3_13, R3_14, R3_15, R3_16, R3_17, R3_18, R3_19, R3_20, R3_21, R3_22, R3_23, R3_24, R3_25, R3_26, R3_27, R3_28, Tryz.f3, q0, e1, Pa, FN]
    exact fin _ (by simp [q0]) (by simp)
  | some q =>
    obtain ⟨g1, g2⟩ := parse_of hp
    rw [hp] at Pa
    have FO := c_implFormat k true q (by omega)
    rw [if_pos g1, g1] at FO
    rw [show ((tks q q.length).headD ([], false)).1 = t from g2] at FO
    simp [resE, ndO] at Pa
    simp [R3_0, R3_1, R3_2, R3_3, R3_4, R3_5, R3_6, R3_7, R3_8, R3_9, R3_10, R3_11, R3_12, R3_13, R3_14, R3_15, R3_16, R3_17, R3_18, R3_19, R3_20, R3_21, R3_22, R3_23, R3_24, R3_25, R3_26, R3_27, R3_28, Tryz.f3, q0, e1, Pa, FO, ndL_length, ndL_take, bs_neq]
    exact fin _ (by simp [q0]) (by simp)
theorem loop_yes {k : Nat} {c0 : Code} {st : St} {res : Option (Ex × St)} (h : YesX k c0 st) (hr : runCode C (callK C k) k (K 3) c0 0 st = res) : ∃ s, res = some (.ret, s) ∧ s.ρ 2 = .c (.bool true) := by
  obtain ⟨s, e, f⟩ := h
  exact ⟨s, by rw [← hr, e], f⟩
theorem law_FnExpressions (code : List Int) (hl : code.length ≤ maxLen) (hb : ∀ x ∈ code, (Lit.int .u8 x).wf = true) : ∃ k, callK C k 3 [.sq false true 1 (u8s code)] [] = some (.c (.bool true), hpOf [] []) := by
  have hb' : ∀ x ∈ code, 0 ≤ x ∧ x ≤ 255 := fun x hx => by
    have := hb x hx
    simpa [Lit.wf, IntKind.min, IntKind.max, IntKind.signed, IntKind.bits] using this
  refine ⟨80000, ?_⟩
  rw [callK_fn (k := 79999) rfl F3 code3]
  rw [xP_is]
  have v0 := c_vBig 79999 code (by omega)
  by_cases h16 : 65536 < code.length
  · simp [h16] at v0
    simp [R3_0, R3_1, R3_2, R3_3, R3_4, R3_5, R3_6, R3_7, R3_8, R3_9, R3_10, R3_11, R3_12, R3_13, R3_14, R3_15, R3_16, R3_17, R3_18, R3_19, R3_20, R3_21, R3_22, R3_23, R3_24, R3_25, R3_26, R3_27, R3_28, Tryz.f3, v0]
  simp [h16] at v0
  obtain ⟨l, D, l41⟩ := c_DrawFormatE 79999 code hb' hl (by omega)
  have FI := c_implFormat 79999 true l (by omega)
  have FS := c_specFormat 79999 true l (by omega)
  have IE := c_IsExpression 79999 true l (by omega)
  have fin : ∀ s, s.ρ 0 = .sq false true 1 (u8s code) → 1 ≤ s.tick → YesX 79999 xP s := fun s h1 h2 => xP_ok 79999 code hb' hl s h1 h2 (by omega)
  simp [ndO] at D
  cases hg : goodE l
  · rw [hg] at FI FS IE
    simp only [Bool.false_eq_true, if_false] at FI FS
    have Pa := c_implParseX 79999 [] (by simp) (by omega)
    rw [parse_e] at Pa
    simp [resE] at Pa
    simp [R3_0, R3_1, R3_2, R3_3, R3_4, R3_5, R3_6, R3_7, R3_8, R3_9, R3_10, R3_11, R3_12, R3_13, R3_14, R3_15, R3_16, R3_17, R3_18, R3_19, R3_20, R3_21, R3_22, R3_23, R3_24, R3_25, R3_26, R3_27, R3_28, Tryz.f3, undef, v0, D, FI, FS, IE, Pa, ndL_length, ndL_take, bs_neq]
    generalize hr : runCode _ _ _ _ xP _ _ = res
    have hY := fun h1 h2 => loop_yes (fin _ h1 h2) hr
    obtain ⟨s1, rfl, f2⟩ := hY (by simp) (by simp)
    simp [f2]
  · rw [hg] at FI FS IE
    rw [if_pos rfl] at FI FS
    have Pa := c_implParseX 79999 (textE l) (by have := text_le hg; omega) (by omega)
    rw [parse_text hg] at Pa
    obtain ⟨T, hT⟩ : ∃ T, textE l = T := ⟨_, rfl⟩
    rw [show ((tks l l.length).headD ([], false)).1 = T from hT] at FI FS
    rw [hT] at Pa
    have VN := c_vNodes 79999 true true l l (by omega) (by omega)
    simp [resE, ndO] at Pa
    simp at VN
    simp [R3_0, R3_1, R3_2, R3_3, R3_4, R3_5, R3_6, R3_7, R3_8, R3_9, R3_10, R3_11, R3_12, R3_13, R3_14, R3_15, R3_16, R3_17, R3_18, R3_19, R3_20, R3_21, R3_22, R3_23, R3_24, R3_25, R3_26, R3_27, R3_28, Tryz.f3, undef, v0, D, FI, FS, IE, Pa, VN, ndL_length, ndL_take, bs_neq]
    generalize hr : runCode _ _ _ _ xP _ _ = res
    have hY := fun h1 h2 => loop_yes (fin _ h1 h2) hr
    obtain ⟨s1, rfl, f2⟩ := hY (by simp) (by simp)
    simp [f2]

end Go.Proofs.YtbjmfjfnilmhhaaGreatDoor.Eng
