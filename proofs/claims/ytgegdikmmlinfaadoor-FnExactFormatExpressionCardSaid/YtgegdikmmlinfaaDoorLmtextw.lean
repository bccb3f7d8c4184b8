/- A deterministic reading of Go code over plain data: what functions of the program compute. No conditions. -/
import Derived.Test.YtgegdikmmlinfaaDoorLmbase
import Derived.Test.YtgegdikmmlinfaaDoorLmimpl
import Derived.Test.YtgegdikmmlinfaaDoorLmgood
import Derived.Test.YtgegdikmmlinfaaDoorLmminmax
import Derived.Test.YtgegdikmmlinfaaDoorLmnodes
import Derived.Test.YtgegdikmmlinfaaDoorLmnodep
import Derived.Test.YtgegdikmmlinfaaDoorLmnodefn
import Derived.Test.YtgegdikmmlinfaaDoorLmisexpr
import Derived.Test.YtgegdikmmlinfaaDoorLmdepth
import Derived.Test.YtgegdikmmlinfaaDoorLmitoa
import Derived.Test.YtgegdikmmlinfaaDoorLmappendck
import Derived.Test.YtgegdikmmlinfaaDoorLmsplit
import Derived.Test.YtgegdikmmlinfaaDoorLmtextp
import Derived.Test.YtgegdikmmlinfaaDoorEngT
import Derived.Lib.ItoaLen
namespace Go.Proofs.YtgegdikmmlinfaaDoor.Eng
open Go Go.Proofs
set_option maxRecDepth 100000
set_option maxHeartbeats 2000000
set_option linter.unusedSimpArgs false
set_option linter.unusedVariables false
attribute [local simp] finK fin1 hpOf xi renQ isRoot runCode runOps Eng.step wantedV astep val ofO made loadV storeV find V.cells bin binT binA numT numFs eqCells un1 setAt fieldAddrV fieldV indexAddrV indexV bounds sliceV convV lenV foldV max2V min2V callO bor rdsO wrsO seen_none okD_none loops keepIds resV resultsV St.ev TK.agg refs refsL refsO V.one V.isC Value.oneCell' ren renL renO noTag noTagL noTagR noTagO nodup mapO passV frs psi refsR newD loopNext opsAt idx flatAt rootOf backR newsV appendV copyV clearV strV bytesOf nilCmp buildV fillF chunk
attribute [local simp] cT cF cX cWR cOW cK X ints_length ints_get ints_getElem ints_drop ints_take ints_append ints_nil ints_set
attribute [local simp] ints_replicate
attribute [local simp] putV_some putV_none putH_app applyD_nil applyD_cons seen_app gc_ρ gc_H gc_tick st0_ρ st0_H st0_tick retV callRo callV_if borL_nil borL_cons ints_snoc take_self callWr cutH_app findQ afterV exportV_0 exportV_n okD_nil okD_cons sub_seq0 sub_seq1 sub_cond0 sub_cond1 sub_block sub_loop sub_nil young_far young_none hidW_nil mayW_nil pairs okI ok_0 ok_1 ok_2
attribute [local simp] T3 T4 T9 T22 T26 T33 T35 T42 T43
attribute [local simp] young_near clo cloF Region.binds Nat.testBit hidW declW mayW List.findIdx?_cons
theorem litA : (⟨#[97, 98, 111, 118, 101, 40]⟩ : ByteArray) = bs [97, 98, 111, 118, 101, 40] := rfl
theorem litM : (⟨#[109, 105, 110, 40]⟩ : ByteArray) = bs [109, 105, 110, 40] := rfl
theorem litX : (⟨#[109, 97, 120, 40]⟩ : ByteArray) = bs [109, 97, 120, 40] := rfl
theorem ifL {α : Type} {n : Nat} {a b : α} (h : n ≤ 9223372036854775807) : (if n ≤ 9223372036854775807 then a else b) = a := if_pos h
theorem itoa_nn {v : Int} (h : 0 ≤ v) : Lib.itoa v = Lib.decDigits v.toNat := by
  conv => lhs; rw [show v = ((v.toNat : Nat) : Int) by omega]
  exact Lib.itoa_nonneg _
theorem abc_slice (v : Int) (h : 0 ≤ v ∧ v ≤ 3) : sliceV T 9 (.c (.string ⟨#[97, 98, 99, 100]⟩)) (some (.c (.int .i64 v))) (some (.c (.int .i64 (v + 1)))) none = some (.c (.string (bs [UInt8.ofNat (97 + v.toNat)]))) := by
  have : v = 0 ∨ v = 1 ∨ v = 2 ∨ v = 3 := by omega
  rcases this with rfl | rfl | rfl | rfl <;> rfl
theorem c_l5Sum (k : Nat) (q : Int × Int) (hk : 3 ≤ k) : callK C k 18 [.ag (ndE q)] [] = some (.c (.bool (smB q)), hpOf [] []) := by
  obtain ⟨k, rfl⟩ : ∃ m, k = m + 1 := ⟨k - 1, by omega⟩
  rw [callK_fn rfl F18 code18]
  by_cases h : q.1 = 3
  · simp [R18_0, R18_1, Tryd.f18, undef, ndE, smB, h]
  · have hb : (q.1 == 3) = false := by simpa using h
    by_cases h4 : q.1 = 4
    · simp [R18_0, R18_1, Tryd.f18, undef, ndE, smB, h, hb, h4]
    · have hb4 : (q.1 == 4) = false := by simpa using h4
      simp [R18_0, R18_1, Tryd.f18, undef, ndE, smB, h, hb, h4, hb4]
theorem c_isSum (k : Nat) (q : Int × Int) (hk : 3 ≤ k) : callK C k 22 [.ag (ndE q)] [] = some (.c (.bool (smB q)), hpOf [] []) := by
  obtain ⟨k, rfl⟩ : ∃ m, k = m + 1 := ⟨k - 1, by omega⟩
  rw [callK_fn rfl F22 code22]
  by_cases h : q.1 = 3
  · simp [R22_0, R22_1, Tryd.f22, undef, ndE, smB, h]
  · have hb : (q.1 == 3) = false := by simpa using h
    by_cases h4 : q.1 = 4
    · simp [R22_0, R22_1, Tryd.f22, undef, ndE, smB, h, hb, h4]
    · have hb4 : (q.1 == 4) = false := by simpa using h4
      simp [R22_0, R22_1, Tryd.f22, undef, ndE, smB, h, hb, h4, hb4]
theorem c_l5Text (b : Bool) (l : List (Int × Int)) (h15 : l.length ≤ 15) : ∀ (i : Nat), i < l.length → 0 ≤ runO l (i + 1) → ∀ k, i + 60 ≤ k → ∀ t c s, tks l (i + 1) = (t, c) :: s →
    callK C k 10 [.sq b true 2 (ndL l), .c (.int .i64 (i : Int))] [] = some (.c (.string (bs t)), hpOf [] []) := by
  intro i
  induction i using Nat.strongRecOn with
  | _ i ih =>
    intro hi h k hk t c s hs
    obtain ⟨k, rfl⟩ : ∃ m, k = m + 1 := ⟨k - 1, by omega⟩
    rw [callK_fn rfl F10 code10]
    obtain ⟨h1, h2, h3, h4⟩ := runO_back h
    obtain ⟨r0, r1, r2⟩ := ar_range (q := l.getD i (0, 0))
    have hg := getD_nd hi
    have hn := ndL_get l i hi
    rcases ar_cases (l.getD i (0, 0)) with e | e | e | e
    · rw [tks_0 e] at hs
      injection hs with hs1 hs2
      injection hs1 with hs1 hs3
      subst hs1
      have r0 := r0 e
      rw [hg] at r0 ⊢
      obtain ⟨q, hq⟩ : ∃ q, l[i] = q := ⟨_, rfl⟩
      rw [hq] at r0 hn ⊢
      obtain ⟨q1, q2⟩ := q
      simp only [] at r0
      rcases r0 with ⟨rfl, ra, rb⟩ | ⟨rfl, ra, rb⟩
      · have hd := abc_slice q2 ⟨ra, rb⟩
        have hw : IntKind.i64.wrap (q2 + 1) = q2 + 1 := wrap_small (by omega) (by omega)
        simp [-sliceV] at hd
        simp [-sliceV, R10_0, R10_1, R10_2, R10_3, R10_4, R10_5, R10_6, R10_7, R10_8, R10_9, R10_10, R10_11, R10_12, R10_13, R10_14, R10_15, R10_16, R10_17, R10_18, R10_19, R10_20, Tryd.f10, ndL_length, hi, hn, ndL_at, hq, ndE, hw, hd, atT]
      · have hd := c_l1Num k q2 (by omega) (by omega) (by omega)
        rw [itoa_nn ra] at hd
        simp [R10_0, R10_1, R10_2, R10_3, R10_4, R10_5, R10_6, R10_7, R10_8, R10_9, R10_10, R10_11, R10_12, R10_13, R10_14, R10_15, R10_16, R10_17, R10_18, R10_19, R10_20, Tryd.f10, ndL_length, hi, hn, ndL_at, hq, ndE, hd, atT]
    · obtain ⟨j, rfl⟩ : ∃ j, i = j + 1 := by
        cases i with
        | zero => rw [e] at h3; exact absurd h3 (by simp [runO])
        | succ j => exact ⟨j, rfl⟩
      have hj0 : (0 : Int) ≤ (j : Int) + 1 := by omega
      have hl := tks_len (j + 1) h1
      have hbd := tks_bound (l := l) (j + 1) h1
      cases hk2 : tks l (j + 1) with
      | nil => rw [hk2] at hl; simp only [List.length_nil] at hl; omega
      | cons x s2 =>
        obtain ⟨t2, c2⟩ := x
        rw [hk2] at hbd
        simp only [lenT, List.map_cons, List.sum_cons] at hbd
        rw [tks_1 e hk2] at hs
        injection hs with hs1 hs2
        injection hs1 with hs1 hs3
        subst hs1
        have r1 := r1 e
        rw [hg] at r1 ⊢
        obtain ⟨q, hq⟩ : ∃ q, l[j + 1] = q := ⟨_, rfl⟩
        rw [hq] at r1 hn ⊢
        obtain ⟨q1, q2⟩ := q
        simp only [] at r1
        obtain ⟨rfl, ra, rb⟩ := r1
        have hd := c_l1Num k q2 (by omega) (by omega) (by omega)
        rw [itoa_nn ra] at hd
        have hdl := dig_short ra rb
        have hrec := ih j (by omega) (by omega) h1 k (by omega) t2 c2 _ hk2
        have hw' : IntKind.i64.wrap (j : Int) = (j : Int) := wrap_small (by omega) (by omega)
        try simp at hn
        try simp at hi
        have z1 : 6 + t2.length ≤ 9223372036854775807 := by omega
        have z2 : t2.length + 6 + 1 ≤ 9223372036854775807 := by omega
        have z2b : t2.length + 7 ≤ 9223372036854775807 := by omega
        have z3 : t2.length + 1 + 1 + 1 + 1 + 1 + 1 + 1 + (Lib.decDigits q2.toNat).length ≤ 9223372036854775807 := by omega
        have z4 : t2.length + ((Lib.decDigits q2.toNat).length + 1) + 1 + 1 + 1 + 1 + 1 + 1 + 1 ≤ 9223372036854775807 := by omega
        have z4b : t2.length + ((Lib.decDigits q2.toNat).length + 1) + 7 ≤ 9223372036854775807 := by omega
        simp [R10_0, R10_1, R10_2, R10_3, R10_4, R10_5, R10_6, R10_7, R10_8, R10_9, R10_10, R10_11, R10_12, R10_13, R10_14, R10_15, R10_16, R10_17, R10_18, R10_19, R10_20, Tryd.f10, ndL_length, hi, hn, ndL_at, hq, ndE, hd, hj0, hw', hrec, litA, lit1, bs_append, bs_size, z1, z2, z2b, z3, z4, z4b, abT]
    · obtain ⟨j, rfl⟩ : ∃ j, i = j + 1 := by
        cases i with
        | zero => rw [e] at h3; exact absurd h3 (by simp [runO])
        | succ j => exact ⟨j, rfl⟩
      have hj0 : (0 : Int) ≤ (j : Int) + 1 := by omega
      obtain ⟨a2, d2, ha2, hs'⟩ := stk_top j h1
      have hl := stk_len (j + 1) h1
      have ha0 : 0 ≤ runO l a2 := runO_mono h1 (j + 1 - a2) a2 (by omega)
      have hla := stk_len a2 ha0
      rw [hs'] at hl
      simp only [List.length_cons] at hl
      obtain ⟨f, rfl⟩ : ∃ f, a2 = f + 1 := by
        cases a2 with
        | zero => simp only [stk, List.length_nil] at hl; omega
        | succ f => exact ⟨f, rfl⟩
      obtain ⟨a1, d1, ha1, hs1⟩ := stk_top f ha0
      obtain ⟨y, hy⟩ := tks_top j h1 _ _ _ hs'
      obtain ⟨x, hx⟩ := tks_top f ha0 _ _ _ hs1
      have hbd := tks_bound (l := l) (j + 1) h1
      have hst := c_l5Start b l h15 j (by omega) h1 k (by omega) (f + 1) d2 _ hs'
      have hrec1 := ih j (by omega) (by omega) h1 k (by omega) y _ _ hy
      have hrec2 := ih f (by omega) (by omega) ha0 k (by omega) x _ _ hx
      rw [hx] at hy
      rw [hy] at hbd
      simp only [lenT, List.map_cons, List.sum_cons] at hbd
      rw [tks_2 e hy] at hs
      injection hs with hs1 hs2
      injection hs1 with hs1 hs3
      subst hs1
      have r2 := r2 e
      have hjl : j < l.length := by omega
      have hgj := getD_nd hjl
      rw [hg] at r2 ⊢
      rw [hgj]
      obtain ⟨q, hq⟩ : ∃ q, l[j + 1] = q := ⟨_, rfl⟩
      have hS := c_l5Sum k l[j] (by omega)
      have hnj := ndL_get l j hjl
      obtain ⟨u, hu⟩ : ∃ u, smB l[j] = u := ⟨_, rfl⟩
      rw [hu] at hS ⊢
      rw [hq] at r2 hn ⊢
      obtain ⟨q1, q2⟩ := q
      simp only [] at r2
      obtain ⟨ra, rb, rfl⟩ := r2
      have hw' : IntKind.i64.wrap (j : Int) = (j : Int) := wrap_small (by omega) (by omega)
      have hw2 : IntKind.i64.wrap (f : Int) = (f : Int) := wrap_small (by omega) (by omega)
      simp [ndE] at hS
      try simp at hn
      try simp at hi
      try simp at hst
      have zA : 4 + x.length ≤ 9223372036854775807 := by omega
      have zB : x.length + 4 + 1 ≤ 9223372036854775807 := by omega
      have zB2 : x.length + 5 ≤ 9223372036854775807 := by omega
      have zB3 : x.length + 1 + 1 + 1 + 1 + 1 ≤ 9223372036854775807 := by omega
      have zC : x.length + 1 + 1 + 1 + 1 + 1 + y.length ≤ 9223372036854775807 := by omega
      have zD : x.length + (y.length + 1) + 1 + 1 + 1 + 1 + 1 ≤ 9223372036854775807 := by omega
      have zD2 : x.length + (y.length + 1) + 5 ≤ 9223372036854775807 := by omega
      have zE : x.length + 1 ≤ 9223372036854775807 := by omega
      have zF : x.length + 1 + y.length ≤ 9223372036854775807 := by omega
      have zG : 1 + y.length ≤ 9223372036854775807 := by omega
      have zH : y.length + 1 + 1 ≤ 9223372036854775807 := by omega
      have zH2 : y.length + 2 ≤ 9223372036854775807 := by omega
      have zI : x.length + 1 + (y.length + 1 + 1) ≤ 9223372036854775807 := by omega
      have zI2 : x.length + 1 + (y.length + 2) ≤ 9223372036854775807 := by omega
      have hcase : q1 = 3 ∨ q1 = 4 ∨ q1 = 5 ∨ q1 = 6 := by omega
      rcases hcase with rfl | rfl | rfl | rfl
      · cases u
        · simp [R10_0, R10_1, R10_2, R10_3, R10_4, R10_5, R10_6, R10_7, R10_8, R10_9, R10_10, R10_11, R10_12, R10_13, R10_14, R10_15, R10_16, R10_17, R10_18, R10_19, R10_20, Tryd.f10, ndL_length, hi, hn, hnj, hjl, ndL_at, hq, ndE, hj0, hw', hw2, hst, hrec1, hrec2, hS, lit1, bs_append, bs_size, zE, zF, biT]
        · simp [R10_0, R10_1, R10_2, R10_3, R10_4, R10_5, R10_6, R10_7, R10_8, R10_9, R10_10, R10_11, R10_12, R10_13, R10_14, R10_15, R10_16, R10_17, R10_18, R10_19, R10_20, Tryd.f10, ndL_length, hi, hn, hnj, hjl, ndL_at, hq, ndE, hj0, hw', hw2, hst, hrec1, hrec2, hS, lit1, bs_append, bs_size, zE, zF, zG, zH, zH2, zI, zI2, biT]
      · cases u
        · simp [R10_0, R10_1, R10_2, R10_3, R10_4, R10_5, R10_6, R10_7, R10_8, R10_9, R10_10, R10_11, R10_12, R10_13, R10_14, R10_15, R10_16, R10_17, R10_18, R10_19, R10_20, Tryd.f10, ndL_length, hi, hn, hnj, hjl, ndL_at, hq, ndE, hj0, hw', hw2, hst, hrec1, hrec2, hS, lit1, bs_append, bs_size, zE, zF, biT]
        · simp [R10_0, R10_1, R10_2, R10_3, R10_4, R10_5, R10_6, R10_7, R10_8, R10_9, R10_10, R10_11, R10_12, R10_13, R10_14, R10_15, R10_16, R10_17, R10_18, R10_19, R10_20, Tryd.f10, ndL_length, hi, hn, hnj, hjl, ndL_at, hq, ndE, hj0, hw', hw2, hst, hrec1, hrec2, hS, lit1, bs_append, bs_size, zE, zF, zG, zH, zH2, zI, zI2, biT]
      · simp [R10_0, R10_1, R10_2, R10_3, R10_4, R10_5, R10_6, R10_7, R10_8, R10_9, R10_10, R10_11, R10_12, R10_13, R10_14, R10_15, R10_16, R10_17, R10_18, R10_19, R10_20, Tryd.f10, ndL_length, hi, hn, hnj, hjl, ndL_at, hq, ndE, hj0, hw', hw2, hst, hrec1, hrec2, litM, lit1, bs_append, bs_size, zA, zB, zB2, zB3, zC, zD, zD2, biT]
      · simp [R10_0, R10_1, R10_2, R10_3, R10_4, R10_5, R10_6, R10_7, R10_8, R10_9, R10_10, R10_11, R10_12, R10_13, R10_14, R10_15, R10_16, R10_17, R10_18, R10_19, R10_20, Tryd.f10, ndL_length, hi, hn, hnj, hjl, ndL_at, hq, ndE, hj0, hw', hw2, hst, hrec1, hrec2, litX, lit1, bs_append, bs_size, zA, zB, zB2, zB3, zC, zD, zD2, biT]
    · omega

end Go.Proofs.YtgegdikmmlinfaaDoor.Eng
