/- A deterministic reading of Go code over plain data: what functions of the program compute. No conditions. -/
import Derived.Test.YtalpgpjhloohfaaDoorLmbase
import Derived.Test.YtalpgpjhloohfaaDoorLmimpl
import Derived.Test.YtalpgpjhloohfaaDoorLmgood
import Derived.Test.YtalpgpjhloohfaaDoorLmitoa
import Derived.Test.YtalpgpjhloohfaaDoorEngT
import Derived.Lib.IndexLaws
namespace Go.Proofs.YtalpgpjhloohfaaDoor.Eng
open Go Go.Proofs
set_option maxRecDepth 100000
set_option maxHeartbeats 2000000
set_option linter.unusedSimpArgs false
set_option linter.unusedVariables false
attribute [local simp] finK fin1 hpOf xi renQ isRoot runCode runOps Eng.step wantedV astep val ofO made loadV storeV find V.cells bin binT binA numT numFs eqCells un1 setAt fieldAddrV fieldV indexAddrV indexV bounds sliceV convV lenV foldV max2V min2V callO bor rdsO wrsO seen_none okD_none loops keepIds resV resultsV St.ev TK.agg refs refsL refsO V.one V.isC Value.oneCell' ren renL renO noTag noTagL noTagR noTagO nodup mapO passV frs psi refsR newD loopNext opsAt idx flatAt rootOf backR newsV appendV copyV clearV strV bytesV bytesOf nilCmp buildV fillF chunk
attribute [local simp] cT cF cX cWR cOW cK X ints_length ints_get ints_getElem ints_drop ints_take ints_append ints_nil ints_set
attribute [local simp] ints_replicate
attribute [local simp] putV_some putV_none putH_app applyD_nil applyD_cons seen_app gc_ρ gc_H gc_tick st0_ρ st0_H st0_tick retV callRo callV_if borL_nil borL_cons ints_snoc take_self callWr cutH_app findQ afterV exportV_0 exportV_n okD_nil okD_cons sub_seq0 sub_seq1 sub_cond0 sub_cond1 sub_block sub_loop sub_nil young_far young_none hidW_nil mayW_nil pairs okI ok_0 ok_1 ok_2
attribute [local simp] T3 T4 T5 T9 T22 T32 T57 T63 T64 T66 T72
theorem lit0 : (⟨#[]⟩ : ByteArray) = bs [] := rfl
theorem lit1 (a : UInt8) : (⟨#[a]⟩ : ByteArray) = bs [a] := rfl
theorem bs_data (l : List UInt8) : (bs l).data.toList = l := by simp [bs]
theorem bs_of (s : ByteArray) : ∃ l, s = bs l := ⟨s.data.toList, by cases s; simp [bs]⟩
theorem byteAt_bs {l : List UInt8} {i : Nat} (h : i < l.length) : byteAt (bs l) (i : Int) = ((l[i].toNat : Nat) : Int) := by
  unfold byteAt
  rw [bs_data]
  simp [List.getD, List.getElem?_eq_getElem h]
def ckS (h : Int) (c : UInt8) : Int := (41 * h + (c.toNat : Int) + 1).tmod 999979
def ckL (l : List UInt8) : Int := l.foldl ckS 7
theorem ck_bound : ∀ (l : List UInt8) (h : Int), 0 ≤ h → h < 999979 → 0 ≤ l.foldl ckS h ∧ l.foldl ckS h < 999979
  | [], h, a, b => ⟨a, b⟩
  | c :: l, h, a, b => by
    rw [List.foldl_cons]
    have hc : c.toNat < 256 := c.toNat_lt
    exact ck_bound l _ (Int.tmod_nonneg _ (by omega)) (Int.tmod_lt_of_pos _ (by omega))
theorem ck_take {l : List UInt8} {i : Nat} (h : i < l.length) : ckL (l.take (i + 1)) = ckS (ckL (l.take i)) l[i] := by
  unfold ckL
  rw [List.take_succ_eq_append_getElem h, List.foldl_append]
  rfl
def hasB1 (l : List UInt8) : Bool := decide (0 ≤ Lib.indexByte l 35)
theorem c_Index (k : Nat) (l : List UInt8) (c : UInt8) (hk : 1 ≤ k) : callK C k 84 [.c (.string (bs l)), .c (.string (bs [c]))] [] = some (.c (.int .i64 (Lib.indexByte l c)), hpOf [] []) := by
  obtain ⟨k, rfl⟩ : ∃ m, k = m + 1 := ⟨k - 1, by omega⟩
  simp only [callK]
  have hx : C.ext 84 = some ext84 := rfl
  rw [hx]
  simp [ext84, bs_data]
theorem c_Contains (k : Nat) (l : List UInt8) (hk : 2 ≤ k) : callK C k 54 [.c (.string (bs l)), .c (.string (bs [35]))] [] = some (.c (.bool (hasB1 l)), hpOf [] []) := by
  obtain ⟨k, rfl⟩ : ∃ m, k = m + 1 := ⟨k - 1, by omega⟩
  rw [callK_fn rfl F54 code54]
  have h := c_Index k l 35 (by omega)
  simp [R54_0, R54_1, Tryd.f54, h, hasB1]
theorem c_l1Stands (k : Nat) (l : List UInt8) (h20 : l.length ≤ 1048576) (hk : l.length + 10 ≤ k) : callK C k 56 [.c (.string (bs l)), .c (.int .u8 35)] [] = some (.c (.bool (hasB1 l)), hpOf [] []) := by
  obtain ⟨k, rfl⟩ : ∃ m, k = m + 1 := ⟨k - 1, by omega⟩
  rw [callK_fn rfl F56 code56]
  by_cases hn : Lib.indexByte l 35 = -1
  · have hno := Lib.indexByte_none hn
    have hL := loopHas (body := fun st => runCode C (callK C (k + 0)) (k + 0) (K 56) L56_0 1 st) (keep := [0, 1, 5]) (.ex 0) (fun st => st.tick = st.tick)
      (fun i st => st.ρ 0 = .c (.string (bs l)) ∧ st.ρ 1 = .c (.int .u8 35) ∧ st.ρ 5 = .c (.int .i64 (i : Int)))
      l.length (k + 0) (by omega)
      (by
        rintro i st next hi ⟨q0, q1, q3⟩ hx
        have hb := byteAt_bs hi
        have hne : ¬ ((l[i].toNat : Nat) : Int) = 35 := by
          intro e
          have e2 : l[i].toNat = 35 := by omega
          have e3 : l[i] = 35 := UInt8.toNat_inj.1 (by rw [e2]; rfl)
          exact hno i (by rw [List.getElem?_eq_getElem hi, e3])
        simp [L56_0, R56_0, R56_1, R56_2, R56_3, R56_4, R56_5, R56_6, Tryd.f56, lpL56_0, lpM56_0, M56_0, q0, q1, q3, bs_size, hi, hb, hne, wrap_next hi (by omega : l.length ≤ 9000000000000000000)]
        simp only [and_true] at hx
        exact hx _ (by simp [q0, q1]))
      (by
        rintro st next ⟨q0, q1, q3⟩
        simp [L56_0, R56_0, R56_1, R56_2, R56_3, R56_4, R56_5, R56_6, Tryd.f56, lpL56_0, lpM56_0, M56_0, q0, q1, q3, bs_size])
    have hr : hasB1 l = false := by simp [hasB1, hn]
    simp [R56_0, R56_1, R56_2, R56_3, R56_4, R56_5, R56_6, Tryd.f56, lpL56_0, lpM56_0]
    generalize hr2 : loopRun _ _ _ _ = res
    obtain ⟨s1, rfl, _⟩ := loop_at hL hr2 (by simp)
    simp [R56_0, R56_1, R56_2, R56_3, R56_4, R56_5, R56_6, Tryd.f56, lpL56_0, lpM56_0, M56_0, hr]
  · have hge := Lib.indexByte_ge l 35
    obtain ⟨o, ho⟩ : ∃ o : Nat, Lib.indexByte l 35 = o := ⟨(Lib.indexByte l 35).toNat, by omega⟩
    obtain ⟨h1, h2⟩ := Lib.indexByte_some ho
    obtain ⟨hol, h1⟩ := List.getElem?_eq_some_iff.1 h1
    have hL := loopHas (body := fun st => runCode C (callK C (k + 0)) (k + 0) (K 56) L56_0 1 st) (keep := [0, 1, 5]) .ret (fun st => st.ρ 4 = .c (.bool true))
      (fun i st => st.ρ 0 = .c (.string (bs l)) ∧ st.ρ 1 = .c (.int .u8 35) ∧ st.ρ 5 = .c (.int .i64 (i : Int)))
      o (k + 0) (by omega)
      (by
        rintro i st next hi ⟨q0, q1, q3⟩ hx
        have hil : i < l.length := by omega
        have hb := byteAt_bs hil
        have hne : ¬ ((l[i].toNat : Nat) : Int) = 35 := by
          intro e
          have e2 : l[i].toNat = 35 := by omega
          have e3 : l[i] = 35 := UInt8.toNat_inj.1 (by rw [e2]; rfl)
          exact h2 i hi (by rw [List.getElem?_eq_getElem hil, e3])
        simp [L56_0, R56_0, R56_1, R56_2, R56_3, R56_4, R56_5, R56_6, Tryd.f56, lpL56_0, lpM56_0, M56_0, q0, q1, q3, bs_size, hil, hb, hne, wrap_next hil (by omega : l.length ≤ 9000000000000000000)]
        exact hx _ (by simp [q0, q1]))
      (by
        rintro st next ⟨q0, q1, q3⟩
        have hb := byteAt_bs hol
        have he : ((l[o].toNat : Nat) : Int) = 35 := by rw [h1]; rfl
        simp [L56_0, R56_0, R56_1, R56_2, R56_3, R56_4, R56_5, R56_6, Tryd.f56, lpL56_0, lpM56_0, M56_0, q0, q1, q3, bs_size, hol, hb, he])
    have hr : hasB1 l = true := by simp [hasB1, ho]
    simp [R56_0, R56_1, R56_2, R56_3, R56_4, R56_5, R56_6, Tryd.f56, lpL56_0, lpM56_0]
    generalize hr2 : loopRun _ _ _ _ = res
    obtain ⟨s1, rfl, f2⟩ := loop_at hL hr2 (by simp)
    simp [R56_0, R56_1, R56_2, R56_3, R56_4, R56_5, R56_6, Tryd.f56, lpL56_0, lpM56_0, M56_0, hr, f2]
theorem c_l1Sum (k : Nat) (l : List UInt8) (h20 : l.length ≤ 1048576) (hk : l.length + 10 ≤ k) : callK C k 85 [.c (.string (bs l))] [] = some (.c (.int .i64 (ckL l)), hpOf [] []) := by
  obtain ⟨k, rfl⟩ : ∃ m, k = m + 1 := ⟨k - 1, by omega⟩
  rw [callK_fn rfl F85 code85]
  have hL := loopHas (body := fun st => runCode C (callK C (k + 0)) (k + 0) (K 85) L85_0 1 st) (keep := [0, 3, 4]) (.ex 0) (fun st => st.ρ 3 = .c (.int .i64 (ckL l)))
    (fun i st => st.ρ 0 = .c (.string (bs l)) ∧ st.ρ 3 = .c (.int .i64 (ckL (l.take i))) ∧ st.ρ 4 = .c (.int .i64 (i : Int)))
    l.length (k + 0) (by omega)
    (by
      rintro i st next hi ⟨q0, qn, qi⟩ hx
      have hb := byteAt_bs hi
      have hc : l[i].toNat < 256 := l[i].toNat_lt
      have b := ck_bound (l.take i) 7 (by omega) (by omega)
      have hs := ck_take hi
      obtain ⟨h, hh⟩ : ∃ h, ckL (l.take i) = h := ⟨_, rfl⟩
      rw [hh] at qn hs
      have b' : 0 ≤ h ∧ h < 999979 := by rw [← hh]; exact b
      have w0 : IntKind.i64.wrap ((l[i].toNat : Nat) : Int) = ((l[i].toNat : Nat) : Int) := wrap_small (by omega) (by omega)
      have w1 : IntKind.i64.wrap (41 * h) = 41 * h := wrap_small (by omega) (by omega)
      have w2 : IntKind.i64.wrap (41 * h + ((l[i].toNat : Nat) : Int)) = 41 * h + ((l[i].toNat : Nat) : Int) := wrap_small (by omega) (by omega)
      have w3 : IntKind.i64.wrap (41 * h + ((l[i].toNat : Nat) : Int) + 1) = 41 * h + ((l[i].toNat : Nat) : Int) + 1 := wrap_small (by omega) (by omega)
      simp [L85_0, R85_0, R85_1, R85_2, R85_3, R85_4, R85_5, R85_6, Tryd.f85, lpL85_0, lpM85_0, M85_0, q0, qn, qi, bs_size, hi, hb, w0, w1, w2, w3, wrap_next hi (by omega : l.length ≤ 9000000000000000000)]
      refine hx _ ⟨?_, ?_, ?_⟩
      · simp [q0]
      · rw [hs]; simp [ckS]
      · simp)
    (by
      rintro st next ⟨q0, qn, qi⟩
      rw [List.take_length] at qn
      simp [L85_0, R85_0, R85_1, R85_2, R85_3, R85_4, R85_5, R85_6, Tryd.f85, lpL85_0, lpM85_0, M85_0, q0, qn, qi, bs_size])
  simp [R85_0, R85_1, R85_2, R85_3, R85_4, R85_5, R85_6, Tryd.f85, lpL85_0, lpM85_0]
  generalize hr2 : loopRun _ _ _ _ = res
  obtain ⟨s1, rfl, f⟩ := loop_at hL hr2 (by simp [ckL])
  simp [R85_0, R85_1, R85_2, R85_3, R85_4, R85_5, R85_6, Tryd.f85, lpL85_0, lpM85_0, M85_0, f]
theorem c_checksum (k : Nat) (l : List UInt8) (h20 : l.length ≤ 1048576) (hk : l.length + 10 ≤ k) : callK C k 55 [.c (.string (bs l))] [] = some (.c (.int .i64 (ckL l)), hpOf [] []) := by
  obtain ⟨k, rfl⟩ : ∃ m, k = m + 1 := ⟨k - 1, by omega⟩
  rw [callK_fn rfl F55 code55]
  have hL := loopHas (body := fun st => runCode C (callK C (k + 0)) (k + 0) (K 55) L55_0 1 st) (keep := [0, 3, 4]) (.ex 0) (fun st => st.ρ 3 = .c (.int .i64 (ckL l)))
    (fun i st => st.ρ 0 = .c (.string (bs l)) ∧ st.ρ 3 = .c (.int .i64 (ckL (l.take i))) ∧ st.ρ 4 = .c (.int .i64 (i : Int)))
    l.length (k + 0) (by omega)
    (by
      rintro i st next hi ⟨q0, qn, qi⟩ hx
      have hb := byteAt_bs hi
      have hc : l[i].toNat < 256 := l[i].toNat_lt
      have b := ck_bound (l.take i) 7 (by omega) (by omega)
      have hs := ck_take hi
      obtain ⟨h, hh⟩ : ∃ h, ckL (l.take i) = h := ⟨_, rfl⟩
      rw [hh] at qn hs
      have b' : 0 ≤ h ∧ h < 999979 := by rw [← hh]; exact b
      have w0 : IntKind.i64.wrap ((l[i].toNat : Nat) : Int) = ((l[i].toNat : Nat) : Int) := wrap_small (by omega) (by omega)
      have w1 : IntKind.i64.wrap (41 * h) = 41 * h := wrap_small (by omega) (by omega)
      have w2 : IntKind.i64.wrap (41 * h + ((l[i].toNat : Nat) : Int)) = 41 * h + ((l[i].toNat : Nat) : Int) := wrap_small (by omega) (by omega)
      have w3 : IntKind.i64.wrap (41 * h + ((l[i].toNat : Nat) : Int) + 1) = 41 * h + ((l[i].toNat : Nat) : Int) + 1 := wrap_small (by omega) (by omega)
      simp [L55_0, R55_0, R55_1, R55_2, R55_3, R55_4, R55_5, R55_6, Tryd.f55, lpL55_0, lpM55_0, M55_0, q0, qn, qi, bs_size, hi, hb, w0, w1, w2, w3, wrap_next hi (by omega : l.length ≤ 9000000000000000000)]
      refine hx _ ⟨?_, ?_, ?_⟩
      · simp [q0]
      · rw [hs]; simp [ckS]
      · simp)
    (by
      rintro st next ⟨q0, qn, qi⟩
      rw [List.take_length] at qn
      simp [L55_0, R55_0, R55_1, R55_2, R55_3, R55_4, R55_5, R55_6, Tryd.f55, lpL55_0, lpM55_0, M55_0, q0, qn, qi, bs_size])
  simp [R55_0, R55_1, R55_2, R55_3, R55_4, R55_5, R55_6, Tryd.f55, lpL55_0, lpM55_0]
  generalize hr2 : loopRun _ _ _ _ = res
  obtain ⟨s1, rfl, f⟩ := loop_at hL hr2 (by simp [ckL])
  simp [R55_0, R55_1, R55_2, R55_3, R55_4, R55_5, R55_6, Tryd.f55, lpL55_0, lpM55_0, M55_0, f]
def sealL (l : List UInt8) : List UInt8 := l ++ (35 :: Lib.itoa (ckL l))
theorem itoa_len (l : List UInt8) : (Lib.itoa (ckL l)).length ≤ 21 := by
  have b := ck_bound l 7 (by omega) (by omega)
  unfold ckL
  exact Lib.itoa_length_le _ (by omega) (by omega)
def appB (l : List UInt8) : Bool := decide (l.length ≤ 4000) && (!hasB1 l && decide ((sealL l).length ≤ 4000))
theorem c_l1Seal (k : Nat) (l : List UInt8) (h20 : l.length ≤ 1048576) (hk : l.length + 100 ≤ k) : callK C k 57 [.c (.string (bs l))] [] = some (.c (.string (bs (sealL l))), hpOf [] []) := by
  obtain ⟨k, rfl⟩ : ∃ m, k = m + 1 := ⟨k - 1, by omega⟩
  rw [callK_fn rfl F57 code57]
  have b := ck_bound l 7 (by omega) (by omega)
  have h1 := c_l1Sum k l h20 (by omega)
  have h2 := c_l1Num k (ckL l) (by unfold ckL; omega) (by unfold ckL; omega) (by omega)
  have l1 := itoa_len l
  have n1 : l.length + 1 ≤ 9223372036854775807 := by omega
  have n2 : l.length + 1 + (Lib.itoa (ckL l)).length ≤ 9223372036854775807 := by omega
  simp [R57_0, R57_1, Tryd.f57, h1, h2, lit0, lit1, bs_size, bs_append, n1, n2, sealL]
theorem c_specApp (k : Nat) (l : List UInt8) (h20 : l.length ≤ 1048576) (hk : l.length + 200 ≤ k) : callK C k 21 [.c (.string (bs l))] [] = some (.tp [.c (.string (bs (if appB l = true then sealL l else []))), .c (.bool (appB l))], hpOf [] []) := by
  obtain ⟨k, rfl⟩ : ∃ m, k = m + 1 := ⟨k - 1, by omega⟩
  rw [callK_fn rfl F21 code21]
  have h1 := c_l1Stands k l h20 (by omega)
  have h2 := c_l1Seal k l h20 (by omega)
  by_cases g1 : l.length ≤ 4000
  · have g1' : ¬ (4000 : Int) < (l.length : Int) := by omega
    cases g2 : hasB1 l
    · rw [g2] at h1
      by_cases g3 : (sealL l).length ≤ 4000
      · have g3' : ¬ (4000 : Int) < ((sealL l).length : Int) := by omega
        simp [R21_0, R21_1, R21_2, R21_3, Tryd.f21, h1, h2, lit0, bs_size, g1, g1', g2, g3, g3', appB]
      · have g3' : (4000 : Int) < ((sealL l).length : Int) := by omega
        simp [R21_0, R21_1, R21_2, R21_3, Tryd.f21, h1, h2, lit0, bs_size, g1, g1', g2, g3, g3', appB]
    · rw [g2] at h1
      simp [R21_0, R21_1, R21_2, R21_3, Tryd.f21, h1, lit0, bs_size, g1, g1', g2, appB]
  · have g1' : (4000 : Int) < (l.length : Int) := by omega
    simp [R21_0, R21_1, R21_2, R21_3, Tryd.f21, lit0, bs_size, g1, g1', appB]
theorem c_implApp (k : Nat) (l : List UInt8) (h20 : l.length ≤ 1048576) (hk : l.length + 200 ≤ k) : callK C k 20 [.c (.string (bs l))] [] = some (.tp [.c (.string (bs (if appB l = true then sealL l else []))), .c (.bool (appB l))], hpOf [] []) := by
  obtain ⟨k, rfl⟩ : ∃ m, k = m + 1 := ⟨k - 1, by omega⟩
  rw [callK_fn rfl F20 code20]
  have h1 := c_Contains k l (by omega)
  have b := ck_bound l 7 (by omega) (by omega)
  have h2 := c_checksum k l h20 (by omega)
  have h3 := c_Itoa k (ckL l) (by unfold ckL; omega) (by unfold ckL; omega) (by omega)
  have l1 := itoa_len l
  have n1 : l.length + 1 ≤ 9223372036854775807 := by omega
  have n2 : l.length + 1 + (Lib.itoa (ckL l)).length ≤ 9223372036854775807 := by omega
  have n3 : (l ++ [35]).length + (Lib.itoa (ckL l)).length ≤ 9223372036854775807 := by rw [List.length_append]; simp; omega
  have hsl : (sealL l).length = l.length + ((Lib.itoa (ckL l)).length + 1) := by simp [sealL]
  have hse : l ++ 35 :: Lib.itoa (ckL l) = sealL l := rfl
  by_cases g1 : l.length ≤ 4000
  · have g1' : ¬ (4000 : Int) < (l.length : Int) := by omega
    cases g2 : hasB1 l
    · rw [g2] at h1
      by_cases g3 : (sealL l).length ≤ 4000
      · have g3' : ¬ (4000 : Int) < ((sealL l).length : Int) := by omega
        simp [-List.length_append, R20_0, R20_1, R20_2, R20_3, R20_4, R20_5, R20_6, Tryd.f20, h1, h2, h3, lit0, lit1, bs_size, bs_append, n1, n2, n3, hse, g1, g1', g2, g3, g3', appB]
      · have g3' : (4000 : Int) < ((sealL l).length : Int) := by omega
        simp [-List.length_append, R20_0, R20_1, R20_2, R20_3, R20_4, R20_5, R20_6, Tryd.f20, h1, h2, h3, lit0, lit1, bs_size, bs_append, n1, n2, n3, hse, g1, g1', g2, g3, g3', appB]
    · rw [g2] at h1
      simp [R20_0, R20_1, R20_2, R20_3, R20_4, R20_5, R20_6, Tryd.f20, h1, lit0, lit1, bs_size, g1, g1', g2, appB]
  · have g1' : (4000 : Int) < (l.length : Int) := by omega
    simp [R20_0, R20_1, R20_2, R20_3, R20_4, R20_5, R20_6, Tryd.f20, lit0, bs_size, g1, g1', appB]

end Go.Proofs.YtalpgpjhloohfaaDoor.Eng
