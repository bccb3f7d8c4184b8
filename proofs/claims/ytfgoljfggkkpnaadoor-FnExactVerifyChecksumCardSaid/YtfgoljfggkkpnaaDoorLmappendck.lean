/- A deterministic reading of Go code over plain data: what functions of the program compute. No conditions. -/
import Derived.Test.YtfgoljfggkkpnaaDoorLmbase
import Derived.Test.YtfgoljfggkkpnaaDoorLmimpl
import Derived.Test.YtfgoljfggkkpnaaDoorLmgood
import Derived.Test.YtfgoljfggkkpnaaDoorLmitoa
import Derived.Test.YtfgoljfggkkpnaaDoorEngT
import Derived.Lib.IndexLaws
namespace Go.Proofs.YtfgoljfggkkpnaaDoor.Eng
open Go Go.Proofs
set_option maxRecDepth 100000
set_option maxHeartbeats 2000000
set_option linter.unusedSimpArgs false
set_option linter.unusedVariables false
attribute [local simp] finK fin1 hpOf xi renQ isRoot runCode runOps Eng.step wantedV astep val ofO made loadV storeV find V.cells bin binT un1 setAt fieldAddrV fieldV indexAddrV indexV bounds sliceV convV lenV foldV max2V min2V callO bor rdsO wrsO seen_none okD_none loops keepIds resV resultsV St.ev TK.agg refs refsL refsO V.one V.isC Value.oneCell' ren renL renO noTag noTagL noTagR noTagO nodup mapO passV frs psi refsR newD loopNext opsAt idx flatAt rootOf backR newsV appendV copyV buildV fillF chunk
attribute [local simp] cT cF cX cWR cOW cK X WR OW K ints_length ints_get ints_getElem ints_drop ints_take ints_append ints_nil ints_set
attribute [local simp] ints_replicate
attribute [local simp] putV_some putV_none putH_app applyD_nil applyD_cons seen_app gc_ρ gc_H gc_tick st0_ρ st0_H st0_tick retV callRo callV_if borL_nil borL_cons ints_snoc take_self callWr cutH_app findQ afterV exportV_0 exportV_n okD_nil okD_cons sub_seq0 sub_seq1 sub_cond0 sub_cond1 sub_block sub_loop sub_nil young_far young_none okI ok_0 ok_1 ok_2
attribute [local simp] T3 T4 T5 T9 T45
theorem lit0 : (⟨#[]⟩ : ByteArray) = bs [] := rfl
theorem lit1 (a : UInt8) : (⟨#[a]⟩ : ByteArray) = bs [a] := rfl
theorem bs_data (l : List UInt8) : (bs l).data.toList = l := by simp [bs]
theorem bs_of (s : ByteArray) : ∃ l, s = bs l := ⟨s.data.toList, by cases s; simp [bs]⟩
theorem byteAt_bs {l : List UInt8} {i : Nat} (h : i < l.length) : byteAt (bs l) (i : Int) = ((l[i].toNat : Nat) : Int) := by
  unfold byteAt
  rw [bs_data]
  simp [List.getD, List.getElem?_eq_getElem h]
def ckS (h : Int) (c : UInt8) : Int := (41 * h + (c.toNat : Int) + 1).tmod 999979
def ckL (l : List UInt8) : Int := l.foldl ckS 7
theorem ck_bound : ∀ (l : List UInt8) (h : Int), 0 ≤ h → h < 999979 → 0 ≤ l.foldl ckS h ∧ l.foldl ckS h < 999979
  | [], h, a, b => ⟨a, b⟩
  | c :: l, h, a, b => by
    rw [List.foldl_cons]
    have hc : c.toNat < 256 := c.toNat_lt
    exact ck_bound l _ (Int.tmod_nonneg _ (by omega)) (Int.tmod_lt_of_pos _ (by omega))
theorem ck_take {l : List UInt8} {i : Nat} (h : i < l.length) : ckL (l.take (i + 1)) = ckS (ckL (l.take i)) l[i] := by
  unfold ckL
  rw [List.take_succ_eq_append_getElem h, List.foldl_append]
  rfl
def hasB1 (l : List UInt8) : Bool := decide (0 ≤ Lib.indexByte l 35)
theorem c_Index (k : Nat) (l : List UInt8) (c : UInt8) (hk : 1 ≤ k) : callK C k 60 [.c (.string (bs l)), .c (.string (bs [c]))] [] = some (.c (.int .i64 (Lib.indexByte l c)), hpOf [] []) := by
  obtain ⟨k, rfl⟩ : ∃ m, k = m + 1 := ⟨k - 1, by omega⟩
  simp only [callK]
  have hx : C.ext 60 = some ext60 := rfl
  rw [hx]
  simp [ext60, bs_data]
theorem c_Contains (k : Nat) (l : List UInt8) (hk : 2 ≤ k) : callK C k 33 [.c (.string (bs l)), .c (.string (bs [35]))] [] = some (.c (.bool (hasB1 l)), hpOf [] []) := by
  obtain ⟨k, rfl⟩ : ∃ m, k = m + 1 := ⟨k - 1, by omega⟩
  rw [callK_fn rfl F33 code33]
  have h := c_Index k l 35 (by omega)
  simp [R33_0, R33_1, Tryd.f33, h, hasB1]
theorem c_l1Stands (k : Nat) (l : List UInt8) (h20 : l.length ≤ 1048576) (hk : l.length + 10 ≤ k) : callK C k 31 [.c (.string (bs l)), .c (.int .u8 35)] [] = some (.c (.bool (hasB1 l)), hpOf [] []) := by
  obtain ⟨k, rfl⟩ : ∃ m, k = m + 1 := ⟨k - 1, by omega⟩
  rw [callK_fn rfl F31 code31]
  by_cases hn : Lib.indexByte l 35 = -1
  · have hno := Lib.indexByte_none hn
    have hL := loopHas (body := fun st => runCode C (callK C (k + 0)) (k + 0) (K 31) L31_0 1 st) (keep := [0, 1, 5]) (.ex 0) (fun st => st.tick = st.tick)
      (fun i st => st.ρ 0 = .c (.string (bs l)) ∧ st.ρ 1 = .c (.int .u8 35) ∧ st.ρ 5 = .c (.int .i64 (i : Int)))
      l.length (k + 0) (by omega)
      (by
        rintro i st next hi ⟨q0, q1, q3⟩ hx
        have hb := byteAt_bs hi
        have hne : ¬ ((l[i].toNat : Nat) : Int) = 35 := by
          intro e
          have e2 : l[i].toNat = 35 := by omega
          have e3 : l[i] = 35 := UInt8.toNat_inj.1 (by rw [e2]; rfl)
          exact hno i (by rw [List.getElem?_eq_getElem hi, e3])
        simp [L31_0, R31_0, R31_1, R31_2, R31_3, R31_4, R31_5, R31_6, Tryd.f31, lpL31_0, lpM31_0, M31_0, q0, q1, q3, bs_size, hi, hb, hne, wrap_next hi (by omega : l.length ≤ 9000000000000000000)]
        simp only [and_true] at hx
        exact hx _ (by simp [q0, q1]))
      (by
        rintro st next ⟨q0, q1, q3⟩
        simp [L31_0, R31_0, R31_1, R31_2, R31_3, R31_4, R31_5, R31_6, Tryd.f31, lpL31_0, lpM31_0, M31_0, q0, q1, q3, bs_size])
    have hr : hasB1 l = false := by simp [hasB1, hn]
    simp [R31_0, R31_1, R31_2, R31_3, R31_4, R31_5, R31_6, Tryd.f31, lpL31_0, lpM31_0]
    generalize hr2 : loopRun _ _ _ _ = res
    obtain ⟨s1, rfl, _⟩ := loop_at hL hr2 (by simp)
    simp [R31_0, R31_1, R31_2, R31_3, R31_4, R31_5, R31_6, Tryd.f31, lpL31_0, lpM31_0, M31_0, hr]
  · have hge := Lib.indexByte_ge l 35
    obtain ⟨o, ho⟩ : ∃ o : Nat, Lib.indexByte l 35 = o := ⟨(Lib.indexByte l 35).toNat, by omega⟩
    obtain ⟨h1, h2⟩ := Lib.indexByte_some ho
    obtain ⟨hol, h1⟩ := List.getElem?_eq_some_iff.1 h1
    have hL := loopHas (body := fun st => runCode C (callK C (k + 0)) (k + 0) (K 31) L31_0 1 st) (keep := [0, 1, 5]) .ret (fun st => st.ρ 4 = .c (.bool true))
      (fun i st => st.ρ 0 = .c (.string (bs l)) ∧ st.ρ 1 = .c (.int .u8 35) ∧ st.ρ 5 = .c (.int .i64 (i : Int)))
      o (k + 0) (by omega)
      (by
        rintro i st next hi ⟨q0, q1, q3⟩ hx
        have hil : i < l.length := by omega
        have hb := byteAt_bs hil
        have hne : ¬ ((l[i].toNat : Nat) : Int) = 35 := by
          intro e
          have e2 : l[i].toNat = 35 := by omega
          have e3 : l[i] = 35 := UInt8.toNat_inj.1 (by rw [e2]; rfl)
          exact h2 i hi (by rw [List.getElem?_eq_getElem hil, e3])
        simp [L31_0, R31_0, R31_1, R31_2, R31_3, R31_4, R31_5, R31_6, Tryd.f31, lpL31_0, lpM31_0, M31_0, q0, q1, q3, bs_size, hil, hb, hne, wrap_next hil (by omega : l.length ≤ 9000000000000000000)]
        exact hx _ (by simp [q0, q1]))
      (by
        rintro st next ⟨q0, q1, q3⟩
        have hb := byteAt_bs hol
        have he : ((l[o].toNat : Nat) : Int) = 35 := by rw [h1]; rfl
        simp [L31_0, R31_0, R31_1, R31_2, R31_3, R31_4, R31_5, R31_6, Tryd.f31, lpL31_0, lpM31_0, M31_0, q0, q1, q3, bs_size, hol, hb, he])
    have hr : hasB1 l = true := by simp [hasB1, ho]
    simp [R31_0, R31_1, R31_2, R31_3, R31_4, R31_5, R31_6, Tryd.f31, lpL31_0, lpM31_0]
    generalize hr2 : loopRun _ _ _ _ = res
    obtain ⟨s1, rfl, f2⟩ := loop_at hL hr2 (by simp)
    simp [R31_0, R31_1, R31_2, R31_3, R31_4, R31_5, R31_6, Tryd.f31, lpL31_0, lpM31_0, M31_0, hr, f2]
theorem c_l1Sum (k : Nat) (l : List UInt8) (h20 : l.length ≤ 1048576) (hk : l.length + 10 ≤ k) : callK C k 59 [.c (.string (bs l))] [] = some (.c (.int .i64 (ckL l)), hpOf [] []) := by
  obtain ⟨k, rfl⟩ : ∃ m, k = m + 1 := ⟨k - 1, by omega⟩
  rw [callK_fn rfl F59 code59]
  have hL := loopHas (body := fun st => runCode C (callK C (k + 0)) (k + 0) (K 59) L59_0 1 st) (keep := [0, 3, 4]) (.ex 0) (fun st => st.ρ 3 = .c (.int .i64 (ckL l)))
    (fun i st => st.ρ 0 = .c (.string (bs l)) ∧ st.ρ 3 = .c (.int .i64 (ckL (l.take i))) ∧ st.ρ 4 = .c (.int .i64 (i : Int)))
    l.length (k + 0) (by omega)
    (by
      rintro i st next hi ⟨q0, qn, qi⟩ hx
      have hb := byteAt_bs hi
      have hc : l[i].toNat < 256 := l[i].toNat_lt
      have b := ck_bound (l.take i) 7 (by omega) (by omega)
      have hs := ck_take hi
      obtain ⟨h, hh⟩ : ∃ h, ckL (l.take i) = h := ⟨_, rfl⟩
      rw [hh] at qn hs
      have b' : 0 ≤ h ∧ h < 999979 := by rw [← hh]; exact b
      have w0 : IntKind.i64.wrap ((l[i].toNat : Nat) : Int) = ((l[i].toNat : Nat) : Int) := wrap_small (by omega) (by omega)
      have w1 : IntKind.i64.wrap (41 * h) = 41 * h := wrap_small (by omega) (by omega)
      have w2 : IntKind.i64.wrap (41 * h + ((l[i].toNat : Nat) : Int)) = 41 * h + ((l[i].toNat : Nat) : Int) := wrap_small (by omega) (by omega)
      have w3 : IntKind.i64.wrap (41 * h + ((l[i].toNat : Nat) : Int) + 1) = 41 * h + ((l[i].toNat : Nat) : Int) + 1 := wrap_small (by omega) (by omega)
      simp [L59_0, R59_0, R59_1, R59_2, R59_3, R59_4, R59_5, R59_6, Tryd.f59, lpL59_0, lpM59_0, M59_0, q0, qn, qi, bs_size, hi, hb, w0, w1, w2, w3, wrap_next hi (by omega : l.length ≤ 9000000000000000000)]
      refine hx _ ⟨?_, ?_, ?_⟩
      · simp [q0]
      · rw [hs]; simp [ckS]
      · simp)
    (by
      rintro st next ⟨q0, qn, qi⟩
      rw [List.take_length] at qn
      simp [L59_0, R59_0, R59_1, R59_2, R59_3, R59_4, R59_5, R59_6, Tryd.f59, lpL59_0, lpM59_0, M59_0, q0, qn, qi, bs_size])
  simp [R59_0, R59_1, R59_2, R59_3, R59_4, R59_5, R59_6, Tryd.f59, lpL59_0, lpM59_0]
  generalize hr2 : loopRun _ _ _ _ = res
  obtain ⟨s1, rfl, f⟩ := loop_at hL hr2 (by simp [ckL])
  simp [R59_0, R59_1, R59_2, R59_3, R59_4, R59_5, R59_6, Tryd.f59, lpL59_0, lpM59_0, M59_0, f]
theorem c_checksum (k : Nat) (l : List UInt8) (h20 : l.length ≤ 1048576) (hk : l.length + 10 ≤ k) : callK C k 35 [.c (.string (bs l))] [] = some (.c (.int .i64 (ckL l)), hpOf [] []) := by
  obtain ⟨k, rfl⟩ : ∃ m, k = m + 1 := ⟨k - 1, by omega⟩
  rw [callK_fn rfl F35 code35]
  have hL := loopHas (body := fun st => runCode C (callK C (k + 0)) (k + 0) (K 35) L35_0 1 st) (keep := [0, 3, 4]) (.ex 0) (fun st => st.ρ 3 = .c (.int .i64 (ckL l)))
    (fun i st => st.ρ 0 = .c (.string (bs l)) ∧ st.ρ 3 = .c (.int .i64 (ckL (l.take i))) ∧ st.ρ 4 = .c (.int .i64 (i : Int)))
    l.length (k + 0) (by omega)
    (by
      rintro i st next hi ⟨q0, qn, qi⟩ hx
      have hb := byteAt_bs hi
      have hc : l[i].toNat < 256 := l[i].toNat_lt
      have b := ck_bound (l.take i) 7 (by omega) (by omega)
      have hs := ck_take hi
      obtain ⟨h, hh⟩ : ∃ h, ckL (l.take i) = h := ⟨_, rfl⟩
      rw [hh] at qn hs
      have b' : 0 ≤ h ∧ h < 999979 := by rw [← hh]; exact b
      have w0 : IntKind.i64.wrap ((l[i].toNat : Nat) : Int) = ((l[i].toNat : Nat) : Int) := wrap_small (by omega) (by omega)
      have w1 : IntKind.i64.wrap (41 * h) = 41 * h := wrap_small (by omega) (by omega)
      have w2 : IntKind.i64.wrap (41 * h + ((l[i].toNat : Nat) : Int)) = 41 * h + ((l[i].toNat : Nat) : Int) := wrap_small (by omega) (by omega)
      have w3 : IntKind.i64.wrap (41 * h + ((l[i].toNat : Nat) : Int) + 1) = 41 * h + ((l[i].toNat : Nat) : Int) + 1 := wrap_small (by omega) (by omega)
      simp [L35_0, R35_0, R35_1, R35_2, R35_3, R35_4, R35_5, R35_6, Tryd.f35, lpL35_0, lpM35_0, M35_0, q0, qn, qi, bs_size, hi, hb, w0, w1, w2, w3, wrap_next hi (by omega : l.length ≤ 9000000000000000000)]
      refine hx _ ⟨?_, ?_, ?_⟩
      · simp [q0]
      · rw [hs]; simp [ckS]
      · simp)
    (by
      rintro st next ⟨q0, qn, qi⟩
      rw [List.take_length] at qn
      simp [L35_0, R35_0, R35_1, R35_2, R35_3, R35_4, R35_5, R35_6, Tryd.f35, lpL35_0, lpM35_0, M35_0, q0, qn, qi, bs_size])
  simp [R35_0, R35_1, R35_2, R35_3, R35_4, R35_5, R35_6, Tryd.f35, lpL35_0, lpM35_0]
  generalize hr2 : loopRun _ _ _ _ = res
  obtain ⟨s1, rfl, f⟩ := loop_at hL hr2 (by simp [ckL])
  simp [R35_0, R35_1, R35_2, R35_3, R35_4, R35_5, R35_6, Tryd.f35, lpL35_0, lpM35_0, M35_0, f]
def sealL (l : List UInt8) : List UInt8 := l ++ (35 :: Lib.itoa (ckL l))
theorem itoa_len (l : List UInt8) : (Lib.itoa (ckL l)).length ≤ 21 := by
  have b := ck_bound l 7 (by omega) (by omega)
  unfold ckL
  exact Lib.itoa_length_le _ (by omega) (by omega)
def appB (l : List UInt8) : Bool := decide (l.length ≤ 4000) && (!hasB1 l && decide ((sealL l).length ≤ 4000))
theorem c_l1Seal (k : Nat) (l : List UInt8) (h20 : l.length ≤ 1048576) (hk : l.length + 100 ≤ k) : callK C k 32 [.c (.string (bs l))] [] = some (.c (.string (bs (sealL l))), hpOf [] []) := by
  obtain ⟨k, rfl⟩ : ∃ m, k = m + 1 := ⟨k - 1, by omega⟩
  rw [callK_fn rfl F32 code32]
  have b := ck_bound l 7 (by omega) (by omega)
  have h1 := c_l1Sum k l h20 (by omega)
  have h2 := c_l1Num k (ckL l) (by unfold ckL; omega) (by unfold ckL; omega) (by omega)
  have l1 := itoa_len l
  have n1 : l.length + 1 ≤ 9223372036854775807 := by omega
  have n2 : l.length + 1 + (Lib.itoa (ckL l)).length ≤ 9223372036854775807 := by omega
  simp [R32_0, R32_1, Tryd.f32, h1, h2, lit0, lit1, bs_size, bs_append, n1, n2, sealL]
theorem c_specApp (k : Nat) (l : List UInt8) (h20 : l.length ≤ 1048576) (hk : l.length + 200 ≤ k) : callK C k 8 [.c (.string (bs l))] [] = some (.tp [.c (.string (bs (if appB l = true then sealL l else []))), .c (.bool (appB l))], hpOf [] []) := by
  obtain ⟨k, rfl⟩ : ∃ m, k = m + 1 := ⟨k - 1, by omega⟩
  rw [callK_fn rfl F8 code8]
  have h1 := c_l1Stands k l h20 (by omega)
  have h2 := c_l1Seal k l h20 (by omega)
  by_cases g1 : l.length ≤ 4000
  · have g1' : ¬ (4000 : Int) < (l.length : Int) := by omega
    cases g2 : hasB1 l
    · rw [g2] at h1
      by_cases g3 : (sealL l).length ≤ 4000
      · have g3' : ¬ (4000 : Int) < ((sealL l).length : Int) := by omega
        simp [R8_0, R8_1, R8_2, R8_3, Tryd.f8, h1, h2, lit0, bs_size, g1, g1', g2, g3, g3', appB]
      · have g3' : (4000 : Int) < ((sealL l).length : Int) := by omega
        simp [R8_0, R8_1, R8_2, R8_3, Tryd.f8, h1, h2, lit0, bs_size, g1, g1', g2, g3, g3', appB]
    · rw [g2] at h1
      simp [R8_0, R8_1, R8_2, R8_3, Tryd.f8, h1, lit0, bs_size, g1, g1', g2, appB]
  · have g1' : (4000 : Int) < (l.length : Int) := by omega
    simp [R8_0, R8_1, R8_2, R8_3, Tryd.f8, lit0, bs_size, g1, g1', appB]
theorem c_implApp (k : Nat) (l : List UInt8) (h20 : l.length ≤ 1048576) (hk : l.length + 200 ≤ k) : callK C k 9 [.c (.string (bs l))] [] = some (.tp [.c (.string (bs (if appB l = true then sealL l else []))), .c (.bool (appB l))], hpOf [] []) := by
  obtain ⟨k, rfl⟩ : ∃ m, k = m + 1 := ⟨k - 1, by omega⟩
  rw [callK_fn rfl F9 code9]
  have h1 := c_Contains k l (by omega)
  have b := ck_bound l 7 (by omega) (by omega)
  have h2 := c_checksum k l h20 (by omega)
  have h3 := c_Itoa k (ckL l) (by unfold ckL; omega) (by unfold ckL; omega) (by omega)
  have l1 := itoa_len l
  have n1 : l.length + 1 ≤ 9223372036854775807 := by omega
  have n2 : l.length + 1 + (Lib.itoa (ckL l)).length ≤ 9223372036854775807 := by omega
  have n3 : (l ++ [35]).length + (Lib.itoa (ckL l)).length ≤ 9223372036854775807 := by rw [List.length_append]; simp; omega
  have hsl : (sealL l).length = l.length + ((Lib.itoa (ckL l)).length + 1) := by simp [sealL]
  have hse : l ++ 35 :: Lib.itoa (ckL l) = sealL l := rfl
  by_cases g1 : l.length ≤ 4000
  · have g1' : ¬ (4000 : Int) < (l.length : Int) := by omega
    cases g2 : hasB1 l
    · rw [g2] at h1
      by_cases g3 : (sealL l).length ≤ 4000
      · have g3' : ¬ (4000 : Int) < ((sealL l).length : Int) := by omega
        simp [-List.length_append, R9_0, R9_1, R9_2, R9_3, R9_4, R9_5, R9_6, Tryd.f9, h1, h2, h3, lit0, lit1, bs_size, bs_append, n1, n2, n3, hse, g1, g1', g2, g3, g3', appB]
      · have g3' : (4000 : Int) < ((sealL l).length : Int) := by omega
        simp [-List.length_append, R9_0, R9_1, R9_2, R9_3, R9_4, R9_5, R9_6, Tryd.f9, h1, h2, h3, lit0, lit1, bs_size, bs_append, n1, n2, n3, hse, g1, g1', g2, g3, g3', appB]
    · rw [g2] at h1
      simp [R9_0, R9_1, R9_2, R9_3, R9_4, R9_5, R9_6, Tryd.f9, h1, lit0, lit1, bs_size, g1, g1', g2, appB]
  · have g1' : (4000 : Int) < (l.length : Int) := by omega
    simp [R9_0, R9_1, R9_2, R9_3, R9_4, R9_5, R9_6, Tryd.f9, lit0, bs_size, g1, g1', appB]
theorem law_AppendChecksum (s : ByteArray) (w : s.size ≤ maxLen) : ∃ k, callK C k 3 [.c (.string s)] [] = some (.c (.bool true), hpOf [] []) := by
  obtain ⟨l, rfl⟩ := bs_of s
  refine ⟨l.length + 1000 + 1, ?_⟩
  rw [callK_fn rfl F3 code3]
  by_cases h : l.length ≤ 1048576
  · have h' : ¬ (1048576 : Int) < (l.length : Int) := by omega
    have S := c_specApp (l.length + 1000) l h (by omega)
    have I := c_implApp (l.length + 1000) l h (by omega)
    cases hb : appB l
    · rw [hb] at S I
      simp at S I
      simp [R3_0, R3_1, R3_2, R3_3, R3_4, R3_5, R3_6, R3_7, Tryd.f3, bs_size, h', S, I]
    · rw [hb] at S I
      simp at S I
      simp [R3_0, R3_1, R3_2, R3_3, R3_4, R3_5, R3_6, R3_7, Tryd.f3, bs_size, h', S, I]
  · have h' : (1048576 : Int) < (l.length : Int) := by omega
    simp [R3_0, R3_1, R3_2, R3_3, R3_4, R3_5, R3_6, R3_7, Tryd.f3, bs_size, h']

end Go.Proofs.YtfgoljfggkkpnaaDoor.Eng
