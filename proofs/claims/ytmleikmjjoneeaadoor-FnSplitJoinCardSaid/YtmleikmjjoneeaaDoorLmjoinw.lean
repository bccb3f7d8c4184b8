/- A deterministic reading of Go code over plain data: what functions of the program compute. No conditions. -/
import Derived.Test.YtmleikmjjoneeaaDoorLmbase
import Derived.Test.YtmleikmjjoneeaaDoorLmimpl
import Derived.Test.YtmleikmjjoneeaaDoorLmgood
import Derived.Test.YtmleikmjjoneeaaDoorLmitoa
import Derived.Test.YtmleikmjjoneeaaDoorLmappendck
import Derived.Test.YtmleikmjjoneeaaDoorLmsplit
import Derived.Test.YtmleikmjjoneeaaDoorLmjoins
import Derived.Test.YtmleikmjjoneeaaDoorLmjoinf
import Derived.Test.YtmleikmjjoneeaaDoorEngT
import Derived.Lib.IndexLaws
import Derived.Lib.Join
namespace Go.Proofs.YtmleikmjjoneeaaDoor.Eng
open Go Go.Proofs
set_option maxRecDepth 100000
set_option maxHeartbeats 2000000
set_option linter.unusedSimpArgs false
set_option linter.unusedVariables false
attribute [local simp] finK fin1 hpOf xi renQ isRoot runCode runOps Eng.step wantedV astep val ofO made loadV storeV find V.cells bin binT binA numT numFs eqCells un1 setAt fieldAddrV fieldV indexAddrV indexV bounds sliceV convV lenV foldV max2V min2V callO bor rdsO wrsO seen_none okD_none loops keepIds resV resultsV St.ev TK.agg refs refsL refsO V.one V.isC Value.oneCell' ren renL renO noTag noTagL noTagR noTagO nodup mapO passV frs psi refsR newD loopNext opsAt idx flatAt rootOf backR newsV appendV copyV clearV strV bytesOf nilCmp buildV fillF chunk
attribute [local simp] cT cF cX cWR cOW cK X ints_length ints_get ints_getElem ints_drop ints_take ints_append ints_nil ints_set
attribute [local simp] ints_replicate
attribute [local simp] putV_some putV_none putH_app applyD_nil applyD_cons seen_app gc_ρ gc_H gc_tick st0_ρ st0_H st0_tick retV callRo callV_if borL_nil borL_cons ints_snoc take_self callWr cutH_app findQ afterV exportV_0 exportV_n okD_nil okD_cons sub_seq0 sub_seq1 sub_cond0 sub_cond1 sub_block sub_loop sub_nil young_far young_none hidW_nil mayW_nil pairs okI ok_0 ok_1 ok_2
attribute [local simp] T3 T4 T5 T9 T22 T28 T39 T40 T42
attribute [local simp] young_near clo cloF Region.binds Nat.testBit hidW declW mayW List.findIdx?_cons
theorem joinOk_iff (p : List (List UInt8)) (b : UInt8) : joinOk p b = true ↔ p ≠ [] ∧ (∀ x ∈ p, b ∉ x) ∧ lenS p + (p.length - 1) ≤ 4000 := by
  simp [joinOk, and_assoc]
theorem no_snoc {p : List (List UInt8)} {b : UInt8} {i : Nat} (hi : i < p.length) (h : ∀ x ∈ p.take i, b ∉ x) (hx : b ∉ p[i]) : ∀ x ∈ p.take (i + 1), b ∉ x := by
  intro x hm
  rw [List.take_succ_eq_append_getElem hi, List.mem_append, List.mem_singleton] at hm
  rcases hm with hm | rfl
  · exact h x hm
  · exact hx
theorem sc_strs : ∀ p : List (List UInt8), sc26 (strs p) = some (p.map bs)
  | [] => rfl
  | x :: r => by
    show (match sc26 (strs r) with
      | some r => some (bs x :: r)
      | none => none) = _
    rw [sc_strs r]; rfl
theorem c_Join (k : Nat) (bb : Bool) (p : List (List UInt8)) (b : UInt8) (hp : p ≠ []) (hl : lenS p + (p.length - 1) ≤ 4000) (hk : 1 ≤ k) : callK C k 26 [.sq bb true 1 (strs p), .c (.string (bs [b]))] [] = some (.c (.string (bs (joinB p b))), hpOf [] []) := by
  obtain ⟨k, rfl⟩ : ∃ m, k = m + 1 := ⟨k - 1, by omega⟩
  simp only [callK]
  have hx : C.ext 26 = some ext26 := rfl
  rw [hx]
  have hm : (p.map bs).map (·.data.toList) = p := by
    rw [List.map_map]
    conv => rhs; rw [← List.map_id p]
    exact List.map_congr_left fun x _ => bs_data x
  have hj := joinB_len p b hp
  unfold joinB at hj
  have hpl : p.length ≤ 4001 := by omega
  have hne : strs p ≠ [] := by
    cases p with
    | nil => exact absurd rfl hp
    | cons x r => simp [strs]
  have he : ext26 [.sq bb true 1 (strs p), .c (.string (bs [b]))] = some (.c (.string (bs (joinB p b))), []) := by
    unfold ext26
    simp only [sc_strs, hm, bs_data]
    rw [if_pos ⟨hne, by rw [List.length_map]; omega, by omega⟩]
    rfl
  simp [he]
theorem c_implJoin (k : Nat) (bb : Bool) (p : List (List UInt8)) (b : UInt8) (hl : p.length + lenS p ≤ 1048576) (hk : p.length + 100 ≤ k) : callK C k 13 [.sq bb true 1 (strs p), .c (.string (bs [b]))] [] = some (.tp [.c (.string (bs (if joinOk p b = true then joinB p b else []))), .c (.bool (joinOk p b))], hpOf [] []) := by
  obtain ⟨k, rfl⟩ : ∃ m, k = m + 9 := ⟨k - 9, by omega⟩
  rw [callK_fn rfl F13 code13]
  by_cases hp : p = []
  · subst hp
    have h0 : joinOk [] b = false := by simp [joinOk]
    rw [h0]
    simp [R13_0, R13_1, R13_2, R13_3, R13_4, R13_5, R13_6, R13_7, R13_8, R13_9, R13_10, R13_11, Tryd.f13, lpL13_0, lpM13_0, M13_0, undef, strs_nil, lit0]
  · have hpl : 1 ≤ p.length := List.length_pos_iff.2 hp
    have hpn : ¬ p.length = 0 := by omega
    have hpc : ¬ (p.length : Int) = 0 := by omega
    have hpb : ((p.length : Int) == 0) = false := by simpa using hpc
    have hC := fun x => c_ContainsG (k + 8) x b (by omega)
    have w0 : IntKind.i64.wrap ((p.length : Int) - 1) = ((p.length - 1 : Nat) : Int) := by rw [wrap_small (by omega) (by omega)]; omega
    obtain ⟨n1, hn1⟩ : ∃ n1, p.length - 1 = n1 := ⟨_, rfl⟩
    rw [hn1] at w0
    have hF := joinOk_iff p b
    rw [hn1] at hF
    cases hj : joinOk p b
    · have hL := loopHas (body := fun st => runCode C (callK C (k + 8)) (k + 8) (K 13) L13_0 1 st) (keep := [0, 1, 6, 20, 21, 22]) .ret (fun st => st.ρ 4 = .c (.string (bs [])) ∧ st.ρ 5 = .c (.bool false))
        (fun i st => st.ρ 1 = .c (.string (bs [b])) ∧ st.ρ 20 = .sq bb true 1 (strs p) ∧ st.ρ 21 = .c (.int .i64 p.length) ∧ st.ρ 22 = .c (.int .i64 (i : Int)) ∧ st.ρ 6 = .c (.int .i64 ((n1 : Int) + (lenS (p.take i) : Int))) ∧ (∀ x ∈ p.take i, b ∉ x) ∧ (i = 0 ∨ lenS (p.take i) + n1 ≤ 4000))
        p.length (k + 8) (by omega)
        (by
          rintro i st next hi ⟨q1, q20, q21, q22, q6, hno, hle⟩ hx
          have h1 := lenS_take p i hi
          have h2 := lenS_take_le p (i + 1) hi
          have hwn := wrap_next hi (by omega : p.length ≤ 9000000000000000000)
          have w1 : IntKind.i64.wrap ((n1 : Int) + (lenS (p.take i) : Int) + (p[i].length : Int)) = (n1 : Int) + (lenS (p.take (i + 1)) : Int) := by rw [wrap_small (by omega) (by omega)]; omega
          have hc := hC p[i]
          by_cases hm : b ∈ p[i]
          · simp [hm] at hc
            simp [L13_0, R13_0, R13_1, R13_2, R13_3, R13_4, R13_5, R13_6, R13_7, R13_8, R13_9, R13_10, R13_11, Tryd.f13, lpL13_0, lpM13_0, M13_0, undef, q1, q20, q21, q22, q6, hi, strs_at, strs_length, bs_size, w1, hc, lit0]
          · simp [hm] at hc
            by_cases hg : lenS (p.take (i + 1)) + n1 ≤ 4000
            · have hg1 : ¬ (4000 : Int) < (n1 : Int) + (lenS (p.take (i + 1)) : Int) := by omega
              simp [L13_0, R13_0, R13_1, R13_2, R13_3, R13_4, R13_5, R13_6, R13_7, R13_8, R13_9, R13_10, R13_11, Tryd.f13, lpL13_0, lpM13_0, M13_0, undef, q1, q20, q21, q22, q6, hi, strs_at, strs_length, bs_size, w1, hc, hwn, hg1]
              exact hx _ ⟨by simp [q1], by simp [q20], by simp [q21], by simp, by simp, no_snoc hi hno hm, .inr hg⟩
            · have hg1 : (4000 : Int) < (n1 : Int) + (lenS (p.take (i + 1)) : Int) := by omega
              simp [L13_0, R13_0, R13_1, R13_2, R13_3, R13_4, R13_5, R13_6, R13_7, R13_8, R13_9, R13_10, R13_11, Tryd.f13, lpL13_0, lpM13_0, M13_0, undef, q1, q20, q21, q22, q6, hi, strs_at, strs_length, bs_size, w1, hc, hg1, lit0])
        (by
          rintro st next ⟨q1, q20, q21, q22, q6, hno, hle⟩
          rw [List.take_length] at hno hle
          have : joinOk p b = true := hF.2 ⟨hp, hno, by rcases hle with h | h <;> omega⟩
          rw [hj] at this
          cases this)
      simp [R13_0, R13_1, R13_2, R13_3, R13_4, R13_5, R13_6, R13_7, R13_8, R13_9, R13_10, R13_11, Tryd.f13, lpL13_0, lpM13_0, undef, strs_length, bs_size, hp, hpn, hpc, hpb, w0]
      generalize hr : loopRun _ _ _ _ = res
      obtain ⟨s1, rfl, f4, f5⟩ := loop_at hL hr ⟨by simp, by simp, by simp, by simp, by simp [lenS], by simp, .inl rfl⟩
      simp [R13_0, R13_1, R13_2, R13_3, R13_4, R13_5, R13_6, R13_7, R13_8, R13_9, R13_10, R13_11, Tryd.f13, lpL13_0, lpM13_0, M13_0, f4, f5]
    · obtain ⟨_, hno, hle⟩ := hF.1 hj
      have J := c_Join (k + 8) bb p b hp (by omega) (by omega)
      have hL := loopHas (body := fun st => runCode C (callK C (k + 8)) (k + 8) (K 13) L13_0 1 st) (keep := [0, 1, 6, 20, 21, 22]) (.ex 0) (fun st => st.ρ 0 = .sq bb true 1 (strs p) ∧ st.ρ 1 = .c (.string (bs [b])))
        (fun i st => st.ρ 0 = .sq bb true 1 (strs p) ∧ st.ρ 1 = .c (.string (bs [b])) ∧ st.ρ 20 = .sq bb true 1 (strs p) ∧ st.ρ 21 = .c (.int .i64 p.length) ∧ st.ρ 22 = .c (.int .i64 (i : Int)) ∧ st.ρ 6 = .c (.int .i64 ((n1 : Int) + (lenS (p.take i) : Int))))
        p.length (k + 8) (by omega)
        (by
          rintro i st next hi ⟨q0, q1, q20, q21, q22, q6⟩ hx
          have h1 := lenS_take p i hi
          have h2 := lenS_take_le p (i + 1) hi
          have hwn := wrap_next hi (by omega : p.length ≤ 9000000000000000000)
          have w1 : IntKind.i64.wrap ((n1 : Int) + (lenS (p.take i) : Int) + (p[i].length : Int)) = (n1 : Int) + (lenS (p.take (i + 1)) : Int) := by rw [wrap_small (by omega) (by omega)]; omega
          have hc := hC p[i]
          have hm := hno _ (List.getElem_mem hi)
          simp [hm] at hc
          have hg1 : ¬ (4000 : Int) < (n1 : Int) + (lenS (p.take (i + 1)) : Int) := by omega
          simp [L13_0, R13_0, R13_1, R13_2, R13_3, R13_4, R13_5, R13_6, R13_7, R13_8, R13_9, R13_10, R13_11, Tryd.f13, lpL13_0, lpM13_0, M13_0, undef, q0, q1, q20, q21, q22, q6, hi, strs_at, strs_length, bs_size, w1, hc, hwn, hg1]
          exact hx _ ⟨by simp [q0], by simp [q1], by simp [q20], by simp [q21], by simp, by simp⟩)
        (by
          rintro st next ⟨q0, q1, q20, q21, q22, q6⟩
          simp [L13_0, R13_0, R13_1, R13_2, R13_3, R13_4, R13_5, R13_6, R13_7, R13_8, R13_9, R13_10, R13_11, Tryd.f13, lpL13_0, lpM13_0, M13_0, q0, q1, q20, q21, q22])
      simp [R13_0, R13_1, R13_2, R13_3, R13_4, R13_5, R13_6, R13_7, R13_8, R13_9, R13_10, R13_11, Tryd.f13, lpL13_0, lpM13_0, undef, strs_length, bs_size, hp, hpn, hpc, hpb, w0]
      generalize hr : loopRun _ _ _ _ = res
      obtain ⟨s1, rfl, f0, f1⟩ := loop_at hL hr ⟨by simp, by simp, by simp, by simp, by simp, by simp [lenS]⟩
      simp [R13_0, R13_1, R13_2, R13_3, R13_4, R13_5, R13_6, R13_7, R13_8, R13_9, R13_10, R13_11, Tryd.f13, lpL13_0, lpM13_0, M13_0, f0, f1, J]
theorem c_specJoin (k : Nat) (bb : Bool) (p : List (List UInt8)) (b : UInt8) (hl : p.length + lenS p ≤ 1048576) (hk : p.length + 1048700 ≤ k) : callK C k 14 [.sq bb true 1 (strs p), .c (.string (bs [b]))] [] = some (.tp [.c (.string (bs (if joinOk p b = true then joinB p b else []))), .c (.bool (joinOk p b))], hpOf [] []) := by
  obtain ⟨k, rfl⟩ : ∃ m, k = m + 9 := ⟨k - 9, by omega⟩
  rw [callK_fn rfl F14 code14]
  by_cases hp : p = []
  · subst hp
    have h0 : joinOk [] b = false := by simp [joinOk]
    rw [h0]
    simp [R14_0, R14_1, R14_2, R14_3, R14_4, R14_5, R14_6, R14_7, R14_8, R14_9, R14_10, R14_11, R14_12, R14_13, R14_14, Tryd.f14, lpL14_0, lpM14_0, M14_0, undef, strs_nil, lit0, bs_size]
  · have hpl : 1 ≤ p.length := List.length_pos_iff.2 hp
    have hpn : ¬ p.length = 0 := by omega
    have hpc : ¬ (p.length : Int) = 0 := by omega
    have hpb : ((p.length : Int) == 0) = false := by simpa using hpc
    have hC := fun x hx => c_l1StandsG (k + 8) x b hx
    have hb0 : byteAt (bs [b]) 0 = ((b.toNat : Nat) : Int) := byteAt_bs (l := [b]) (i := 0) (by simp)
    have hF := joinOk_iff p b
    have hB : ∀ i, i < p.length → joinB (p.take (i + 1)) b = (if i = 0 then p[i]! else joinB (p.take i) b ++ [b] ++ p[i]!) := fun i hi => by
      rw [joinB_take p b i hi, getElem!_pos p i hi]
    have hBl : ∀ i, i < p.length → (joinB (p.take (i + 1)) b).length = lenS (p.take (i + 1)) + i := fun i hi => by
      rw [joinB_len _ b (by intro e; have := congrArg List.length e; rw [List.length_take] at this; simp only [List.length_nil] at this; omega), List.length_take]
      omega
    cases hj : joinOk p b
    · have hL := loopHas (body := fun st => runCode C (callK C (k + 8)) (k + 8) (K 14) L14_0 1 st) (keep := [0, 1, 6, 7]) .ret (fun st => st.ρ 4 = .c (.string (bs [])) ∧ st.ρ 5 = .c (.bool false))
        (fun i st => st.ρ 0 = .sq bb true 1 (strs p) ∧ st.ρ 1 = .c (.string (bs [b])) ∧ st.ρ 7 = .c (.int .i64 (i : Int)) ∧ st.ρ 6 = .c (.string (bs (joinB (p.take i) b))) ∧ (∀ x ∈ p.take i, b ∉ x) ∧ (i = 0 ∨ (joinB (p.take i) b).length ≤ 4000))
        p.length (k + 8) (by omega)
        (by
          rintro i st next hi ⟨q0, q1, q7, q6, hno, hle⟩ hx
          have h2 := lenS_get p i hi
          have hwn := wrap_next hi (by omega : p.length ≤ 9000000000000000000)
          have hc := hC p[i] (by omega) (by omega)
          have hBi := joinB_take p b i hi
          have hl2 := hBl i hi
          have h3 := lenS_take_le p (i + 1) hi
          obtain ⟨J, hJ⟩ : ∃ J, joinB (p.take i) b = J := ⟨_, rfl⟩
          obtain ⟨J2, hJ2⟩ : ∃ J, joinB (p.take (i + 1)) b = J := ⟨_, rfl⟩
          have hJ0 : i = 0 → J = [] := fun e => by subst e; rw [← hJ]; simp [joinB, Lib.join_nil]
          rw [hJ] at q6 hle hBi
          rw [hJ2] at hx hBi hl2
          by_cases hm : b ∈ p[i]
          · simp [hm] at hc
            simp [L14_0, R14_0, R14_1, R14_2, R14_3, R14_4, R14_5, R14_6, R14_7, R14_8, R14_9, R14_10, R14_11, R14_12, R14_13, R14_14, Tryd.f14, lpL14_0, lpM14_0, M14_0, undef, q0, q1, q7, q6, hi, strs_get, strs_at, strs_length, bs_size, hb0, hc, lit0]
          · simp [hm] at hc
            by_cases hi0 : i = 0
            · have hJ0 := hJ0 hi0
              rw [if_pos hi0] at hBi
              rw [hJ0] at q6
              have hi1 : ¬ (0 : Int) < (i : Int) := by omega
              have hi2 : ¬ 0 < i := by omega
              by_cases hg : J2.length ≤ 4000
              · have hg1 : ¬ (4000 : Int) < (J2.length : Int) := by omega
                have hg2 : ¬ 4000 < J2.length := by omega
                have hBz := congrArg List.length hBi
                try simp only [List.length_append, List.length_cons, List.length_nil] at hBz
                rw [hBi] at hg1 hg2
                have z1 : p[i].length ≤ 9223372036854775807 := by omega
                have z2 : True := trivial
                have z3 : True := trivial
                have hg3 : True := trivial
                have hg4 : True := trivial
                simp [L14_0, R14_0, R14_1, R14_2, R14_3, R14_4, R14_5, R14_6, R14_7, R14_8, R14_9, R14_10, R14_11, R14_12, R14_13, R14_14, Tryd.f14, lpL14_0, lpM14_0, M14_0, undef, q0, q1, q7, q6, hi, strs_get, strs_at, strs_length, bs_size, bs_append, hb0, hc, hi1, hi2, hg1, hg2, hg3, hg4, z1, z2, z3, hwn]
                exact hx _ ⟨by simp [q0], by simp [q1], by simp, by simp [hBi], no_snoc hi hno hm, .inr hg⟩
              · have hg1 : (4000 : Int) < (J2.length : Int) := by omega
                have hg2 : 4000 < J2.length := by omega
                have hBz := congrArg List.length hBi
                try simp only [List.length_append, List.length_cons, List.length_nil] at hBz
                rw [hBi] at hg1 hg2
                have z1 : p[i].length ≤ 9223372036854775807 := by omega
                have z2 : True := trivial
                have z3 : True := trivial
                have hg3 : True := trivial
                have hg4 : True := trivial
                simp [L14_0, R14_0, R14_1, R14_2, R14_3, R14_4, R14_5, R14_6, R14_7, R14_8, R14_9, R14_10, R14_11, R14_12, R14_13, R14_14, Tryd.f14, lpL14_0, lpM14_0, M14_0, undef, q0, q1, q7, q6, hi, strs_get, strs_at, strs_length, bs_size, bs_append, hb0, hc, hi1, hi2, hg1, hg2, hg3, hg4, z1, z2, z3, lit0]
            · rw [if_neg hi0] at hBi
              have hi1 : (0 : Int) < (i : Int) := by omega
              have hi2 : 0 < i := by omega
              by_cases hg : J2.length ≤ 4000
              · have hg1 : ¬ (4000 : Int) < (J2.length : Int) := by omega
                have hg2 : ¬ 4000 < J2.length := by omega
                have hBz := congrArg List.length hBi
                try simp only [List.length_append, List.length_cons, List.length_nil] at hBz
                rw [hBi] at hg1 hg2
                have z1 : p[i].length ≤ 9223372036854775807 := by omega
                have z2 : J.length + 1 ≤ 9223372036854775807 := by omega
                have z3 : J.length + 1 + p[i].length ≤ 9223372036854775807 := by omega
                have hg3 : ¬ (4000 : Int) < (J.length : Int) + ((p[i].length : Int) + 1) := by omega
                have hg4 : ¬ 4000 < J.length + (p[i].length + 1) := by omega
                simp [L14_0, R14_0, R14_1, R14_2, R14_3, R14_4, R14_5, R14_6, R14_7, R14_8, R14_9, R14_10, R14_11, R14_12, R14_13, R14_14, Tryd.f14, lpL14_0, lpM14_0, M14_0, undef, q0, q1, q7, q6, hi, strs_get, strs_at, strs_length, bs_size, bs_append, hb0, hc, hi1, hi2, hg1, hg2, hg3, hg4, z1, z2, z3, hwn]
                exact hx _ ⟨by simp [q0], by simp [q1], by simp, by simp [hBi], no_snoc hi hno hm, .inr hg⟩
              · have hg1 : (4000 : Int) < (J2.length : Int) := by omega
                have hg2 : 4000 < J2.length := by omega
                have hBz := congrArg List.length hBi
                try simp only [List.length_append, List.length_cons, List.length_nil] at hBz
                rw [hBi] at hg1 hg2
                have z1 : p[i].length ≤ 9223372036854775807 := by omega
                have z2 : J.length + 1 ≤ 9223372036854775807 := by omega
                have z3 : J.length + 1 + p[i].length ≤ 9223372036854775807 := by omega
                have hg3 : (4000 : Int) < (J.length : Int) + ((p[i].length : Int) + 1) := by omega
                have hg4 : 4000 < J.length + (p[i].length + 1) := by omega
                simp [L14_0, R14_0, R14_1, R14_2, R14_3, R14_4, R14_5, R14_6, R14_7, R14_8, R14_9, R14_10, R14_11, R14_12, R14_13, R14_14, Tryd.f14, lpL14_0, lpM14_0, M14_0, undef, q0, q1, q7, q6, hi, strs_get, strs_at, strs_length, bs_size, bs_append, hb0, hc, hi1, hi2, hg1, hg2, hg3, hg4, z1, z2, z3, lit0])
        (by
          rintro st next ⟨q0, q1, q7, q6, hno, hle⟩
          rw [List.take_length] at hno hle
          have hlen := joinB_len p b hp
          have : joinOk p b = true := hF.2 ⟨hp, hno, by rcases hle with h | h <;> omega⟩
          rw [hj] at this
          cases this)
      simp [R14_0, R14_1, R14_2, R14_3, R14_4, R14_5, R14_6, R14_7, R14_8, R14_9, R14_10, R14_11, R14_12, R14_13, R14_14, Tryd.f14, lpL14_0, lpM14_0, undef, strs_length, bs_size, hp, hpn, hpc, hpb, lit0]
      generalize hr : loopRun _ _ _ _ = res
      obtain ⟨s1, rfl, f4, f5⟩ := loop_at hL hr ⟨by simp, by simp, by simp, by simp [joinB, Lib.join_nil], by simp, .inl rfl⟩
      simp [R14_0, R14_1, R14_2, R14_3, R14_4, R14_5, R14_6, R14_7, R14_8, R14_9, R14_10, R14_11, R14_12, R14_13, R14_14, Tryd.f14, lpL14_0, lpM14_0, M14_0, f4, f5]
    · obtain ⟨_, hno, hle⟩ := hF.1 hj
      have hL := loopHas (body := fun st => runCode C (callK C (k + 8)) (k + 8) (K 14) L14_0 1 st) (keep := [0, 1, 6, 7]) (.ex 0) (fun st => st.ρ 6 = .c (.string (bs (joinB p b))))
        (fun i st => st.ρ 0 = .sq bb true 1 (strs p) ∧ st.ρ 1 = .c (.string (bs [b])) ∧ st.ρ 7 = .c (.int .i64 (i : Int)) ∧ st.ρ 6 = .c (.string (bs (joinB (p.take i) b))))
        p.length (k + 8) (by omega)
        (by
          rintro i st next hi ⟨q0, q1, q7, q6⟩ hx
          have h2 := lenS_get p i hi
          have hwn := wrap_next hi (by omega : p.length ≤ 9000000000000000000)
          have hc := hC p[i] (by omega) (by omega)
          have hBi := joinB_take p b i hi
          have hl2 := hBl i hi
          have h3 := lenS_take_le p (i + 1) hi
          obtain ⟨J, hJ⟩ : ∃ J, joinB (p.take i) b = J := ⟨_, rfl⟩
          obtain ⟨J2, hJ2⟩ : ∃ J, joinB (p.take (i + 1)) b = J := ⟨_, rfl⟩
          have hJ0 : i = 0 → J = [] := fun e => by subst e; rw [← hJ]; simp [joinB, Lib.join_nil]
          rw [hJ] at q6 hBi
          rw [hJ2] at hx hBi hl2
          have hm := hno _ (List.getElem_mem hi)
          simp [hm] at hc
          by_cases hi0 : i = 0
          · have hJ0 := hJ0 hi0
            rw [if_pos hi0] at hBi
            rw [hJ0] at q6
            have hi1 : ¬ (0 : Int) < (i : Int) := by omega
            have hi2 : ¬ 0 < i := by omega
            have hg1 : ¬ (4000 : Int) < (J2.length : Int) := by omega
            have hg2 : ¬ 4000 < J2.length := by omega
            have hBz := congrArg List.length hBi
            try simp only [List.length_append, List.length_cons, List.length_nil] at hBz
            rw [hBi] at hg1 hg2
            have z1 : p[i].length ≤ 9223372036854775807 := by omega
            have z2 : True := trivial
            have z3 : True := trivial
            have hg3 : True := trivial
            have hg4 : True := trivial
            simp [L14_0, R14_0, R14_1, R14_2, R14_3, R14_4, R14_5, R14_6, R14_7, R14_8, R14_9, R14_10, R14_11, R14_12, R14_13, R14_14, Tryd.f14, lpL14_0, lpM14_0, M14_0, undef, q0, q1, q7, q6, hi, strs_get, strs_at, strs_length, bs_size, bs_append, hb0, hc, hi1, hi2, hg1, hg2, hg3, hg4, z1, z2, z3, hwn]
            exact hx _ ⟨by simp [q0], by simp [q1], by simp, by simp [hBi]⟩
          · rw [if_neg hi0] at hBi
            have hi1 : (0 : Int) < (i : Int) := by omega
            have hi2 : 0 < i := by omega
            have hg1 : ¬ (4000 : Int) < (J2.length : Int) := by omega
            have hg2 : ¬ 4000 < J2.length := by omega
            have hBz := congrArg List.length hBi
            try simp only [List.length_append, List.length_cons, List.length_nil] at hBz
            rw [hBi] at hg1 hg2
            have z1 : p[i].length ≤ 9223372036854775807 := by omega
            have z2 : J.length + 1 ≤ 9223372036854775807 := by omega
            have z3 : J.length + 1 + p[i].length ≤ 9223372036854775807 := by omega
            have hg3 : ¬ (4000 : Int) < (J.length : Int) + ((p[i].length : Int) + 1) := by omega
            have hg4 : ¬ 4000 < J.length + (p[i].length + 1) := by omega
            simp [L14_0, R14_0, R14_1, R14_2, R14_3, R14_4, R14_5, R14_6, R14_7, R14_8, R14_9, R14_10, R14_11, R14_12, R14_13, R14_14, Tryd.f14, lpL14_0, lpM14_0, M14_0, undef, q0, q1, q7, q6, hi, strs_get, strs_at, strs_length, bs_size, bs_append, hb0, hc, hi1, hi2, hg1, hg2, hg3, hg4, z1, z2, z3, hwn]
            exact hx _ ⟨by simp [q0], by simp [q1], by simp, by simp [hBi]⟩)
        (by
          rintro st next ⟨q0, q1, q7, q6⟩
          rw [List.take_length] at q6
          simp [L14_0, R14_0, R14_1, R14_2, R14_3, R14_4, R14_5, R14_6, R14_7, R14_8, R14_9, R14_10, R14_11, R14_12, R14_13, R14_14, Tryd.f14, lpL14_0, lpM14_0, M14_0, q0, q1, q7, q6, strs_length])
      simp [R14_0, R14_1, R14_2, R14_3, R14_4, R14_5, R14_6, R14_7, R14_8, R14_9, R14_10, R14_11, R14_12, R14_13, R14_14, Tryd.f14, lpL14_0, lpM14_0, undef, strs_length, bs_size, hp, hpn, hpc, hpb, lit0]
      generalize hr : loopRun _ _ _ _ = res
      obtain ⟨s1, rfl, f6⟩ := loop_at hL hr ⟨by simp, by simp, by simp, by simp [joinB, Lib.join_nil]⟩
      simp [R14_0, R14_1, R14_2, R14_3, R14_4, R14_5, R14_6, R14_7, R14_8, R14_9, R14_10, R14_11, R14_12, R14_13, R14_14, Tryd.f14, lpL14_0, lpM14_0, M14_0, f6]
theorem c_implJoinN (k : Nat) (bb : Bool) (p : List (List UInt8)) (t : List UInt8) (h : t.length ≠ 1) (hk : 20 ≤ k) : callK C k 13 [.sq bb true 1 (strs p), .c (.string (bs t))] [] = some (.tp [.c (.string (bs [])), .c (.bool false)], hpOf [] []) := by
  obtain ⟨k, rfl⟩ : ∃ m, k = m + 9 := ⟨k - 9, by omega⟩
  rw [callK_fn rfl F13 code13]
  have h1 : ¬ (t.length : Int) = 1 := by omega
  have h1b : ((t.length : Int) == 1) = false := by simpa using h1
  have h1n : ((t.length : Int) != 1) = true := by simpa using h1
  cases p with
  | nil => simp [R13_0, R13_1, R13_2, R13_3, R13_4, R13_5, R13_6, R13_7, R13_8, R13_9, R13_10, R13_11, Tryd.f13, lpL13_0, lpM13_0, M13_0, undef, strs_nil, lit0]
  | cons x r =>
    have h2 : ¬ (((x :: r).length : Nat) : Int) = 0 := by simp only [List.length_cons]; omega
    have h2b : ((((x :: r).length : Nat) : Int) == 0) = false := by simpa using h2
    have h3 : ¬ (r.length : Int) + 1 = 0 := by omega
    have h3b : ((r.length : Int) + 1 == 0) = false := by simpa using h3
    simp [R13_0, R13_1, R13_2, R13_3, R13_4, R13_5, R13_6, R13_7, R13_8, R13_9, R13_10, R13_11, Tryd.f13, lpL13_0, lpM13_0, M13_0, undef, strs_length, bs_size, lit0, h, h1, h1b, h1n, h3, h3b]
theorem c_specJoinN (k : Nat) (bb : Bool) (p : List (List UInt8)) (t : List UInt8) (h : t.length ≠ 1) (hk : 20 ≤ k) : callK C k 14 [.sq bb true 1 (strs p), .c (.string (bs t))] [] = some (.tp [.c (.string (bs [])), .c (.bool false)], hpOf [] []) := by
  obtain ⟨k, rfl⟩ : ∃ m, k = m + 9 := ⟨k - 9, by omega⟩
  rw [callK_fn rfl F14 code14]
  have h1 : ¬ (t.length : Int) = 1 := by omega
  have h1b : ((t.length : Int) == 1) = false := by simpa using h1
  have h1n : ((t.length : Int) != 1) = true := by simpa using h1
  simp [R14_0, R14_1, R14_2, R14_3, R14_4, R14_5, R14_6, R14_7, R14_8, R14_9, R14_10, R14_11, R14_12, R14_13, R14_14, Tryd.f14, lpL14_0, lpM14_0, M14_0, undef, strs_length, bs_size, lit0, h, h1, h1b, h1n]

end Go.Proofs.YtmleikmjjoneeaaDoor.Eng
