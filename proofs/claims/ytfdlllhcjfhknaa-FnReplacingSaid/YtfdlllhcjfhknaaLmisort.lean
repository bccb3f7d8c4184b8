/- A deterministic reading of Go code over plain data: what functions of the program compute. No conditions. -/
import Derived.Test.YtfdlllhcjfhknaaLmbase
import Derived.Test.YtfdlllhcjfhknaaLmimpl
import Derived.Test.YtfdlllhcjfhknaaEngT
namespace Go.Proofs.Ytfdlllhcjfhknaa.Eng
open Go Go.Proofs
set_option maxRecDepth 100000
set_option maxHeartbeats 2000000
set_option linter.unusedSimpArgs false
set_option linter.unusedVariables false
attribute [local simp] finK fin1 hpOf xi renQ isRoot runCode runOps Eng.step wantedV astep val ofO made loadV storeV find V.cells bin binT binA numT numFs eqCells un1 setAt fieldAddrV fieldV indexAddrV indexV bounds sliceV convV lenV foldV max2V min2V callO bor rdsO wrsO seen_none okD_none loops keepIds resV resultsV St.ev TK.agg refs refsL refsO V.one V.isC Value.oneCell' ren renL renO noTag noTagL noTagR noTagO nodup mapO passV frs psi refsR newD loopNext opsAt idx flatAt rootOf backR newsV appendV copyV clearV strV bytesOf nilCmp buildV fillF chunk
attribute [local simp] cT cF cX cWR cOW cK X ints_length ints_get ints_getElem ints_drop ints_take ints_append ints_nil ints_set
attribute [local simp] ints_replicate
attribute [local simp] putV_some putV_none putH_app applyD_nil applyD_cons seen_app gc_ρ gc_H gc_tick st0_ρ st0_H st0_tick retV callRo callV_if borL_nil borL_cons ints_snoc take_self callWr cutH_app findQ afterV exportV_0 exportV_n okD_nil okD_cons sub_seq0 sub_seq1 sub_cond0 sub_cond1 sub_block sub_loop sub_nil young_far young_none hidW_nil mayW_nil pairs okI ok_0 ok_1 ok_2
attribute [local simp] T3 T4 T5 T9 T22 T24 T29 T36 T73 T75 T86 T89 T103 T104 T106 T108 T109 T114 T134 T136 T157 T161 T168
attribute [local simp] young_near clo cloF Region.binds Nat.testBit hidW declW mayW List.findIdx?_cons
def swp (L : List Int) (j : Nat) : List Int := (L.set (j + 1) (L.getD j 0)).set j (L.getD (j + 1) 0)
theorem swp_len (L : List Int) (j : Nat) : (swp L j).length = L.length := by simp [swp]
/-- An element sinks from its place. -/
def sink : List Int → Nat → List Int
  | L, 0 => L
  | L, j + 1 => if L.getD (j + 1) 0 < L.getD j 0 then sink (swp L j) j else L
theorem sink_len : ∀ (j : Nat) (L : List Int), (sink L j).length = L.length
  | 0, _ => rfl
  | j + 1, L => by
    unfold sink
    split
    · rw [sink_len j, swp_len]
    · rfl
def sortN (l : List Int) : Nat → List Int
  | 0 => l
  | m + 1 => sink (sortN l m) (m + 1)
theorem sortN_len (l : List Int) : ∀ m, (sortN l m).length = l.length
  | 0 => rfl
  | m + 1 => by unfold sortN; rw [sink_len, sortN_len l m]
theorem getD_at {L : List Int} {j : Nat} (h : j < L.length) : L.getD j 0 = L[j] := by simp [List.getD, List.getElem?_eq_getElem h]
theorem c_less (k : Nat) (x y : Int) (hk : 2 ≤ k) : callK C k 202 [.c (.int .i64 x), .c (.int .i64 y)] [] = some (.c (.bool (decide (x < y))), hpOf [] []) := by
  obtain ⟨k, rfl⟩ : ∃ m, k = m + 2 := ⟨k - 2, by omega⟩
  rw [callK_fn rfl F202 code202]
  have nn : ∀ x : Int, callK C (k + 1) 215 [.c (.int .i64 x)] [] = some (.c (.bool false), hpOf [] []) := by
    intro x
    rw [callK_fn rfl F215 code215]
    simp [R215_0, R215_1, Try.f215]
  simp [R202_0, R202_1, Try.f202, undef, nn]
theorem c_isort (k : Nat) (l : List Int) (hl : l.length ≤ 100) (hk : 200 ≤ k) : callK C k 196 [.s 0 0 1 0 l.length, .c (.int .i64 0), .c (.int .i64 l.length)] [intsO l] = some (.tp [], hpOf [some (intsO (sortN l (l.length - 1)))] []) := by
  obtain ⟨k, rfl⟩ : ∃ m, k = m + 9 := ⟨k - 9, by omega⟩
  rw [callK_fn rfl F196 code196]
  have hin := fun (L0 : List Int) (j0 : Nat) (hj : j0 < l.length) (hL0 : L0.length = l.length) => loopHas (body := fun st => runCode C (callK C (k + 8)) (k + 8) (K 196) L196_1 2 st) (keep := [0, 1, 2, 6, 7]) (.ex 2) (fun st => st.ρ 0 = .s 0 0 1 0 l.length ∧ st.ρ 1 = .c (.int .i64 0) ∧ st.ρ 2 = .c (.int .i64 l.length) ∧ st.ρ 6 = .c (.int .i64 (j0 : Int)) ∧ st.H 0 = some (0, intsO (sink L0 j0)))
    (fun i st => st.ρ 0 = .s 0 0 1 0 l.length ∧ st.ρ 1 = .c (.int .i64 0) ∧ st.ρ 2 = .c (.int .i64 l.length) ∧ st.ρ 6 = .c (.int .i64 (j0 : Int)) ∧ st.ρ 7 = .c (.int .i64 ((j0 - i : Nat) : Int)) ∧ ∃ L : List Int, L.length = l.length ∧ sink L (j0 - i) = sink L0 j0 ∧ st.H 0 = some (0, intsO L)) j0 (k + 8) (by omega)
    (by
      rintro i st next hi ⟨q0, q1, q2, q6, q7, L, hL, hs, H0⟩ hx
      obtain ⟨j, hj⟩ : ∃ j, j0 - i = j + 1 := ⟨j0 - i - 1, by omega⟩
      have hj2 : j0 - (i + 1) = j := by omega
      rw [hj] at q7 hs
      rw [hj2] at hx
      have w1 : IntKind.i64.wrap ((j : Int) + 1 - 1) = (j : Int) := by rw [wrap_small (by omega) (by omega)]; omega
      have w0 : IntKind.i64.wrap (j : Int) = (j : Int) := wrap_small (by omega) (by omega)
      have g1 : (0 : Int) < (j : Int) + 1 := by omega
      have g2 : j + 1 < L.length := by omega
      have g3 : j < L.length := by omega
      have g4 : j + 1 < l.length := by omega
      have g5 : j < l.length := by omega
      have g6 : (j : Int) + 1 < (l.length : Int) := by omega
      have g7 : (j : Int) < (l.length : Int) := by omega
      have g8 : (0 : Int) ≤ (j : Int) + 1 := by omega
      have g9 : ((j : Int) + 1).toNat = j + 1 := by omega
      have lt := c_less (k + 8) L[j + 1] L[j] (by omega)
      simp [intsO] at H0
      rw [show sink L (j + 1) = if L.getD (j + 1) 0 < L.getD j 0 then sink (swp L j) j else L from rfl, getD_at g2, getD_at g3] at hs
      by_cases hlt : L[j + 1] < L[j]
      · rw [if_pos hlt] at hs
        simp [hlt] at lt
        simp [L196_1, R196_0, R196_1, R196_2, R196_3, R196_4, R196_5, R196_6, Try.f196, lpL196_0, lpL196_1, lpM196_0, M196_0, undef, q0, q1, q2, q6, q7, H0, hL, w0, w1, g1, g2, g3, g4, g5, g6, g7, g8, g9, lt]
        refine hx _ ⟨?_, ?_, ?_, ?_, ?_, swp L j, by rw [swp_len, hL], hs, ?_⟩ <;> simp [q0, q1, q2, q6, w0, w1]
        simp [intsO, swp, g2, g3]
      · rw [if_neg hlt] at hs
        simp [hlt] at lt
        simp [L196_1, R196_0, R196_1, R196_2, R196_3, R196_4, R196_5, R196_6, Try.f196, lpL196_0, lpL196_1, lpM196_0, M196_0, undef, q0, q1, q2, q6, q7, H0, hL, w0, w1, g1, g2, g3, g4, g5, g6, g7, g8, g9, lt]
        simp [q0, q1, q2, q6, H0, hs, intsO])
    (by
      rintro st next ⟨q0, q1, q2, q6, q7, L, hL, hs, H0⟩
      rw [Nat.sub_self] at q7 hs
      simp [intsO] at H0
      simp [sink] at hs
      simp [L196_1, R196_0, R196_1, R196_2, R196_3, R196_4, R196_5, R196_6, Try.f196, lpL196_0, lpL196_1, lpM196_0, M196_0, undef, q0, q1, q2, q6, q7, H0]
      simp [q0, q1, q2, q6, H0, hs, intsO])
  have hout := loopHas (body := fun st => runCode C (callK C (k + 8)) (k + 8) (K 196) L196_0 1 st) (keep := [0, 1, 2, 6]) (.ex 0) (fun st => st.H 0 = some (0, intsO (sortN l (l.length - 1))))
    (fun m st => st.ρ 0 = .s 0 0 1 0 l.length ∧ st.ρ 1 = .c (.int .i64 0) ∧ st.ρ 2 = .c (.int .i64 l.length) ∧ st.ρ 6 = .c (.int .i64 ((m : Int) + 1)) ∧ st.H 0 = some (0, intsO (sortN l m))) (l.length - 1) (k + 8) (by omega)
    (by
      rintro m st next hm ⟨q0, q1, q2, q6, H0⟩ hx
      have g6 : (m : Int) + 1 < (l.length : Int) := by omega
      have w1 : IntKind.i64.wrap ((m : Int) + 1 + 1) = ((m + 1 : Nat) : Int) + 1 := by rw [wrap_small (by omega) (by omega)]; omega
      simp at w1
      have hI := hin (sortN l m) (m + 1) (by omega) (sortN_len l m)
      simp [intsO] at H0
      simp [L196_0, R196_0, R196_1, R196_2, R196_3, R196_4, R196_5, R196_6, Try.f196, lpL196_0, lpL196_1, lpM196_0, undef, q0, q1, q2, q6, H0, g6]
      generalize hr : loopRun _ _ _ _ = res
      obtain ⟨s1, rfl, f0, f1, f2, f6, F0⟩ := loop_at hI hr ⟨by simp [q0], by simp [q1], by simp [q2], by simp [q6], by simp [q6], sortN l m, sortN_len l m, by simp, by simp [H0, intsO]⟩
      simp [R196_0, R196_1, R196_2, R196_3, R196_4, R196_5, R196_6, Try.f196, lpL196_0, lpL196_1, lpM196_0, M196_0, undef, f0, f1, f2, f6, F0, w1]
      refine hx _ ⟨?_, ?_, ?_, ?_, ?_⟩ <;> simp [f0, f1, f2, f6, F0, w1, sortN])
    (by
      rintro st next ⟨q0, q1, q2, q6, H0⟩
      have g6 : ¬ ((l.length - 1 : Nat) : Int) + 1 < (l.length : Int) := by omega
      simp [L196_0, R196_0, R196_1, R196_2, R196_3, R196_4, R196_5, R196_6, Try.f196, lpL196_0, lpL196_1, lpM196_0, undef, q0, q1, q2, q6, H0, g6])
  simp [R196_0, R196_1, R196_2, R196_3, R196_4, R196_5, R196_6, Try.f196, lpL196_0, lpL196_1, lpM196_0]
  generalize hr2 : loopRun _ _ _ _ = res
  obtain ⟨s1, rfl, F0⟩ := loop_at hout hr2 ⟨by simp, by simp, by simp, by simp [show IntKind.i64.wrap 1 = 1 from rfl], by simp [sortN]⟩
  simp [R196_0, R196_1, R196_2, R196_3, R196_4, R196_5, R196_6, Try.f196, lpL196_0, lpL196_1, lpM196_0, M196_0, F0, intsO]

end Go.Proofs.Ytfdlllhcjfhknaa.Eng
