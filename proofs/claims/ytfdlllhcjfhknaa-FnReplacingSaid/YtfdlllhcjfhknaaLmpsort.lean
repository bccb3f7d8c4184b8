/- A deterministic reading of Go code over plain data: what functions of the program compute. No conditions. -/
import Derived.Test.YtfdlllhcjfhknaaLmbase
import Derived.Test.YtfdlllhcjfhknaaLmimpl
import Derived.Test.YtfdlllhcjfhknaaLmisort
import Derived.Test.YtfdlllhcjfhknaaEngT
namespace Go.Proofs.Ytfdlllhcjfhknaa.Eng
open Go Go.Proofs
set_option maxRecDepth 100000
set_option maxHeartbeats 2000000
set_option linter.unusedSimpArgs false
set_option linter.unusedVariables false
attribute [local simp] finK fin1 hpOf xi renQ isRoot runCode runOps Eng.step wantedV astep val ofO made loadV storeV find V.cells bin binT binA numT numFs eqCells un1 setAt fieldAddrV fieldV indexAddrV indexV bounds sliceV convV lenV foldV max2V min2V callO bor rdsO wrsO seen_none okD_none loops keepIds resV resultsV St.ev TK.agg refs refsL refsO V.one V.isC Value.oneCell' ren renL renO noTag noTagL noTagR noTagO nodup mapO passV frs psi refsR newD loopNext opsAt idx flatAt rootOf backR newsV appendV copyV clearV strV bytesOf nilCmp buildV fillF chunk
attribute [local simp] cT cF cX cWR cOW cK X ints_length ints_get ints_getElem ints_drop ints_take ints_append ints_nil ints_set
attribute [local simp] ints_replicate
attribute [local simp] putV_some putV_none putH_app applyD_nil applyD_cons seen_app gc_ρ gc_H gc_tick st0_ρ st0_H st0_tick retV callRo callV_if borL_nil borL_cons ints_snoc take_self callWr cutH_app findQ afterV exportV_0 exportV_n okD_nil okD_cons sub_seq0 sub_seq1 sub_cond0 sub_cond1 sub_block sub_loop sub_nil young_far young_none hidW_nil mayW_nil pairs okI ok_0 ok_1 ok_2
attribute [local simp] T3 T4 T5 T9 T22 T24 T29 T36 T73 T75 T86 T89 T103 T104 T106 T108 T109 T114 T134 T136 T157 T161 T168
attribute [local simp] young_near clo cloF Region.binds Nat.testBit hidW declW mayW List.findIdx?_cons
theorem c_pdq (k : Nat) (l : List Int) (lim : Int) (hl : l.length ≤ 12) (hk : 300 ≤ k) : callK C k 189 [.s 0 0 1 0 l.length, .c (.int .i64 0), .c (.int .i64 l.length), .c (.int .i64 lim)] [intsO l] = some (.tp [], hpOf [some (intsO (sortN l (l.length - 1)))] []) := by
  obtain ⟨k, rfl⟩ : ∃ m, k = m + 9 := ⟨k - 9, by omega⟩
  rw [callK_fn rfl F189 code189]
  have hs := c_isort (k + 8) l (by omega) (by omega)
  have w1 : IntKind.i64.wrap (l.length : Int) = (l.length : Int) := wrap_small (by omega) (by omega)
  have g1 : (l.length : Int) ≤ 12 := by omega
  have hL := loopHas (body := fun st => runCode C (callK C (k + 8)) (k + 8) (K 189) L189_0 1 st) (keep := [0, 1, 2, 3, 8, 9]) .ret (fun st => st.ρ 0 = .s 0 0 1 0 l.length ∧ st.H 0 = some (0, intsO (sortN l (l.length - 1))))
    (fun i st => st.ρ 0 = .s 0 0 1 0 l.length ∧ st.ρ 1 = .c (.int .i64 0) ∧ st.ρ 2 = .c (.int .i64 l.length) ∧ st.H 0 = some (0, intsO l)) 0 (k + 8) (by omega)
    (by rintro i st next hi; omega)
    (by
      rintro st next ⟨q0, q1, q2, H0⟩
      simp [intsO] at H0 hs
      simp [L189_0, R189_0, R189_1, R189_2, R189_3, R189_4, R189_5, R189_6, R189_7, R189_8, R189_9, R189_10, R189_11, R189_12, R189_13, R189_14, R189_15, R189_16, R189_17, R189_18, R189_19, R189_20, R189_21, R189_22, R189_23, R189_24, R189_25, R189_26, R189_27, R189_28, R189_29, R189_30, Try.f189, lpL189_0, undef, q0, q1, q2, H0, w1, g1, hs, intsO])
  simp [R189_0, R189_1, R189_2, R189_3, R189_4, R189_5, R189_6, R189_7, R189_8, R189_9, R189_10, R189_11, R189_12, R189_13, R189_14, R189_15, R189_16, R189_17, R189_18, R189_19, R189_20, R189_21, R189_22, R189_23, R189_24, R189_25, R189_26, R189_27, R189_28, R189_29, R189_30, Try.f189, lpL189_0]
  generalize hr2 : loopRun _ _ _ _ = res
  obtain ⟨s1, rfl, f0, F0⟩ := loop_at hL hr2 ⟨by simp, by simp, by simp, by simp⟩
  simp [F0, intsO]
theorem c_Len (k n : Nat) (hn : n ≤ 12) (hk : 40 ≤ k) : ∃ r : Int, callK C k 190 [.c (.int .u64 (n : Int))] [] = some (.c (.int .i64 r), hpOf [] []) := by
  obtain ⟨k, rfl⟩ : ∃ m, k = m + 9 := ⟨k - 9, by omega⟩
  rw [callK_fn rfl F190 code190]
  have h64 : ∃ r : Int, callK C (k + 8) 206 [.c (.int .u64 (n : Int))] [] = some (.c (.int .i64 r), hpOf [] []) := by
    rw [callK_fn rfl F206 code206]
    have a1 : ¬ (4294967296 : Int) ≤ (n : Int) := by omega
    have a2 : ¬ (65536 : Int) ≤ (n : Int) := by omega
    have a3 : ¬ (256 : Int) ≤ (n : Int) := by omega
    have wu : IntKind.u8.wrap (n : Int) = (n : Int) := by show (n : Int) % 256 = n; omega
    have g1 : (n : Int) < 256 := by omega
    simp [R206_0, R206_1, R206_2, R206_3, R206_4, R206_5, R206_6, R206_7, R206_8, R206_9, R206_10, Try.f206, a1, a2, a3, wu]
    generalize hD : ByteArray.mk _ = D
    have hs : D.size = 256 := by rw [← hD]; rfl
    have g2 : n < 256 := by omega
    simp [R206_0, R206_1, R206_2, R206_3, R206_4, R206_5, R206_6, R206_7, R206_8, R206_9, R206_10, Try.f206, hs, g1, g2]
  obtain ⟨r, h⟩ := h64
  exact ⟨r, by simp [R190_0, R190_1, R190_2, Try.f190, h]⟩
theorem c_Sort (k : Nat) (l : List Int) (hl : l.length ≤ 12) (hk : 400 ≤ k) : callK C k 161 [.s 0 0 1 0 l.length] [intsO l] = some (.tp [], hpOf [some (intsO (sortN l (l.length - 1)))] []) := by
  obtain ⟨k, rfl⟩ : ∃ m, k = m + 9 := ⟨k - 9, by omega⟩
  rw [callK_fn rfl F161 code161]
  obtain ⟨r, hr⟩ := c_Len (k + 8) l.length hl (by omega)
  have hp := c_pdq (k + 8) l r hl (by omega)
  have wu : IntKind.u64.wrap (l.length : Int) = (l.length : Int) := by show (l.length : Int) % 18446744073709551616 = l.length; omega
  simp [intsO] at hp
  simp [R161_0, R161_1, Try.f161, hr, hp, wu, intsO]

end Go.Proofs.Ytfdlllhcjfhknaa.Eng
