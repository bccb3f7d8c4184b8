/- A deterministic reading of Go code over plain data: what functions of the program compute. No conditions. -/
import Derived.Test.YtfdlllhcjfhknaaLmbase
import Derived.Test.YtfdlllhcjfhknaaLmimpl
import Derived.Test.YtfdlllhcjfhknaaEngT
namespace Go.Proofs.Ytfdlllhcjfhknaa.Eng
open Go Go.Proofs
set_option maxRecDepth 100000
set_option maxHeartbeats 2000000
set_option linter.unusedSimpArgs false
set_option linter.unusedVariables false
attribute [local simp] finK fin1 hpOf xi renQ isRoot runCode runOps Eng.step wantedV astep val ofO made loadV storeV find V.cells bin binT binA numT numFs eqCells un1 setAt fieldAddrV fieldV indexAddrV indexV bounds sliceV convV lenV foldV max2V min2V callO bor rdsO wrsO seen_none okD_none loops keepIds resV resultsV St.ev TK.agg refs refsL refsO V.one V.isC Value.oneCell' ren renL renO noTag noTagL noTagR noTagO nodup mapO passV frs psi refsR newD loopNext opsAt idx flatAt rootOf backR newsV appendV copyV clearV strV bytesOf nilCmp buildV fillF chunk
attribute [local simp] cT cF cX cWR cOW cK X ints_length ints_get ints_getElem ints_drop ints_take ints_append ints_nil ints_set
attribute [local simp] ints_replicate
attribute [local simp] putV_some putV_none putH_app applyD_nil applyD_cons seen_app gc_ρ gc_H gc_tick st0_ρ st0_H st0_tick retV callRo callV_if borL_nil borL_cons ints_snoc take_self callWr cutH_app findQ afterV exportV_0 exportV_n okD_nil okD_cons sub_seq0 sub_seq1 sub_cond0 sub_cond1 sub_block sub_loop sub_nil young_far young_none hidW_nil mayW_nil pairs okI ok_0 ok_1 ok_2
attribute [local simp] T3 T4 T5 T9 T22 T24 T29 T36 T73 T75 T86 T89 T103 T104 T106 T108 T109 T114 T134 T136 T157 T161 T168
theorem mul64_facts : ∀ n : Fin 65, IntKind.u64.wrap ((BitVec.ofNat IntKind.u64.bits n.val &&& BitVec.ofNat IntKind.u64.bits 4294967295).toNat : Int) = (n.val : Int) ∧ (n.val : Int).fdiv 4294967296 = 0 ∧ IntKind.u64.wrap (n.val : Int) = (n.val : Int) ∧ IntKind.i64.wrap (n.val : Int) = (n.val : Int) := by decide
theorem c_Mul64 (k n : Nat) (hn : n ≤ 64) (hk : 1 ≤ k) : callK C k 217 [.c (.int .u64 1), .c (.int .u64 (n : Int))] [] = some (.tp [.c (.int .u64 0), .c (.int .u64 (n : Int))], hpOf [] []) := by
  obtain ⟨k, rfl⟩ : ∃ m, k = m + 1 := ⟨k - 1, by omega⟩
  rw [callK_fn rfl F217 code217]
  obtain ⟨e1, e2, e3, _⟩ := mul64_facts ⟨n, by omega⟩
  simp only [] at e1 e2 e3
  have f1 : IntKind.u64.wrap 1 = 1 := by decide
  have f2 : (1 : Int).fdiv 4294967296 = 0 := by decide
  have f3 : IntKind.u64.wrap 0 = 0 := by decide
  have f5 : (0 : Int).fdiv 4294967296 = 0 := by decide
  have hb : min 32 IntKind.u64.bits = 32 := by decide
  have f4 : IntKind.u64.wrap ((BitVec.ofNat IntKind.u64.bits 1 &&& BitVec.ofNat IntKind.u64.bits 4294967295).toNat : Int) = 1 := by decide
  have f6 : IntKind.u64.wrap ((BitVec.ofNat IntKind.u64.bits 0 &&& BitVec.ofNat IntKind.u64.bits 4294967295).toNat : Int) = 0 := by decide
  have o1 : BitVec.ofInt IntKind.u64.bits 1 = BitVec.ofNat IntKind.u64.bits 1 := by decide
  have o2 : BitVec.ofInt IntKind.u64.bits 4294967295 = BitVec.ofNat IntKind.u64.bits 4294967295 := by decide
  have o3 : BitVec.ofInt IntKind.u64.bits 0 = BitVec.ofNat IntKind.u64.bits 0 := by decide
  have o4 : BitVec.ofInt IntKind.u64.bits (n : Int) = BitVec.ofNat IntKind.u64.bits n := BitVec.ofInt_natCast _ _
  simp [R217_0, R217_1, R217_2, R217_3, R217_4, R217_5, R217_6, R217_7, R217_8, R217_9, R217_10, R217_11, Try.f217, hb, o1, o2, o3, o4, e1, e2, e3, f1, f2, f3, f4, f5, f6, -BitVec.toNat_and]
theorem c_Mul (k n : Nat) (hn : n ≤ 64) (hk : 2 ≤ k) : callK C k 208 [.c (.int .u64 1), .c (.int .u64 (n : Int))] [] = some (.tp [.c (.int .u64 0), .c (.int .u64 (n : Int))], hpOf [] []) := by
  obtain ⟨k, rfl⟩ : ∃ m, k = m + 2 := ⟨k - 2, by omega⟩
  rw [callK_fn rfl F208 code208]
  have h := c_Mul64 (k + 1) n hn (by omega)
  simp [R208_0, R208_1, R208_2, R208_3, R208_4, Try.f208, h]
def repL (n : Nat) (a : Int) (m : Nat) : List Int := List.replicate m a ++ List.replicate (n - m) 0
theorem repL_length {n m : Nat} (a : Int) (h : m ≤ n) : (repL n a m).length = n := by simp [repL]; omega
theorem repL_take (n : Nat) (a : Int) (m : Nat) : (repL n a m).take m = List.replicate m a := by simp [repL]
theorem repL_next {n m : Nat} (a : Int) (h : m ≤ n) : List.replicate m a ++ (List.replicate (min (n - m) m) a ++ (repL n a m).drop (m + min m (n - m))) = repL n a (m + min m (n - m)) := by
  unfold repL
  rw [List.drop_append, List.drop_eq_nil_of_le (by simp), List.nil_append, List.drop_replicate, List.length_replicate, ← List.append_assoc, List.replicate_append_replicate]
  congr 1
  · congr 1; omega
  · congr 1; omega
theorem repL_all (n : Nat) (a : Int) : repL n a n = List.replicate n a := by simp [repL]
theorem c_Repeat (k : Nat) (b : Bool) (a : Int) (n : Nat) (h1 : 1 ≤ n) (hn : n ≤ 64) (hk : 100 ≤ k) : callK C k 194 [.sq b true 1 (ints [a]), .c (.int .i64 (n : Int))] [] = some (.s 0 2 1 0 n, hpOf [] [intsO (List.replicate n a)]) := by
  obtain ⟨k, rfl⟩ : ∃ m, k = m + 3 := ⟨k - 3, by omega⟩
  rw [callK_fn rfl F194 code194]
  obtain ⟨e1, e2, e3, e4⟩ := mul64_facts ⟨n, by omega⟩
  simp only [] at e1 e2 e3 e4
  have hm := c_Mul (k + 2) n hn (by omega)
  have f1 : IntKind.u64.wrap 1 = 1 := by decide
  obtain ⟨out, ho⟩ := loopOut (body := fun st => runCode C (callK C (k + 2)) (k + 2) (K 194) L194_0 1 st) (keep := [7, 8]) (.ex 0) (fun st => st.ρ 7 = .s 6192 5 1 0 n ∧ st.H 6192 = some (5, intsO (List.replicate n a)))
    (fun i st => st.ρ 7 = .s 6192 5 1 0 n ∧ ∃ m : Nat, i < m ∧ m ≤ n ∧ st.ρ 8 = .c (.int .i64 (m : Int)) ∧ st.H 6192 = some (5, intsO (repL n a m)))
    n (k + 2) (by omega)
    (by
      rintro i st next hi ⟨h7, m, him, hmn, h8, hH⟩ hx
      by_cases he : m = n
      · subst he
        simp [L194_0, R194_0, R194_1, R194_2, R194_3, R194_4, R194_5, R194_6, R194_7, R194_8, R194_9, R194_10, Try.f194, lpL194_0, lpM194_0, M194_0, h7, h8, hH, intsO, repL_all]
      · have hlt : m < n := by omega
        have hl := repL_length a hmn
        have ht := repL_take n a m
        have hne := repL_next a hmn
        have hnm : ¬ n - m = 0 := by omega
        have hm0 : ¬ m = 0 := by omega
        have hmm : m + (n - m) = n := by omega
        have hmm' : m + (n - m) ≤ n := by omega
        have hw : IntKind.i64.wrap ((m : Int) + ((min m (n - m) : Nat) : Int)) = ((m + min m (n - m) : Nat) : Int) := by rw [wrap_small (by omega) (by omega)]; omega
        simp [L194_0, R194_0, R194_1, R194_2, R194_3, R194_4, R194_5, R194_6, R194_7, R194_8, R194_9, R194_10, Try.f194, lpL194_0, lpM194_0, M194_0, h7, h8, hH, intsO, hlt, hl, ht, hne, hnm, hm0, hmm, hmm', hmn, hw]
        refine hx _ ⟨by simp [h7], m + min m (n - m), by omega, by omega, ?_, ?_⟩ <;> simp [intsO])
    (by
      rintro st next ⟨h7, m, him, hmn, h8, hH⟩
      omega)
  simp at ho
  have g1 : min 1 n = 1 := by omega
  have g2 : ¬ n = 0 := by omega
  have g3 : [a].take n = [a] := List.take_of_length_le (by simpa using h1)
  have b1 : (n : Int) ≤ 17592186044416 := by omega
  have b2 : 8 * (n : Int) ≤ 140737488355328 := by omega
  have b3 : ¬ (9223372036854775807 : Int) < n := by omega
  have b4 : ¬ ((n : Int) < 0) := by omega
  have g5 : ints [a] ++ (ints (List.replicate n 0)).tail = ints (a :: List.replicate (n - 1) 0) := by
    obtain ⟨m, rfl⟩ : ∃ m, n = m + 1 := ⟨n - 1, by omega⟩
    rfl
  have g4 : repL n a 1 = a :: List.replicate (n - 1) 0 := by simp [repL]
  have ho' := fun st q => ho st q 1 (by omega) h1
  rw [g4] at ho'
  simp [intsO] at ho'
  simp [R194_0, R194_1, R194_2, R194_3, R194_4, R194_5, R194_6, R194_7, R194_8, R194_9, R194_10, Try.f194, lpL194_0, lpM194_0, M194_0, hm, f1, e3, e4, b1, b2, b3, b4, g1, g2, g3, g5, ho', intsO]

end Go.Proofs.Ytfdlllhcjfhknaa.Eng
