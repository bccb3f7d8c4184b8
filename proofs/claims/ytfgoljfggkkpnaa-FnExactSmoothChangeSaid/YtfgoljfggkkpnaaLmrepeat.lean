/- A deterministic reading of Go code over plain data: what functions of the program compute. No conditions. -/
import Derived.Test.YtfgoljfggkkpnaaLmbase
import Derived.Test.YtfgoljfggkkpnaaLmimpl
import Derived.Test.YtfgoljfggkkpnaaEngT
namespace Go.Proofs.Ytfgoljfggkkpnaa.Eng
open Go Go.Proofs
set_option maxRecDepth 100000
set_option maxHeartbeats 2000000
set_option linter.unusedSimpArgs false
set_option linter.unusedVariables false
attribute [local simp] finK fin1 hpOf xi renQ isRoot runCode runOps Eng.step wantedV astep val ofO made loadV storeV find V.cells bin binT un1 setAt fieldAddrV fieldV indexAddrV indexV bounds sliceV convV lenV foldV max2V min2V callO bor rdsO wrsO seen_none okD_none loops keepIds resV resultsV St.ev TK.agg refs refsL refsO V.one V.isC Value.oneCell' ren renL renO noTag noTagL noTagR noTagO nodup mapO passV frs psi refsR newD loopNext opsAt idx flatAt rootOf backR newsV appendV copyV buildV fillF chunk
attribute [local simp] cT cF cX cWR cOW cK X WR OW K ints_length ints_get ints_getElem ints_drop ints_take ints_append ints_nil ints_set
attribute [local simp] ints_replicate
attribute [local simp] putV_some putV_none putH_app applyD_nil applyD_cons seen_app gc_ρ gc_H gc_tick st0_ρ st0_H st0_tick retV callRo callV_ro borL_nil borL_cons ints_snoc take_self callV_wr callWr cutH_app findQ afterV exportV_0 exportV_n okD_nil okD_cons sub_seq0 sub_seq1 sub_cond0 sub_cond1 sub_block sub_loop sub_nil young_far young_none okI ok_0 ok_1 ok_2
attribute [local simp] T3 T4 T22 T24 T26 T57 T59 T63 T67 T87 T92
theorem mul64_facts : ∀ n : Fin 65, IntKind.u64.wrap ((BitVec.ofNat IntKind.u64.bits n.val &&& BitVec.ofNat IntKind.u64.bits 4294967295).toNat : Int) = (n.val : Int) ∧ (n.val : Int).fdiv 4294967296 = 0 ∧ IntKind.u64.wrap (n.val : Int) = (n.val : Int) ∧ IntKind.i64.wrap (n.val : Int) = (n.val : Int) := by decide
theorem c_Mul64 (k n : Nat) (hn : n ≤ 64) (hk : 1 ≤ k) : callK C k 114 [.c (.int .u64 1), .c (.int .u64 (n : Int))] [] = some (.tp [.c (.int .u64 0), .c (.int .u64 (n : Int))], hpOf [] []) := by
  obtain ⟨k, rfl⟩ : ∃ m, k = m + 1 := ⟨k - 1, by omega⟩
  rw [callK_fn rfl F114 code114]
  obtain ⟨e1, e2, e3, _⟩ := mul64_facts ⟨n, by omega⟩
  simp only [] at e1 e2 e3
  have f1 : IntKind.u64.wrap 1 = 1 := by decide
  have f2 : (1 : Int).fdiv 4294967296 = 0 := by decide
  have f3 : IntKind.u64.wrap 0 = 0 := by decide
  have f5 : (0 : Int).fdiv 4294967296 = 0 := by decide
  have hb : min 32 IntKind.u64.bits = 32 := by decide
  have f4 : IntKind.u64.wrap ((BitVec.ofNat IntKind.u64.bits 1 &&& BitVec.ofNat IntKind.u64.bits 4294967295).toNat : Int) = 1 := by decide
  have f6 : IntKind.u64.wrap ((BitVec.ofNat IntKind.u64.bits 0 &&& BitVec.ofNat IntKind.u64.bits 4294967295).toNat : Int) = 0 := by decide
  have o1 : BitVec.ofInt IntKind.u64.bits 1 = BitVec.ofNat IntKind.u64.bits 1 := by decide
  have o2 : BitVec.ofInt IntKind.u64.bits 4294967295 = BitVec.ofNat IntKind.u64.bits 4294967295 := by decide
  have o3 : BitVec.ofInt IntKind.u64.bits 0 = BitVec.ofNat IntKind.u64.bits 0 := by decide
  have o4 : BitVec.ofInt IntKind.u64.bits (n : Int) = BitVec.ofNat IntKind.u64.bits n := BitVec.ofInt_natCast _ _
  simp [R114_0, R114_1, R114_2, R114_3, R114_4, R114_5, R114_6, R114_7, R114_8, R114_9, R114_10, R114_11, Try.f114, hb, o1, o2, o3, o4, e1, e2, e3, f1, f2, f3, f4, f5, f6, -BitVec.toNat_and]
theorem c_Mul (k n : Nat) (hn : n ≤ 64) (hk : 2 ≤ k) : callK C k 112 [.c (.int .u64 1), .c (.int .u64 (n : Int))] [] = some (.tp [.c (.int .u64 0), .c (.int .u64 (n : Int))], hpOf [] []) := by
  obtain ⟨k, rfl⟩ : ∃ m, k = m + 2 := ⟨k - 2, by omega⟩
  rw [callK_fn rfl F112 code112]
  have h := c_Mul64 (k + 1) n hn (by omega)
  simp [R112_0, R112_1, R112_2, R112_3, R112_4, Try.f112, h]
def repL (n : Nat) (a : Int) (m : Nat) : List Int := List.replicate m a ++ List.replicate (n - m) 0
theorem repL_length {n m : Nat} (a : Int) (h : m ≤ n) : (repL n a m).length = n := by simp [repL]; omega
theorem repL_take (n : Nat) (a : Int) (m : Nat) : (repL n a m).take m = List.replicate m a := by simp [repL]
theorem repL_next {n m : Nat} (a : Int) (h : m ≤ n) : List.replicate m a ++ (List.replicate (min (n - m) m) a ++ (repL n a m).drop (m + min m (n - m))) = repL n a (m + min m (n - m)) := by
  unfold repL
  rw [List.drop_append, List.drop_eq_nil_of_le (by simp), List.nil_append, List.drop_replicate, List.length_replicate, ← List.append_assoc, List.replicate_append_replicate]
  congr 1
  · congr 1; omega
  · congr 1; omega
theorem repL_all (n : Nat) (a : Int) : repL n a n = List.replicate n a := by simp [repL]
theorem c_Repeat (k : Nat) (b : Bool) (a : Int) (n : Nat) (h1 : 1 ≤ n) (hn : n ≤ 64) (hk : 100 ≤ k) : callK C k 109 [.sq b true 1 (ints [a]), .c (.int .i64 (n : Int))] [] = some (.s 0 2 1 0 n, hpOf [] [intsO (List.replicate n a)]) := by
  obtain ⟨k, rfl⟩ : ∃ m, k = m + 3 := ⟨k - 3, by omega⟩
  rw [callK_fn rfl F109 code109]
  obtain ⟨e1, e2, e3, e4⟩ := mul64_facts ⟨n, by omega⟩
  simp only [] at e1 e2 e3 e4
  have hm := c_Mul (k + 2) n hn (by omega)
  have f1 : IntKind.u64.wrap 1 = 1 := by decide
  obtain ⟨out, ho⟩ := loopOut (body := fun st => runCode C (callK C (k + 2)) (k + 2) (K 109) L109_0 1 st) (keep := [7, 8]) (.ex 0) (fun st => st.ρ 7 = .s 6192 5 1 0 n ∧ st.H 6192 = some (5, intsO (List.replicate n a)))
    (fun i st => st.ρ 7 = .s 6192 5 1 0 n ∧ ∃ m : Nat, i < m ∧ m ≤ n ∧ st.ρ 8 = .c (.int .i64 (m : Int)) ∧ st.H 6192 = some (5, intsO (repL n a m)))
    n (k + 2) (by omega)
    (by
      rintro i st next hi ⟨h7, m, him, hmn, h8, hH⟩ hx
      by_cases he : m = n
      · subst he
        simp [L109_0, R109_0, R109_1, R109_2, R109_3, R109_4, R109_5, R109_6, R109_7, R109_8, R109_9, R109_10, Try.f109, lpL109_0, lpM109_0, M109_0, h7, h8, hH, intsO, repL_all]
      · have hlt : m < n := by omega
        have hl := repL_length a hmn
        have ht := repL_take n a m
        have hne := repL_next a hmn
        have hnm : ¬ n - m = 0 := by omega
        have hm0 : ¬ m = 0 := by omega
        have hmm : m + (n - m) = n := by omega
        have hmm' : m + (n - m) ≤ n := by omega
        have hw : IntKind.i64.wrap ((m : Int) + ((min m (n - m) : Nat) : Int)) = ((m + min m (n - m) : Nat) : Int) := by rw [wrap_small (by omega) (by omega)]; omega
        simp [L109_0, R109_0, R109_1, R109_2, R109_3, R109_4, R109_5, R109_6, R109_7, R109_8, R109_9, R109_10, Try.f109, lpL109_0, lpM109_0, M109_0, h7, h8, hH, intsO, hlt, hl, ht, hne, hnm, hm0, hmm, hmm', hmn, hw]
        refine hx _ ⟨by simp [h7], m + min m (n - m), by omega, by omega, ?_, ?_⟩ <;> simp [intsO])
    (by
      rintro st next ⟨h7, m, him, hmn, h8, hH⟩
      omega)
  simp at ho
  have g1 : min 1 n = 1 := by omega
  have g2 : ¬ n = 0 := by omega
  have g3 : [a].take n = [a] := List.take_of_length_le (by simpa using h1)
  have b1 : (n : Int) ≤ 17592186044416 := by omega
  have b2 : 8 * (n : Int) ≤ 140737488355328 := by omega
  have b3 : ¬ (9223372036854775807 : Int) < n := by omega
  have b4 : ¬ ((n : Int) < 0) := by omega
  have g5 : ints [a] ++ (ints (List.replicate n 0)).tail = ints (a :: List.replicate (n - 1) 0) := by
    obtain ⟨m, rfl⟩ : ∃ m, n = m + 1 := ⟨n - 1, by omega⟩
    rfl
  have g4 : repL n a 1 = a :: List.replicate (n - 1) 0 := by simp [repL]
  have ho' := fun st q => ho st q 1 (by omega) h1
  rw [g4] at ho'
  simp [intsO] at ho'
  simp [R109_0, R109_1, R109_2, R109_3, R109_4, R109_5, R109_6, R109_7, R109_8, R109_9, R109_10, Try.f109, lpL109_0, lpM109_0, M109_0, hm, f1, e3, e4, b1, b2, b3, b4, g1, g2, g3, g5, ho', intsO]

end Go.Proofs.Ytfgoljfggkkpnaa.Eng
