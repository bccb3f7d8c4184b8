/- A deterministic reading of Go code over plain data: what functions of the program compute. No conditions. -/
import Derived.Test.YtmleikmjjoneeaaDoorLmbase
import Derived.Test.YtmleikmjjoneeaaDoorLmimpl
import Derived.Test.YtmleikmjjoneeaaDoorLmgood
import Derived.Test.YtmleikmjjoneeaaDoorLmitoa
import Derived.Test.YtmleikmjjoneeaaDoorLmappendck
import Derived.Test.YtmleikmjjoneeaaDoorLmsplit
import Derived.Test.YtmleikmjjoneeaaDoorLmjoins
import Derived.Test.YtmleikmjjoneeaaDoorLmjoinf
import Derived.Test.YtmleikmjjoneeaaDoorLmcuts
import Derived.Test.YtmleikmjjoneeaaDoorEngT
import Derived.Lib.IndexLaws
import Derived.Lib.IndexBytes
import Derived.Lib.Join
import Derived.Lib.Split
import Derived.Lib.SplitLaws
namespace Go.Proofs.YtmleikmjjoneeaaDoor.Eng
open Go Go.Proofs
set_option maxRecDepth 100000
set_option maxHeartbeats 2000000
set_option linter.unusedSimpArgs false
set_option linter.unusedVariables false
attribute [local simp] finK fin1 hpOf xi renQ isRoot runCode runOps Eng.step wantedV astep val ofO made loadV storeV find V.cells bin binT binA numT numFs eqCells un1 setAt fieldAddrV fieldV indexAddrV indexV bounds sliceV convV lenV foldV max2V min2V callO bor rdsO wrsO seen_none okD_none loops keepIds resV resultsV St.ev TK.agg refs refsL refsO V.one V.isC Value.oneCell' ren renL renO noTag noTagL noTagR noTagO nodup mapO passV frs psi refsR newD loopNext opsAt idx flatAt rootOf backR newsV appendV copyV clearV strV bytesOf nilCmp buildV fillF chunk
attribute [local simp] cT cF cX cWR cOW cK X ints_length ints_get ints_getElem ints_drop ints_take ints_append ints_nil ints_set
attribute [local simp] ints_replicate
attribute [local simp] putV_some putV_none putH_app applyD_nil applyD_cons seen_app gc_ρ gc_H gc_tick st0_ρ st0_H st0_tick retV callRo callV_if borL_nil borL_cons ints_snoc take_self callWr cutH_app findQ afterV exportV_0 exportV_n okD_nil okD_cons sub_seq0 sub_seq1 sub_cond0 sub_cond1 sub_block sub_loop sub_nil young_far young_none hidW_nil mayW_nil pairs okI ok_0 ok_1 ok_2
attribute [local simp] T3 T4 T5 T9 T22 T28 T39 T40 T42
attribute [local simp] young_near clo cloF Region.binds Nat.testBit hidW declW mayW List.findIdx?_cons
theorem strs_of2 (p : List ByteArray) : (p.map fun s => [V.c (.string s)]) = strs (p.map (·.data.toList)) := by
  unfold strs
  rw [List.map_map]
  refine List.map_congr_left fun s _ => ?_
  cases s
  simp [bs]
theorem c_Split (k : Nat) (l : List UInt8) (b : UInt8) (h20 : l.length ≤ 1048576) (hk : 1 ≤ k) : callK C k 19 [.c (.string (bs l)), .c (.string (bs [b]))] [] = some (.s 0 2 1 0 (splitL l b).length, hpOf [] [strsO (splitL l b)]) := by
  obtain ⟨k, rfl⟩ : ∃ m, k = m + 1 := ⟨k - 1, by omega⟩
  simp only [callK]
  have hx : C.ext 19 = some ext19 := rfl
  rw [hx]
  have hlen := Lib.splitB_all (bs [b]) (by rw [bs_size]; simp) 0 _ (bs l) rfl
  have hdat := Lib.splitB_data (bs [b]) 0 (Lib.countB (bs l) (bs [b])) (bs l)
  have hc : Lib.countB (bs l) (bs [b]) = l.count b := by
    show Lib.count (bs l).data.toList (bs [b]).data.toList = _
    rw [bs_data, bs_data, Lib.count_one]
  rw [hc] at hlen hdat
  rw [bs_data, bs_data] at hdat
  have hu := cut_unique b _ _ l (splitK_cut b (l.count b) l rfl) (splitL_cut l b)
  rw [hu] at hdat
  have hl2 : (splitL l b).length = l.count b + 1 := by rw [← hdat, List.length_map]; exact hlen
  have he : ext19 [.c (.string (bs l)), .c (.string (bs [b]))] = some (.s 0 2 1 0 (splitL l b).length, [strsO (splitL l b)]) := by
    unfold ext19
    simp only [hc, strs_of2, hdat]
    rw [if_pos ⟨by rw [bs_size]; rfl, by rw [bs_size]; exact h20⟩, hl2]
    rfl
  simp [he]
theorem c_implSplit (k : Nat) (l : List UInt8) (b : UInt8) (h20 : l.length ≤ 4000) (hk : 10 ≤ k) : callK C k 6 [.c (.string (bs l)), .c (.string (bs [b]))] [] = some (.tp [.s 0 2 1 0 (splitL l b).length, .c (.bool true)], hpOf [] [strsO (splitL l b)]) := by
  obtain ⟨k, rfl⟩ : ∃ m, k = m + 1 := ⟨k - 1, by omega⟩
  rw [callK_fn rfl F6 code6]
  have h := c_Split k l b (by omega) (by omega)
  have g : ¬ (4000 : Int) < (l.length : Int) := by omega
  have g2 : ¬ 4000 < l.length := by omega
  simp [strsO] at h
  simp [R6_0, R6_1, R6_2, R6_3, Tryd.f6, bs_size, g, g2, h, strsO, strs_length]
theorem c_implSplitN (k : Nat) (l t : List UInt8) (h : ¬ (l.length ≤ 4000 ∧ t.length = 1)) (hk : 10 ≤ k) : callK C k 6 [.c (.string (bs l)), .c (.string (bs t))] [] = some (.tp [.c (.slice none 0 0), .c (.bool false)], hpOf [] []) := by
  obtain ⟨k, rfl⟩ : ∃ m, k = m + 1 := ⟨k - 1, by omega⟩
  rw [callK_fn rfl F6 code6]
  by_cases g : 4000 < l.length
  · have g' : (4000 : Int) < (l.length : Int) := by omega
    simp [R6_0, R6_1, R6_2, R6_3, Tryd.f6, undef, bs_size, g, g']
  · have g' : ¬ (4000 : Int) < (l.length : Int) := by omega
    have h1 : ¬ t.length = 1 := fun e => h ⟨by omega, e⟩
    have h1' : ¬ (t.length : Int) = 1 := by omega
    have h1n : ((t.length : Int) != 1) = true := by simpa using h1'
    simp [R6_0, R6_1, R6_2, R6_3, Tryd.f6, undef, bs_size, g, g', h1, h1', h1n]
theorem c_specSplit (k : Nat) (l : List UInt8) (b : UInt8) (h20 : l.length ≤ 4000) (hk : l.length + 200 ≤ k) : callK C k 5 [.c (.string (bs l)), .c (.string (bs [b]))] [] = some (.tp [.s 0 2 1 0 (splitL l b).length, .c (.bool true)], hpOf [] [strsO (splitL l b)]) := by
  obtain ⟨k, rfl⟩ : ∃ m, k = m + 1 := ⟨k - 1, by omega⟩
  rw [callK_fn rfl F5 code5]
  have h := c_l1Split k l b (by omega) (by omega)
  have g : ¬ (4000 : Int) < (l.length : Int) := by omega
  have g2 : ¬ 4000 < l.length := by omega
  have hb0 : byteAt (bs [b]) 0 = ((b.toNat : Nat) : Int) := byteAt_bs (l := [b]) (i := 0) (by simp)
  simp [strsO] at h
  simp [R5_0, R5_1, R5_2, R5_3, Tryd.f5, bs_size, g, g2, h, hb0, strsO, strs_length]
theorem c_specSplitN (k : Nat) (l t : List UInt8) (h : ¬ (l.length ≤ 4000 ∧ t.length = 1)) (hk : 10 ≤ k) : callK C k 5 [.c (.string (bs l)), .c (.string (bs t))] [] = some (.tp [.s 0 2 1 0 0, .c (.bool false)], hpOf [] [strsO []]) := by
  obtain ⟨k, rfl⟩ : ∃ m, k = m + 1 := ⟨k - 1, by omega⟩
  rw [callK_fn rfl F5 code5]
  by_cases h1 : t.length = 1
  · have g : 4000 < l.length := by
      by_cases g : 4000 < l.length
      · exact g
      · exact absurd ⟨by omega, h1⟩ h
    have g' : (4000 : Int) < (l.length : Int) := by omega
    have h1' : (t.length : Int) = 1 := by omega
    simp [R5_0, R5_1, R5_2, R5_3, Tryd.f5, undef, bs_size, g, g', h1, h1', strsO, strs_nil]
  · have h1' : ¬ (t.length : Int) = 1 := by omega
    have h1n : ((t.length : Int) != 1) = true := by simpa using h1'
    simp [R5_0, R5_1, R5_2, R5_3, Tryd.f5, undef, bs_size, h1, h1', h1n, strsO, strs_nil]
/-- How many digits a number has. -/
def ndg (n : Nat) : Nat := if h : n = 0 then 0 else ndg (n / 10) + 1
theorem ndg_le (n : Nat) : ndg n ≤ n := by
  induction n using Nat.strongRecOn with
  | _ n ih =>
    unfold ndg
    split
    · omega
    · have := ih (n / 10) (by omega)
      omega
theorem ndg_facts (n : Nat) : n / 10 ^ ndg n = 0 ∧ ∀ i, i < ndg n → 0 < n / 10 ^ i := by
  induction n using Nat.strongRecOn with
  | _ n ih =>
    unfold ndg
    split
    · rename_i h; subst h; simp
    · obtain ⟨h1, h2⟩ := ih (n / 10) (by omega)
      refine ⟨?_, fun i hi => ?_⟩
      · rw [Nat.pow_succ, Nat.mul_comm, ← Nat.div_div_eq_div_mul]; exact h1
      · cases i with
        | zero => simp; omega
        | succ i =>
          rw [Nat.pow_succ, Nat.mul_comm, ← Nat.div_div_eq_div_mul]
          exact h2 i (by omega)
/-- The last i digits. -/
def dgs (n : Nat) : Nat → List UInt8
  | 0 => []
  | i + 1 => UInt8.ofNat (48 + n / 10 ^ i % 10) :: dgs n i
theorem dgs_len (n : Nat) : ∀ i, (dgs n i).length = i
  | 0 => rfl
  | i + 1 => by simp [dgs, dgs_len n i]
def mkT (n : Nat) : List UInt8 := 109 :: dgs n (ndg n)
theorem c_markText (k n : Nat) (h1 : 1 ≤ n) (hn : n ≤ 100000) (hk : n + 20 ≤ k) : callK C k 20 [.c (.int .i64 (n : Int))] [] = some (.c (.string (bs (mkT n))), hpOf [] []) := by
  obtain ⟨k, rfl⟩ : ∃ m, k = m + 3 := ⟨k - 3, by omega⟩
  rw [callK_fn rfl F20 code20]
  obtain ⟨f1, f2⟩ := ndg_facts n
  have f3 := ndg_le n
  have hL := loopHas (body := fun st => runCode C (callK C (k + 2)) (k + 2) (K 20) L20_0 1 st) (keep := [0, 3]) (.ex 0) (fun st => st.ρ 3 = .c (.string (bs (dgs n (ndg n)))))
    (fun i st => st.ρ 0 = .c (.int .i64 ((n / 10 ^ i : Nat) : Int)) ∧ st.ρ 3 = .c (.string (bs (dgs n i))))
    (ndg n) (k + 2) (by omega)
    (by
      rintro i st next hi ⟨q0, q3⟩ hx
      have hp := f2 i hi
      obtain ⟨m, hm⟩ : ∃ m, n / 10 ^ i = m := ⟨_, rfl⟩
      have hml : m ≤ n := by rw [← hm]; exact Nat.div_le_self _ _
      have hd : UInt8.ofNat (48 + m % 10) :: dgs n i = dgs n (i + 1) := by rw [dgs, hm]
      have hd2 : ((48 : UInt8) + UInt8.ofNat (m % 10)) :: dgs n i = dgs n (i + 1) := by rw [← hd]; simp
      have hdl := dgs_len n i
      have hq : n / 10 ^ (i + 1) = m / 10 := by rw [Nat.pow_succ, ← Nat.div_div_eq_div_mul, hm]
      rw [hm] at hp q0
      rw [hq] at hx
      have hp' : (0 : Int) < (m : Int) := by omega
      have w1 : IntKind.i64.wrap (48 + (m : Int).tmod 10) = 48 + ((m % 10 : Nat) : Int) := by
        have : (m : Int).tmod 10 = ((m % 10 : Nat) : Int) := rfl
        rw [this]; exact wrap_small (by omega) (by omega)
      have w2 : IntKind.u8.wrap (48 + ((m % 10 : Nat) : Int)) = 48 + ((m % 10 : Nat) : Int) := by
        show (48 + ((m % 10 : Nat) : Int)) % 256 = _
        omega
      have w3 : IntKind.i64.wrap ((m : Int).tdiv 10) = ((m / 10 : Nat) : Int) := by
        have : (m : Int).tdiv 10 = ((m / 10 : Nat) : Int) := rfl
        rw [this]; exact wrap_small (by omega) (by omega)
      have g1 : (0 : Int) ≤ 48 + (m : Int) % 10 := by omega
      have g2 : 48 + (m : Int) % 10 ≤ 255 := by omega
      have g3 : (48 + (m : Int) % 10).toNat = 48 + m % 10 := by omega
      have w4 : IntKind.u8.wrap (48 + (m : Int) % 10) = 48 + (m : Int) % 10 := by
        show (48 + (m : Int) % 10) % 256 = _
        omega
      have w5 : IntKind.i64.wrap (48 + (m : Int) % 10) = 48 + (m : Int) % 10 := wrap_small (by omega) (by omega)
      have w6 : IntKind.i64.wrap ((m : Int) / 10) = ((m / 10 : Nat) : Int) := by rw [wrap_small (by omega) (by omega)]; omega
      have z1 : (1 + (dgs n i).length) ≤ 9223372036854775807 := by omega
      have z2 : (dgs n i).length + 1 ≤ 9223372036854775807 := by omega
      simp [L20_0, R20_0, R20_1, R20_2, R20_3, R20_4, R20_5, R20_6, R20_7, Tryd.f20, lpL20_0, lpM20_0, M20_0, q0, q3, hp, hp', w1, w2, w3, w4, w5, w6, g1, g2, g3, lit1, bs_append, bs_size, hd, z1, z2]
      exact hx _ ⟨by simp, by simp [hd, hd2]⟩)
    (by
      rintro st next ⟨q0, q3⟩
      rw [f1] at q0
      simp [L20_0, R20_0, R20_1, R20_2, R20_3, R20_4, R20_5, R20_6, R20_7, Tryd.f20, lpL20_0, lpM20_0, M20_0, q0, q3])
  have hn0 : ¬ (n : Int) ≤ 0 := by omega
  have hn1 : ¬ n = 0 := by omega
  have hz : bs [] = ⟨#[]⟩ := rfl
  simp [R20_0, R20_1, R20_2, R20_3, R20_4, R20_5, R20_6, R20_7, Tryd.f20, lpL20_0, lpM20_0, hn0, hn1]
  generalize hr : loopRun _ _ _ _ = res
  obtain ⟨s1, rfl, f4⟩ := loop_at hL hr ⟨by simp, by simp [dgs, hz]⟩
  have hdl := dgs_len n (ndg n)
  have z1 : (1 + (dgs n (ndg n)).length) ≤ 9223372036854775807 := by omega
  have z2 : (dgs n (ndg n)).length + 1 ≤ 9223372036854775807 := by omega
  simp [R20_0, R20_1, R20_2, R20_3, R20_4, R20_5, R20_6, R20_7, Tryd.f20, lpL20_0, lpM20_0, M20_0, f4, lit1, bs_append, bs_size, mkT, z1, z2]
def mkL (k n : Nat) : List (List UInt8) := (List.range n).map fun i => mkT (k + i)
theorem mkL_len (k n : Nat) : (mkL k n).length = n := by simp [mkL]
theorem mkL_at (k n i : Nat) (h : i < (mkL k n).length) : (mkL k n)[i] = mkT (k + i) := by simp [mkL]
theorem c_markStringS (k : Nat) (p : List (List UInt8)) (hp : p.length ≤ 10000) (hk : 20000 ≤ k) : callK C k 8 [.s 0 0 1 0 p.length, .c (.int .i64 1)] [strsO p] = some (.c (.int .i64 (1 + (p.length : Int))), hpOf [some (strsO (mkL 1 p.length))] []) := by
  obtain ⟨k, rfl⟩ : ∃ m, k = m + 3 := ⟨k - 3, by omega⟩
  rw [callK_fn rfl F8 code8]
  have hrl : p.length = (mkL 1 p.length).length := (mkL_len 1 p.length).symm
  obtain ⟨M, hM⟩ : ∃ M, mkL 1 p.length = M := ⟨_, rfl⟩
  have hMat := fun (i : Nat) (h : i < M.length) => (by subst hM; exact mkL_at 1 p.length i h : M[i] = mkT (1 + i))
  rw [hM] at hrl
  have hL := loopHas (body := fun st => runCode C (callK C (k + 2)) (k + 2) (K 8) L8_0 1 st) (keep := [0, 1, 5]) (.ex 0) (fun st => st.ρ 1 = .c (.int .i64 (1 + (p.length : Int))) ∧ st.H 0 = some (0, strsO M))
    (fun i st => st.ρ 0 = .s 0 0 1 0 p.length ∧ st.ρ 1 = .c (.int .i64 (1 + (i : Int))) ∧ st.ρ 5 = .c (.int .i64 (i : Int)) ∧ st.H 0 = some (0, strsO (fillQ M p i)))
    p.length (k + 2) (by omega)
    (by
      rintro i st next hi ⟨q0, q1, q5, H0⟩ hx
      have hi' : i < M.length := by omega
      have hs := fillQ_set M p i hrl hi'
      have hfl := fillQ_length M p i hrl
      have hT := c_markText (k + 2) (1 + i) (by omega) (by omega) (by omega)
      rw [hMat i hi'] at hs
      have w1 : IntKind.i64.wrap (1 + (i : Int) + 1) = 1 + ((i : Int) + 1) := by rw [wrap_small (by omega) (by omega)]; omega
      simp at hT
      simp [L8_0, R8_0, R8_1, R8_2, R8_3, R8_4, R8_5, R8_6, Tryd.f8, lpL8_0, lpM8_0, M8_0, q0, q1, q5, H0, hi, hT, strsO, strs_length, strs_at, strs_set, hs, hfl, ← hrl, w1, wrap_next hi (by omega : p.length ≤ 9000000000000000000)]
      exact hx _ ⟨by simp [q0], by simp, by simp, by simp [strsO]⟩)
    (by
      rintro st next ⟨q0, q1, q5, H0⟩
      have hall := fillQ_all M p (by omega)
      rw [← hrl] at hall
      rw [hall] at H0
      simp [L8_0, R8_0, R8_1, R8_2, R8_3, R8_4, R8_5, R8_6, Tryd.f8, lpL8_0, lpM8_0, M8_0, q0, q1, q5, H0, strs_length])
  simp [R8_0, R8_1, R8_2, R8_3, R8_4, R8_5, R8_6, Tryd.f8, lpL8_0, lpM8_0, strsO]
  generalize hr : loopRun _ _ _ _ = res
  obtain ⟨s1, rfl, f1, fH⟩ := loop_at hL hr ⟨by simp, by simp, by simp, by simp [strsO, fillQ_zero]⟩
  simp [R8_0, R8_1, R8_2, R8_3, R8_4, R8_5, R8_6, Tryd.f8, lpL8_0, lpM8_0, M8_0, f1, fH, strsO, hM]
theorem c_heldStringS (k : Nat) (b : Bool) (n : Nat) (hn : n ≤ 10000) (hk : 20000 ≤ k) : callK C k 9 [.sq b true 1 (strs (mkL 1 n)), .c (.int .i64 1)] [] = some (.c (.int .i64 (1 + (n : Int))), hpOf [] []) := by
  obtain ⟨k, rfl⟩ : ∃ m, k = m + 3 := ⟨k - 3, by omega⟩
  rw [callK_fn rfl F9 code9]
  have hrl : n = (mkL 1 n).length := (mkL_len 1 n).symm
  obtain ⟨M, hM⟩ : ∃ M, mkL 1 n = M := ⟨_, rfl⟩
  have hMat := fun (i : Nat) (h : i < M.length) => (by subst hM; exact mkL_at 1 n i h : M[i] = mkT (1 + i))
  rw [hM] at hrl ⊢
  have hL := loopHas (body := fun st => runCode C (callK C (k + 2)) (k + 2) (K 9) L9_0 1 st) (keep := [0, 1, 5]) (.ex 0) (fun st => st.ρ 1 = .c (.int .i64 (1 + (n : Int))))
    (fun i st => st.ρ 0 = .sq b true 1 (strs M) ∧ st.ρ 1 = .c (.int .i64 (1 + (i : Int))) ∧ st.ρ 5 = .c (.int .i64 (i : Int)))
    n (k + 2) (by omega)
    (by
      rintro i st next hi ⟨q0, q1, q5⟩ hx
      have hi' : i < M.length := by omega
      have hT := c_markText (k + 2) (1 + i) (by omega) (by omega) (by omega)
      have nget := strs_get M i hi'
      have w1 : IntKind.i64.wrap (1 + (i : Int) + 1) = 1 + ((i : Int) + 1) := by rw [wrap_small (by omega) (by omega)]; omega
      rw [← hMat i hi'] at hT
      simp at hT
      simp [L9_0, R9_0, R9_1, R9_2, R9_3, R9_4, R9_5, R9_6, R9_7, Tryd.f9, lpL9_0, lpM9_0, M9_0, q0, q1, q5, hi, hi', hT, nget, strs_length, strs_at, bs_neq, w1, wrap_next hi (by omega : n ≤ 9000000000000000000)]
      exact hx _ ⟨by simp [q0], by simp, by simp⟩)
    (by
      rintro st next ⟨q0, q1, q5⟩
      simp [L9_0, R9_0, R9_1, R9_2, R9_3, R9_4, R9_5, R9_6, R9_7, Tryd.f9, lpL9_0, lpM9_0, M9_0, q0, q1, q5, strs_length, ← hrl])
  simp [R9_0, R9_1, R9_2, R9_3, R9_4, R9_5, R9_6, R9_7, Tryd.f9, lpL9_0, lpM9_0]
  generalize hr : loopRun _ _ _ _ = res
  obtain ⟨s1, rfl, f1⟩ := loop_at hL hr ⟨by simp, by simp, by simp⟩
  simp [R9_0, R9_1, R9_2, R9_3, R9_4, R9_5, R9_6, R9_7, Tryd.f9, lpL9_0, lpM9_0, M9_0, f1]

end Go.Proofs.YtmleikmjjoneeaaDoor.Eng
