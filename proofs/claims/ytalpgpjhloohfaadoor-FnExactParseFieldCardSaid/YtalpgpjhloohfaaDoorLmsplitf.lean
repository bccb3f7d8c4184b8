/- A deterministic reading of Go code over plain data: what functions of the program compute. No conditions. -/
import Derived.Test.YtalpgpjhloohfaaDoorLmbase
import Derived.Test.YtalpgpjhloohfaaDoorLmimpl
import Derived.Test.YtalpgpjhloohfaaDoorLmgood
import Derived.Test.YtalpgpjhloohfaaDoorLmitoa
import Derived.Test.YtalpgpjhloohfaaDoorLmappendck
import Derived.Test.YtalpgpjhloohfaaDoorLmsplit
import Derived.Test.YtalpgpjhloohfaaDoorLmjoins
import Derived.Test.YtalpgpjhloohfaaDoorLmjoinf
import Derived.Test.YtalpgpjhloohfaaDoorLmcuts
import Derived.Test.YtalpgpjhloohfaaDoorEngT
import Derived.Lib.IndexLaws
import Derived.Lib.IndexBytes
import Derived.Lib.Join
import Derived.Lib.Split
import Derived.Lib.SplitLaws
namespace Go.Proofs.YtalpgpjhloohfaaDoor.Eng
open Go Go.Proofs
set_option maxRecDepth 100000
set_option maxHeartbeats 2000000
set_option linter.unusedSimpArgs false
set_option linter.unusedVariables false
attribute [local simp] finK fin1 hpOf xi renQ isRoot runCode runOps Eng.step wantedV astep val ofO made loadV storeV find V.cells bin binT binA numT numFs eqCells un1 setAt fieldAddrV fieldV indexAddrV indexV bounds sliceV convV lenV foldV max2V min2V callO bor rdsO wrsO seen_none okD_none loops keepIds resV resultsV St.ev TK.agg refs refsL refsO V.one V.isC Value.oneCell' ren renL renO noTag noTagL noTagR noTagO nodup mapO passV frs psi refsR newD loopNext opsAt idx flatAt rootOf backR newsV appendV copyV clearV strV bytesOf nilCmp buildV fillF chunk
attribute [local simp] cT cF cX cWR cOW cK X ints_length ints_get ints_getElem ints_drop ints_take ints_append ints_nil ints_set
attribute [local simp] ints_replicate
attribute [local simp] putV_some putV_none putH_app applyD_nil applyD_cons seen_app gc_ρ gc_H gc_tick st0_ρ st0_H st0_tick retV callRo callV_if borL_nil borL_cons ints_snoc take_self callWr cutH_app findQ afterV exportV_0 exportV_n okD_nil okD_cons sub_seq0 sub_seq1 sub_cond0 sub_cond1 sub_block sub_loop sub_nil young_far young_none hidW_nil mayW_nil pairs okI ok_0 ok_1 ok_2
attribute [local simp] T3 T4 T5 T9 T22 T28 T57 T70 T72
attribute [local simp] young_near clo cloF Region.binds Nat.testBit hidW declW mayW List.findIdx?_cons
theorem strs_of2 (p : List ByteArray) : (p.map fun s => [V.c (.string s)]) = strs (p.map (·.data.toList)) := by
  unfold strs
  rw [List.map_map]
  refine List.map_congr_left fun s _ => ?_
  cases s
  simp [bs]
theorem c_Split (k : Nat) (l : List UInt8) (b : UInt8) (h20 : l.length ≤ 1048576) (hk : 1 ≤ k) : callK C k 61 [.c (.string (bs l)), .c (.string (bs [b]))] [] = some (.s 0 2 1 0 (splitL l b).length, hpOf [] [strsO (splitL l b)]) := by
  obtain ⟨k, rfl⟩ : ∃ m, k = m + 1 := ⟨k - 1, by omega⟩
  simp only [callK]
  have hx : C.ext 61 = some ext61 := rfl
  rw [hx]
  have hlen := Lib.splitB_all (bs [b]) (by rw [bs_size]; simp) 0 _ (bs l) rfl
  have hdat := Lib.splitB_data (bs [b]) 0 (Lib.countB (bs l) (bs [b])) (bs l)
  have hc : Lib.countB (bs l) (bs [b]) = l.count b := by
    show Lib.count (bs l).data.toList (bs [b]).data.toList = _
    rw [bs_data, bs_data, Lib.count_one]
  rw [hc] at hlen hdat
  rw [bs_data, bs_data] at hdat
  have hu := cut_unique b _ _ l (splitK_cut b (l.count b) l rfl) (splitL_cut l b)
  rw [hu] at hdat
  have hl2 : (splitL l b).length = l.count b + 1 := by rw [← hdat, List.length_map]; exact hlen
  have he : ext61 [.c (.string (bs l)), .c (.string (bs [b]))] = some (.s 0 2 1 0 (splitL l b).length, [strsO (splitL l b)]) := by
    unfold ext61
    simp only [hc, strs_of2, hdat]
    rw [if_pos ⟨by rw [bs_size]; rfl, by rw [bs_size]; exact h20⟩, hl2]
    rfl
  simp [he]
/-- How many digits a number has. -/
def ndg (n : Nat) : Nat := if h : n = 0 then 0 else ndg (n / 10) + 1
theorem ndg_le (n : Nat) : ndg n ≤ n := by
  induction n using Nat.strongRecOn with
  | _ n ih =>
    unfold ndg
    split
    · omega
    · have := ih (n / 10) (by omega)
      omega
theorem ndg_facts (n : Nat) : n / 10 ^ ndg n = 0 ∧ ∀ i, i < ndg n → 0 < n / 10 ^ i := by
  induction n using Nat.strongRecOn with
  | _ n ih =>
    unfold ndg
    split
    · rename_i h; subst h; simp
    · obtain ⟨h1, h2⟩ := ih (n / 10) (by omega)
      refine ⟨?_, fun i hi => ?_⟩
      · rw [Nat.pow_succ, Nat.mul_comm, ← Nat.div_div_eq_div_mul]; exact h1
      · cases i with
        | zero => simp; omega
        | succ i =>
          rw [Nat.pow_succ, Nat.mul_comm, ← Nat.div_div_eq_div_mul]
          exact h2 i (by omega)
/-- The last i digits. -/
def dgs (n : Nat) : Nat → List UInt8
  | 0 => []
  | i + 1 => UInt8.ofNat (48 + n / 10 ^ i % 10) :: dgs n i
theorem dgs_len (n : Nat) : ∀ i, (dgs n i).length = i
  | 0 => rfl
  | i + 1 => by simp [dgs, dgs_len n i]
def mkT (n : Nat) : List UInt8 := 109 :: dgs n (ndg n)
def mkL (k n : Nat) : List (List UInt8) := (List.range n).map fun i => mkT (k + i)
theorem mkL_len (k n : Nat) : (mkL k n).length = n := by simp [mkL]
theorem mkL_at (k n i : Nat) (h : i < (mkL k n).length) : (mkL k n)[i] = mkT (k + i) := by simp [mkL]

end Go.Proofs.YtalpgpjhloohfaaDoor.Eng
