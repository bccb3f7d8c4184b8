/- A deterministic reading of Go code over plain data: what functions of the program compute. No conditions. -/
import Derived.Test.YtalpgpjhloohfaaDoorLmbase
import Derived.Test.YtalpgpjhloohfaaDoorLmimpl
import Derived.Test.YtalpgpjhloohfaaDoorLmgood
import Derived.Test.YtalpgpjhloohfaaDoorLmitoa
import Derived.Test.YtalpgpjhloohfaaDoorEngT
import Derived.Lib.IndexLaws
namespace Go.Proofs.YtalpgpjhloohfaaDoor.Eng
open Go Go.Proofs
set_option maxRecDepth 100000
set_option maxHeartbeats 2000000
set_option linter.unusedSimpArgs false
set_option linter.unusedVariables false
attribute [local simp] finK fin1 hpOf xi renQ isRoot runCode runOps Eng.step wantedV astep val ofO made loadV storeV find V.cells bin binT binA numT numFs eqCells un1 setAt fieldAddrV fieldV indexAddrV indexV bounds sliceV convV lenV foldV max2V min2V callO bor rdsO wrsO seen_none okD_none loops keepIds resV resultsV St.ev TK.agg refs refsL refsO V.one V.isC Value.oneCell' ren renL renO noTag noTagL noTagR noTagO nodup mapO passV frs psi refsR newD loopNext opsAt idx flatAt rootOf backR newsV appendV copyV clearV strV bytesV bldV bufV selfV bytesOf nilCmp buildV fillF chunk
attribute [local simp] cT cF cX cWR cOW cK cBL X ints_length ints_get ints_getElem ints_drop ints_take ints_append ints_nil ints_set
attribute [local simp] ints_replicate
attribute [local simp] putV_some putV_none putH_app applyD_nil applyD_cons seen_app gc_ρ gc_H gc_tick st0_ρ st0_H st0_tick retV callRo callV_if borL_nil borL_cons ints_snoc take_self callWr cutH_app findQ afterV exportV_0 exportV_n okD_nil okD_cons sub_seq0 sub_seq1 sub_cond0 sub_cond1 sub_block sub_loop sub_nil young_far young_none hidW_nil mayW_nil pairs okI ok_0 ok_1 ok_2
attribute [local simp] T3 T4 T9 T22 T24 T28 T55 T70
theorem lit0 : (⟨#[]⟩ : ByteArray) = bs [] := rfl
theorem lit1 (a : UInt8) : (⟨#[a]⟩ : ByteArray) = bs [a] := rfl
theorem bs_data (l : List UInt8) : (bs l).data.toList = l := by simp [bs]
theorem bs_of (s : ByteArray) : ∃ l, s = bs l := ⟨s.data.toList, by cases s; simp [bs]⟩
theorem byteAt_bs {l : List UInt8} {i : Nat} (h : i < l.length) : byteAt (bs l) (i : Int) = ((l[i].toNat : Nat) : Int) := by
  unfold byteAt
  rw [bs_data]
  simp [List.getD, List.getElem?_eq_getElem h]
def ckS (h : Int) (c : UInt8) : Int := (41 * h + (c.toNat : Int) + 1).tmod 999979
def ckL (l : List UInt8) : Int := l.foldl ckS 7
theorem ck_bound : ∀ (l : List UInt8) (h : Int), 0 ≤ h → h < 999979 → 0 ≤ l.foldl ckS h ∧ l.foldl ckS h < 999979
  | [], h, a, b => ⟨a, b⟩
  | c :: l, h, a, b => by
    rw [List.foldl_cons]
    have hc : c.toNat < 256 := c.toNat_lt
    exact ck_bound l _ (Int.tmod_nonneg _ (by omega)) (Int.tmod_lt_of_pos _ (by omega))
theorem ck_take {l : List UInt8} {i : Nat} (h : i < l.length) : ckL (l.take (i + 1)) = ckS (ckL (l.take i)) l[i] := by
  unfold ckL
  rw [List.take_succ_eq_append_getElem h, List.foldl_append]
  rfl
def hasB1 (l : List UInt8) : Bool := decide (0 ≤ Lib.indexByte l 35)
def sealL (l : List UInt8) : List UInt8 := l ++ (35 :: Lib.itoa (ckL l))
theorem itoa_len (l : List UInt8) : (Lib.itoa (ckL l)).length ≤ 21 := by
  have b := ck_bound l 7 (by omega) (by omega)
  unfold ckL
  exact Lib.itoa_length_le _ (by omega) (by omega)
def appB (l : List UInt8) : Bool := decide (l.length ≤ 4000) && (!hasB1 l && decide ((sealL l).length ≤ 4000))

end Go.Proofs.YtalpgpjhloohfaaDoor.Eng
