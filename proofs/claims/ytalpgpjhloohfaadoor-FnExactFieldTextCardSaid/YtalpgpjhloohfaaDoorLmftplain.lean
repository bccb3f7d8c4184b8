/- A deterministic reading of Go code over plain data: what functions of the program compute. No conditions. -/
import Derived.Test.YtalpgpjhloohfaaDoorLmbase
import Derived.Test.YtalpgpjhloohfaaDoorLmimpl
import Derived.Test.YtalpgpjhloohfaaDoorLmgood
import Derived.Test.YtalpgpjhloohfaaDoorLmitoa
import Derived.Test.YtalpgpjhloohfaaDoorLmappendck
import Derived.Test.YtalpgpjhloohfaaDoorLmquantity
import Derived.Test.YtalpgpjhloohfaaDoorLmsplit
import Derived.Test.YtalpgpjhloohfaaDoorLmnumtext
import Derived.Test.YtalpgpjhloohfaaDoorLmjoins
import Derived.Test.YtalpgpjhloohfaaDoorLmcuts
import Derived.Test.YtalpgpjhloohfaaDoorLmpfield
import Derived.Test.YtalpgpjhloohfaaDoorLmpfield2
import Derived.Test.YtalpgpjhloohfaaDoorEngT
import Derived.Lib.IndexLaws
namespace Go.Proofs.YtalpgpjhloohfaaDoor.Eng
open Go Go.Proofs
set_option maxRecDepth 100000
set_option maxHeartbeats 2000000
set_option linter.unusedSimpArgs false
set_option linter.unusedVariables false
attribute [local simp] finK fin1 hpOf xi renQ isRoot runCode runOps Eng.step wantedV astep val ofO made loadV storeV find V.cells bin binT binA numT numFs eqCells un1 setAt fieldAddrV fieldV indexAddrV indexV bounds sliceV convV lenV foldV max2V min2V callO bor rdsO wrsO seen_none okD_none loops keepIds resV resultsV St.ev TK.agg refs refsL refsO V.one V.isC Value.oneCell' ren renL renO noTag noTagL noTagR noTagO nodup mapO passV frs psi refsR newD loopNext opsAt idx flatAt rootOf backR newsV appendV copyV clearV strV bytesV bldV bufV selfV bytesOf nilCmp buildV fillF chunk
attribute [local simp] cT cF cX cWR cOW cK cBL X ints_length ints_get ints_getElem ints_drop ints_take ints_append ints_nil ints_set
attribute [local simp] ints_replicate
attribute [local simp] putV_some putV_none putH_app applyD_nil applyD_cons seen_app gc_ρ gc_H gc_tick st0_ρ st0_H st0_tick retV callRo callV_if borL_nil borL_cons ints_snoc take_self callWr cutH_app findQ afterV exportV_0 exportV_n okD_nil okD_cons sub_seq0 sub_seq1 sub_cond0 sub_cond1 sub_block sub_loop sub_nil young_far young_none hidW_nil mayW_nil pairs okI ok_0 ok_1 ok_2
attribute [local simp] T3 T4 T9 T22 T24 T28 T55 T70
/-- What stands behind the i-th cell. -/
def sepT (W i : Nat) : UInt8 := if (i + 1) % W = 0 then 10 else 32
/-- A field's text, cell by cell. -/
def txT (W : Nat) : Nat → List Int → List UInt8
  | _, [] => []
  | i, a :: l => cellT a ++ sepT W i :: txT W (i + 1) l
theorem txT_append (W : Nat) : ∀ (a b : List Int) (i : Nat), txT W i (a ++ b) = txT W i a ++ txT W (i + a.length) b
  | [], b, i => by simp [txT]
  | x :: a, b, i => by
    have h := txT_append W a b (i + 1)
    simp only [List.cons_append, txT, List.length_cons, h, List.append_assoc]
    rw [show i + 1 + a.length = i + (a.length + 1) by omega]
theorem txT_step (W : Nat) (l : List Int) (i : Nat) (h : i < l.length) : txT W 0 (l.take (i + 1)) = txT W 0 (l.take i) ++ cellT l[i] ++ [sepT W i] := by
  rw [List.take_succ_eq_append_getElem h, txT_append, List.length_take, Nat.min_eq_left (by omega), Nat.zero_add]
  simp [txT]
theorem sep_in {W q i : Nat} (h1 : W * q ≤ i) (h2 : i + 1 < W * (q + 1)) : sepT W i = 32 := by
  unfold sepT
  rw [if_neg]
  intro h
  have hd := Nat.div_add_mod (i + 1) W
  rw [h, Nat.add_zero] at hd
  rw [← hd] at h2
  have h3 : (i + 1) / W < q + 1 := Nat.lt_of_mul_lt_mul_left h2
  have h4 : W * ((i + 1) / W) ≤ W * q := Nat.mul_le_mul_left W (by omega)
  omega
theorem sep_end {W q i : Nat} (h : i + 1 = W * q) : sepT W i = 10 := by
  unfold sepT
  rw [if_pos]
  rw [h]
  exact Nat.mul_mod_right W q
theorem txT_row (W q : Nat) : ∀ (r : List Int) (i : Nat), r ≠ [] → W * q ≤ i → i + r.length = W * (q + 1) → txT W i r = rowT r ++ [10]
  | [a], i, _, _, h => by
    have := sep_end (i := i) (by simpa using h)
    simp [txT, this, rowT, joinB, Lib.join_one]
  | a :: b :: r, i, _, h1, h2 => by
    have hs := sep_in (i := i) h1 (by simp at h2; omega)
    have ih := txT_row W q (b :: r) (i + 1) (by simp) (by omega) (by simp at h2 ⊢; omega)
    rw [txT, ih, hs]
    simp [rowT, joinB, Lib.join, List.intercalate]
theorem txT_rows (W : Nat) (hW : 0 < W) : ∀ (h : Nat) (c : List Int) (q : Nat), c.length = W * h → txT W (W * q) c = rowsT (chnk W h c)
  | 0, c, q, hc => by
    have : c = [] := List.eq_nil_of_length_eq_zero (by simpa using hc)
    subst this
    simp [txT, chnk, rowsT]
  | h + 1, c, q, hc => by
    have hm : W * (h + 1) = W * h + W := Nat.mul_succ W h
    have hm2 : W * (q + 1) = W * q + W := Nat.mul_succ W q
    have ht : (c.take W).length = W := by rw [List.length_take]; omega
    have hne : c.take W ≠ [] := fun e => by rw [e] at ht; simp at ht; omega
    have ih := txT_rows W hW h (c.drop W) (q + 1) (by rw [List.length_drop]; omega)
    have hr := txT_row W q (c.take W) (W * q) hne (Nat.le_refl _) (by omega)
    conv => lhs; rw [← List.take_append_drop W c]
    rw [txT_append, ht, hr, ← hm2, ih]
    simp [chnk, rowsT]
theorem txT_text (W H : Nat) (hW : 0 < W) (c : List Int) (hc : c.length = W * H) : txT W 0 c = textF W H c := by
  have := txT_rows W hW H c 0 hc
  rwa [Nat.mul_zero] at this
theorem sep_tmod (W i : Nat) : (((i : Int) + 1)).tmod (W : Int) = (((i + 1) % W : Nat) : Int) := rfl
theorem txT_len (W : Nat) : ∀ (l : List Int) (i : Nat), l.all cellB = true → (txT W i l).length ≤ 6 * l.length
  | [], _, _ => by simp [txT]
  | a :: l, i, h => by
    simp only [List.all_cons, Bool.and_eq_true] at h
    have := txT_len W l (i + 1) h.2
    have := cell_len h.1
    simp only [txT, List.length_append, List.length_cons]
    omega

end Go.Proofs.YtalpgpjhloohfaaDoor.Eng
