/- A deterministic reading of Go code over plain data: what functions of the program compute. No conditions. -/
import Derived.Test.YtemkckldfmpplaaLmbase
import Derived.Test.YtemkckldfmpplaaLmimpl
import Derived.Test.YtemkckldfmpplaaLmgood
import Derived.Test.YtemkckldfmpplaaLmrepeat
import Derived.Test.YtemkckldfmpplaaEngT
namespace Go.Proofs.Ytemkckldfmpplaa.Eng
open Go Go.Proofs
set_option maxRecDepth 100000
set_option maxHeartbeats 2000000
set_option linter.unusedSimpArgs false
set_option linter.unusedVariables false
attribute [local simp] finK fin1 hpOf xi renQ isRoot runCode runOps stepX inlOf Eng.step wantedV astep val ofO made loadV storeV find V.cells bin binT binA numT numFs eqCells un1 setAt fieldAddrV fieldV indexAddrV indexV bounds sliceV convV lenV foldV max2V min2V callO bor rdsO wrsO seen_none okD_none loops keepIds resV resultsV St.ev TK.agg refs refsL refsO V.one V.isC Value.oneCell' ren renL renO noTag noTagL noTagR noTagO nodup mapO passV frs psi refsR newD loopNext opsAt idx flatAt rootOf backR newsV appendV copyV clearV strV bytesV bldV bufV selfV bytesOf nilCmp buildV fillF chunk
attribute [local simp] cT cF cX cWR cOW cK cBL X ints_length ints_get ints_getElem ints_drop ints_take ints_append ints_nil ints_set
attribute [local simp] ints_replicate
attribute [local simp] putV_some putV_none putH_app applyD_nil applyD_cons seen_app gc_ρ gc_H gc_tick st0_ρ st0_H st0_tick retV callRo callV_if borL_nil borL_cons ints_snoc take_self callWr cutH_app findQ afterV exportV_0 exportV_n okD_nil okD_cons sub_seq0 sub_seq1 sub_cond0 sub_cond1 sub_block sub_loop sub_nil young_far young_none hidW_nil mayW_nil pairs okI ok_0 ok_1 ok_2
attribute [local simp] T3 T4 T22 T24 T26 T29 T44
def hasB (w h x y : Int) : Bool := (decide (0 ≤ x) && decide (x ≤ w - 1)) && (decide (0 ≤ y) && decide (y ≤ h - 1))
def cellOf (l : List Int) (w x y : Int) : Int := l.getD (y * w + x).toNat 0
def tabL (n : Nat) (w : Int) (g : Int → Int → Int) : List Int := (List.range n).map fun (i : Nat) => g ((i : Int).tmod w) ((i : Int) / w)
theorem tabL_length (n : Nat) (w : Int) (g : Int → Int → Int) : (tabL n w g).length = n := by simp [tabL]
theorem tabL_get (n : Nat) (w : Int) (g : Int → Int → Int) (i : Nat) (h : i < n) : (tabL n w g)[i]'(by rw [tabL_length]; exact h) = g ((i : Int).tmod w) ((i : Int) / w) := by simp [tabL]
theorem tabL_at {W N v u : Nat} (g : Int → Int → Int) (hu : u < W) (h : v * W + u < N) : (tabL N (W : Int) g)[v * W + u]'(by rw [tabL_length]; exact h) = g (u : Int) (v : Int) := by
  rw [tabL_get _ _ _ _ h]
  have e1 : ((v * W + u : Nat) : Int).tmod (W : Int) = (u : Int) := by
    show (((v * W + u) % W : Nat) : Int) = u
    rw [Nat.mul_comm, Nat.mul_add_mod, Nat.mod_eq_of_lt hu]
  have e2 : ((v * W + u : Nat) : Int) / (W : Int) = (v : Int) := by
    show (((v * W + u) / W : Nat) : Int) = v
    rw [Nat.mul_comm, Nat.mul_add_div (by omega), Nat.div_eq_of_lt hu, Nat.add_zero]
  rw [e1, e2]
theorem cell_ix {w h x y : Int} {l : List Int} (hl : (l.length : Int) = w * h) (hx : 0 ≤ x) (hx' : x < w) (hy : 0 ≤ y) (hy' : y < h) : 0 ≤ y * w + x ∧ y * w + x < l.length ∧ 0 ≤ y * w ∧ l[(y * w + x).toNat]? = some (cellOf l w x y) := by
  have h1 : 0 ≤ y * w := Int.mul_nonneg hy (by omega)
  have h2 : (y + 1) * w ≤ h * w := Int.mul_le_mul_of_nonneg_right (by omega) (by omega)
  rw [Int.add_mul, Int.mul_comm h w, Int.one_mul] at h2
  refine ⟨by omega, by omega, h1, ?_⟩
  have h3 : (y * w + x).toNat < l.length := by omega
  rw [cellOf, List.getD_eq_getElem?_getD, List.getElem?_eq_getElem h3]
  rfl
theorem c_l2At (k : Nat) (b : Bool) (w h : Int) (l : List Int) (x y : Int) (hl : (l.length : Int) = w * h) (h64 : l.length ≤ 64) (hx : 0 ≤ x) (hx' : x < w) (hy : 0 ≤ y) (hy' : y < h) (hk : 2 ≤ k) : callK C k 16 [fldV b w h l, .c (.int .i64 x), .c (.int .i64 y)] [] = some (.c (.int .i64 (cellOf l w x y)), hpOf [] []) := by
  obtain ⟨k, rfl⟩ : ∃ m, k = m + 2 := ⟨k - 2, by omega⟩
  rw [callK_fn rfl F16 code16]
  obtain ⟨h1, h2, h3, h4⟩ := cell_ix hl hx hx' hy hy'
  have w1 : IntKind.i64.wrap (y * w) = y * w := wrap_small (by omega) (by omega)
  have w2 : IntKind.i64.wrap (y * w + x) = y * w + x := wrap_small (by omega) (by omega)
  simp [R16_0, R16_1, Try.f16, fldV, w1, w2, h1, h4]

end Go.Proofs.Ytemkckldfmpplaa.Eng
