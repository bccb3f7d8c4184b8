/- A deterministic reading of Go code over plain data: what functions of the program compute. No conditions. -/
import Derived.Test.YtllneakafpldjaaLmbase
import Derived.Test.YtllneakafpldjaaLmimpl
import Derived.Test.YtllneakafpldjaaLmimplc
import Derived.Test.YtllneakafpldjaaLmgood
import Derived.Test.YtllneakafpldjaaLmspec
import Derived.Test.YtllneakafpldjaaLmcombfrom
import Derived.Test.YtllneakafpldjaaLmminmax
import Derived.Test.YtllneakafpldjaaEngT
namespace Go.Proofs.Ytllneakafpldjaa.Eng
open Go Go.Proofs
set_option maxRecDepth 100000
set_option maxHeartbeats 2000000
set_option linter.unusedSimpArgs false
set_option linter.unusedVariables false
attribute [local simp] finK fin1 hpOf xi renQ isRoot runCode runOps Eng.step wantedV astep val ofO made loadV storeV find V.cells bin binT binA numT numFs eqCells un1 setAt fieldAddrV fieldV indexAddrV indexV bounds sliceV convV lenV foldV max2V min2V callO bor rdsO wrsO seen_none okD_none loops keepIds resV resultsV St.ev TK.agg refs refsL refsO V.one V.isC Value.oneCell' ren renL renO noTag noTagL noTagR noTagO nodup mapO passV frs psi refsR newD loopNext opsAt idx flatAt rootOf backR newsV appendV copyV clearV strV bytesV bldV bufV selfV bytesOf nilCmp buildV fillF chunk
attribute [local simp] cT cF cX cWR cOW cK cBL X ints_length ints_get ints_getElem ints_drop ints_take ints_append ints_nil ints_set
attribute [local simp] ints_replicate
attribute [local simp] putV_some putV_none putH_app applyD_nil applyD_cons seen_app gc_ρ gc_H gc_tick st0_ρ st0_H st0_tick retV callRo callV_if borL_nil borL_cons ints_snoc take_self callWr cutH_app findQ afterV exportV_0 exportV_n okD_nil okD_cons sub_seq0 sub_seq1 sub_cond0 sub_cond1 sub_block sub_loop sub_nil young_far young_none hidW_nil mayW_nil pairs okI ok_0 ok_1 ok_2
attribute [local simp] T3 T4 T22 T24 T35 T37
def opG (op x y : Int) : Int := if op = 1 then x + y else if op = 2 then x - y else if op = 3 then (if x < y then x else y) else (if x > y then x else y)
def missB (x y : Int) : Bool := x == -9999 || y == -9999
def specG (op x y : Int) : Int := if missB x y then -9999 else opG op x y
def okE (op x y : Int) : Bool := missB x y || (decide (-9000 ≤ opG op x y) && decide (opG op x y ≤ 9000))
theorem opG_bound {op x y : Int} (hx : cellB x = true) (hy : cellB y = true) : -20000 ≤ opG op x y ∧ opG op x y ≤ 20000 := by
  have := cell_bound hx
  have := cell_bound hy
  unfold opG
  split <;> try split <;> try split <;> try split
  all_goals omega
theorem comb_ok {op x y : Int} (hx : cellB x = true) (hy : cellB y = true) : cellB (combG op x y) = okE op x y ∧ (okE op x y = true → combG op x y = specG op x y) := by
  have bx := hx
  have by' := hy
  simp only [cellB, Bool.or_eq_true, beq_iff_eq, Bool.and_eq_true, decide_eq_true_eq] at bx by'
  by_cases h : x = -9999
  · simp [combG, okE, specG, missB, h, cellB]
  by_cases h' : y = -9999
  · simp [combG, okE, specG, missB, h, h', cellB]
  have key : cellB (combG op x y) = (decide (-9000 ≤ opG op x y) && decide (opG op x y ≤ 9000)) ∧ ((decide (-9000 ≤ opG op x y) && decide (opG op x y ≤ 9000)) = true → combG op x y = opG op x y) := by
    rw [Bool.eq_iff_iff]
    simp only [cellB, Bool.or_eq_true, beq_iff_eq, Bool.and_eq_true, decide_eq_true_eq]
    simp only [combG, h, h', or_self, if_false, opG, ckI]
    split
    · split <;> omega
    split
    · split <;> omega
    split
    · split <;> split <;> omega
    · split <;> split <;> omega
  have e0 : okE op x y = (decide (-9000 ≤ opG op x y) && decide (opG op x y ≤ 9000)) := by
    have e1 : missB x y = false := by simp [missB, h, h']
    simp [okE, e1]
  refine ⟨by rw [e0]; exact key.1, fun ho => ?_⟩
  rw [key.2 (by rw [← e0]; exact ho)]
  simp [specG, missB, h, h']
def okL (op : Int) : List Int → List Int → Bool
  | x :: l, y :: m => okE op x y && okL op l m
  | _, _ => true
theorem okL_snoc (op : Int) : ∀ (l m : List Int) (x y : Int), l.length = m.length → okL op (l ++ [x]) (m ++ [y]) = (okL op l m && okE op x y)
  | [], [], x, y, _ => by simp [okL]
  | a :: l, b :: m, x, y, h => by
    simp only [List.cons_append, okL, okL_snoc op l m x y (by simpa using h), Bool.and_assoc]
theorem comb_all (op : Int) : ∀ (l m : List Int), l.length = m.length → l.all cellB = true → m.all cellB = true → (List.zipWith (combG op) l m).all cellB = okL op l m ∧ (okL op l m = true → List.zipWith (combG op) l m = List.zipWith (specG op) l m)
  | [], [], _, _, _ => by simp [okL]
  | x :: l, y :: m, h, hl, hm => by
    simp only [List.all_cons, Bool.and_eq_true] at hl hm
    obtain ⟨i1, i2⟩ := comb_all op l m (by simpa using h) hl.2 hm.2
    obtain ⟨c1, c2⟩ := comb_ok (op := op) hl.1 hm.1
    simp only [List.zipWith_cons_cons, List.all_cons, okL, i1, c1, true_and, Bool.and_eq_true]
    intro ⟨h1, h2⟩
    rw [c2 h1, i2 h2]
theorem c_l4Op (k : Nat) (op x y : Int) (hk : 2 ≤ k) (hx : cellB x = true) (hy : cellB y = true) : callK C k 22 [.c (.int .i64 op), .c (.int .i64 x), .c (.int .i64 y)] [] = some (.c (.int .i64 (opG op x y)), hpOf [] []) := by
  obtain ⟨k, rfl⟩ : ∃ m, k = m + 2 := ⟨k - 2, by omega⟩
  rw [callK_fn rfl F22 code22]
  have bx := cell_bound hx
  have by' := cell_bound hy
  have w1 : IntKind.i64.wrap (x + y) = x + y := wrap_small (by omega) (by omega)
  have w2 : IntKind.i64.wrap (x - y) = x - y := wrap_small (by omega) (by omega)
  have c1 := c_l1Most (k + 1) x y (by omega)
  have c2 := c_l1Least (k + 1) x y (by omega)
  unfold opG
  by_cases o1 : op = 1
  · simp [R22_0, R22_1, R22_2, R22_3, R22_4, R22_5, R22_6, R22_7, R22_8, Try.f22, o1, w1]
  have o1' : (op == 1) = false := by simpa using o1
  by_cases o2 : op = 2
  · simp [R22_0, R22_1, R22_2, R22_3, R22_4, R22_5, R22_6, R22_7, R22_8, Try.f22, o1, o1', o2, w2]
  have o2' : (op == 2) = false := by simpa using o2
  by_cases o3 : op = 3
  · simp [R22_0, R22_1, R22_2, R22_3, R22_4, R22_5, R22_6, R22_7, R22_8, Try.f22, o1, o1', o2, o2', o3, c2]
  have o3' : (op == 3) = false := by simpa using o3
  simp [R22_0, R22_1, R22_2, R22_3, R22_4, R22_5, R22_6, R22_7, R22_8, Try.f22, o1, o1', o2, o2', o3, o3', c1]
theorem opIn (op : Int) : (decide (1 ≤ op) && decide (op ≤ 4)) = true ∨ (decide (1 ≤ op) && decide (op ≤ 4)) = false := by cases (decide (1 ≤ op) && decide (op ≤ 4)) <;> simp

end Go.Proofs.Ytllneakafpldjaa.Eng
