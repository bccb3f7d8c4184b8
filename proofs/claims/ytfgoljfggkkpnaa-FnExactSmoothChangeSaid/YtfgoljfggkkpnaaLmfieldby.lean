/- A deterministic reading of Go code over plain data: what functions of the program compute. No conditions. -/
import Derived.Test.YtfgoljfggkkpnaaLmbase
import Derived.Test.YtfgoljfggkkpnaaLmimpl
import Derived.Test.YtfgoljfggkkpnaaLmgood
import Derived.Test.YtfgoljfggkkpnaaLmrepeat
import Derived.Test.YtfgoljfggkkpnaaEngT
namespace Go.Proofs.Ytfgoljfggkkpnaa.Eng
open Go Go.Proofs
set_option maxRecDepth 100000
set_option maxHeartbeats 2000000
set_option linter.unusedSimpArgs false
set_option linter.unusedVariables false
attribute [local simp] finK fin1 hpOf xi renQ isRoot runCode runOps Eng.step wantedV astep val ofO made loadV storeV find V.cells bin binT un1 setAt fieldAddrV fieldV indexAddrV indexV bounds sliceV convV lenV foldV max2V min2V callO bor rdsO wrsO seen_none okD_none loops keepIds resV resultsV St.ev TK.agg refs refsL refsO V.one V.isC Value.oneCell' ren renL renO noTag noTagL noTagR noTagO nodup mapO passV frs psi refsR newD loopNext opsAt idx flatAt rootOf backR newsV appendV copyV buildV fillF chunk
attribute [local simp] cT cF cX cWR cOW cK X WR OW K ints_length ints_get ints_getElem ints_drop ints_take ints_append ints_nil ints_set
attribute [local simp] ints_replicate
attribute [local simp] putV_some putV_none putH_app applyD_nil applyD_cons seen_app gc_ρ gc_H gc_tick st0_ρ st0_H st0_tick retV callRo callV_ro borL_nil borL_cons ints_snoc take_self callV_wr callWr cutH_app findQ afterV exportV_0 exportV_n okD_nil okD_cons sub_seq0 sub_seq1 sub_cond0 sub_cond1 sub_block sub_loop sub_nil young_far young_none okI ok_0 ok_1 ok_2
attribute [local simp] T3 T4 T22 T24 T26 T57 T59 T63 T67 T87 T92
def hasB (w h x y : Int) : Bool := (decide (0 ≤ x) && decide (x ≤ w - 1)) && (decide (0 ≤ y) && decide (y ≤ h - 1))
def cellOf (l : List Int) (w x y : Int) : Int := l.getD (y * w + x).toNat 0
def tabL (n : Nat) (w : Int) (g : Int → Int → Int) : List Int := (List.range n).map fun (i : Nat) => g ((i : Int).tmod w) ((i : Int) / w)
theorem tabL_length (n : Nat) (w : Int) (g : Int → Int → Int) : (tabL n w g).length = n := by simp [tabL]
theorem tabL_get (n : Nat) (w : Int) (g : Int → Int → Int) (i : Nat) (h : i < n) : (tabL n w g)[i]'(by rw [tabL_length]; exact h) = g ((i : Int).tmod w) ((i : Int) / w) := by simp [tabL]
theorem tabL_at {W N v u : Nat} (g : Int → Int → Int) (hu : u < W) (h : v * W + u < N) : (tabL N (W : Int) g)[v * W + u]'(by rw [tabL_length]; exact h) = g (u : Int) (v : Int) := by
  rw [tabL_get _ _ _ _ h]
  have e1 : ((v * W + u : Nat) : Int).tmod (W : Int) = (u : Int) := by
    show (((v * W + u) % W : Nat) : Int) = u
    rw [Nat.mul_comm, Nat.mul_add_mod, Nat.mod_eq_of_lt hu]
  have e2 : ((v * W + u : Nat) : Int) / (W : Int) = (v : Int) := by
    show (((v * W + u) / W : Nat) : Int) = v
    rw [Nat.mul_comm, Nat.mul_add_div (by omega), Nat.div_eq_of_lt hu, Nat.add_zero]
  rw [e1, e2]
theorem cell_ix {w h x y : Int} {l : List Int} (hl : (l.length : Int) = w * h) (hx : 0 ≤ x) (hx' : x < w) (hy : 0 ≤ y) (hy' : y < h) : 0 ≤ y * w + x ∧ y * w + x < l.length ∧ 0 ≤ y * w ∧ l[(y * w + x).toNat]? = some (cellOf l w x y) := by
  have h1 : 0 ≤ y * w := Int.mul_nonneg hy (by omega)
  have h2 : (y + 1) * w ≤ h * w := Int.mul_le_mul_of_nonneg_right (by omega) (by omega)
  rw [Int.add_mul, Int.mul_comm h w, Int.one_mul] at h2
  refine ⟨by omega, by omega, h1, ?_⟩
  have h3 : (y * w + x).toNat < l.length := by omega
  rw [cellOf, List.getD_eq_getElem?_getD, List.getElem?_eq_getElem h3]
  rfl
theorem c_l2At (k : Nat) (b : Bool) (w h : Int) (l : List Int) (x y : Int) (hl : (l.length : Int) = w * h) (h64 : l.length ≤ 64) (hx : 0 ≤ x) (hx' : x < w) (hy : 0 ≤ y) (hy' : y < h) (hk : 2 ≤ k) : callK C k 75 [fldV b w h l, .c (.int .i64 x), .c (.int .i64 y)] [] = some (.c (.int .i64 (cellOf l w x y)), hpOf [] []) := by
  obtain ⟨k, rfl⟩ : ∃ m, k = m + 2 := ⟨k - 2, by omega⟩
  rw [callK_fn rfl F75 code75]
  obtain ⟨h1, h2, h3, h4⟩ := cell_ix hl hx hx' hy hy'
  have w1 : IntKind.i64.wrap (y * w) = y * w := wrap_small (by omega) (by omega)
  have w2 : IntKind.i64.wrap (y * w + x) = y * w + x := wrap_small (by omega) (by omega)
  simp [R75_0, R75_1, Try.f75, fldV, w1, w2, h1, h4]
theorem c_filled (k : Nat) (w h v : Int) (hs : shapeB w h = true) (hk : 120 ≤ k) : callK C k 99 [.c (.int .i64 w), .c (.int .i64 h), .c (.int .i64 v)] [] = some (ownV w h 0 2 (w * h).toNat, hpOf [] [intsO (List.replicate (w * h).toNat v)]) := by
  obtain ⟨k, rfl⟩ : ∃ m, k = m + 2 := ⟨k - 2, by omega⟩
  rw [callK_fn rfl F99 code99]
  obtain ⟨h1, h2, h3, h4, h5, h6⟩ := shape_area hs
  have hp : 0 < w * h := Int.mul_pos (by omega) (by omega)
  have w1 : IntKind.i64.wrap (w * h) = w * h := wrap_small (by omega) (by omega)
  have hr := c_Repeat (k + 1) true v (w * h).toNat (by omega) (by omega) (by omega)
  rw [Int.toNat_of_nonneg h1, show ints [v] = [[.c (.int .i64 v)]] from rfl] at hr
  simp [intsO] at hr
  simp [R99_0, R99_1, Try.f99, w1, hr, ownV, intsO]
theorem c_fieldBy (k : Nat) (f : FuncId) (caps : List V) (w h : Int) (g : Int → Int → Int) (hs : shapeB w h = true) (hf : WR f = false) (hcaps : ∀ H, borL H caps = some caps)
    (hc : ∀ x y : Int, 0 ≤ x → x < w → 0 ≤ y → y < h → callK C (k + 8) f ([.c (.int .i64 x), .c (.int .i64 y)] ++ caps) [] = some (.c (.int .i64 (g x y)), hpOf [] [])) (hk : 300 ≤ k) :
    callK C (k + 9) 71 [.c (.int .i64 w), .c (.int .i64 h), .fn f caps] [] = some (ownV w h 0 2 (w * h).toNat, hpOf [] [intsO (tabL (w * h).toNat w g)]) := by
  rw [callK_fn rfl F71 code71]
  obtain ⟨h1, h2, h3, h4, h5, h6⟩ := shape_area hs
  have hp : 0 < w * h := Int.mul_pos (by omega) (by omega)
  obtain ⟨n, hn⟩ : ∃ n : Nat, (w * h).toNat = n := ⟨_, rfl⟩
  have hfl := c_filled (k + 8) w h 0 hs (by omega)
  rw [hn] at hfl ⊢
  simp [ownV, intsO] at hfl
  have hz := tabL_length n w g
  obtain ⟨out, ho⟩ := loopOut (body := fun st => runCode C (callK C (k + 8)) (k + 8) (K 71) L71_0 1 st) (keep := [0, 2, 6, 7, 14, 15]) (.ex 0) (fun st => st.ρ 6 = .p 16 1 3 0 0 ∧ st.ρ 7 = .p 1088 2 3 0 0 ∧
      st.H 16 = some (1, ⟨26, 3, false, [[.c (.int .i64 0), .c (.int .i64 0), .c (.slice none 0 0)]]⟩) ∧
      st.H 1088 = some (2, ⟨26, 3, false, [[.c (.int .i64 w), .c (.int .i64 h), .s 1072 2 1 0 n]]⟩) ∧
      st.H 1072 = some (2, intsO (tabL n w g)))
    (fun i st => st.ρ 0 = .c (.int .i64 w) ∧ st.ρ 2 = .fn f caps ∧ st.ρ 6 = .p 16 1 3 0 0 ∧ st.ρ 7 = .p 1088 2 3 0 0 ∧ st.ρ 14 = .c (.int .i64 (n : Int)) ∧ st.ρ 15 = .c (.int .i64 (i : Int)) ∧
      st.H 16 = some (1, ⟨26, 3, false, [[.c (.int .i64 0), .c (.int .i64 0), .c (.slice none 0 0)]]⟩) ∧
      st.H 1088 = some (2, ⟨26, 3, false, [[.c (.int .i64 w), .c (.int .i64 h), .s 1072 2 1 0 n]]⟩) ∧
      st.H 1072 = some (2, intsO (fillL (tabL n w g) (List.replicate n 0) i)))
    n (k + 8) (by omega)
    (by
      rintro i st next hi ⟨q0, q2, q6, q7, q14, q15, H16, H1088, H1072⟩ hx
      have hget := fillL_get (tabL n w g) (List.replicate n 0) i (by simp [hz]) (by omega)
      have hset := fillL_set (tabL n w g) (List.replicate n 0) i (by simp [hz]) (by omega)
      rw [tabL_get n w g i hi] at hset
      have hw0 : ¬ w = 0 := by omega
      have b1 : 0 ≤ (i : Int).tmod w := Int.tmod_nonneg w (by omega)
      have b2 : (i : Int).tmod w < w := by
        have := Int.tmod_lt_of_pos (i : Int) (by omega : 0 < w)
        exact this
      have b3 : 0 ≤ (i : Int) / w := Int.ediv_nonneg (by omega) (by omega)
      have b4 : (i : Int) / w < h := Int.ediv_lt_of_lt_mul (by omega) (by rw [Int.mul_comm]; omega)
      have w1 : IntKind.i64.wrap ((i : Int) / w) = (i : Int) / w := wrap_small (by omega) (by omega)
      have hcc := hc _ _ b1 b2 b3 b4
      simp only [List.cons_append, List.nil_append] at hcc
      simp [-WR, L71_0, R71_0, R71_1, R71_2, R71_3, R71_4, R71_5, R71_6, R71_7, Try.f71, lpL71_0, lpM71_0, M71_0, q0, q2, q6, q7, q14, q15, H16, H1088, H1072, hi, intsO, hw0, w1, hf, hcaps, hcc, hget, hset, wrap_next hi (by omega : n ≤ 9000000000000000000)]
      exact hx _ (by simp [q0, q2, q6, q7, q14, H16, H1088, intsO]))
    (by
      rintro st next ⟨q0, q2, q6, q7, q14, q15, H16, H1088, H1072⟩
      have hfa := fillL_all (tabL n w g) (List.replicate n 0) (by simp [hz])
      rw [hz] at hfa
      simp [L71_0, R71_0, R71_1, R71_2, R71_3, R71_4, R71_5, R71_6, R71_7, Try.f71, lpL71_0, lpM71_0, M71_0, q0, q2, q6, q7, q14, q15, H16, H1088, H1072, intsO, hfa])
  simp [fillL_zero, intsO] at ho
  simp [R71_0, R71_1, R71_2, R71_3, R71_4, R71_5, R71_6, R71_7, Try.f71, lpL71_0, lpM71_0, M71_0, hfl, ho, ownV, intsO, hcaps]

end Go.Proofs.Ytfgoljfggkkpnaa.Eng
