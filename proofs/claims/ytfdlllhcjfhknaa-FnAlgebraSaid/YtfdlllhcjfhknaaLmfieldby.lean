/- A deterministic reading of Go code over plain data: what functions of the program compute. No conditions. -/
import Derived.Test.YtfdlllhcjfhknaaLmbase
import Derived.Test.YtfdlllhcjfhknaaLmimpl
import Derived.Test.YtfdlllhcjfhknaaLmgood
import Derived.Test.YtfdlllhcjfhknaaLmrepeat
import Derived.Test.YtfdlllhcjfhknaaEngT
namespace Go.Proofs.Ytfdlllhcjfhknaa.Eng
open Go Go.Proofs
set_option maxRecDepth 100000
set_option maxHeartbeats 2000000
set_option linter.unusedSimpArgs false
set_option linter.unusedVariables false
attribute [local simp] finK fin1 hpOf xi renQ isRoot runCode runOps Eng.step wantedV astep val ofO made loadV storeV find V.cells bin binT un1 setAt fieldAddrV fieldV indexAddrV indexV bounds sliceV convV lenV foldV max2V min2V callO bor rdsO wrsO seen_none okD_none loops keepIds resV resultsV St.ev TK.agg refs refsL refsO V.one V.isC Value.oneCell' ren renL renO noTag noTagL noTagR noTagO nodup mapO passV frs psi refsR newD loopNext opsAt idx flatAt rootOf backR newsV appendV copyV clearV strV bytesOf nilCmp buildV fillF chunk
attribute [local simp] cT cF cX cWR cOW cK X ints_length ints_get ints_getElem ints_drop ints_take ints_append ints_nil ints_set
attribute [local simp] ints_replicate
attribute [local simp] putV_some putV_none putH_app applyD_nil applyD_cons seen_app gc_ρ gc_H gc_tick st0_ρ st0_H st0_tick retV callRo callV_if borL_nil borL_cons ints_snoc take_self callWr cutH_app findQ afterV exportV_0 exportV_n okD_nil okD_cons sub_seq0 sub_seq1 sub_cond0 sub_cond1 sub_block sub_loop sub_nil young_far young_none hidW_nil mayW_nil pairs okI ok_0 ok_1 ok_2
attribute [local simp] T3 T4 T5 T9 T22 T24 T26 T29 T36 T73 T75 T86 T89 T103 T104 T106 T108 T109 T111 T114 T118 T134 T136 T157 T161 T168
def hasB (w h x y : Int) : Bool := (decide (0 ≤ x) && decide (x ≤ w - 1)) && (decide (0 ≤ y) && decide (y ≤ h - 1))
def cellOf (l : List Int) (w x y : Int) : Int := l.getD (y * w + x).toNat 0
def tabL (n : Nat) (w : Int) (g : Int → Int → Int) : List Int := (List.range n).map fun (i : Nat) => g ((i : Int).tmod w) ((i : Int) / w)
theorem tabL_length (n : Nat) (w : Int) (g : Int → Int → Int) : (tabL n w g).length = n := by simp [tabL]
theorem tabL_get (n : Nat) (w : Int) (g : Int → Int → Int) (i : Nat) (h : i < n) : (tabL n w g)[i]'(by rw [tabL_length]; exact h) = g ((i : Int).tmod w) ((i : Int) / w) := by simp [tabL]
theorem tabL_at {W N v u : Nat} (g : Int → Int → Int) (hu : u < W) (h : v * W + u < N) : (tabL N (W : Int) g)[v * W + u]'(by rw [tabL_length]; exact h) = g (u : Int) (v : Int) := by
  rw [tabL_get _ _ _ _ h]
  have e1 : ((v * W + u : Nat) : Int).tmod (W : Int) = (u : Int) := by
    show (((v * W + u) % W : Nat) : Int) = u
    rw [Nat.mul_comm, Nat.mul_add_mod, Nat.mod_eq_of_lt hu]
  have e2 : ((v * W + u : Nat) : Int) / (W : Int) = (v : Int) := by
    show (((v * W + u) / W : Nat) : Int) = v
    rw [Nat.mul_comm, Nat.mul_add_div (by omega), Nat.div_eq_of_lt hu, Nat.add_zero]
  rw [e1, e2]
theorem cell_ix {w h x y : Int} {l : List Int} (hl : (l.length : Int) = w * h) (hx : 0 ≤ x) (hx' : x < w) (hy : 0 ≤ y) (hy' : y < h) : 0 ≤ y * w + x ∧ y * w + x < l.length ∧ 0 ≤ y * w ∧ l[(y * w + x).toNat]? = some (cellOf l w x y) := by
  have h1 : 0 ≤ y * w := Int.mul_nonneg hy (by omega)
  have h2 : (y + 1) * w ≤ h * w := Int.mul_le_mul_of_nonneg_right (by omega) (by omega)
  rw [Int.add_mul, Int.mul_comm h w, Int.one_mul] at h2
  refine ⟨by omega, by omega, h1, ?_⟩
  have h3 : (y * w + x).toNat < l.length := by omega
  rw [cellOf, List.getD_eq_getElem?_getD, List.getElem?_eq_getElem h3]
  rfl
theorem c_l2Has (k : Nat) (b : Bool) (w h : Int) (l : List Int) (x y : Int) (hw : 1 ≤ w ∧ w ≤ 8) (hh : 1 ≤ h ∧ h ≤ 8) (hk : 2 ≤ k) : callK C k 127 [fldV b w h l, .c (.int .i64 x), .c (.int .i64 y)] [] = some (.c (.bool (hasB w h x y)), hpOf [] []) := by
  obtain ⟨k, rfl⟩ : ∃ m, k = m + 2 := ⟨k - 2, by omega⟩
  rw [callK_fn rfl F127 code127]
  have w1 : IntKind.i64.wrap (w - 1) = w - 1 := wrap_small (by omega) (by omega)
  have w2 : IntKind.i64.wrap (h - 1) = h - 1 := wrap_small (by omega) (by omega)
  have h1 := c_l1In (k + 1) x 0 (w - 1) (by omega)
  have h2 := c_l1In (k + 1) y 0 (h - 1) (by omega)
  unfold hasB
  cases e : (decide (0 ≤ x) && decide (x ≤ w - 1))
  · rw [e] at h1
    simp [R127_0, R127_1, Try.f127, fldV, w1, h1]
  · rw [e] at h1
    simp [R127_0, R127_1, Try.f127, fldV, w1, w2, h1, h2]
theorem c_hasCell (k : Nat) (b : Bool) (w h : Int) (l : List Int) (x y : Int) (hw : 1 ≤ w ∧ w ≤ 8) (hh : 1 ≤ h ∧ h ≤ 8) (hk : 2 ≤ k) : callK C k 124 [fldV b w h l, .c (.int .i64 x), .c (.int .i64 y)] [] = some (.c (.bool (hasB w h x y)), hpOf [] []) := by
  obtain ⟨k, rfl⟩ : ∃ m, k = m + 2 := ⟨k - 2, by omega⟩
  rw [callK_fn rfl F124 code124]
  have w1 : IntKind.i64.wrap (w - 1) = w - 1 := wrap_small (by omega) (by omega)
  have w2 : IntKind.i64.wrap (h - 1) = h - 1 := wrap_small (by omega) (by omega)
  have h1 := c_within (k + 1) x 0 (w - 1) (by omega)
  have h2 := c_within (k + 1) y 0 (h - 1) (by omega)
  unfold hasB
  cases e : (decide (0 ≤ x) && decide (x ≤ w - 1))
  · rw [e] at h1
    simp [R124_0, R124_1, Try.f124, fldV, w1, h1]
  · rw [e] at h1
    simp [R124_0, R124_1, Try.f124, fldV, w1, w2, h1, h2]
theorem c_isShape (k : Nat) (x y : Int) (hk : 2 ≤ k) : callK C k 123 [.c (.int .i64 x), .c (.int .i64 y)] [] = some (.c (.bool (shapeB x y)), hpOf [] []) := by
  obtain ⟨k, rfl⟩ : ∃ m, k = m + 2 := ⟨k - 2, by omega⟩
  rw [callK_fn rfl F123 code123]
  have h1 := c_within (k + 1) x 1 8 (by omega)
  have h2 := c_within (k + 1) y 1 8 (by omega)
  unfold shapeB
  cases e : (decide (1 ≤ x) && decide (x ≤ 8))
  · rw [e] at h1
    simp [R123_0, R123_1, Try.f123, h1]
  · rw [e] at h1
    simp [R123_0, R123_1, Try.f123, h1, h2]
theorem c_l2At (k : Nat) (b : Bool) (w h : Int) (l : List Int) (x y : Int) (hl : (l.length : Int) = w * h) (h64 : l.length ≤ 64) (hx : 0 ≤ x) (hx' : x < w) (hy : 0 ≤ y) (hy' : y < h) (hk : 2 ≤ k) : callK C k 95 [fldV b w h l, .c (.int .i64 x), .c (.int .i64 y)] [] = some (.c (.int .i64 (cellOf l w x y)), hpOf [] []) := by
  obtain ⟨k, rfl⟩ : ∃ m, k = m + 2 := ⟨k - 2, by omega⟩
  rw [callK_fn rfl F95 code95]
  obtain ⟨h1, h2, h3, h4⟩ := cell_ix hl hx hx' hy hy'
  have w1 : IntKind.i64.wrap (y * w) = y * w := wrap_small (by omega) (by omega)
  have w2 : IntKind.i64.wrap (y * w + x) = y * w + x := wrap_small (by omega) (by omega)
  simp [R95_0, R95_1, Try.f95, fldV, w1, w2, h1, h4]
theorem c_filled (k : Nat) (w h v : Int) (hs : shapeB w h = true) (hk : 120 ≤ k) : callK C k 175 [.c (.int .i64 w), .c (.int .i64 h), .c (.int .i64 v)] [] = some (ownV w h 0 2 (w * h).toNat, hpOf [] [intsO (List.replicate (w * h).toNat v)]) := by
  obtain ⟨k, rfl⟩ : ∃ m, k = m + 2 := ⟨k - 2, by omega⟩
  rw [callK_fn rfl F175 code175]
  obtain ⟨h1, h2, h3, h4, h5, h6⟩ := shape_area hs
  have hp : 0 < w * h := Int.mul_pos (by omega) (by omega)
  have w1 : IntKind.i64.wrap (w * h) = w * h := wrap_small (by omega) (by omega)
  have hr := c_Repeat (k + 1) true v (w * h).toNat (by omega) (by omega) (by omega)
  rw [Int.toNat_of_nonneg h1, show ints [v] = [[.c (.int .i64 v)]] from rfl] at hr
  simp [intsO] at hr
  simp [R175_0, R175_1, Try.f175, w1, hr, ownV, intsO]
theorem c_fieldBy (k : Nat) (f : FuncId) (caps : List V) (w h : Int) (g : Int → Int → Int) (hs : shapeB w h = true) (hf : WR f = false) (hcaps : ∀ H, borL H caps = some caps)
    (hc : ∀ x y : Int, 0 ≤ x → x < w → 0 ≤ y → y < h → callK C (k + 8) f ([.c (.int .i64 x), .c (.int .i64 y)] ++ caps) [] = some (.c (.int .i64 (g x y)), hpOf [] [])) (hk : 300 ≤ k) :
    callK C (k + 9) 125 [.c (.int .i64 w), .c (.int .i64 h), .fn f caps] [] = some (ownV w h 0 2 (w * h).toNat, hpOf [] [intsO (tabL (w * h).toNat w g)]) := by
  rw [callK_fn rfl F125 code125]
  obtain ⟨h1, h2, h3, h4, h5, h6⟩ := shape_area hs
  have hp : 0 < w * h := Int.mul_pos (by omega) (by omega)
  obtain ⟨n, hn⟩ : ∃ n : Nat, (w * h).toNat = n := ⟨_, rfl⟩
  have hfl := c_filled (k + 8) w h 0 hs (by omega)
  rw [hn] at hfl ⊢
  simp [ownV, intsO] at hfl
  have hz := tabL_length n w g
  obtain ⟨out, ho⟩ := loopOut (body := fun st => runCode C (callK C (k + 8)) (k + 8) (K 125) L125_0 1 st) (keep := [0, 2, 6, 7, 14, 15]) (.ex 0) (fun st => st.ρ 6 = .p 16 1 3 0 0 ∧ st.ρ 7 = .p 1088 2 3 0 0 ∧
      st.H 16 = some (1, ⟨29, 3, false, [[.c (.int .i64 0), .c (.int .i64 0), .c (.slice none 0 0)]]⟩) ∧
      st.H 1088 = some (2, ⟨29, 3, false, [[.c (.int .i64 w), .c (.int .i64 h), .s 1072 2 1 0 n]]⟩) ∧
      st.H 1072 = some (2, intsO (tabL n w g)))
    (fun i st => st.ρ 0 = .c (.int .i64 w) ∧ st.ρ 2 = .fn f caps ∧ st.ρ 6 = .p 16 1 3 0 0 ∧ st.ρ 7 = .p 1088 2 3 0 0 ∧ st.ρ 14 = .c (.int .i64 (n : Int)) ∧ st.ρ 15 = .c (.int .i64 (i : Int)) ∧
      st.H 16 = some (1, ⟨29, 3, false, [[.c (.int .i64 0), .c (.int .i64 0), .c (.slice none 0 0)]]⟩) ∧
      st.H 1088 = some (2, ⟨29, 3, false, [[.c (.int .i64 w), .c (.int .i64 h), .s 1072 2 1 0 n]]⟩) ∧
      st.H 1072 = some (2, intsO (fillL (tabL n w g) (List.replicate n 0) i)))
    n (k + 8) (by omega)
    (by
      rintro i st next hi ⟨q0, q2, q6, q7, q14, q15, H16, H1088, H1072⟩ hx
      have hget := fillL_get (tabL n w g) (List.replicate n 0) i (by simp [hz]) (by omega)
      have hset := fillL_set (tabL n w g) (List.replicate n 0) i (by simp [hz]) (by omega)
      rw [tabL_get n w g i hi] at hset
      have hw0 : ¬ w = 0 := by omega
      have b1 : 0 ≤ (i : Int).tmod w := Int.tmod_nonneg w (by omega)
      have b2 : (i : Int).tmod w < w := by
        have := Int.tmod_lt_of_pos (i : Int) (by omega : 0 < w)
        exact this
      have b3 : 0 ≤ (i : Int) / w := Int.ediv_nonneg (by omega) (by omega)
      have b4 : (i : Int) / w < h := Int.ediv_lt_of_lt_mul (by omega) (by rw [Int.mul_comm]; omega)
      have w1 : IntKind.i64.wrap ((i : Int) / w) = (i : Int) / w := wrap_small (by omega) (by omega)
      have hcc := hc _ _ b1 b2 b3 b4
      simp only [List.cons_append, List.nil_append] at hcc
      simp [L125_0, R125_0, R125_1, R125_2, R125_3, R125_4, R125_5, R125_6, R125_7, Try.f125, lpL125_0, lpM125_0, M125_0, q0, q2, q6, q7, q14, q15, H16, H1088, H1072, hi, intsO, hw0, w1, hf, hcaps, hcc, hget, hset, wrap_next hi (by omega : n ≤ 9000000000000000000)]
      exact hx _ (by simp [q0, q2, q6, q7, q14, H16, H1088, intsO]))
    (by
      rintro st next ⟨q0, q2, q6, q7, q14, q15, H16, H1088, H1072⟩
      have hfa := fillL_all (tabL n w g) (List.replicate n 0) (by simp [hz])
      rw [hz] at hfa
      simp [L125_0, R125_0, R125_1, R125_2, R125_3, R125_4, R125_5, R125_6, R125_7, Try.f125, lpL125_0, lpM125_0, M125_0, q0, q2, q6, q7, q14, q15, H16, H1088, H1072, intsO, hfa])
  simp [fillL_zero, intsO] at ho
  simp [R125_0, R125_1, R125_2, R125_3, R125_4, R125_5, R125_6, R125_7, Try.f125, lpL125_0, lpM125_0, M125_0, hfl, ho, ownV, intsO, hcaps]

end Go.Proofs.Ytfdlllhcjfhknaa.Eng
