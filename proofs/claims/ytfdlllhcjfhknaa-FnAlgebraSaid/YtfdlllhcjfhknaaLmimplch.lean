/- A deterministic reading of Go code over plain data: what functions of the program compute. No conditions. -/
import Derived.Test.YtfdlllhcjfhknaaLmbase
import Derived.Test.YtfdlllhcjfhknaaLmimpl
import Derived.Test.YtfdlllhcjfhknaaLmimplc
import Derived.Test.YtfdlllhcjfhknaaLmgood
import Derived.Test.YtfdlllhcjfhknaaLmcombined
import Derived.Test.YtfdlllhcjfhknaaLmspec
import Derived.Test.YtfdlllhcjfhknaaLmminmax
import Derived.Test.YtfdlllhcjfhknaaLmchanged
import Derived.Test.YtfdlllhcjfhknaaLmspeclp
import Derived.Test.YtfdlllhcjfhknaaEngT
namespace Go.Proofs.Ytfdlllhcjfhknaa.Eng
open Go Go.Proofs
set_option maxRecDepth 100000
set_option maxHeartbeats 2000000
set_option linter.unusedSimpArgs false
set_option linter.unusedVariables false
attribute [local simp] finK fin1 hpOf xi renQ isRoot runCode runOps Eng.step wantedV astep val ofO made loadV storeV find V.cells bin binT un1 setAt fieldAddrV fieldV indexAddrV indexV bounds sliceV convV lenV foldV max2V min2V callO bor rdsO wrsO seen_none okD_none loops keepIds resV resultsV St.ev TK.agg refs refsL refsO V.one V.isC Value.oneCell' ren renL renO noTag noTagL noTagR noTagO nodup mapO passV frs psi refsR newD loopNext opsAt idx flatAt rootOf backR newsV appendV copyV clearV strV bytesOf nilCmp buildV fillF chunk
attribute [local simp] cT cF cX cWR cOW cK X ints_length ints_get ints_getElem ints_drop ints_take ints_append ints_nil ints_set
attribute [local simp] ints_replicate
attribute [local simp] putV_some putV_none putH_app applyD_nil applyD_cons seen_app gc_ρ gc_H gc_tick st0_ρ st0_H st0_tick retV callRo callV_if borL_nil borL_cons ints_snoc take_self callWr cutH_app findQ afterV exportV_0 exportV_n okD_nil okD_cons sub_seq0 sub_seq1 sub_cond0 sub_cond1 sub_block sub_loop sub_nil young_far young_none hidW_nil mayW_nil pairs okI ok_0 ok_1 ok_2
attribute [local simp] T3 T4 T5 T9 T22 T24 T26 T29 T36 T73 T75 T86 T89 T103 T104 T106 T108 T109 T111 T114 T118 T134 T136 T157 T161 T168
attribute [local simp] young_near clo cloF Region.binds Nat.testBit hidW declW mayW
theorem borB (H : Hp) (l : List V) (h : mapO (bor H 3) l = some l) : bor H 4 (.bx true l) = some (.bx true l) := rfl
theorem c_Exceeds1 (k : Nat) (x lim : Int) (hk : 1 ≤ k) : callK C k 207 [.c (.int .i64 x), .bx true [.c (.int .i64 lim)]] [] = some (.c (.int .i64 (exG lim x)), hpOf [] []) := by
  obtain ⟨k, rfl⟩ : ∃ m, k = m + 1 := ⟨k - 1, by omega⟩
  rw [callK_fn rfl F207 code207]
  unfold exG
  by_cases h : lim < x <;> simp [R207_0, R207_1, R207_2, R207_3, Try.f207, h]
theorem good_chg {g : Int → Int} {w h : Int} {l : List Int} (hg : goodB w h l = true) (hc : ∀ x, cellB x = true → x ≠ -9999 → cellB (g x) = true) : goodB w h (chgM g l) = true := by
  obtain ⟨s1, n1, cl1, k1⟩ := good_length hg
  unfold goodB
  rw [s1, chgM_length]
  simp only [Bool.true_and, Bool.and_eq_true, beq_iff_eq]
  refine ⟨n1, ?_⟩
  rw [List.all_eq_true] at cl1 ⊢
  intro x hx
  obtain ⟨y, hy, rfl⟩ := List.mem_map.1 hx
  by_cases e : y = -9999
  · rw [if_pos e]; exact cl1 y hy
  · rw [if_neg e]; exact hc y (cl1 y hy) e
theorem cellB_iff (x : Int) : cellB x = true ↔ x = -9999 ∨ (-9000 ≤ x ∧ x ≤ 9000) := by
  simp [cellB]
theorem ex_cell (lim x : Int) (_ : cellB x = true) (_ : x ≠ -9999) : cellB (exG lim x) = true := by
  rw [cellB_iff]
  unfold exG
  split <;> omega
theorem c_implExceeds (k : Nat) (b : Bool) (w h : Int) (l : List Int) (lim : Int) (hk : 700 ≤ k) : callK C k 192 [fldV b w h l, .c (.int .i64 lim)] [] = optV (goodB w h l) w h (chgM (exG lim) l) := by
  obtain ⟨k, rfl⟩ : ∃ m, k = m + 20 := ⟨k - 20, by omega⟩
  rw [callK_fn rfl F192 code192]
  cases hg : goodB w h l
  · have hc := c_changedNo (k + 19) b 207 [.bx true [.c (.int .i64 lim)]] w h l rfl (fun H => rfl) hg (by omega)
    simp [fldV, nilV] at hc
    simp [R192_0, R192_1, Try.f192, fldV, hc, optV, nilV]
  · have hc := c_changed (k + 10) b 207 [.bx true [.c (.int .i64 lim)]] w h l (exG lim) rfl (fun H => rfl) (fun x hx hm => c_Exceeds1 (k + 18) x lim (by omega)) hg (by omega)
    rw [good_chg hg (ex_cell lim)] at hc
    have hz := chgM_length (exG lim) l
    simp [fldV, optV, ownV, intsO] at hc
    simp [R192_0, R192_1, Try.f192, fldV, hc, optV, ownV, intsO, hz]
theorem c_Clip1 (k : Nat) (x lo hi : Int) (hk : 1 ≤ k) : callK C k 146 [.c (.int .i64 x), .bx true [.c (.int .i64 lo)], .bx true [.c (.int .i64 hi)]] [] = some (.c (.int .i64 (clG lo hi x)), hpOf [] []) := by
  obtain ⟨k, rfl⟩ : ∃ m, k = m + 1 := ⟨k - 1, by omega⟩
  rw [callK_fn rfl F146 code146]
  have e : (if lo < (if x < hi then x else hi) then (if x < hi then x else hi) else lo) = clG lo hi x := by
    unfold clG
    split <;> split <;> split <;> split <;> omega
  simp [R146_0, R146_1, Try.f146, e]
theorem cl_cell (lo hi x : Int) (hc : clB lo hi = true) (_ : cellB x = true) (_ : x ≠ -9999) : cellB (clG lo hi x) = true := by
  simp only [clB, Bool.and_eq_true, decide_eq_true_eq] at hc
  rw [cellB_iff]
  unfold clG
  split <;> split <;> omega
theorem c_implClip (k : Nat) (b : Bool) (w h : Int) (l : List Int) (lo hi : Int) (hk : 700 ≤ k) : callK C k 61 [fldV b w h l, .c (.int .i64 lo), .c (.int .i64 hi)] [] = optV (goodB w h l && clB lo hi) w h (chgM (clG lo hi) l) := by
  obtain ⟨k, rfl⟩ : ∃ m, k = m + 20 := ⟨k - 20, by omega⟩
  rw [callK_fn rfl F61 code61]
  have i1 := c_within (k + 19) lo (-9000) 9000 (by omega)
  have i2 := c_within (k + 19) hi (-9000) 9000 (by omega)
  cases hb : clB lo hi
  · simp only [clB] at hb
    obtain ⟨a, ha⟩ : ∃ a, (decide (-9000 ≤ lo) && decide (lo ≤ 9000)) = a := ⟨_, rfl⟩
    obtain ⟨c, hcc⟩ : ∃ a, (decide (-9000 ≤ hi) && decide (hi ≤ 9000)) = a := ⟨_, rfl⟩
    rw [ha, hcc] at hb
    rw [ha] at i1
    rw [hcc] at i2
    by_cases hng : lo > hi
    · cases a <;> cases c <;> simp [R61_0, R61_1, R61_2, R61_3, Try.f61, fldV, i1, i2, hng, optV, nilV]
    · have : decide (lo ≤ hi) = true := by simp; omega
      rw [this] at hb
      cases a <;> cases c <;> simp at hb <;> simp [R61_0, R61_1, R61_2, R61_3, Try.f61, fldV, i1, i2, hng, optV, nilV]
  · have hb' := hb
    simp only [clB, Bool.and_eq_true, decide_eq_true_eq] at hb'
    have hng : ¬ lo > hi := by omega
    simp [hb'] at i1 i2
    cases hg : goodB w h l
    · have hc := c_changedNo (k + 19) b 146 [.bx true [.c (.int .i64 lo)], .bx true [.c (.int .i64 hi)]] w h l rfl (fun H => rfl) hg (by omega)
      simp [fldV, nilV] at hc
      simp [R61_0, R61_1, R61_2, R61_3, Try.f61, fldV, i1, i2, hng, hc, optV, nilV]
    · have hc := c_changed (k + 10) b 146 [.bx true [.c (.int .i64 lo)], .bx true [.c (.int .i64 hi)]] w h l (clG lo hi) rfl (fun H => rfl) (fun x hx hm => c_Clip1 (k + 18) x lo hi (by omega)) hg (by omega)
      rw [good_chg hg (fun x hx hm => cl_cell lo hi x hb hx hm)] at hc
      have hz := chgM_length (clG lo hi) l
      simp [fldV, optV, ownV, intsO] at hc
      simp [R61_0, R61_1, R61_2, R61_3, Try.f61, fldV, i1, i2, hng, hc, optV, ownV, intsO, hz]
theorem ab_cell (x : Int) (hx : cellB x = true) (hm : x ≠ -9999) : cellB (abG x) = true := by
  rw [cellB_iff] at hx ⊢
  unfold abG
  split <;> omega
theorem c_absOf (k : Nat) (x : Int) (hx : cellB x = true) (hk : 1 ≤ k) : callK C k 150 [.c (.int .i64 x)] [] = some (.c (.int .i64 (abG x)), hpOf [] []) := by
  obtain ⟨k, rfl⟩ : ∃ m, k = m + 1 := ⟨k - 1, by omega⟩
  rw [callK_fn rfl F150 code150]
  rw [cellB_iff] at hx
  unfold abG
  have hw : IntKind.i64.wrap (-x) = -x := wrap_small (by omega) (by omega)
  by_cases h : x < 0
  · have h2 : ¬ x > -x := by omega
    simp [R150_0, R150_1, R150_2, R150_3, Try.f150, h, hw, h2]
  · by_cases h0 : x = 0
    · subst h0; simp [R150_0, R150_1, R150_2, R150_3, Try.f150]
    · have h2 : x > -x := by omega
      simp [R150_0, R150_1, R150_2, R150_3, Try.f150, h, h2]
theorem c_implAbs (k : Nat) (b : Bool) (w h : Int) (l : List Int) (hk : 700 ≤ k) : callK C k 64 [fldV b w h l] [] = optV (goodB w h l) w h (chgM abG l) := by
  obtain ⟨k, rfl⟩ : ∃ m, k = m + 20 := ⟨k - 20, by omega⟩
  rw [callK_fn rfl F64 code64]
  cases hg : goodB w h l
  · have hc := c_changedNo (k + 19) b 150 [] w h l rfl (fun H => rfl) hg (by omega)
    simp [fldV, nilV] at hc
    simp [R64_0, R64_1, Try.f64, fldV, hc, optV, nilV]
  · have hc := c_changed (k + 10) b 150 [] w h l abG rfl (fun H => rfl) (fun x hx hm => c_absOf (k + 18) x hx (by omega)) hg (by omega)
    rw [good_chg hg ab_cell] at hc
    have hz := chgM_length abG l
    simp [fldV, optV, ownV, intsO] at hc
    simp [R64_0, R64_1, Try.f64, fldV, hc, optV, ownV, intsO, hz]
theorem c_DifferentSame (k : Nat) (b c : Bool) (w h : Int) (l : List Int) (hg : goodB w h l = true) (hk : 700 ≤ k) : callK C k 56 [fldV b w h l, fldV c w h l] [] = some (.tp [.c (.int .i64 0), .c (.bool true)], hpOf [] []) := by
  obtain ⟨k, rfl⟩ : ∃ m, k = m + 9 := ⟨k - 9, by omega⟩
  rw [callK_fn rfl F56 code56]
  obtain ⟨s1, n1, cl1, k1⟩ := good_length hg
  have hal := c_areAlike (k + 8) true ⟨b, w, h, l⟩ [⟨c, w, h, l⟩] (by simp) (by simp; omega)
  have hal2 := c_areAlike (k + 8) true ⟨true, w, h, l⟩ [⟨true, w, h, l⟩] (by simp) (by simp; omega)
  simp [Fd.cells, likeB, hg] at hal hal2
  have hL := loopHas (body := fun st => runCode C (callK C (k + 8)) (k + 8) (K 56) L56_0 1 st) (keep := [3, 6, 15, 16, 17]) (.ex 0) (fun st => st.ρ 6 = .c (.int .i64 0))
    (fun i st => st.ρ 3 = .p 32 1 3 0 0 ∧ st.ρ 6 = .c (.int .i64 0) ∧ st.ρ 15 = .sq b true 1 (ints l) ∧ st.ρ 16 = .c (.int .i64 (l.length : Int)) ∧ st.ρ 17 = .c (.int .i64 (i : Int)) ∧
      st.H 32 = some (1, ⟨29, 3, false, [[.c (.int .i64 w), .c (.int .i64 h), .sq c true 1 (ints l)]]⟩))
    l.length (k + 8) (by omega)
    (by
      rintro i st next hi ⟨q3, q6, q15, q16, q17, H32⟩ hx
      have hwn := wrap_next hi (by omega)
      simp [L56_0, R56_0, R56_1, R56_2, R56_3, R56_4, R56_5, R56_6, R56_7, R56_8, R56_9, R56_10, Try.f56, lpL56_0, lpM56_0, M56_0, q3, q6, q15, q16, q17, H32, hi, hwn] at hx ⊢
      exact hx _ (by simp [q3]) (by simp [q6]) (by simp [q15]) (by simp [q16]) (by simp) (by simp [q3, q6, q15, q16, H32]))
    (by
      rintro st next ⟨q3, q6, q15, q16, q17, H32⟩
      simp [L56_0, R56_0, R56_1, R56_2, R56_3, R56_4, R56_5, R56_6, R56_7, R56_8, R56_9, R56_10, Try.f56, lpL56_0, lpM56_0, M56_0, q3, q6, q15, q16, q17, H32])
  simp [R56_0, R56_1, R56_2, R56_3, R56_4, R56_5, R56_6, R56_7, R56_8, R56_9, R56_10, Try.f56, lpL56_0, lpM56_0, fldV, hal, hal2]
  generalize hr2 : loopRun _ _ _ _ = res
  obtain ⟨s1, rfl, f6⟩ := loop_at hL hr2 ⟨by simp, by simp, by simp, by simp, by simp, by simp⟩
  simp [R56_0, R56_1, R56_2, R56_3, R56_4, R56_5, R56_6, R56_7, R56_8, R56_9, R56_10, Try.f56, lpL56_0, lpM56_0, M56_0, f6]

end Go.Proofs.Ytfdlllhcjfhknaa.Eng
