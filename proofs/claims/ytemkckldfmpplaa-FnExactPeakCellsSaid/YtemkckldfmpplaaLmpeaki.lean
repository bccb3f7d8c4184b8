/- A deterministic reading of Go code over plain data: what functions of the program compute. No conditions. -/
import Derived.Test.YtemkckldfmpplaaLmbase
import Derived.Test.YtemkckldfmpplaaLmimpl
import Derived.Test.YtemkckldfmpplaaLmgood
import Derived.Test.YtemkckldfmpplaaLmnbh
import Derived.Test.YtemkckldfmpplaaLmpeakp
import Derived.Test.YtemkckldfmpplaaLmneigh
import Derived.Test.YtemkckldfmpplaaLmfield
import Derived.Test.YtemkckldfmpplaaLmnested
import Derived.Test.YtemkckldfmpplaaEngT
namespace Go.Proofs.Ytemkckldfmpplaa.Eng
open Go Go.Proofs
set_option maxRecDepth 100000
set_option maxHeartbeats 2000000
set_option linter.unusedSimpArgs false
set_option linter.unusedVariables false
attribute [local simp] finK fin1 hpOf xi renQ isRoot runCode runOps stepX inlOf Eng.step wantedV astep val ofO made loadV storeV find V.cells bin binT binA numT numFs eqCells un1 setAt fieldAddrV fieldV indexAddrV indexV bounds sliceV convV lenV foldV max2V min2V callO bor rdsO wrsO seen_none okD_none loops keepIds resV resultsV St.ev TK.agg refs refsL refsO V.one V.isC Value.oneCell' ren renL renO noTag noTagL noTagR noTagO nodup mapO passV frs psi refsR newD loopNext opsAt idx flatAt rootOf backR newsV appendV copyV clearV strV bytesV bldV bufV selfV bytesOf nilCmp buildV fillF chunk
attribute [local simp] cT cF cX cWR cOW cK cBL X ints_length ints_get ints_getElem ints_drop ints_take ints_append ints_nil ints_set
attribute [local simp] ints_replicate
attribute [local simp] putV_some putV_none putH_app applyD_nil applyD_cons seen_app gc_ρ gc_H gc_tick st0_ρ st0_H st0_tick retV callRo callV_if borL_nil borL_cons ints_snoc take_self callWr cutH_app findQ afterV exportV_0 exportV_n okD_nil okD_cons sub_seq0 sub_seq1 sub_cond0 sub_cond1 sub_block sub_loop sub_nil young_far young_none hidW_nil mayW_nil pairs okI ok_0 ok_1 ok_2
attribute [local simp] T3 T4 T22 T24 T26 T29 T44
attribute [local simp] young_near clo cloF Region.binds Nat.testBit hidW declW mayW List.findIdx?_cons
/-- All that is made before a tick has a number below this one. -/
def Bt (t : Nat) : Nat := 4294967296 * t
theorem gc_all (l : List Nat) (st : St) (h : l.contains 999 = true) : (gc l st).H = st.H := by
  funext id
  simp only [Eng.gc, h, Bool.or_true, if_true]
def cntL (L : List Int) (n : Int) : Nat := L.countP fun x => decide (n ≤ x)
theorem cntL_take (L : List Int) (n : Int) (i : Nat) (h : i < L.length) : cntL (L.take (i + 1)) n = cntL (L.take i) n + (if n ≤ L[i] then 1 else 0) := by
  unfold cntL
  rw [List.take_succ_eq_append_getElem h, List.countP_append, List.countP_singleton]
  simp
theorem cntL_le (L : List Int) (n : Int) : cntL L n ≤ L.length := List.countP_le_length
/-- Slots that stand as they stood; a heap that stands as it stood. -/
def SmX (s s0 : St) (l : List Nat) : Prop := ∀ x, x ∈ l → s.ρ x = s0.ρ x
def SmH (s s0 : St) : Prop := ∀ id, s.H id = s0.H id
/-- The count of the values that are not less. -/
theorem cnt_loop (k : Nat) (L : List Int) (n : Int) (id vr : Nat) (hl : L.length ≤ 100) (hk : 300 ≤ k) (st0 : St) (h8 : st0.ρ 8 = .c (.int .i64 n)) (h11 : st0.ρ 11 = .c (.int .i64 0)) (h42 : L ≠ [] → st0.ρ 42 = .s id vr 1 0 L.length ∧ st0.H id = some (vr, intsO L)) (h43 : st0.ρ 43 = .c (.int .i64 (L.length : Int))) (h44 : st0.ρ 44 = .c (.int .i64 0)) :
    ∃ s, loopRun (fun st => runCode C (callK C k) k (K 7) L7_1 2 st) [1, 2, 6, 8, 9, 10, 11, 23, 24, 25, 42, 43, 44, 999] k st0 = some (.ex 2, s) ∧ s.ρ 11 = .c (.int .i64 (cntL L n : Int)) ∧ SmX s st0 [1, 2, 6, 8, 9, 10, 23, 24, 25] ∧ SmH s st0 ∧ st0.tick ≤ s.tick := by
  refine loopHas (body := fun st => runCode C (callK C k) k (K 7) L7_1 2 st) (keep := [1, 2, 6, 8, 9, 10, 11, 23, 24, 25, 42, 43, 44, 999]) (.ex 2) (fun s => s.ρ 11 = .c (.int .i64 (cntL L n : Int)) ∧ SmX s st0 [1, 2, 6, 8, 9, 10, 23, 24, 25] ∧ SmH s st0 ∧ st0.tick ≤ s.tick)
    (fun i s => s.ρ 11 = .c (.int .i64 (cntL (L.take i) n : Int)) ∧ s.ρ 44 = .c (.int .i64 (i : Int)) ∧ SmX s st0 [1, 2, 6, 8, 9, 10, 23, 24, 25, 42, 43] ∧ SmH s st0 ∧ st0.tick ≤ s.tick)
    L.length k (by omega) ?_ ?_ st0 ⟨by simp [cntL, h11], by simp [h44], fun _ _ => rfl, fun _ => rfl, Nat.le_refl _⟩
  · rintro i s next hi ⟨q11, q44, hx, hH, ht⟩ hn
    have hne : L ≠ [] := by intro e; subst e; simp at hi
    obtain ⟨a42, aH⟩ := h42 hne
    have q8 := (hx 8 (by simp)).trans h8
    have q42 := (hx 42 (by simp)).trans a42
    have q43 := (hx 43 (by simp)).trans h43
    have H1 : s.H id = some (vr, intsO L) := (hH id).trans aH
    have hc := cntL_take L n i hi
    have hcl := cntL_le (L.take i) n
    rw [List.length_take] at hcl
    have w1 : IntKind.i64.wrap ((cntL (L.take i) n : Int) + 1) = (cntL (L.take i) n : Int) + 1 := wrap_small (by omega) (by omega)
    have hwn := wrap_next hi (by omega : L.length ≤ 9000000000000000000)
    simp [intsO] at H1
    by_cases hge : n ≤ L[i]
    · rw [if_pos hge] at hc
      simp [L7_1, R7_0, R7_1, R7_2, R7_3, R7_4, R7_5, R7_6, R7_7, R7_8, R7_9, R7_10, R7_11, R7_12, R7_13, R7_14, R7_15, R7_16, R7_17, R7_18, Try.f7, lpL7_0, lpL7_1, lpM7_0, lpM7_1, lpM7_2, M7_0, M7_1, M7_2, q8, q11, q42, q43, q44, H1, hi, hge, w1, hwn]
      refine hn _ ⟨?_, ?_, fun x hx' => ?_, fun id' => ?_, ?_⟩
      · simp [hc]
      · simp
      · have := hx x hx'
        simp only [List.mem_cons, List.not_mem_nil, or_false] at hx'
        rcases hx' with rfl | rfl | rfl | rfl | rfl | rfl | rfl | rfl | rfl | rfl | rfl <;> simp [this]
      · simp [hH id']
      · dsimp only
        omega
    · rw [if_neg hge] at hc
      simp [L7_1, R7_0, R7_1, R7_2, R7_3, R7_4, R7_5, R7_6, R7_7, R7_8, R7_9, R7_10, R7_11, R7_12, R7_13, R7_14, R7_15, R7_16, R7_17, R7_18, Try.f7, lpL7_0, lpL7_1, lpM7_0, lpM7_1, lpM7_2, M7_0, M7_1, M7_2, q8, q11, q42, q43, q44, H1, hi, hge, w1, hwn]
      refine hn _ ⟨?_, ?_, fun x hx' => ?_, fun id' => ?_, ?_⟩
      · simp [hc, q11]
      · simp
      · have := hx x hx'
        simp only [List.mem_cons, List.not_mem_nil, or_false] at hx'
        rcases hx' with rfl | rfl | rfl | rfl | rfl | rfl | rfl | rfl | rfl | rfl | rfl <;> simp [this]
      · simp [hH id']
      · dsimp only
        omega
  · rintro s next ⟨q11, q44, hx, hH, ht⟩
    have q43 := (hx 43 (by simp)).trans h43
    rw [List.take_length] at q11
    simp [L7_1, R7_0, R7_1, R7_2, R7_3, R7_4, R7_5, R7_6, R7_7, R7_8, R7_9, R7_10, R7_11, R7_12, R7_13, R7_14, R7_15, R7_16, R7_17, R7_18, Try.f7, lpL7_0, lpL7_1, lpM7_0, lpM7_1, lpM7_2, M7_0, M7_1, M7_2, q43, q44]
    refine ⟨by simp [q11], ?_, ?_, ?_⟩
    · intro x hx'
      have hx2 : x ∈ [1, 2, 6, 8, 9, 10, 23, 24, 25, 42, 43] := List.mem_append_left [42, 43] hx'
      have := hx x hx2
      simp only [List.mem_cons, List.not_mem_nil, or_false] at hx'
      rcases hx' with rfl | rfl | rfl | rfl | rfl | rfl | rfl | rfl | rfl <;> simp [this]
    · intro id'; simp [hH id']
    · show st0.tick ≤ s.tick + 1
      omega

end Go.Proofs.Ytemkckldfmpplaa.Eng
