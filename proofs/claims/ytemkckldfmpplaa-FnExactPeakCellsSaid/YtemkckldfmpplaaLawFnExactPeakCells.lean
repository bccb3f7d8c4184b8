/- The law FnExactPeakCells answers true for all arguments: its row, out of what the reading of its code comes to. No conditions. -/
import Derived.Test.YtemkckldfmpplaaRows
import Derived.Test.YtemkckldfmpplaaLmpeakl
import Derived.Test.YtemkckldfmpplaaEngU
import Derived.WalkKit
import Derived.ProofKit
import Derived.OpenShut
import Derived.ShutString
import Derived.ChangeOld
import Derived.Below
import Derived.SizedLaws
import Derived.Lib.SmallJoins
namespace Go.Proofs.Ytemkckldfmpplaa.fnExactPeakCells
open Go.ChangeShapes Go.WideShapes Go.ChangeAt Go.RowKit
open Go.ChangeMaps (open_string shut_string)
open Go.Proofs.Ytemkckldfmpplaa.Eng
set_option linter.unusedVariables false
theorem own : ownKnob Try.prog.godebug = none := by kernel_rfl
theorem laidOut : laidOutB Try.prog = true := by kernel_rfl
set_option maxRecDepth 100000 in
theorem lifted (os : Os) (started : os.Started) (H : Type) (enc : TypeId × Value → H) :
    ReturnsInHanded {} Try.checked os 3 .any (Rows.fnExactPeakCellsSpec.pre6 enc Try.prog Try.f3 Rows.fnExactPeakCellsRow.domain false) (Rows.fnExactPeakCellsSpec.post enc Try.prog Try.f3 false true false false) := by
  refine returnsInHanded_of_change_sized (C := Try.checked) own started (by kernel_rfl) Try.func3
    (ChangeSpec.witness6 (enc := enc) (C := Try.checked) false ⟨#[], #[.agg #[.int .i64 0, .int .i64 0, .slice none 0 0], .int .i64 0], []⟩ 8 (by kernel_rfl) (by kernel_rfl) (by kernel_rfl) (by kernel_rfl)) ?_
  intro W base args ds gs before hval0 hW hcnd hsz0 _
  have hval : ∀ (j : Nat) t v, Try.f3.params[j]? = some t → args[j]? = some v → Value.okWide Try.prog W .any base t v := hval0
  have hW' := hW
  obtain ⟨p, q, hA0, hV, rfl, hfz, hnd⟩ := hW
  have hA : DataW.TrodAll enc Try.prog W 0 (fun _ => true) true Try.f3.params.toList args.toList ds p := hA0
  rw [Try.params3] at hA hval
  obtain ⟨v0, vs0, d0, ds0, p0, q0, hargs, rfl, rfl, h0, r0⟩ := trodAll_cons hA
  obtain ⟨v1, vs1, d1, ds1, p1, q1, rfl, rfl, rfl, h1, r1⟩ := trodAll_cons r0
  obtain ⟨rfl, rfl, rfl⟩ := trodAll_nil r1
  obtain rfl : args = #[v0, v1] := by cases args; simp_all
  obtain ⟨rfl, rfl⟩ := trodVars_none hV
  have k0 := h0
  have lt0 : ∀ x ∈ p0, x.block < W.heap.size := by obtain ⟨m, hm⟩ := k0; exact DataW.trod_lt m _ _ _ hm
  obtain ⟨u0_0, u0_1, u0_2, y0_0, y0_1, y0_2, n0, rfl, rfl, rfl, g0_0, g0_1, g0_2⟩ := Go.Joins.open_agg3 Try.underlying24 (by kernel_rfl) (by kernel_rfl) (hval 0 24 v0 rfl rfl) h0
  obtain ⟨a0_0, R0_0, w0_0⟩ := (Opn.int Try.underlying3).one g0_0
  obtain ⟨a0_1, R0_1, w0_1⟩ := (Opn.int Try.underlying3).one g0_1
  obtain ⟨a0_2, R0_2, w0_2⟩ := (Opn.ints Try.underlying22 Try.underlying3 (by kernel_rfl)).one g0_2
  obtain ⟨a1, rfl, rfl, rfl, w1⟩ := open_int Try.underlying3 (hval 1 3 v1 rfl rfl) h1
  clear hA0 hval0 hsz0
  obtain ⟨k, hk⟩ := law_PeakCells a0_0 a0_1 a0_2 a1 w0_0 w0_1 w0_2.1 w1
  refine ((callK_sound cfgOk k).1 _ _ _ _ _ hk W (pf0 W) io0 [_, _] (Reps.cs (Rep.agg (Reps.cs R0_0 (Reps.cs R0_1 (Reps.cs R0_2 Reps.nl)))) (Reps.cs (Rep.con) Reps.nl)) (desc0 W (gl0 W))).mono fun e W' ⟨u, ι', tick, done, he, hf, hr, _⟩ => ?_
  have bel := hf.below
  simp only [Rep] at hr
  subst he hr
  exact ⟨_, rfl, _, _, _, [], _, [], hW', trodAll_mk1 (shut_bool Try.underlying4 _), (trodAll_cons_mk (Below.trod laidOut (by kernel_rfl) (of_decide_eq_true (by kernel_rfl)) k0 bel lt0) (trodAll_cons_mk (shut_int Try.underlying3 w1) trodAll_mk0)), rfl, bel.frame _, fun h => by cases h⟩
theorem over : Rows.fnExactPeakCellsRow.holds Try.pinned (OpenSpec.ofChange Rows.fnExactPeakCellsSpec) :=
  OpenClaim.holds_of_wide 3 Try.f3 rfl rfl rfl rfl rfl rfl rfl ⟨rfl, rfl, rfl, rfl, rfl⟩ rfl rfl rfl rfl rfl (by kernel_rfl) Try.func3 (by kernel_rfl)
    (of_decide_eq_true (by kernel_rfl)) (by unfold Func.isWrapper; first | (rw [if_pos (by decide +kernel)]; kernel_rfl) | (rw [if_neg (by decide +kernel)]; exact ⟨rfl, rfl⟩))
    (fun os started H enc _ => lifted os started H enc)
theorem proved : Rows.FnExactPeakCellsSaid := over
#print axioms proved
end Go.Proofs.Ytemkckldfmpplaa.fnExactPeakCells
namespace Go.Proofs.Ytemkckldfmpplaa
/-- The row, under a short name, for the claim. -/
theorem fnExactPeakCells_holds : Rows.FnExactPeakCellsSaid := fnExactPeakCells.proved
end Go.Proofs.Ytemkckldfmpplaa
