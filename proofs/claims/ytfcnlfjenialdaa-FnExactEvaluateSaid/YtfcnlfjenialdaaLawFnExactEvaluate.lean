/- The law FnExactEvaluate answers true for all arguments: its row, out of what the reading of its code comes to. No conditions. -/
import Derived.Test.YtfcnlfjenialdaaRows
import Derived.Test.YtfcnlfjenialdaaLmmev2
import Derived.Test.YtfcnlfjenialdaaEngU
import Derived.WalkKit
import Derived.ProofKit
import Derived.OpenShut
import Derived.ShutString
import Derived.ChangeOld
import Derived.Below
import Derived.SizedLaws
import Derived.Lib.SmallJoins
namespace Go.Proofs.Ytfcnlfjenialdaa.fnExactEvaluate
open Go.ChangeShapes Go.WideShapes Go.ChangeAt Go.RowKit
open Go.ChangeMaps (open_string shut_string)
open Go.Proofs.Ytfcnlfjenialdaa.Eng
set_option linter.unusedVariables false
theorem own : ownKnob Try.prog.godebug = none := by kernel_rfl
theorem laidOut : laidOutB Try.prog = true := by kernel_rfl
set_option maxRecDepth 100000 in
theorem lifted (os : Os) (started : os.Started) (H : Type) (enc : TypeId × Value → H) :
    ReturnsInHanded {} Try.checked os 3 .any (Rows.fnExactEvaluateSpec.pre6 enc Try.prog Try.f3 Rows.fnExactEvaluateRow.domain false) (Rows.fnExactEvaluateSpec.post enc Try.prog Try.f3 false true false false) := by
  refine returnsInHanded_of_change_sized (C := Try.checked) own started (by kernel_rfl) Try.func3
    (ChangeSpec.witness6 (enc := enc) (C := Try.checked) false ⟨#[], #[.slice none 0 0, .slice none 0 0], []⟩ 8 (by kernel_rfl) (by kernel_rfl) (by kernel_rfl) (by kernel_rfl)) ?_
  intro W base args ds gs before hval0 hW hcnd hsz0 _
  have hval : ∀ (j : Nat) t v, Try.f3.params[j]? = some t → args[j]? = some v → Value.okWide Try.prog W .any base t v := hval0
  have hW' := hW
  obtain ⟨p, q, hA0, hV, rfl, hfz, hnd⟩ := hW
  have hA : DataW.TrodAll enc Try.prog W 0 (fun _ => true) true Try.f3.params.toList args.toList ds p := hA0
  rw [Try.params3] at hA hval
  obtain ⟨v0, vs0, d0, ds0, p0, q0, hargs, rfl, rfl, h0, r0⟩ := trodAll_cons hA
  obtain ⟨v1, vs1, d1, ds1, p1, q1, rfl, rfl, rfl, h1, r1⟩ := trodAll_cons r0
  obtain ⟨rfl, rfl, rfl⟩ := trodAll_nil r1
  obtain rfl : args = #[v0, v1] := by cases args; simp_all
  obtain ⟨rfl, rfl⟩ := trodVars_none hV
  have k0 := h0
  have lt0 : ∀ x ∈ p0, x.block < W.heap.size := by obtain ⟨m, hm⟩ := k0; exact DataW.trod_lt m _ _ _ hm
  obtain ⟨a0, R0, w0⟩ := Opn.arg (Opn.slice (f := ndE) true 2 Try.underlying22 (by kernel_rfl) (Opn.two (f := fun n : Int => V.c (.int .i64 n)) (g := fun n : Int => V.c (.int .i64 n)) Try.underlying50 (by kernel_rfl) (by kernel_rfl) (Opn.int Try.underlying3) (Opn.int Try.underlying3)) (fun v x hx => by simp [ndE] at hx; rcases hx with rfl | rfl <;> rfl) (fun _ v x hx => by simp [ndE] at hx; rcases hx with rfl | rfl <;> rfl) (fun v => by simp [ndE, NRC, NR]) (fun _ => rfl)) Try.underlying22 (hval 0 22 v0 rfl rfl) h0
  have k1 := h1
  have lt1 : ∀ x ∈ p1, x.block < W.heap.size := by obtain ⟨m, hm⟩ := k1; exact DataW.trod_lt m _ _ _ hm
  obtain ⟨a1, R1, w1⟩ := Opn.arg (Opn.slice (f := fdE) false 3 Try.underlying23 (by kernel_rfl) (Opn.three (f := fun n : Int => V.c (.int .i64 n)) (g := fun n : Int => V.c (.int .i64 n)) (h := fun l : List Int => V.sq false true 1 (ints l)) Try.underlying43 (by kernel_rfl) (by kernel_rfl) (Opn.int Try.underlying3) (Opn.int Try.underlying3) (Opn.ints Try.underlying26 Try.underlying3 (by kernel_rfl))) (fun v x hx => by simp [fdE] at hx; rcases hx with rfl | rfl | rfl <;> rfl) (fun h => by cases h) (fun v => by simp only [fdE, NRC, NR, true_and, and_true]; exact nre_of _ fun e he => by obtain ⟨n, _, rfl⟩ := List.mem_map.1 he; simp [NRC, NR]) (fun _ => rfl)) Try.underlying23 (hval 1 23 v1 rfl rfl) h1
  clear hA0 hval0 hsz0
  obtain ⟨k, hk⟩ := law_Evaluate a0 a1 w0.1 w1.1 w1.2
  refine ((callK_sound cfgOk k).1 _ _ _ _ _ hk W (pf0 W) io0 [_, _] (Reps.cs (R0) (Reps.cs (R1) Reps.nl)) (desc0 W (gl0 W))).mono fun e W' ⟨u, ι', tick, done, he, hf, hr, _⟩ => ?_
  have bel := hf.below
  simp only [Rep] at hr
  subst he hr
  exact ⟨_, rfl, _, _, _, [], _, [], hW', trodAll_mk1 (shut_bool Try.underlying4 _), (trodAll_cons_mk (Below.trod laidOut (by kernel_rfl) (of_decide_eq_true (by kernel_rfl)) k0 bel lt0) (trodAll_cons_mk (Below.trod laidOut (by kernel_rfl) (of_decide_eq_true (by kernel_rfl)) k1 bel lt1) trodAll_mk0)), rfl, bel.frame _, fun h => by cases h⟩
theorem over : Rows.fnExactEvaluateRow.holds Try.pinned (OpenSpec.ofChange Rows.fnExactEvaluateSpec) :=
  OpenClaim.holds_of_wide 3 Try.f3 rfl rfl rfl rfl rfl rfl rfl ⟨rfl, rfl, rfl, rfl, rfl⟩ rfl rfl rfl rfl rfl (by kernel_rfl) Try.func3 (by kernel_rfl)
    (of_decide_eq_true (by kernel_rfl)) (by unfold Func.isWrapper; first | (rw [if_pos (by decide +kernel)]; kernel_rfl) | (rw [if_neg (by decide +kernel)]; exact ⟨rfl, rfl⟩))
    (fun os started H enc _ => lifted os started H enc)
theorem proved : Rows.FnExactEvaluateSaid := over
#print axioms proved
end Go.Proofs.Ytfcnlfjenialdaa.fnExactEvaluate
namespace Go.Proofs.Ytfcnlfjenialdaa
/-- The row, under a short name, for the claim. -/
theorem fnExactEvaluate_holds : Rows.FnExactEvaluateSaid := fnExactEvaluate.proved
end Go.Proofs.Ytfcnlfjenialdaa
