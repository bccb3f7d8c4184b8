-- Printed by a program of this session (wip/xprint.py) out of the translation; Lean checks it.
/- The law FnExactReplaceField answers true for all arguments: its row, out of its pure statement and the printed walk. No conditions. -/
import Derived.Test.YtngbdlkcpkkeoaaRows
import Derived.Test.YtngbdlkcpkkeoaaPFnExactReplaceFieldx6
import Derived.Test.YtngbdlkcpkkeoaaPureFnExactReplaceField
import Derived.Test.YtngbdlkcpkkeoaaXOpen
import Derived.WalkKit
import Derived.ProofKit
import Derived.OpenShut
import Derived.ShutString
import Derived.ChangeOld
import Derived.Below
import Derived.SizedLaws
import Derived.Lib.SmallJoins
namespace Go.Proofs.Ytngbdlkcpkkeoaa.fnExactReplaceField
open Go.ChangeShapes Go.WideShapes Go.ChangeAt Go.RowKit
open Go.ChangeMaps (open_string shut_string)
open Go.Proofs.Ytngbdlkcpkkeoaa.PFnExactReplaceField Go.Proofs.YtngbdlkcpkkeoaaW.PrintWords Go.Proofs.YtngbdlkcpkkeoaaW.PrintLast
set_option linter.unusedVariables false
theorem own : ownKnob Try.prog.godebug = none := by kernel_rfl
theorem laidOut : laidOutB Try.prog = true := by kernel_rfl
set_option maxRecDepth 100000 in
theorem lifted (os : Os) (started : os.Started) (H : Type) (enc : TypeId × Value → H) :
    ReturnsInHanded {} Try.checked os 10 .any (Rows.fnExactReplaceFieldSpec.pre6 enc Try.prog Try.f10 Rows.fnExactReplaceFieldRow.domain false) (Rows.fnExactReplaceFieldSpec.post enc Try.prog Try.f10 false true false false) := by
  refine returnsInHanded_of_change_sized (C := Try.checked) own started (by kernel_rfl) Try.func10
    (ChangeSpec.witness6 (enc := enc) (C := Try.checked) false ⟨#[], #[.slice none 0 0, .int .i64 0, .slice none 0 0], []⟩ 8 (by kernel_rfl) (by kernel_rfl) (by kernel_rfl) (by kernel_rfl)) ?_
  intro W base args ds gs before hval0 hW hcnd hsz0 _
  have hsz : (DataW.weightsEach Try.prog (Try.f10.params.toList ++ Rows.fnExactReplaceFieldSpec.plain.varTypes Try.prog) (ds ++ gs)).all (· ≤ reachBytes) = true := hsz0
  have hval : ∀ (j : Nat) t v, Try.f10.params[j]? = some t → args[j]? = some v → Value.okWide Try.prog W .any base t v := hval0
  have hW' := hW
  obtain ⟨p, q, hA0, hV, rfl, hfz, hnd⟩ := hW
  have hA : DataW.TrodAll enc Try.prog W 0 (fun _ => true) true Try.f10.params.toList args.toList ds p := hA0
  rw [Try.params10] at hA hval hsz
  obtain ⟨v0, vs0, d0, ds0, p0, q0, hargs, rfl, rfl, h0, r0⟩ := trodAll_cons hA
  obtain ⟨v1, vs1, d1, ds1, p1, q1, rfl, rfl, rfl, h1, r1⟩ := trodAll_cons r0
  obtain ⟨v2, vs2, d2, ds2, p2, q2, rfl, rfl, rfl, h2, r2⟩ := trodAll_cons r1
  obtain ⟨rfl, rfl, rfl⟩ := trodAll_nil r2
  obtain rfl : args = #[v0, v1, v2] := by cases args; simp_all
  obtain ⟨rfl, rfl⟩ := trodVars_none hV
  obtain ⟨A0, len0, c0, rfl⟩ := okWide_slice Try.underlying22 (hval 0 22 v0 rfl rfl)
  have k0 := h0
  have lt0 : ∀ x ∈ p0, x.block < W.heap.size := by obtain ⟨m, hm⟩ := k0; exact DataW.trod_lt m _ _ _ hm
  obtain ⟨l0, rfl, hr0, hc0, w0⟩ := Opens.arg_slice (Opens.slice z62 Try.underlying22 (by kernel_rfl) (Opens.struct2 (mk := fun x0 x1 => (⟨x0, x1⟩ : S62)) Try.underlying62 (by kernel_rfl) (by kernel_rfl) (fun _ _ => rfl) (Opens.int Try.underlying3) (Opens.int Try.underlying3) : Opens Try.prog k62 62 _) : Opens Try.prog (Kd.slice 62 k62) 22 _) h0
  obtain ⟨a1, rfl, rfl, rfl, w1⟩ := open_int Try.underlying3 (hval 1 3 v1 rfl rfl) h1
  obtain ⟨A2, len2, c2, rfl⟩ := okWide_slice Try.underlying22 (hval 2 22 v2 rfl rfl)
  have k2 := h2
  have lt2 : ∀ x ∈ p2, x.block < W.heap.size := by obtain ⟨m, hm⟩ := k2; exact DataW.trod_lt m _ _ _ hm
  obtain ⟨l2, rfl, hr2, hc2, w2⟩ := Opens.arg_slice (Opens.slice z62 Try.underlying22 (by kernel_rfl) (Opens.struct2 (mk := fun x0 x1 => (⟨x0, x1⟩ : S62)) Try.underlying62 (by kernel_rfl) (by kernel_rfl) (fun _ _ => rfl) (Opens.int Try.underlying3) (Opens.int Try.underlying3) : Opens Try.prog k62 62 _) : Opens Try.prog (Kd.slice 62 k62) 22 _) h2
  clear hA0 hval0 hsz0 hsz
  obtain ⟨k, h⟩ := Pure.FnExactReplaceField l0 a1 l2 w0 w1 w2
  refine (laws_FnExactReplaceField.calls k A0 c0 l0 a1 A2 c2 l2 true W hr0 hc0 hr2 hc2 h).mono fun e W' ⟨he, bel0⟩ => ?_
  have bel := bel0
  subst he
  exact ⟨_, rfl, _, _, _, [], _, [], hW', trodAll_mk1 (shut_bool Try.underlying4 _), (trodAll_cons_mk (Below.trod laidOut (by kernel_rfl) (of_decide_eq_true (by kernel_rfl)) k0 bel lt0) (trodAll_cons_mk (shut_int Try.underlying3 w1) (trodAll_cons_mk (Below.trod laidOut (by kernel_rfl) (of_decide_eq_true (by kernel_rfl)) k2 bel lt2) trodAll_mk0))), rfl, bel.frame _, fun h => by cases h⟩
theorem over : Rows.fnExactReplaceFieldRow.holds Try.pinned (OpenSpec.ofChange Rows.fnExactReplaceFieldSpec) :=
  OpenClaim.holds_of_wide 10 Try.f10 rfl rfl rfl rfl rfl rfl rfl ⟨rfl, rfl, rfl, rfl, rfl⟩ rfl rfl rfl rfl rfl (by kernel_rfl) Try.func10 (by kernel_rfl)
    (of_decide_eq_true (by kernel_rfl)) (by unfold Func.isWrapper; first | (rw [if_pos (by decide +kernel)]; kernel_rfl) | (rw [if_neg (by decide +kernel)]; exact ⟨rfl, rfl⟩))
    (fun os started H enc _ => lifted os started H enc)
theorem proved : Rows.FnExactReplaceFieldSaid := over
#print axioms proved
end Go.Proofs.Ytngbdlkcpkkeoaa.fnExactReplaceField
namespace Go.Proofs.Ytngbdlkcpkkeoaa
/-- The row, under a short name, for the claim. -/
theorem fnExactReplaceField_holds : Rows.FnExactReplaceFieldSaid := fnExactReplaceField.proved
end Go.Proofs.Ytngbdlkcpkkeoaa
