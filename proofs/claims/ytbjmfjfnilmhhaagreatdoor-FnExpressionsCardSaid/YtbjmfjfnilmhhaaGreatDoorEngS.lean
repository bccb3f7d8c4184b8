/- A deterministic reading of Go code over plain data: parts of a code, and what helps to reckon a run. No conditions. -/
import Derived.Test.YtbjmfjfnilmhhaaGreatDoorEngR
namespace Go.Proofs.YtbjmfjfnilmhhaaGreatDoor.Eng
open Go Go.RowKit

/-- A part of a code. -/
def subC : List Nat → Code → Code
  | [], c => c
  | 0 :: p, .seq a _ => subC p a
  | _ :: p, .seq _ b => subC p b
  | 0 :: p, .cond _ a _ => subC p a
  | _ :: p, .cond _ _ b => subC p b
  | _ :: p, .block _ a => subC p a
  | _ :: p, .loop a => subC p a
  | _ :: p, .scope a => subC p a
  | _, c => c
/-- The operations of a region of a function. -/
def opsAt (fn : Func) (p : List Nat) : Array Oper :=
  match fn.body with
  | some c => (match subC p c with | .region _ ops _ => ops | _ => #[])
  | none => #[]

theorem callK_fn {C : Cfg} {k : Nat} {f : FuncId} {args : List V} {frag : List Obj} {fn : Func} {code : Code} (hx : C.ext f = none) (hf : C.fn f = some fn) (hb : fn.body = some code) :
    callK C (k + 1) f args frag = finK C.T fn.results.toList frag.length (runCode C (callK C k) k (C.keep f) code 0 (st0 args frag)) := by
  simp only [callK, hx, hf, hb]

def loopNext (r : Option (Ex × St)) (next : St → Option (Ex × St)) : Option (Ex × St) :=
  match r with
  | some (.nrm, st') => next st'
  | r => r
theorem loopRun_succ (body : St → Option (Ex × St)) (keep : List Nat) (k : Nat) (st : St) : loopRun body keep (k + 1) st = loopNext (body (gc keep st)) (loopRun body keep k) := by
  simp only [loopRun, loopNext]
  cases body (gc keep st) with
  | none => rfl
  | some r => obtain ⟨e, st'⟩ := r; cases e <;> rfl
theorem outOf {D : St → Prop} {LP : St → Option (Ex × St)} {e : Ex} {R : St → St → Prop} (h : ∀ st, D st → ∃ st', LP st = some (e, st') ∧ R st st') :
    ∃ out : St → St, (∀ st, D st → LP st = some (e, out st)) ∧ ∀ st, D st → R st (out st) := by
  classical
  refine ⟨fun st => if hd : D st then (h st hd).choose else st, fun st hd => ?_, fun st hd => ?_⟩
  · simp only [dif_pos hd]; exact (h st hd).choose_spec.1
  · simp only [dif_pos hd]; exact (h st hd).choose_spec.2
theorem seen_none (ops : List Oper) (j : Nat) (fr : Nat → Bool) (H : Hp) : seen none ops j fr H = H := by funext id; simp [seen, youngOf]
theorem okD_none (yg : Nat → Bool) (H : Hp) (site : Nat) (b : Bool) (δ : List (Nat × Option (Nat × Obj))) : okD none yg H site b δ = true := rfl
theorem range_0 : List.range 0 = [] := rfl
theorem range_1 : List.range 1 = [0] := rfl
theorem range_2 : List.range 2 = [0, 1] := rfl
def ints (l : List Int) : List (List V) := l.map fun n => [.c (.int .i64 n)]
theorem ints_length (l : List Int) : (ints l).length = l.length := by simp [ints]
theorem ints_get (l : List Int) (i : Nat) : (ints l)[i]? = (l[i]?).map fun n => [V.c (.int .i64 n)] := by simp [ints]
theorem ints_getElem (l : List Int) (i : Nat) (h : i < (ints l).length) : (ints l)[i] = [V.c (.int .i64 (l[i]'(by simpa [ints] using h)))] := by simp [ints]
theorem ints_drop (l : List Int) (i : Nat) : (ints l).drop i = ints (l.drop i) := by simp [ints]
theorem ints_take (l : List Int) (i : Nat) : (ints l).take i = ints (l.take i) := by simp [ints]
theorem ints_append (l m : List Int) : ints l ++ ints m = ints (l ++ m) := by simp [ints]
theorem ints_nil (l : List Int) : ints l = [] ↔ l = [] := by simp [ints]
theorem ints_set (l : List Int) (i : Nat) (n : Int) : (ints l).set i [.c (.int .i64 n)] = ints (l.set i n) := by simp [ints, List.map_set]
theorem ints_all (l : List Int) (p : List V → Bool) (h : ∀ n : Int, p [.c (.int .i64 n)] = true) : (ints l).all p = true := by
  simp [ints, h]
end Go.Proofs.YtbjmfjfnilmhhaaGreatDoor.Eng
