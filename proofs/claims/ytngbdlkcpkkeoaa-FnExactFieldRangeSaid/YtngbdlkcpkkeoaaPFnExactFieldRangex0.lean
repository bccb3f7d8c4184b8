-- Printed by a program of this session (wip/xprint.py) out of the translation; Lean checks it.
import Derived.Test.YtngbdlkcpkkeoaaProg
import Derived.Below
import Derived.Deep.Draws
import Derived.Deep.AppendLies
import Derived.Maps.AppendAt
import Derived.OwnWalk
import Derived.Laws.BytesArg
import Derived.Laws.MakeOwn
import Derived.Laws.OwnMore
import Derived.Deep.OwnRows
import Derived.Tactics
import Derived.Lib.ConvBytes
import Derived.Laws.Slices
import Derived.WalkKit
import Derived.KernelRfl
import Derived.RowKit3
import Derived.Deep.LoopGhost
import Derived.Deep.QuietTactic
import Derived.BigQuiet
import Derived.WideLaws
import Derived.Deep.DeepCutAuto
import Derived.Deep.CutBlock
import Derived.Deep.RegionHeld3
import Derived.Laws.Rows
import Derived.Lib.AppendStr
import Derived.ArgAppend
import Derived.Laws.IdiomCopy
import Derived.OrdersHeld
import Derived.Laws.BitsLemmas
import Derived.RowKit
import Derived.Test.YtngbdlkcpkkeoaaWWords
import Derived.Test.YtngbdlkcpkkeoaaWLast
import Derived.Test.YtngbdlkcpkkeoaaWTab
import Derived.Test.YtngbdlkcpkkeoaaWFour
import Derived.Test.YtngbdlkcpkkeoaaWQPut
import Derived.Test.YtngbdlkcpkkeoaaWApart
import Derived.Test.YtngbdlkcpkkeoaaWArr
import Derived.Test.YtngbdlkcpkkeoaaWZeros
import Derived.Test.YtngbdlkcpkkeoaaWFoot
import Derived.Test.YtngbdlkcpkkeoaaWKept
import Derived.Test.YtngbdlkcpkkeoaaWShare
import Derived.Test.YtngbdlkcpkkeoaaWN
import Derived.Test.YtngbdlkcpkkeoaaWFootNe
import Derived.Test.YtngbdlkcpkkeoaaWAt
import Derived.Test.YtngbdlkcpkkeoaaWEqStruct
import Derived.Test.YtngbdlkcpkkeoaaWRepsOne
import Derived.Test.YtngbdlkcpkkeoaaWInv
import Derived.Test.YtngbdlkcpkkeoaaWInvWords
import Derived.Test.YtngbdlkcpkkeoaaWGuard
import Derived.Test.YtngbdlkcpkkeoaaWNEv
import Derived.Test.YtngbdlkcpkkeoaaWMore
import Derived.Test.YtngbdlkcpkkeoaaXWords
import Derived.Test.YtngbdlkcpkkeoaaXLib
namespace Go.Proofs.Ytngbdlkcpkkeoaa.PFnExactFieldRange
open Go.RowKit Go.Proofs.YtngbdlkcpkkeoaaW.PrintWords Go.Proofs.YtngbdlkcpkkeoaaW.PrintLast Go.Proofs.YtngbdlkcpkkeoaaW.PrintMore
attribute [local go_sem] max2_int min2_int max_two min_two max_three min_three max_four min_four   -- for this text's walks alone
set_option linter.unusedVariables false
set_option linter.unusedSimpArgs false



def errW : Option Int → Value
  | none => .nilIface
  | some c => .iface 0 (.int .i64 c)
theorem errW_none : errW none = .nilIface := rfl
theorem errW_some (c : Int) : errW (some c) = .iface 0 (.int .i64 c) := rfl

theorem info3 : (Try.prog.info? 3).map (fun i => (i.zero, i.size, i.bytes)) = some (some (.int .i64 0), 1, 8) := by kernel_rfl
-- the values' own types
def rd_L1 (xs : List (List Int)) (i : Int) : (List Int) := xs.getD i.toNat ([] : List Int)
theorem at_L1 {w : World} {A : Option Addr} {n : Nat} {xs : List (List Int)} (h : Kd.C (Kd.slice 3 (Kd.int .i64)) w A n xs) (i : Int) (h0 : 0 ≤ i) (h1 : i < n) : ∃ ad A0 c0, A = some ad ∧ w.cell? (ad.add i.toNat) = some (.slice A0 (rd_L1 xs i).length c0) ∧ (rd_L1 xs i).length ≤ c0 ∧ (Kd.int .i64).C w A0 (rd_L1 xs i).length (rd_L1 xs i) := by
  obtain ⟨ad, c, e, _, hK, hc0⟩ := Kd.C_get h ([] : List Int) i h0 h1
  have hc : ∀ j u, c[j]? = some u → w.cell? (ad.add (i.toNat * 1 + j)) = some u := hc0
  obtain ⟨A0, c0, rfl, l0, g0⟩ := hK
  exact ⟨ad, A0, c0, e, by have hq := hc 0 _ rfl; rwa [Nat.mul_one, Nat.add_zero] at hq, l0, g0⟩

/-- A function value of type 71: what it answers. -/
class Fn71 where
  f : Nat → Int → Option (Bool)
  mono : ∀ a0 k, LeO (f k a0) (f (k + 1) a0)
/-- Function G, bound to what lies at LB, answers so in all such worlds. -/
@[reducible] def Fn71.Gives [Fn71] (G : Nat) (LB : Array Value) (Rel : World → Prop) : Prop := ∀ (k : Nat) (a0 : Int) (r : Bool) (W : World), Rel W → Fn71.f k a0 = some r →
    Calls Try.prog G (#[.int .i64 a0] ++ LB) W fun e w' => e = .returned (.bool r) ∧ Below W.heap.size W w'
theorem Fn71.Gives.later [Fn71] {G : Nat} {LB : Array Value} {w W : World} (h : Fn71.Gives G LB (fun W_ => Below w.heap.size w W_)) (hb : Below w.heap.size w W) : Fn71.Gives G LB (fun W_ => Below W.heap.size W W_) :=
  fun k a0 r W'  hW => h k a0 r W'  (hb.trans (hW.mono hb.size))

end Go.Proofs.Ytngbdlkcpkkeoaa.PFnExactFieldRange
