/- Laws of the walk for a call through a function value: a call of '.func (.func G) #[] LB' enters G with LB behind the arguments. -/
import Derived.Test.YtngbdlkcpkkeoaaWMore
namespace Go.Proofs.YtngbdlkcpkkeoaaW.PrintLast
open Go.RowKit Go.Proofs.YtngbdlkcpkkeoaaW.PrintWords
theorem run_index_lit {P : Program} (t e : TypeId) (n : Nat) (xs : List Int) (k k' : IntKind) (i : Int) (ht : P.underlying t = some (.array n e)) (hn : xs.length = n) (h0 : 0 ≤ i) (h1 : i < (n : Int)) (hsz : ∀ w, (sizeOf e).run P w = .ok 1 w) (hag : ∀ w, (isAgg e).run P w = .ok false w) (w : World) :
    (Instr.index t (.agg (nums k xs).toArray) (.int k' i)).run P w = .ok (.int k (rd xs i)) w := by
  have hi : i.toNat < xs.length := by omega
  have hg : (nums k xs)[i.toNat]? = some (.int k (rd xs i)) := by
    simp [nums, rd, hi]
  simp [Instr.index, run_underlying ht, asIntOf, h0, h1, hsz, part, hag, hg]
section
variable {P : Program} {ops : Array Oper} {Q : Exit → Act → World → Prop} {W : World}
theorem gate_value {rest : List Oper} {o : Oper} {a : Act} {s : Tmp} {as : Array Operand} {ts : Array TypeId} (_ho : o.op = .call { callee := .value (.tmp s), args := as, argTypes := ts }) (h : wpList P ops Q (o :: rest) a W) : wpList P ops Q (o :: rest) a W := h
theorem run_value {oi : Oper} {a : Act} {w : World} {f : FuncId} {co : Operand} {as : Array Operand} {ts : Array TypeId} (he : ∀ (args_ : Array Value) (w_ : World), (callFunc f args_).run P w_ = .ok (.enter f args_) w_) (LB args : Array Value)
    (hop : oi.op = .call { callee := .value co, args := as, argTypes := ts }) (hco : a.eval co = .func (.func f) #[] LB) (hargs : as.map a.eval = args) : (execOp a.eval oi).run P w = .ok (.enter f (args ++ LB)) w := by
  unfold execOp
  rw [hop]
  simp only [resolve, hco, hargs, Deferred.ofValue]
  simp [invoke, he]
theorem goesLV_ {rest : List Oper} {oi : Oper} {a : Act} {w : World} (N : Option Tmp) (hd : oi.dst = N) (hg : oi.guard = none) {f : FuncId} {co : Operand} {as : Array Operand} {ts : Array TypeId} (he : ∀ (args_ : Array Value) (w_ : World), (callFunc f args_).run P w_ = .ok (.enter f args_) w_) (LB args : Array Value)
    (hop : oi.op = .call { callee := .value co, args := as, argTypes := ts }) (hco : a.eval co = .func (.func f) #[] LB) (hargs : as.map a.eval = args)
    (h : Calls P f (args ++ LB) w fun e w' => ∃ v, e = .returned v ∧ wpList P ops Q rest (a.put N v) w') : wpList P ops Q (oi :: rest) a w := by
  refine wpList_plain hg fun K hK => ?_
  have hrun := run_value (w := w) he LB args hop hco hargs
  unfold Oper.wp
  rw [hrun, Oper.upon_enter]
  refine h.mono fun e w'' hh => ?_
  obtain ⟨v, rfl, hk⟩ := hh
  subst hd
  exact hK _ _ hk
theorem goesV_ {oi : Oper} {N : Option Tmp} {a : Act} {w : World} {K : Act → World → Prop} {f : FuncId} {co : Operand} {as : Array Operand} {ts : Array TypeId} (he : ∀ (args_ : Array Value) (w_ : World), (callFunc f args_).run P w_ = .ok (.enter f args_) w_) (LB args : Array Value)
    (hw : Region.wanted oi (yielded ops a.tmps) = true) (hN : oi.dst = N) (hop : oi.op = .call { callee := .value co, args := as, argTypes := ts }) (hco : a.eval co = .func (.func f) #[] LB) (hargs : as.map a.eval = args)
    (h : Calls P f (args ++ LB) w fun e w' => ∃ v, e = .returned v ∧ K (a.put N v) w') : if Region.wanted oi (yielded ops a.tmps) = true then Oper.wp P oi a w K Q else K (a.put N undef) w :=
  call_ f (args ++ LB) hw hN (run_value (w := w) he LB args hop hco hargs) h
end
/-- A cell that reads so, reads so in all later worlds that keep what lay. -/
theorem below_cell_some {w W : World} {a : Addr} {v : Value} (hb : Below w.heap.size w W) (h : w.cell? a = some v) : W.cell? a = some v := (hb.cell (World.block_lt_of_cell? _ _ h)).trans h
/-- Blocks of two types are two blocks. -/
theorem blk_type_ne {w : World} {g g' : Nat} {cs cs' : Array Value} {t t' : TypeId} {z z' : Nat × Nat} (h : w.heap[g]? = some (.cells cs t z)) (h' : w.heap[g']? = some (.cells cs' t' z')) (hn : t ≠ t') : g ≠ g' := by
  rintro rfl
  rw [h] at h'
  injection h' with h'
  injection h' with _ h' _
  exact hn h'
end Go.Proofs.YtngbdlkcpkkeoaaW.PrintLast
