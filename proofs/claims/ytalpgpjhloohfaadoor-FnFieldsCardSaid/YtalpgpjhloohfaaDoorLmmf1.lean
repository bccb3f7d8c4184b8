/- A deterministic reading of Go code over plain data: what functions of the program compute, and what its laws come to. No conditions. -/
import Derived.Test.YtalpgpjhloohfaaDoorEngT
import Derived.IntWalk
import Derived.Lib.ItoaLen
import Derived.Lib.IndexLaws
import Derived.Lib.Bytes
import Derived.Lib.ItoaMem
import Derived.Lib.Atoi
import Derived.Lib.AtoiTie
import Derived.Lib.Join
import Derived.Lib.IndexBytes
import Derived.Lib.Split
import Derived.Lib.SplitLaws
namespace Go.Proofs.YtalpgpjhloohfaaDoor.Eng
open Go Go.Proofs
set_option maxRecDepth 100000
set_option maxHeartbeats 2000000
set_option linter.unusedSimpArgs false
set_option linter.unusedVariables false
attribute [local simp] finK fin1 hpOf xi renQ isRoot runCode runOps Eng.step wantedV astep val ofO made loadV storeV find V.cells bin binT binA numT numFs eqCells un1 setAt fieldAddrV fieldV indexAddrV indexV bounds sliceV convV lenV foldV max2V min2V callO bor rdsO wrsO seen_none okD_none loops keepIds resV resultsV St.ev TK.agg refs refsL refsO V.one V.isC Value.oneCell' ren renL renO noTag noTagL noTagR noTagO nodup mapO passV frs psi refsR newD loopNext opsAt idx flatAt rootOf backR newsV appendV copyV clearV strV bytesV bldV bufV selfV bytesOf nilCmp buildV fillF chunk
attribute [local simp] cT cF cX cWR cOW cK cBL X ints_length ints_get ints_getElem ints_drop ints_take ints_append ints_nil ints_set
attribute [local simp] T3 T4 T5 T9 T22 T28 T32 T55 T57 T63 T64 T66 T70 T72
theorem wrap_small {n : Int} (h : -9223372036854775808 ≤ n) (h' : n ≤ 9223372036854775807) : IntKind.i64.wrap n = n := IntWalk.i64_in _ ⟨h, h'⟩
def cellB (n : Int) : Bool := n == -9999 || (decide (-9000 ≤ n) && decide (n ≤ 9000))
def shapeB (x y : Int) : Bool := (decide (1 ≤ x) && decide (x ≤ 8)) && (decide (1 ≤ y) && decide (y ≤ 8))
def goodB (w h : Int) (l : List Int) : Bool := shapeB w h && (((l.length : Int) == w * h) && l.all cellB)
def fldV (b : Bool) (w h : Int) (l : List Int) : V := .ag [.c (.int .i64 w), .c (.int .i64 h), .sq b true 1 (ints l)]
def intV (n : Int) : V := .c (.int .i64 n)
def boolV (b : Bool) : V := .c (.bool b)
theorem shape_area {w h : Int} (hs : shapeB w h = true) : 0 ≤ w * h ∧ w * h ≤ 64 ∧ 1 ≤ w ∧ w ≤ 8 ∧ 1 ≤ h ∧ h ≤ 8 := by
  unfold shapeB at hs
  simp only [Bool.and_eq_true, decide_eq_true_eq] at hs
  obtain ⟨⟨hw1, hw2⟩, hh1, hh2⟩ := hs
  exact ⟨Int.mul_nonneg (by omega) (by omega), by have := Int.mul_le_mul hw2 hh2 (by omega) (by omega); omega, hw1, hw2, hh1, hh2⟩
theorem good_length {w h : Int} {l : List Int} (hg : goodB w h l = true) : shapeB w h = true ∧ (l.length : Int) = w * h ∧ l.all cellB = true ∧ l.length ≤ 64 := by
  unfold goodB at hg
  simp only [Bool.and_eq_true, beq_iff_eq] at hg
  have := shape_area hg.1
  exact ⟨hg.1, hg.2.1, hg.2.2, by omega⟩
/-- A loop, by what holds at its head before round i. -/
theorem loopInd {body : St → Option (Ex × St)} {keep : List Nat} {P : Option (Ex × St) → Prop} (I : Nat → St → Prop) (n : Nat)
    (hs : ∀ i st next, i < n → I i st → (∀ st', I (i + 1) st' → P (next st')) → P (loopNext (body (gc keep st)) next))
    (hf : ∀ st next, I n st → P (loopNext (body (gc keep st)) next)) : ∀ (d i k : Nat) (st : St), i + d = n → d < k → I i st → P (loopRun body keep k st) := by
  intro d
  induction d with
  | zero =>
    intro i k st hi hk h
    obtain ⟨k, rfl⟩ : ∃ m, k = m + 1 := ⟨k - 1, by omega⟩
    obtain rfl : i = n := by omega
    rw [loopRun_succ]
    exact hf st _ h
  | succ d ih =>
    intro i k st hi hk h
    obtain ⟨k, rfl⟩ : ∃ m, k = m + 1 := ⟨k - 1, by omega⟩
    rw [loopRun_succ]
    exact hs i st _ (by omega) h fun st' h' => ih (i + 1) k st' (by omega) (by omega) h'
/-- The same, with a word for the state behind it. -/
theorem loopOut {body : St → Option (Ex × St)} {keep : List Nat} (e : Ex) (R : St → Prop) (I : Nat → St → Prop) (n k : Nat) (hk : n < k)
    (hs : ∀ i st next, i < n → I i st → (∀ st', I (i + 1) st' → ∃ s, next st' = some (e, s) ∧ R s) → ∃ s, loopNext (body (gc keep st)) next = some (e, s) ∧ R s)
    (hf : ∀ st next, I n st → ∃ s, loopNext (body (gc keep st)) next = some (e, s) ∧ R s) :
    ∃ out : St → St, ∀ st, I 0 st → loopRun body keep k st = some (e, out st) ∧ R (out st) := by
  obtain ⟨out, h1, h2⟩ := outOf (D := I 0) (LP := loopRun body keep k) (e := e) (R := fun _ s => R s) (fun st h0 => loopInd (P := fun r => ∃ s, r = some (e, s) ∧ R s) I n hs hf n 0 k st (by omega) hk h0)
  exact ⟨out, fun st h => ⟨h1 st h, h2 st h⟩⟩
/-- A list being written over by another, from the left. -/
def fillL (l m : List Int) (i : Nat) : List Int := l.take i ++ m.drop i
theorem fillL_zero (l m : List Int) : fillL l m 0 = m := by simp [fillL]
theorem fillL_all (l m : List Int) (h : m.length ≤ l.length) : fillL l m l.length = l := by simp [fillL, List.drop_eq_nil_of_le h]
theorem fillL_length (l m : List Int) (i : Nat) (h : m.length = l.length) : (fillL l m i).length = l.length := by simp [fillL]; omega
theorem fillL_get (l m : List Int) (i : Nat) (h : m.length = l.length) (hi : i < l.length) : (fillL l m i)[i]? = some (m[i]'(by omega)) := by
  unfold fillL
  rw [List.getElem?_append_right (by simp; omega)]
  have : i - (l.take i).length = 0 := by simp; omega
  rw [this, List.getElem?_drop, List.getElem?_eq_getElem (by omega)]
  rfl
theorem fillL_set (l m : List Int) (i : Nat) (h : m.length = l.length) (hi : i < l.length) : (fillL l m i).set i l[i] = fillL l m (i + 1) := by
  unfold fillL
  rw [List.set_append, if_neg (by simp; omega)]
  have : i - (l.take i).length = 0 := by simp; omega
  rw [this, List.drop_eq_getElem_cons (by omega : i < m.length), List.set_cons_zero, List.take_succ_eq_append_getElem hi, List.append_assoc]
  rfl
theorem wrap_next {i n : Nat} (h : i < n) (hn : n ≤ 9000000000000000000) : IntKind.i64.wrap ((i : Int) + 1) = (i : Int) + 1 := wrap_small (by omega) (by omega)
theorem ints_replicate (n : Nat) (a : Int) : List.replicate n [V.c (.int .i64 a)] = ints (List.replicate n a) := by simp [ints]
theorem okI (ty : TypeId) (l : List Int) : okObj ⟨ty, 1, true, ints l⟩ = true := by simp [okObj, ints, V.one, V.isC, Value.oneCell']
theorem ok_1 (ty : TypeId) (sz : Nat) (fl : Bool) (e : List V) : okObj ⟨ty, sz, fl, [e]⟩ = (e.length == sz && e.all fun x => x.one && (!fl || x.isC)) := by simp [okObj]
theorem ok_2 (ty : TypeId) (sz : Nat) (fl : Bool) (e e' : List V) : okObj ⟨ty, sz, fl, [e, e']⟩ = ((e.length == sz && e.all fun x => x.one && (!fl || x.isC)) && (e'.length == sz && e'.all fun x => x.one && (!fl || x.isC))) := by simp [okObj]
theorem ok_0 (ty : TypeId) (sz : Nat) (fl : Bool) : okObj ⟨ty, sz, fl, []⟩ = true := rfl
theorem wrap_1 : IntKind.i64.wrap 1 = 1 := rfl
theorem wrap_2 : IntKind.i64.wrap 2 = 2 := rfl
/-- A field that is only read: its slice's mark, its shape, its cells. -/
structure Fd where
  b : Bool
  w : Int
  h : Int
  l : List Int
def Fd.cells (q : Fd) : List V := [.c (.int .i64 q.w), .c (.int .i64 q.h), .sq q.b true 1 (ints q.l)]
def Fd.good (q : Fd) : Bool := goodB q.w q.h q.l
theorem young_far {rid j id : Nat} {W : List (Nat × Nat)} {ops : List Oper} (h : (decide (rid * 64 < id / 16) && decide (id / 16 ≤ rid * 64 + 64)) = false) : youngOf (some (rid, W)) ops j id = hidW W ops j id := by simp [youngOf, h]
theorem hidW_nil (ops : List Oper) (j id : Nat) : hidW [] ops j id = false := rfl
theorem mayW_nil (j id : Nat) : mayW [] j id = true := rfl
theorem young_none {j id : Nat} {ops : List Oper} : youngOf none ops j id = false := rfl
/-! Slots and objects are looked up one by one; a state is never opened under a binder. -/
theorem putV_some (ρ : Nat → V) (d x : Nat) (v : V) : putV ρ (some d) v x = if x = d then v else ρ x := rfl
theorem putV_none (ρ : Nat → V) (v : V) : putV ρ none v = ρ := rfl
def putH (H : Hp) (i : Nat) (o : Option (Nat × Eng.Obj)) : Hp := fun id => if id = i then o else H id
theorem putH_app (H : Hp) (i id : Nat) (o : Option (Nat × Eng.Obj)) : putH H i o id = if id = i then o else H id := rfl
theorem applyD_nil (H : Hp) : applyD H [] = H := rfl
theorem applyD_cons (H : Hp) (i : Nat) (o : Option (Nat × Eng.Obj)) (δ : List (Nat × Option (Nat × Eng.Obj))) : applyD H ((i, o) :: δ) = applyD (putH H i o) δ := rfl
theorem seen_app (rid j id : Nat) (W : List (Nat × Nat)) (ops : List Oper) (H : Hp) : Eng.seen (some (rid, W)) ops j H id = if youngOf (some (rid, W)) ops j id then none else H id := rfl
theorem gc_ρ (l : List Nat) (st : St) (x : Nat) : (gc l st).ρ x = if l.contains x then st.ρ x else .un := rfl
theorem gc_H (l : List Nat) (st : St) (id : Nat) : (gc l st).H id = if decide (id < 16) || (keepIds l st).contains id then st.H id else none := rfl
theorem gc_tick (l : List Nat) (st : St) : (gc l st).tick = st.tick := rfl
theorem st0_ρ (args : List V) (frag : List Eng.Obj) (x : Nat) : (st0 args frag).ρ x = args.getD x (.c undef) := rfl
theorem st0_H (args : List V) (frag : List Eng.Obj) (id : Nat) : (st0 args frag).H id = (frag[id]?).map fun o => (0, o) := rfl
theorem st0_tick (args : List V) (frag : List Eng.Obj) : (st0 args frag).tick = 1 := rfl
/-! Calls and ends, said without a state under a binder. -/
def retV (tick site : Nat) (v : V) (Hc : Hp) : Out :=
  if nodup ((refs v).map (·.1)) && noTag v && decide ((refs v).length ≤ 16) then
    match mapO (flatAt Hc) (refs v), ren (psi [] (refs v) site tick) v with
    | some objs, some v' => some (some v', newD tick (16 * site) objs)
    | _, _ => none
  else none
def callRo (call : CallF) (tick site : Nat) (f : FuncId) (al : Option (List V)) : Out :=
  match al with
  | none => none
  | some al => match call f al [] with
    | none => none
    | some (v, Hc) => retV tick site v Hc
theorem isRoot_0 (q : Nat × Nat) : isRoot 0 q = false := rfl
theorem filter_0 (l : List (Nat × Nat)) : l.filter (fun q => !isRoot 0 q) = l := by
  rw [List.filter_eq_self]; intro q _; rfl
def borL (H : Hp) (l : List V) : Option (List V) := mapO (bor H 4) l
theorem borL_nil (H : Hp) : borL H [] = some [] := by unfold borL; rw [mapO]
theorem borL_cons (H : Hp) (x : V) (l : List V) : borL H (x :: l) = (match bor H 4 x with
    | none => none
    | some y => match borL H l with
      | none => none
      | some l' => some (y :: l')) := by
  unfold borL
  rw [mapO]
  cases bor H 4 x <;> simp only [] <;> cases mapO (bor H 4) l <;> rfl
theorem callV_ro {C : Cfg} {call : CallF} {H : Hp} {tick site : Nat} {f : FuncId} {args : List V} (h : C.wr f = false) : callV C call H tick site f args = callRo call tick site f (borL H args) := by
  show _ = callRo call tick site f (mapO (bor H 4) args)
  have hp : passV false (C.own f) (fun id => if List.contains (List.map (·.1) ([] : List (Nat × Nat))) id = true then none else H id) (frs []) = bor H 4 := by
    funext x
    have hh : (fun id => if List.contains (List.map (·.1) ([] : List (Nat × Nat))) id = true then none else H id) = H := by funext id; rfl
    rw [hh]
    cases x <;> rfl
  unfold callV callRo
  simp only [h, Bool.false_eq_true, if_false, mapO, List.flatMap_nil, List.append_nil, List.map_nil, List.nil_append]
  simp only [List.map_nil] at hp
  rw [hp, if_pos (show nodup [] = true from rfl)]
  cases mapO (bor H 4) args with
  | none => rfl
  | some al =>
    simp only []
    cases call f al [] with
    | none => rfl
    | some r =>
      obtain ⟨v, Hc⟩ := r
      simp only [retV, List.length_nil, List.range_zero, List.map_nil, refsR, List.append_nil, noTagR, Bool.and_true, List.zip_nil_left, mapO, filter_0, List.nil_append]
      cases nodup ((refs v).map (·.1)) && noTag v && decide ((refs v).length ≤ 16) with
      | false => rfl
      | true =>
        simp only [if_true]
        cases mapO (flatAt Hc) (refs v) <;> cases ren (psi [] (refs v) site tick) v <;> rfl
def cutH (H : Hp) (ids : List Nat) : Hp := fun id => if ids.contains id then none else H id
theorem cutH_app (H : Hp) (ids : List Nat) (id : Nat) : cutH H ids id = if ids.contains id then none else H id := rfl
def findQ (H : Hp) (q : Nat × Nat) : Option Eng.Obj := find H q.1 q.2
def afterV (Hc : Hp) : Nat → List (Option Eng.Obj)
  | 0 => []
  | n + 1 => afterV Hc n ++ [find Hc n 0]
theorem afterV_is (Hc : Hp) (n : Nat) : (List.range n).map (fun i => find Hc i 0) = afterV Hc n := by
  induction n with
  | zero => rfl
  | succ n ih => rw [List.range_succ, List.map_append, ih]; rfl
def callWr (C : Cfg) (call : CallF) (H : Hp) (tick site : Nat) (f : FuncId) (args : List V) (roots : List (Nat × Nat)) : Out :=
  match mapO (findQ H) roots with
  | none => none
  | some robjs =>
    match mapO (flatAt H) (robjs.flatMap refsO) with
    | none => none
    | some sobjs =>
      if nodup ((roots ++ robjs.flatMap refsO).map (·.1)) then
        match mapO (passV true (C.own f) (cutH H ((roots ++ robjs.flatMap refsO).map (·.1))) (frs (roots ++ robjs.flatMap refsO))) args, mapO (renO (frs (roots ++ robjs.flatMap refsO))) robjs with
        | some al, some fr =>
          match call f al (fr ++ sobjs) with
          | none => none
          | some (v, Hc) =>
            let after := afterV Hc roots.length
            let pulled := (refs v ++ refsR after).filter (fun q => !isRoot roots.length q)
            if nodup (pulled.map (·.1)) && noTag v && decide (pulled.length ≤ 16) && noTagR after then
              match mapO (flatAt Hc) pulled, ren (psi roots pulled site tick) v, mapO (backR (psi roots pulled site tick)) (roots.zip after) with
              | some objs, some v', some rs => some (some v', rs ++ ((robjs.flatMap refsO).map (fun q => (q.1, none)) ++ newD tick (16 * site) objs))
              | _, _, _ => none
            else none
        | _, _ => none
      else none
theorem callV_wr {C : Cfg} {call : CallF} {H : Hp} {tick site : Nat} {f : FuncId} {args : List V} (h : C.wr f = true) : callV C call H tick site f args = callWr C call H tick site f args (args.flatMap (rootOf (C.own f))) := by
  unfold callV callWr
  simp only [h, if_true, ← afterV_is]
  rfl
theorem exportV_0 (v : V) (H : Hp) : exportV 0 v H = if nodup ((refs v).map (·.1)) then (match mapO (flatAt H) (refs v), ren (xi 0 (refs v)) v with
    | some objs, some v' => some (v', hpOf [] objs)
    | _, _ => none) else none := by
  simp only [exportV, List.range_zero, List.map_nil, refsR, List.append_nil, filter_0, mapO]
  cases nodup ((refs v).map (·.1)) with
  | false => rfl
  | true =>
    simp only [if_true]
    cases mapO (flatAt H) (refs v) <;> cases ren (xi 0 (refs v)) v <;> rfl
theorem exportV_n (n : Nat) (v : V) (H : Hp) : exportV (n + 1) v H =
    (if nodup (((refs v ++ refsR (afterV H (n + 1))).filter (fun q => !isRoot (n + 1) q)).map (·.1)) then
      match mapO (flatAt H) ((refs v ++ refsR (afterV H (n + 1))).filter (fun q => !isRoot (n + 1) q)), ren (xi (n + 1) ((refs v ++ refsR (afterV H (n + 1))).filter (fun q => !isRoot (n + 1) q))) v, mapO (renQ (xi (n + 1) ((refs v ++ refsR (afterV H (n + 1))).filter (fun q => !isRoot (n + 1) q)))) (afterV H (n + 1)) with
      | some objs, some v', some after' => some (v', hpOf after' objs)
      | _, _, _ => none
    else none) := by
  simp only [exportV, afterV_is]
  rfl
theorem okD_nil (dr : Dr) (yg : Nat → Bool) (H : Hp) (site : Nat) (wr : Bool) : okD dr yg H site wr [] = true := by cases dr <;> rfl
theorem okD_cons (rid : Nat) (W : List (Nat × Nat)) (yg : Nat → Bool) (H : Hp) (site i : Nat) (wr : Bool) (o : Option (Nat × Eng.Obj)) (δ : List (Nat × Option (Nat × Eng.Obj))) : okD (some (rid, W)) yg H site wr ((i, o) :: δ) =
    ((if i / 16 = site ∧ i % 16 < 8 then (H i).isNone && o.isSome else wr && !yg i && mayW W (site - rid * 64 - 1) i) && okD (some (rid, W)) yg H site wr δ) := rfl
theorem sub_seq0 (p : List Nat) (a b : Code) : subC (0 :: p) (.seq a b) = subC p a := rfl
theorem sub_seq1 (p : List Nat) (a b : Code) : subC (1 :: p) (.seq a b) = subC p b := rfl
theorem sub_cond0 (p : List Nat) (t : Operand) (a b : Code) : subC (0 :: p) (.cond t a b) = subC p a := rfl
theorem sub_cond1 (p : List Nat) (t : Operand) (a b : Code) : subC (1 :: p) (.cond t a b) = subC p b := rfl
theorem sub_block (p : List Nat) (i : Nat) (a : Code) : subC (0 :: p) (.block i a) = subC p a := rfl
theorem sub_loop (p : List Nat) (a : Code) : subC (0 :: p) (.loop a) = subC p a := rfl
theorem sub_nil (c : Code) : subC [] c = c := by cases c <;> rfl
theorem fillL_keep (l m : List Int) (i : Nat) (h : m.length = l.length) (hi : i < l.length) (he : m[i]'(by omega) = l[i]) : fillL l m (i + 1) = fillL l m i := by
  rw [← fillL_set l m i h hi, ← he]
  have hg := fillL_get l m i h hi
  obtain ⟨hl, hg'⟩ := List.getElem?_eq_some_iff.1 hg
  rw [← hg', List.set_getElem_self]
def intsO (l : List Int) : Eng.Obj := ⟨3, 1, true, ints l⟩
theorem young_near {rid j id : Nat} {W : List (Nat × Nat)} {ops : List Oper} (h : (decide (rid * 64 < id / 16) && decide (id / 16 ≤ rid * 64 + 64)) = true) : youngOf (some (rid, W)) ops j id = ((decide (id % 16 < 8) && !((clo ops).getD j 0).testBit (id / 16 - rid * 64 - 1)) || hidW W ops j id) := by simp [youngOf, h]
theorem ints_snoc (l : List Int) (a : Int) : ints l ++ [[V.c (.int .i64 a)]] = ints (l ++ [a]) := by simp only [ints, List.map_append, List.map_cons, List.map_nil]
theorem take_self (l : List Int) (n : Nat) : (l.take n).take n = l.take n := by rw [List.take_take, Nat.min_self]
/-- A loop, asked of one state: what it leaves. -/
theorem loopHas {body : St → Option (Ex × St)} {keep : List Nat} (e : Ex) (R : St → Prop) (I : Nat → St → Prop) (n k : Nat) (hk : n < k)
    (hs : ∀ i st next, i < n → I i st → (∀ st', I (i + 1) st' → ∃ s, next st' = some (e, s) ∧ R s) → ∃ s, loopNext (body (gc keep st)) next = some (e, s) ∧ R s)
    (hf : ∀ st next, I n st → ∃ s, loopNext (body (gc keep st)) next = some (e, s) ∧ R s) :
    ∀ st, I 0 st → ∃ s, loopRun body keep k st = some (e, s) ∧ R s :=
  fun st h0 => loopInd (P := fun r => ∃ s, r = some (e, s) ∧ R s) I n hs hf n 0 k st (by omega) hk h0
theorem loop_at {LP : St → Option (Ex × St)} {e : Ex} {D R : St → Prop} (h : ∀ st, D st → ∃ s, LP st = some (e, s) ∧ R s) {st : St} {res : Option (Ex × St)} (hr : LP st = res) (hD : D st) : ∃ s, res = some (e, s) ∧ R s := by
  obtain ⟨s, h1, h2⟩ := h st hD
  exact ⟨s, hr ▸ h1, h2⟩
theorem run_at {e : Option (V × Hp)} {x : Option (V × Hp)} (h : x = e) : x = e := h
theorem callV_if {C : Cfg} {call : CallF} {H : Hp} {tick site : Nat} {f : FuncId} {args : List V} : callV C call H tick site f args = if C.wr f = true then callWr C call H tick site f args (args.flatMap (rootOf (C.own f))) else callRo call tick site f (borL H args) := by
  cases h : C.wr f
  · rw [callV_ro h, if_neg (by decide)]
  · rw [callV_wr h, if_pos rfl]

end Go.Proofs.YtalpgpjhloohfaaDoor.Eng
namespace Go.Proofs.YtalpgpjhloohfaaDoor.Eng
open Go Go.Proofs
set_option maxRecDepth 100000
set_option maxHeartbeats 2000000
set_option linter.unusedSimpArgs false
set_option linter.unusedVariables false
attribute [local simp] finK fin1 hpOf xi renQ isRoot runCode runOps Eng.step wantedV astep val ofO made loadV storeV find V.cells bin binT binA numT numFs eqCells un1 setAt fieldAddrV fieldV indexAddrV indexV bounds sliceV convV lenV foldV max2V min2V callO bor rdsO wrsO seen_none okD_none loops keepIds resV resultsV St.ev TK.agg refs refsL refsO V.one V.isC Value.oneCell' ren renL renO noTag noTagL noTagR noTagO nodup mapO passV frs psi refsR newD loopNext opsAt idx flatAt rootOf backR newsV appendV copyV clearV strV bytesV bldV bufV selfV bytesOf nilCmp buildV fillF chunk
attribute [local simp] cT cF cX cWR cOW cK cBL X ints_length ints_get ints_getElem ints_drop ints_take ints_append ints_nil ints_set
attribute [local simp] ints_replicate
attribute [local simp] putV_some putV_none putH_app applyD_nil applyD_cons seen_app gc_ρ gc_H gc_tick st0_ρ st0_H st0_tick retV callRo callV_if borL_nil borL_cons ints_snoc take_self callWr cutH_app findQ afterV exportV_0 exportV_n okD_nil okD_cons sub_seq0 sub_seq1 sub_cond0 sub_cond1 sub_block sub_loop sub_nil young_far young_none hidW_nil mayW_nil pairs okI ok_0 ok_1 ok_2
attribute [local simp] T3 T4 T5 T9 T22 T28 T32 T55 T57 T63 T64 T66 T70 T72
theorem c_within (k : Nat) (x a b : Int) (hk : 1 ≤ k) : callK C k 46 [.c (.int .i64 x), .c (.int .i64 a), .c (.int .i64 b)] [] = some (.c (.bool (decide (a ≤ x) && decide (x ≤ b))), hpOf [] []) := by
  obtain ⟨k, rfl⟩ : ∃ m, k = m + 1 := ⟨k - 1, by omega⟩
  rw [callK_fn rfl F46 code46]
  by_cases h : a ≤ x <;> simp [R46_0, R46_1, Tryd.f46, h]
theorem c_isCell (k : Nat) (x : Int) (hk : 2 ≤ k) : callK C k 67 [.c (.int .i64 x)] [] = some (.c (.bool (cellB x)), hpOf [] []) := by
  obtain ⟨k, rfl⟩ : ∃ m, k = m + 2 := ⟨k - 2, by omega⟩
  rw [callK_fn rfl F67 code67]
  cases h : x == -9999 <;> simp [R67_0, R67_1, Tryd.f67, h, cellB, c_within]
theorem c_isCell1 (k : Nat) (x : Int) (hk : 3 ≤ k) : callK C k 74 [.c (.int .i64 x)] [] = some (.c (.bool (!cellB x)), hpOf [] []) := by
  obtain ⟨k, rfl⟩ : ∃ m, k = m + 3 := ⟨k - 3, by omega⟩
  rw [callK_fn rfl F74 code74]
  simp [R74_0, R74_1, Tryd.f74, c_isCell]
theorem c_IndexCell (k : Nat) (b : Bool) (l : List Int) (hl : l.length ≤ 1048576) (hk : l.length + 20 ≤ k) : ∃ r : Int, (0 ≤ r ↔ l.all cellB = false) ∧ callK C k 93 [.sq b true 1 (ints l), .fn 74 []] [] = some (.c (.int .i64 r), hpOf [] []) := by
  obtain ⟨k, rfl⟩ : ∃ m, k = m + 4 := ⟨k - 4, by omega⟩
  rw [callK_fn rfl F93 code93]
  have hc := fun x => c_isCell1 (k + 3) x (by omega)
  cases hall : l.all cellB
  · obtain ⟨i0, hi0, hc0, hlt⟩ : ∃ (i : Nat) (hi : i < l.length), cellB l[i] = false ∧ ∀ (j : Nat) (hj : j < i), cellB (l[j]'(by omega)) = true := by
      have hx : ∃ i, ∃ hi : i < l.length, cellB l[i] = false := by
        have : ¬ (l.all cellB = true) := by simp [hall]
        rw [List.all_eq_true] at this
        obtain ⟨x, hx, hx'⟩ := Classical.not_forall.1 this |>.imp fun x hx => Classical.not_imp.1 hx
        obtain ⟨i, hi, rfl⟩ := List.getElem_of_mem hx
        exact ⟨i, hi, by simpa using hx'⟩
      obtain ⟨i, hi, h1⟩ : ∃ i, (∃ hi : i < l.length, cellB l[i] = false) ∧ ∀ j, j < i → ¬ ∃ hi : j < l.length, cellB l[j] = false := by
        obtain ⟨i, hi⟩ := hx
        induction i using Nat.strongRecOn with
        | ind i ih =>
          by_cases hj : ∃ j, j < i ∧ ∃ hi : j < l.length, cellB l[j] = false
          · obtain ⟨j, hj1, hj2⟩ := hj; exact ih j hj1 hj2
          · exact ⟨i, hi, fun j hj' hj'' => hj ⟨j, hj', hj''⟩⟩
      exact ⟨i, hi.1, hi.2, fun j hj => by
        have hj2 : j < l.length := Nat.lt_trans hj hi.1
        cases hc : cellB (l[j]'hj2)
        · exact absurd ⟨hj2, hc⟩ (h1 j hj)
        · rfl⟩
    obtain ⟨out, ho⟩ := loopOut (body := fun st => runCode C (callK C (k + 3)) (k + 3) (K 93) L93_0 1 st) (keep := [0, 1, 7, 8]) .ret (fun st => st.ρ 4 = .c (.int .i64 (i0 : Int)))
      (fun i st => st.ρ 0 = .sq b true 1 (ints l) ∧ st.ρ 1 = .fn 74 [] ∧ st.ρ 7 = .c (.int .i64 (l.length : Int)) ∧ st.ρ 8 = .c (.int .i64 (i : Int)) ∧ i ≤ i0)
      i0 (k + 3) (by omega)
      (by
        rintro i st next hi ⟨h0, h1, h7, h8, hle⟩ hn
        have hil : i < l.length := by omega
        simp [L93_0, R93_0, R93_1, R93_2, R93_3, R93_4, R93_5, R93_6, R93_7, Tryd.f93, lpL93_0, lpM93_0, M93_0, h0, h1, h7, h8, hil, hc, hlt i hi, wrap_next hil (by omega)] at hn ⊢
        exact hn _ (by simp [h0]) (by simp [h1]) (by simp [h7]) (by simp) (by omega))
      (by
        rintro st next ⟨h0, h1, h7, h8, hle⟩
        simp [L93_0, R93_0, R93_1, R93_2, R93_3, R93_4, R93_5, R93_6, R93_7, Tryd.f93, lpL93_0, lpM93_0, M93_0, h0, h1, h7, h8, hi0, hc, hc0])
    simp at ho
    refine ⟨(i0 : Int), by simp, ?_⟩
    simp [R93_0, R93_1, R93_2, R93_3, R93_4, R93_5, R93_6, R93_7, Tryd.f93, lpL93_0, lpM93_0, M93_0, ho]
  · obtain ⟨out, ho⟩ := loopOut (body := fun st => runCode C (callK C (k + 3)) (k + 3) (K 93) L93_0 1 st) (keep := [0, 1, 7, 8]) (.ex 0) (fun st => True)
      (fun i st => st.ρ 0 = .sq b true 1 (ints l) ∧ st.ρ 1 = .fn 74 [] ∧ st.ρ 7 = .c (.int .i64 (l.length : Int)) ∧ st.ρ 8 = .c (.int .i64 (i : Int)))
      l.length (k + 3) (by omega)
      (by
        rintro i st next hi ⟨h0, h1, h7, h8⟩ hn
        have hci : cellB l[i] = true := List.all_eq_true.1 hall _ (List.getElem_mem hi)
        simp [L93_0, R93_0, R93_1, R93_2, R93_3, R93_4, R93_5, R93_6, R93_7, Tryd.f93, lpL93_0, lpM93_0, M93_0, h0, h1, h7, h8, hi, hc, hci, wrap_next hi (by omega)] at hn ⊢
        exact hn _ (by simp [h0]) (by simp [h1]) (by simp [h7]) (by simp))
      (by
        rintro st next ⟨h0, h1, h7, h8⟩
        simp [L93_0, R93_0, R93_1, R93_2, R93_3, R93_4, R93_5, R93_6, R93_7, Tryd.f93, lpL93_0, lpM93_0, M93_0, h0, h1, h7, h8])
    simp at ho
    refine ⟨-1, by simp, ?_⟩
    simp [R93_0, R93_1, R93_2, R93_3, R93_4, R93_5, R93_6, R93_7, Tryd.f93, lpL93_0, lpM93_0, M93_0, ho]
theorem c_ContainsCell (k : Nat) (b : Bool) (l : List Int) (hl : l.length ≤ 1048576) (hk : l.length + 30 ≤ k) : callK C k 73 [.sq b true 1 (ints l), .fn 74 []] [] = some (.c (.bool (!l.all cellB)), hpOf [] []) := by
  obtain ⟨k, rfl⟩ : ∃ m, k = m + 5 := ⟨k - 5, by omega⟩
  rw [callK_fn rfl F73 code73]
  obtain ⟨r, hr, hc⟩ := c_IndexCell (k + 4) b l hl (by omega)
  cases hall : l.all cellB
  · have : (0 : Int) ≤ r := hr.2 hall
    simp [R73_0, R73_1, Tryd.f73, hc, this]
  · have : ¬ (0 : Int) ≤ r := fun h => by rw [hr.1 h] at hall; cases hall
    simp [R73_0, R73_1, Tryd.f73, hc, this]
theorem c_IsValidField (k : Nat) (b : Bool) (w h : Int) (l : List Int) (hk : 200 ≤ k) : callK C k 32 [fldV b w h l] [] = some (.c (.bool (goodB w h l)), hpOf [] []) := by
  obtain ⟨k, rfl⟩ : ∃ m, k = m + 6 := ⟨k - 6, by omega⟩
  rw [callK_fn rfl F32 code32]
  have e1 : goodB w h l = (((decide (1 ≤ w) && decide (w ≤ 8)) && (decide (1 ≤ h) && decide (h ≤ 8))) && (((l.length : Int) == w * h) && l.all cellB)) := rfl
  cases h1 : (decide (1 ≤ w) && decide (w ≤ 8))
  · rw [e1, h1]
    simp [R32_0, R32_1, Tryd.f32, fldV, c_within, h1]
  cases h2 : (decide (1 ≤ h) && decide (h ≤ 8))
  · rw [e1, h1, h2]
    simp [R32_0, R32_1, Tryd.f32, fldV, c_within, h1, h2]
  have hs : shapeB w h = true := by simp only [shapeB, h1, h2]; rfl
  obtain ⟨hp0, hp, _⟩ := shape_area hs
  have hw : IntKind.i64.wrap (w * h) = w * h := wrap_small (by omega) (by omega)
  rw [e1, h1, h2]
  by_cases h3 : (l.length : Int) = w * h
  · have hc := c_ContainsCell (k + 5) true l (by omega) (by omega)
    have hc' := c_ContainsCell (k + 5) b l (by omega) (by omega)
    cases hall : l.all cellB <;> simp [R32_0, R32_1, Tryd.f32, fldV, c_within, h1, h2, h3, hw, hc, hc', hall]
  · have h3' : ((l.length : Int) == w * h) = false := by simpa using h3
    simp [R32_0, R32_1, Tryd.f32, fldV, c_within, h1, h2, h3', hw]
def ownV (w h : Int) (id vr n : Nat) : V := .ag [.c (.int .i64 w), .c (.int .i64 h), .s id vr 1 0 n]
def nilV : V := .ag [.c (.int .i64 0), .c (.int .i64 0), .c (.slice none 0 0)]

end Go.Proofs.YtalpgpjhloohfaaDoor.Eng
namespace Go.Proofs.YtalpgpjhloohfaaDoor.Eng
open Go Go.Proofs
set_option maxRecDepth 100000
set_option maxHeartbeats 2000000
set_option linter.unusedSimpArgs false
set_option linter.unusedVariables false
attribute [local simp] finK fin1 hpOf xi renQ isRoot runCode runOps Eng.step wantedV astep val ofO made loadV storeV find V.cells bin binT binA numT numFs eqCells un1 setAt fieldAddrV fieldV indexAddrV indexV bounds sliceV convV lenV foldV max2V min2V callO bor rdsO wrsO seen_none okD_none loops keepIds resV resultsV St.ev TK.agg refs refsL refsO V.one V.isC Value.oneCell' ren renL renO noTag noTagL noTagR noTagO nodup mapO passV frs psi refsR newD loopNext opsAt idx flatAt rootOf backR newsV appendV copyV clearV strV bytesV bldV bufV selfV bytesOf nilCmp buildV fillF chunk
attribute [local simp] cT cF cX cWR cOW cK cBL X ints_length ints_get ints_getElem ints_drop ints_take ints_append ints_nil ints_set
attribute [local simp] ints_replicate
attribute [local simp] putV_some putV_none putH_app applyD_nil applyD_cons seen_app gc_ρ gc_H gc_tick st0_ρ st0_H st0_tick retV callRo callV_if borL_nil borL_cons ints_snoc take_self callWr cutH_app findQ afterV exportV_0 exportV_n okD_nil okD_cons sub_seq0 sub_seq1 sub_cond0 sub_cond1 sub_block sub_loop sub_nil young_far young_none hidW_nil mayW_nil pairs okI ok_0 ok_1 ok_2
attribute [local simp] T3 T4 T5 T9 T22 T28 T32 T55 T57 T63 T64 T66 T70 T72
theorem c_Clone (k : Nat) (b : Bool) (l : List Int) (hl : l.length ≤ 1048576) (h0 : l ≠ []) (hk : 1 ≤ k) : callK C k 91 [.sq b true 1 (ints l)] [] = some (.s 0 2 1 0 l.length, hpOf [] [intsO l]) := by
  obtain ⟨k, rfl⟩ : ∃ m, k = m + 1 := ⟨k - 1, by omega⟩
  rw [callK_fn rfl F91 code91]
  have b2 : l.length * 8 ≤ 140737488355328 := by omega
  have b3 : l.length ≤ maxLen := by unfold maxLen; omega
  simp [R91_0, R91_1, R91_2, R91_3, Tryd.f91, h0, intsO, b2, b3]
theorem c_cloneField (k : Nat) (b : Bool) (w h : Int) (l : List Int) (hl : l.length ≤ 1048576) (h0 : l ≠ []) (hk : 2 ≤ k) : callK C k 68 [fldV b w h l] [] = some (.ag [.c (.int .i64 w), .c (.int .i64 h), .s 0 2 1 0 l.length], hpOf [] [intsO l]) := by
  obtain ⟨k, rfl⟩ : ∃ m, k = m + 2 := ⟨k - 2, by omega⟩
  rw [callK_fn rfl F68 code68]
  have hc := c_Clone (k + 1) b l hl h0 (by omega)
  have hc' := c_Clone (k + 1) true l hl h0 (by omega)
  simp [R68_0, R68_1, Tryd.f68, fldV, hc, hc', intsO]

end Go.Proofs.YtalpgpjhloohfaaDoor.Eng
namespace Go.Proofs.YtalpgpjhloohfaaDoor.Eng
open Go Go.Proofs
set_option maxRecDepth 100000
set_option maxHeartbeats 2000000
set_option linter.unusedSimpArgs false
set_option linter.unusedVariables false
attribute [local simp] finK fin1 hpOf xi renQ isRoot runCode runOps Eng.step wantedV astep val ofO made loadV storeV find V.cells bin binT binA numT numFs eqCells un1 setAt fieldAddrV fieldV indexAddrV indexV bounds sliceV convV lenV foldV max2V min2V callO bor rdsO wrsO seen_none okD_none loops keepIds resV resultsV St.ev TK.agg refs refsL refsO V.one V.isC Value.oneCell' ren renL renO noTag noTagL noTagR noTagO nodup mapO passV frs psi refsR newD loopNext opsAt idx flatAt rootOf backR newsV appendV copyV clearV strV bytesV bldV bufV selfV bytesOf nilCmp buildV fillF chunk
attribute [local simp] cT cF cX cWR cOW cK cBL X ints_length ints_get ints_getElem ints_drop ints_take ints_append ints_nil ints_set
attribute [local simp] ints_replicate
attribute [local simp] putV_some putV_none putH_app applyD_nil applyD_cons seen_app gc_ρ gc_H gc_tick st0_ρ st0_H st0_tick retV callRo callV_if borL_nil borL_cons ints_snoc take_self callWr cutH_app findQ afterV exportV_0 exportV_n okD_nil okD_cons sub_seq0 sub_seq1 sub_cond0 sub_cond1 sub_block sub_loop sub_nil young_far young_none hidW_nil mayW_nil pairs okI ok_0 ok_1 ok_2
attribute [local simp] T3 T4 T5 T9 T22 T28 T32 T55 T57 T63 T64 T66 T70 T72
theorem c_l1In (k : Nat) (x a b : Int) (hk : 1 ≤ k) : callK C k 47 [.c (.int .i64 x), .c (.int .i64 a), .c (.int .i64 b)] [] = some (.c (.bool (decide (a ≤ x) && decide (x ≤ b))), hpOf [] []) := by
  obtain ⟨k, rfl⟩ : ∃ m, k = m + 1 := ⟨k - 1, by omega⟩
  rw [callK_fn rfl F47 code47]
  by_cases h : a ≤ x <;> simp [R47_0, R47_1, Tryd.f47, h]
theorem c_l2Value (k : Nat) (x : Int) (hk : 2 ≤ k) : callK C k 70 [.c (.int .i64 x)] [] = some (.c (.bool (cellB x)), hpOf [] []) := by
  obtain ⟨k, rfl⟩ : ∃ m, k = m + 2 := ⟨k - 2, by omega⟩
  rw [callK_fn rfl F70 code70]
  cases h : x == -9999 <;> simp [R70_0, R70_1, Tryd.f70, h, cellB, c_l1In]
theorem c_l2Shape (k : Nat) (x y : Int) (hk : 2 ≤ k) : callK C k 77 [.c (.int .i64 x), .c (.int .i64 y)] [] = some (.c (.bool (shapeB x y)), hpOf [] []) := by
  obtain ⟨k, rfl⟩ : ∃ m, k = m + 2 := ⟨k - 2, by omega⟩
  rw [callK_fn rfl F77 code77]
  unfold shapeB
  cases h : (decide (1 ≤ x) && decide (x ≤ 8)) <;> simp [R77_0, R77_1, Tryd.f77, h, c_l1In]
theorem c_l2Good (k : Nat) (b : Bool) (w h : Int) (l : List Int) (hk : 100 ≤ k) : callK C k 37 [fldV b w h l] [] = some (.c (.bool (goodB w h l)), hpOf [] []) := by
  obtain ⟨k, rfl⟩ : ∃ m, k = m + 3 := ⟨k - 3, by omega⟩
  rw [callK_fn rfl F37 code37]
  cases h1 : shapeB w h
  · simp [R37_0, R37_1, R37_2, R37_3, R37_4, R37_5, R37_6, R37_7, R37_8, Tryd.f37, lpL37_0, lpM37_0, M37_0, c_l2Shape, fldV, goodB, h1]
  obtain ⟨hp0, hp, _⟩ := shape_area h1
  have hw : IntKind.i64.wrap (w * h) = w * h := wrap_small (by omega) (by omega)
  by_cases h2 : (l.length : Int) = w * h
  · simp only [fldV, goodB, h1, h2]
    have hc := fun x => c_l2Value (k + 2) x (by omega)
    cases hall : l.all cellB
    · obtain ⟨out, ho⟩ := loopOut (body := fun st => runCode C (callK C (k + 2)) (k + 2) (K 37) L37_0 1 st) (keep := [1, 3]) .ret (fun st => st.ρ 2 = .c (.bool false))
        (fun i st => st.ρ 1 = .p 16 1 3 0 0 ∧ st.H 16 = some (1, ⟨28, 3, false, [[.c (.int .i64 w), .c (.int .i64 h), .sq b true 1 (ints l)]]⟩) ∧ st.ρ 3 = .c (.int .i64 (i : Int)) ∧ (l.take i).all cellB = true)
        l.length (k + 2) (by omega)
        (by
          rintro i st next hi ⟨h1, hH, h3, ht⟩ hn
          cases hx : cellB l[i]
          · simp [L37_0, R37_0, R37_1, R37_2, R37_3, R37_4, R37_5, R37_6, R37_7, R37_8, Tryd.f37, lpL37_0, lpM37_0, M37_0, h1, hH, h3, hi, hc, hx]
          · have ht' : (l.take (i + 1)).all cellB = true := by rw [List.take_succ_eq_append_getElem hi, List.all_append, ht]; simp [hx]
            simp [L37_0, R37_0, R37_1, R37_2, R37_3, R37_4, R37_5, R37_6, R37_7, R37_8, Tryd.f37, lpL37_0, lpM37_0, M37_0, h1, hH, h3, hi, hc, hx, wrap_next hi (by omega : l.length ≤ 9000000000000000000)]
            exact hn _ (by simp [h1, hH]; simpa using ht'))
        (by
          rintro st next ⟨h1, hH, h3, ht⟩
          rw [List.take_of_length_le (Nat.le_refl _), hall] at ht
          cases ht)
      simp at ho
      simp [R37_0, R37_1, R37_2, R37_3, R37_4, R37_5, R37_6, R37_7, R37_8, Tryd.f37, lpL37_0, lpM37_0, M37_0, c_l2Shape, h1, hw, h2, ho]
    · obtain ⟨out, ho⟩ := loopOut (body := fun st => runCode C (callK C (k + 2)) (k + 2) (K 37) L37_0 1 st) (keep := [1, 3]) (.ex 0) (fun st => st.tick = st.tick)
        (fun i st => st.ρ 1 = .p 16 1 3 0 0 ∧ st.H 16 = some (1, ⟨28, 3, false, [[.c (.int .i64 w), .c (.int .i64 h), .sq b true 1 (ints l)]]⟩) ∧ st.ρ 3 = .c (.int .i64 (i : Int)))
        l.length (k + 2) (by omega)
        (by
          rintro i st next hi ⟨h1, hH, h3⟩ hn
          have hx : cellB l[i] = true := List.all_eq_true.1 hall _ (List.getElem_mem hi)
          simp [L37_0, R37_0, R37_1, R37_2, R37_3, R37_4, R37_5, R37_6, R37_7, R37_8, Tryd.f37, lpL37_0, lpM37_0, M37_0, h1, hH, h3, hi, hc, hx, wrap_next hi (by omega : l.length ≤ 9000000000000000000)]
          simp only [and_true] at hn
          exact hn _ (by simp [h1, hH]))
        (by
          rintro st next ⟨h1, hH, h3⟩
          simp [L37_0, R37_0, R37_1, R37_2, R37_3, R37_4, R37_5, R37_6, R37_7, R37_8, Tryd.f37, lpL37_0, lpM37_0, M37_0, h1, hH, h3])
      simp at ho
      simp [R37_0, R37_1, R37_2, R37_3, R37_4, R37_5, R37_6, R37_7, R37_8, Tryd.f37, lpL37_0, lpM37_0, M37_0, c_l2Shape, h1, hw, h2, ho]
  · have h2' : ((l.length : Int) == w * h) = false := by simpa using h2
    simp [R37_0, R37_1, R37_2, R37_3, R37_4, R37_5, R37_6, R37_7, R37_8, Tryd.f37, lpL37_0, lpM37_0, M37_0, c_l2Shape, fldV, goodB, h1, hw, h2, h2']

end Go.Proofs.YtalpgpjhloohfaaDoor.Eng
namespace Go.Proofs.YtalpgpjhloohfaaDoor.Eng
open Go Go.Proofs
set_option maxRecDepth 100000
set_option maxHeartbeats 2000000
set_option linter.unusedSimpArgs false
set_option linter.unusedVariables false
attribute [local simp] finK fin1 hpOf xi renQ isRoot runCode runOps Eng.step wantedV astep val ofO made loadV storeV find V.cells bin binT binA numT numFs eqCells un1 setAt fieldAddrV fieldV indexAddrV indexV bounds sliceV convV lenV foldV max2V min2V callO bor rdsO wrsO seen_none okD_none loops keepIds resV resultsV St.ev TK.agg refs refsL refsO V.one V.isC Value.oneCell' ren renL renO noTag noTagL noTagR noTagO nodup mapO passV frs psi refsR newD loopNext opsAt idx flatAt rootOf backR newsV appendV copyV clearV strV bytesV bldV bufV selfV bytesOf nilCmp buildV fillF chunk
attribute [local simp] cT cF cX cWR cOW cK cBL X ints_length ints_get ints_getElem ints_drop ints_take ints_append ints_nil ints_set
attribute [local simp] ints_replicate
attribute [local simp] putV_some putV_none putH_app applyD_nil applyD_cons seen_app gc_ρ gc_H gc_tick st0_ρ st0_H st0_tick retV callRo callV_if borL_nil borL_cons ints_snoc take_self callWr cutH_app findQ afterV exportV_0 exportV_n okD_nil okD_cons sub_seq0 sub_seq1 sub_cond0 sub_cond1 sub_block sub_loop sub_nil young_far young_none hidW_nil mayW_nil pairs okI ok_0 ok_1 ok_2
attribute [local simp] T3 T4 T5 T9 T22 T28 T32 T55 T57 T63 T64 T66 T70 T72
def lfldV (b : Bool) (w h : Int) (l : List Int) : V := .ag [.c (.int .i64 w), .c (.int .i64 h), .sq b true 1 (ints l)]
def marks (n : Int) (len : Nat) : List Int := (List.range len).map fun i => n + ((i : Nat) : Int)
theorem marks_length (n : Int) (len : Nat) : (marks n len).length = len := by simp [marks]
theorem marks_get (n : Int) (len i : Nat) (h : i < len) : (marks n len)[i]'(by simpa [marks] using h) = n + i := by simp [marks]

end Go.Proofs.YtalpgpjhloohfaaDoor.Eng
namespace Go.Proofs.YtalpgpjhloohfaaDoor.Eng
open Go Go.Proofs
set_option maxRecDepth 100000
set_option maxHeartbeats 2000000
set_option linter.unusedSimpArgs false
set_option linter.unusedVariables false
attribute [local simp] finK fin1 hpOf xi renQ isRoot runCode runOps Eng.step wantedV astep val ofO made loadV storeV find V.cells bin binT binA numT numFs eqCells un1 setAt fieldAddrV fieldV indexAddrV indexV bounds sliceV convV lenV foldV max2V min2V callO bor rdsO wrsO seen_none okD_none loops keepIds resV resultsV St.ev TK.agg refs refsL refsO V.one V.isC Value.oneCell' ren renL renO noTag noTagL noTagR noTagO nodup mapO passV frs psi refsR newD loopNext opsAt idx flatAt rootOf backR newsV appendV copyV clearV strV bytesV bldV bufV selfV bytesOf nilCmp buildV fillF chunk
attribute [local simp] cT cF cX cWR cOW cK cBL X ints_length ints_get ints_getElem ints_drop ints_take ints_append ints_nil ints_set
attribute [local simp] ints_replicate
attribute [local simp] putV_some putV_none putH_app applyD_nil applyD_cons seen_app gc_ρ gc_H gc_tick st0_ρ st0_H st0_tick retV callRo callV_if borL_nil borL_cons ints_snoc take_self callWr cutH_app findQ afterV exportV_0 exportV_n okD_nil okD_cons sub_seq0 sub_seq1 sub_cond0 sub_cond1 sub_block sub_loop sub_nil young_far young_none hidW_nil mayW_nil pairs okI ok_0 ok_1 ok_2
attribute [local simp] T3 T4 T5 T9 T22 T28 T32 T55 T57 T63 T64 T66 T70 T72

end Go.Proofs.YtalpgpjhloohfaaDoor.Eng
namespace Go.Proofs.YtalpgpjhloohfaaDoor.Eng
open Go Go.Proofs
set_option maxRecDepth 100000
set_option maxHeartbeats 2000000
set_option linter.unusedSimpArgs false
set_option linter.unusedVariables false
attribute [local simp] finK fin1 hpOf xi renQ isRoot runCode runOps Eng.step wantedV astep val ofO made loadV storeV find V.cells bin binT binA numT numFs eqCells un1 setAt fieldAddrV fieldV indexAddrV indexV bounds sliceV convV lenV foldV max2V min2V callO bor rdsO wrsO seen_none okD_none loops keepIds resV resultsV St.ev TK.agg refs refsL refsO V.one V.isC Value.oneCell' ren renL renO noTag noTagL noTagR noTagO nodup mapO passV frs psi refsR newD loopNext opsAt idx flatAt rootOf backR newsV appendV copyV clearV strV bytesV bldV bufV selfV bytesOf nilCmp buildV fillF chunk
attribute [local simp] cT cF cX cWR cOW cK cBL X ints_length ints_get ints_getElem ints_drop ints_take ints_append ints_nil ints_set
attribute [local simp] ints_replicate
attribute [local simp] putV_some putV_none putH_app applyD_nil applyD_cons seen_app gc_ρ gc_H gc_tick st0_ρ st0_H st0_tick retV callRo callV_if borL_nil borL_cons ints_snoc take_self callWr cutH_app findQ afterV exportV_0 exportV_n okD_nil okD_cons sub_seq0 sub_seq1 sub_cond0 sub_cond1 sub_block sub_loop sub_nil young_far young_none hidW_nil mayW_nil pairs okI ok_0 ok_1 ok_2
attribute [local simp] T3 T4 T5 T9 T22 T28 T32 T55 T57 T63 T64 T66 T70 T72
def bs (l : List UInt8) : ByteArray := ⟨l.toArray⟩
theorem bs_size (l : List UInt8) : (bs l).size = l.length := by simp [bs, ByteArray.size]
theorem bs_append (l m : List UInt8) : bs l ++ bs m = bs (l ++ m) := by
  apply ByteArray.ext
  simp [bs]
theorem dig_slice (c : Nat) (h : c < 10) : sliceV T 9 (.c (.string ⟨#[48, 49, 50, 51, 52, 53, 54, 55, 56, 57]⟩)) (some (.c (.int .i64 (c : Int)))) (some (.c (.int .i64 ((c : Int) + 1)))) none = some (.c (.string (bs [UInt8.ofNat (48 + c)]))) := by
  have : c = 0 ∨ c = 1 ∨ c = 2 ∨ c = 3 ∨ c = 4 ∨ c = 5 ∨ c = 6 ∨ c = 7 ∨ c = 8 ∨ c = 9 := by omega
  rcases this with rfl | rfl | rfl | rfl | rfl | rfl | rfl | rfl | rfl | rfl <;> rfl
theorem dec_length {u : Nat} (h : u ≤ 9223372036854775807) : (Lib.decDigits u).length ≤ 21 := by
  have := Lib.itoa_length_le (u : Int) (by omega) (by omega)
  rwa [Lib.itoa_nonneg] at this
theorem c_l1NumNat : ∀ m u : Nat, u < 10 ^ m → u ≤ 1000000000000 → ∀ k, m + 1 ≤ k → callK C k 48 [.c (.int .i64 (u : Int))] [] = some (.c (.string (bs (Lib.decDigits u))), hpOf [] []) := by
  intro m
  induction m with
  | zero =>
    intro u hu _ k hk
    obtain rfl : u = 0 := by omega
    obtain ⟨k, rfl⟩ : ∃ m, k = m + 1 := ⟨k - 1, by omega⟩
    rw [callK_fn rfl F48 code48]
    have hd := dig_slice 0 (by omega)
    have e : Lib.decDigits 0 = [UInt8.ofNat (48 + 0)] := Lib.decDigits_one (by omega)
    simp [-sliceV] at hd
    simp [-sliceV, R48_0, R48_1, R48_2, R48_3, R48_4, R48_5, Tryd.f48, hd, e, wrap_1]
  | succ m ih =>
    intro u hu hu' k hk
    obtain ⟨k, rfl⟩ : ∃ m, k = m + 1 := ⟨k - 1, by omega⟩
    rw [callK_fn rfl F48 code48]
    by_cases h : u < 10
    · have hd := dig_slice u h
      have e := Lib.decDigits_one h
      have w1 : IntKind.i64.wrap ((u : Int) + 1) = (u : Int) + 1 := wrap_small (by omega) (by omega)
      have g1 : ¬ ((u : Int) < 0) := by omega
      have g2 : (u : Int) < 10 := by omega
      simp [-sliceV, R48_0, R48_1, R48_2, R48_3, R48_4, R48_5, Tryd.f48, hd, e, w1, g1, g2]
    · rw [Nat.pow_succ] at hu
      obtain ⟨q, hq⟩ : ∃ q, u / 10 = q := ⟨_, rfl⟩
      obtain ⟨c, hc⟩ : ∃ c, u % 10 = c := ⟨_, rfl⟩
      have hr := ih q (by omega) (by omega) k (by omega)
      have hd := dig_slice c (by omega)
      have e1 : (u : Int) / 10 = (q : Int) := by omega
      have e2 : (u : Int).tmod 10 = (c : Int) := by rw [← hc]; rfl
      have e3 : Lib.decDigits u = Lib.decDigits q ++ [UInt8.ofNat (48 + c)] := by rw [Lib.decDigits, dif_neg h, hq, hc]
      have w0 : IntKind.i64.wrap (q : Int) = (q : Int) := wrap_small (by omega) (by omega)
      have w1 : IntKind.i64.wrap ((c : Int) + 1) = (c : Int) + 1 := wrap_small (by omega) (by omega)
      have g1 : ¬ ((u : Int) < 0) := by omega
      have g2 : ¬ ((u : Int) < 10) := by omega
      have l1 := dec_length (u := q) (by omega)
      have l2 : (Lib.decDigits q).length + 1 ≤ 9223372036854775807 := by omega
      simp [-sliceV, R48_0, R48_1, R48_2, R48_3, R48_4, R48_5, Tryd.f48, hr, hd, e1, e2, e3, w0, w1, g1, g2, bs_size, bs_append, l2]
theorem c_l1Num (k : Nat) (n : Int) (h0 : -1000000000000 ≤ n) (h1 : n ≤ 1000000000000) (hk : 30 ≤ k) : callK C k 48 [.c (.int .i64 n)] [] = some (.c (.string (bs (Lib.itoa n))), hpOf [] []) := by
  by_cases h : n < 0
  · obtain ⟨k, rfl⟩ : ∃ m, k = m + 1 := ⟨k - 1, by omega⟩
    rw [callK_fn rfl F48 code48]
    obtain ⟨u, rfl⟩ : ∃ u : Nat, n = -(u : Int) := ⟨n.natAbs, by omega⟩
    have hr := c_l1NumNat 13 u (by omega) (by omega) k (by omega)
    have e : Lib.itoa (-(u : Int)) = 45 :: Lib.decDigits u := Lib.itoa_neg u (by omega)
    have w1 : IntKind.i64.wrap (u : Int) = (u : Int) := wrap_small (by omega) (by omega)
    have l1 := dec_length (u := u) (by omega)
    have l2 : 1 + (Lib.decDigits u).length ≤ 9223372036854775807 := by omega
    have b1 : (⟨#[45]⟩ : ByteArray) = bs [45] := rfl
    have hu : 0 < u := by omega
    simp [R48_0, R48_1, R48_2, R48_3, R48_4, R48_5, Tryd.f48, hr, e, w1, b1, bs_size, bs_append, l2, hu]
  · obtain ⟨u, rfl⟩ : ∃ u : Nat, n = (u : Int) := ⟨n.toNat, by omega⟩
    rw [Lib.itoa_nonneg]
    exact c_l1NumNat 13 u (by omega) (by omega) k (by omega)
theorem c_Itoa (k : Nat) (n : Int) (h0 : -9223372036854775808 ≤ n) (h1 : n ≤ 9223372036854775807) (hk : 1 ≤ k) : callK C k 41 [.c (.int .i64 n)] [] = some (.c (.string (bs (Lib.itoa n))), hpOf [] []) := by
  obtain ⟨k, rfl⟩ : ∃ m, k = m + 1 := ⟨k - 1, by omega⟩
  simp only [callK]
  have hx : C.ext 41 = some ext41 := rfl
  rw [hx]
  simp [ext41, h0, h1, bs]

end Go.Proofs.YtalpgpjhloohfaaDoor.Eng
namespace Go.Proofs.YtalpgpjhloohfaaDoor.Eng
open Go Go.Proofs
set_option maxRecDepth 100000
set_option maxHeartbeats 2000000
set_option linter.unusedSimpArgs false
set_option linter.unusedVariables false
attribute [local simp] finK fin1 hpOf xi renQ isRoot runCode runOps Eng.step wantedV astep val ofO made loadV storeV find V.cells bin binT binA numT numFs eqCells un1 setAt fieldAddrV fieldV indexAddrV indexV bounds sliceV convV lenV foldV max2V min2V callO bor rdsO wrsO seen_none okD_none loops keepIds resV resultsV St.ev TK.agg refs refsL refsO V.one V.isC Value.oneCell' ren renL renO noTag noTagL noTagR noTagO nodup mapO passV frs psi refsR newD loopNext opsAt idx flatAt rootOf backR newsV appendV copyV clearV strV bytesV bldV bufV selfV bytesOf nilCmp buildV fillF chunk
attribute [local simp] cT cF cX cWR cOW cK cBL X ints_length ints_get ints_getElem ints_drop ints_take ints_append ints_nil ints_set
attribute [local simp] ints_replicate
attribute [local simp] putV_some putV_none putH_app applyD_nil applyD_cons seen_app gc_ρ gc_H gc_tick st0_ρ st0_H st0_tick retV callRo callV_if borL_nil borL_cons ints_snoc take_self callWr cutH_app findQ afterV exportV_0 exportV_n okD_nil okD_cons sub_seq0 sub_seq1 sub_cond0 sub_cond1 sub_block sub_loop sub_nil young_far young_none hidW_nil mayW_nil pairs okI ok_0 ok_1 ok_2
attribute [local simp] T3 T4 T5 T9 T22 T28 T32 T55 T57 T63 T64 T66 T70 T72
theorem lit0 : (⟨#[]⟩ : ByteArray) = bs [] := rfl
theorem lit1 (a : UInt8) : (⟨#[a]⟩ : ByteArray) = bs [a] := rfl
theorem bs_data (l : List UInt8) : (bs l).data.toList = l := by simp [bs]
theorem bs_of (s : ByteArray) : ∃ l, s = bs l := ⟨s.data.toList, by cases s; simp [bs]⟩
theorem byteAt_bs {l : List UInt8} {i : Nat} (h : i < l.length) : byteAt (bs l) (i : Int) = ((l[i].toNat : Nat) : Int) := by
  unfold byteAt
  rw [bs_data]
  simp [List.getD, List.getElem?_eq_getElem h]
def ckS (h : Int) (c : UInt8) : Int := (41 * h + (c.toNat : Int) + 1).tmod 999979
def ckL (l : List UInt8) : Int := l.foldl ckS 7
theorem ck_bound : ∀ (l : List UInt8) (h : Int), 0 ≤ h → h < 999979 → 0 ≤ l.foldl ckS h ∧ l.foldl ckS h < 999979
  | [], h, a, b => ⟨a, b⟩
  | c :: l, h, a, b => by
    rw [List.foldl_cons]
    have hc : c.toNat < 256 := c.toNat_lt
    exact ck_bound l _ (Int.tmod_nonneg _ (by omega)) (Int.tmod_lt_of_pos _ (by omega))
theorem ck_take {l : List UInt8} {i : Nat} (h : i < l.length) : ckL (l.take (i + 1)) = ckS (ckL (l.take i)) l[i] := by
  unfold ckL
  rw [List.take_succ_eq_append_getElem h, List.foldl_append]
  rfl
def hasB1 (l : List UInt8) : Bool := decide (0 ≤ Lib.indexByte l 35)
def sealL (l : List UInt8) : List UInt8 := l ++ (35 :: Lib.itoa (ckL l))
theorem itoa_len (l : List UInt8) : (Lib.itoa (ckL l)).length ≤ 21 := by
  have b := ck_bound l 7 (by omega) (by omega)
  unfold ckL
  exact Lib.itoa_length_le _ (by omega) (by omega)
def appB (l : List UInt8) : Bool := decide (l.length ≤ 4000) && (!hasB1 l && decide ((sealL l).length ≤ 4000))

end Go.Proofs.YtalpgpjhloohfaaDoor.Eng
namespace Go.Proofs.YtalpgpjhloohfaaDoor.Eng
open Go Go.Proofs
set_option maxRecDepth 100000
set_option maxHeartbeats 2000000
set_option linter.unusedSimpArgs false
set_option linter.unusedVariables false
attribute [local simp] finK fin1 hpOf xi renQ isRoot runCode runOps Eng.step wantedV astep val ofO made loadV storeV find V.cells bin binT binA numT numFs eqCells un1 setAt fieldAddrV fieldV indexAddrV indexV bounds sliceV convV lenV foldV max2V min2V callO bor rdsO wrsO seen_none okD_none loops keepIds resV resultsV St.ev TK.agg refs refsL refsO V.one V.isC Value.oneCell' ren renL renO noTag noTagL noTagR noTagO nodup mapO passV frs psi refsR newD loopNext opsAt idx flatAt rootOf backR newsV appendV copyV clearV strV bytesV bldV bufV selfV bytesOf nilCmp buildV fillF chunk
attribute [local simp] cT cF cX cWR cOW cK cBL X ints_length ints_get ints_getElem ints_drop ints_take ints_append ints_nil ints_set
attribute [local simp] ints_replicate
attribute [local simp] putV_some putV_none putH_app applyD_nil applyD_cons seen_app gc_ρ gc_H gc_tick st0_ρ st0_H st0_tick retV callRo callV_if borL_nil borL_cons ints_snoc take_self callWr cutH_app findQ afterV exportV_0 exportV_n okD_nil okD_cons sub_seq0 sub_seq1 sub_cond0 sub_cond1 sub_block sub_loop sub_nil young_far young_none hidW_nil mayW_nil pairs okI ok_0 ok_1 ok_2
attribute [local simp] T3 T4 T5 T9 T22 T28 T32 T55 T57 T63 T64 T66 T70 T72
attribute [local simp] young_near clo cloF Region.binds Nat.testBit
def wordL (u : Int) : List UInt8 := if u = 1 then [67] else if u = 2 then [70] else if u = 3 then [75] else if u = 4 then [109, 47, 115] else if u = 5 then [107, 116] else if u = 6 then [107, 109, 47, 104] else if u = 7 then [109, 109] else [105, 110]
def sgnL (x : Int) : List UInt8 := if x < 0 then [45] else []
def quaL (x u : Int) : List UInt8 := sgnL x ++ (Lib.decDigits (x.natAbs / 10) ++ (46 :: (Lib.decDigits (x.natAbs % 10) ++ (32 :: wordL u))))
theorem word_len (u : Int) : (wordL u).length ≤ 4 := by
  unfold wordL
  repeat' split
  all_goals decide
theorem lit2 (a b : UInt8) : (⟨#[a, b]⟩ : ByteArray) = bs [a, b] := rfl
theorem lit3 (a b c : UInt8) : (⟨#[a, b, c]⟩ : ByteArray) = bs [a, b, c] := rfl
theorem lit4 (a b c d : UInt8) : (⟨#[a, b, c, d]⟩ : ByteArray) = bs [a, b, c, d] := rfl
theorem unit_cases {u : Int} (h : (decide (1 ≤ u) && decide (u ≤ 8)) = true) : u = 1 ∨ u = 2 ∨ u = 3 ∨ u = 4 ∨ u = 5 ∨ u = 6 ∨ u = 7 ∨ u = 8 := by
  simp only [Bool.and_eq_true, decide_eq_true_eq] at h
  omega

end Go.Proofs.YtalpgpjhloohfaaDoor.Eng
namespace Go.Proofs.YtalpgpjhloohfaaDoor.Eng
open Go Go.Proofs
set_option maxRecDepth 100000
set_option maxHeartbeats 2000000
set_option linter.unusedSimpArgs false
set_option linter.unusedVariables false
attribute [local simp] finK fin1 hpOf xi renQ isRoot runCode runOps Eng.step wantedV astep val ofO made loadV storeV find V.cells bin binT binA numT numFs eqCells un1 setAt fieldAddrV fieldV indexAddrV indexV bounds sliceV convV lenV foldV max2V min2V callO bor rdsO wrsO seen_none okD_none loops keepIds resV resultsV St.ev TK.agg refs refsL refsO V.one V.isC Value.oneCell' ren renL renO noTag noTagL noTagR noTagO nodup mapO passV frs psi refsR newD loopNext opsAt idx flatAt rootOf backR newsV appendV copyV clearV strV bytesV bldV bufV selfV bytesOf nilCmp buildV fillF chunk
attribute [local simp] cT cF cX cWR cOW cK cBL X ints_length ints_get ints_getElem ints_drop ints_take ints_append ints_nil ints_set
attribute [local simp] ints_replicate
attribute [local simp] putV_some putV_none putH_app applyD_nil applyD_cons seen_app gc_ρ gc_H gc_tick st0_ρ st0_H st0_tick retV callRo callV_if borL_nil borL_cons ints_snoc take_self callWr cutH_app findQ afterV exportV_0 exportV_n okD_nil okD_cons sub_seq0 sub_seq1 sub_cond0 sub_cond1 sub_block sub_loop sub_nil young_far young_none hidW_nil mayW_nil pairs okI ok_0 ok_1 ok_2
attribute [local simp] T3 T4 T5 T9 T22 T28 T32 T55 T57 T63 T64 T66 T70 T72
theorem bs_toList (l : List UInt8) : (bs l).toList = l := by rw [Lib.toList_data, bs_data]
theorem bs_neq (l m : List UInt8) : ((bs l).toList == (bs m).toList) = decide (l = m) := by
  rw [bs_toList, bs_toList]
  by_cases h : l = m <;> simp [h]
theorem bs_extract (l : List UInt8) (a b : Nat) : (bs l).extract a b = bs ((l.drop a).take (b - a)) := by
  apply ByteArray.ext
  simp [bs, ByteArray.data_extract]
def spS (l : List UInt8) (b : UInt8) : Nat → List (List UInt8) × Nat
  | 0 => ([], 0)
  | i + 1 => if l[i]? = some b then ((spS l b i).1 ++ [(l.drop (spS l b i).2).take (i - (spS l b i).2)], i + 1) else spS l b i
def splitL (l : List UInt8) (b : UInt8) : List (List UInt8) := (spS l b l.length).1 ++ [l.drop (spS l b l.length).2]
theorem spS_le (l : List UInt8) (b : UInt8) : ∀ i, (spS l b i).2 ≤ i ∧ (spS l b i).1.length ≤ i
  | 0 => by simp [spS]
  | i + 1 => by
    have := spS_le l b i
    unfold spS
    split
    · simp; omega
    · omega
theorem spS_yes {l : List UInt8} {b : UInt8} {i : Nat} (h : l[i]? = some b) : spS l b (i + 1) = ((spS l b i).1 ++ [(l.drop (spS l b i).2).take (i - (spS l b i).2)], i + 1) := by simp [spS, h]
theorem spS_no {l : List UInt8} {b : UInt8} {i : Nat} (h : ¬ l[i]? = some b) : spS l b (i + 1) = spS l b i := by simp [spS, h]
/-- What stands ahead of the first byte b. -/
def headL (l : List UInt8) (b : UInt8) : List UInt8 := if Lib.indexByte l b = -1 then l else l.take (Lib.indexByte l b).toNat
theorem spS_none {l : List UInt8} {b : UInt8} (o : Nat) (h : ∀ k, k < o → l[k]? ≠ some b) : ∀ i, i ≤ o → spS l b i = ([], 0)
  | 0, _ => rfl
  | i + 1, hi => by rw [spS_no (h i (by omega)), spS_none o h i (by omega)]
theorem spS_some {l : List UInt8} {b : UInt8} {o : Nat} (h0 : l[o]? = some b) (h : ∀ k, k < o → l[k]? ≠ some b) : ∀ d, ∃ r, (spS l b (o + 1 + d)).1 = l.take o :: r
  | 0 => by
    refine ⟨[], ?_⟩
    rw [Nat.add_zero, spS_yes h0, spS_none o h o (Nat.le_refl _)]
    simp
  | d + 1 => by
    obtain ⟨r, hr⟩ := spS_some h0 h d
    by_cases hx : l[o + 1 + d]? = some b
    · rw [← Nat.add_assoc, spS_yes hx]
      exact ⟨r ++ [(l.drop (spS l b (o + 1 + d)).2).take (o + 1 + d - (spS l b (o + 1 + d)).2)], by rw [hr]; rfl⟩
    · rw [← Nat.add_assoc, spS_no hx]
      exact ⟨r, hr⟩
theorem split_head (l : List UInt8) (b : UInt8) : ∃ r, splitL l b = headL l b :: r := by
  unfold splitL headL
  by_cases hn : Lib.indexByte l b = -1
  · have hno := Lib.indexByte_none hn
    rw [spS_none l.length (fun k _ => hno k) l.length (Nat.le_refl _), if_pos hn]
    exact ⟨[], by simp⟩
  · have hge := Lib.indexByte_ge l b
    obtain ⟨o, ho⟩ : ∃ o : Nat, Lib.indexByte l b = o := ⟨(Lib.indexByte l b).toNat, by omega⟩
    obtain ⟨h1, h2⟩ := Lib.indexByte_some ho
    have hol : o < l.length := (List.getElem?_eq_some_iff.1 h1).1
    obtain ⟨r, hr⟩ := spS_some h1 h2 (l.length - (o + 1))
    rw [show o + 1 + (l.length - (o + 1)) = l.length by omega] at hr
    rw [if_neg hn, hr, ho]
    exact ⟨r ++ [l.drop (spS l b l.length).2], by simp⟩
def strs (p : List (List UInt8)) : List (List V) := p.map fun x => [.c (.string (bs x))]
def strsO (p : List (List UInt8)) : Eng.Obj := ⟨9, 1, true, strs p⟩
theorem strs_snoc (p : List (List UInt8)) (x : List UInt8) : strs p ++ [[V.c (.string (bs x))]] = strs (p ++ [x]) := by simp [strs]
theorem strs_length (p : List (List UInt8)) : (strs p).length = p.length := by simp [strs]
theorem strs_take (p : List (List UInt8)) (n : Nat) : (strs p).take n = strs (p.take n) := by simp [strs]
theorem strs_nil : strs [] = [] := rfl
theorem okS (ty : TypeId) (p : List (List UInt8)) : okObj ⟨ty, 1, true, strs p⟩ = true := by simp [okObj, strs, V.one, V.isC, Value.oneCell']
theorem strs_one (x : List UInt8) : [[V.c (.string (bs x))]] = strs [x] := rfl
/-- A list of texts that grows. -/
def Cs (v : V) (H : Hp) (p : List (List UInt8)) : Prop := (p = [] ∧ v = .s 1040 2 1 0 0 ∧ H 1040 = some (2, strsO [])) ∨ (p ≠ [] ∧ ∃ tk, v = .s 7288 tk 1 0 p.length ∧ H 7288 = some (tk, strsO p))

end Go.Proofs.YtalpgpjhloohfaaDoor.Eng
namespace Go.Proofs.YtalpgpjhloohfaaDoor.Eng
open Go Go.Proofs
set_option maxRecDepth 100000
set_option maxHeartbeats 2000000
set_option linter.unusedSimpArgs false
set_option linter.unusedVariables false
attribute [local simp] finK fin1 hpOf xi renQ isRoot runCode runOps Eng.step wantedV astep val ofO made loadV storeV find V.cells bin binT binA numT numFs eqCells un1 setAt fieldAddrV fieldV indexAddrV indexV bounds sliceV convV lenV foldV max2V min2V callO bor rdsO wrsO seen_none okD_none loops keepIds resV resultsV St.ev TK.agg refs refsL refsO V.one V.isC Value.oneCell' ren renL renO noTag noTagL noTagR noTagO nodup mapO passV frs psi refsR newD loopNext opsAt idx flatAt rootOf backR newsV appendV copyV clearV strV bytesV bldV bufV selfV bytesOf nilCmp buildV fillF chunk
attribute [local simp] cT cF cX cWR cOW cK cBL X ints_length ints_get ints_getElem ints_drop ints_take ints_append ints_nil ints_set
attribute [local simp] ints_replicate
attribute [local simp] putV_some putV_none putH_app applyD_nil applyD_cons seen_app gc_ρ gc_H gc_tick st0_ρ st0_H st0_tick retV callRo callV_if borL_nil borL_cons ints_snoc take_self callWr cutH_app findQ afterV exportV_0 exportV_n okD_nil okD_cons sub_seq0 sub_seq1 sub_cond0 sub_cond1 sub_block sub_loop sub_nil young_far young_none hidW_nil mayW_nil pairs okI ok_0 ok_1 ok_2
attribute [local simp] T3 T4 T5 T9 T22 T28 T32 T55 T57 T63 T64 T66 T70 T72
theorem decFrom_append : ∀ (l m : List UInt8) (acc : Nat), Lib.decFrom acc (l ++ m) = (Lib.decFrom acc l).bind fun n => Lib.decFrom n m
  | [], m, acc => by simp [Lib.decFrom]
  | b :: l, m, acc => by
    simp only [List.cons_append, Lib.decFrom]
    cases Lib.digitVal b with
    | none => rfl
    | some d => exact decFrom_append l m _
theorem digit_ofNat {d : Nat} (h : d < 10) : Lib.digitVal (UInt8.ofNat (48 + d)) = some d := by
  unfold Lib.digitVal
  have : (UInt8.ofNat (48 + d)).toNat = 48 + d := by rw [UInt8.toNat_ofNat']; omega
  rw [this, if_pos (by omega)]
  congr 1
  omega
theorem dec_digits (u : Nat) : Lib.decFrom 0 (Lib.decDigits u) = some u := by
  induction u using Nat.strongRecOn with
  | _ u ih =>
    rw [Lib.decDigits]
    split
    · rename_i h
      simp only [Lib.decFrom, digit_ofNat h, Nat.zero_mul, Nat.zero_add]
    · rename_i h
      rw [decFrom_append, ih (u / 10) (by omega)]
      simp only [Option.bind_some, Lib.decFrom, digit_ofNat (by omega : u % 10 < 10)]
      congr 1
      omega
theorem dec_pos (u : Nat) : 0 < (Lib.decDigits u).length := by
  rw [Lib.decDigits]
  split <;> simp
theorem dec_head (u : Nat) : ∃ b r, Lib.decDigits u = b :: r ∧ 48 ≤ b.toNat ∧ b.toNat ≤ 57 := by
  obtain ⟨b, r, h⟩ : ∃ b r, Lib.decDigits u = b :: r := by
    cases h : Lib.decDigits u with
    | nil => have := dec_pos u; rw [h] at this; simp at this
    | cons b r => exact ⟨b, r, rfl⟩
  obtain ⟨d, hd⟩ := Lib.digit_of_decFrom _ _ _ (dec_digits u) 0 b (by rw [h]; rfl)
  unfold Lib.digitVal at hd
  split at hd
  · rename_i hh; exact ⟨b, r, h, hh⟩
  · cases hd
theorem dec_lt : ∀ (l : List UInt8) (acc n k : Nat), Lib.decFrom acc l = some n → acc < 10 ^ k → n < 10 ^ (k + l.length)
  | [], acc, n, k, h, ha => by simp only [Lib.decFrom, Option.some.injEq] at h; subst h; simpa using ha
  | b :: l, acc, n, k, h, ha => by
    simp only [Lib.decFrom] at h
    cases hb : Lib.digitVal b with
    | none => rw [hb] at h; cases h
    | some d =>
      rw [hb] at h
      have hd : d < 10 := by
        unfold Lib.digitVal at hb
        split at hb
        · cases hb; omega
        · cases hb
      have := dec_lt l (acc * 10 + d) n (k + 1) h (by rw [Nat.pow_succ]; omega)
      rw [show k + (b :: l).length = k + 1 + l.length by simp; omega]
      exact this
theorem dec_len6 {u : Nat} (h : u ≤ 999999) : (Lib.decDigits u).length ≤ 6 := by
  rw [Lib.decDigits_length]
  have : ∀ (k u : Nat), u < 10 ^ (k + 1) → Lib.nDigits u ≤ k + 1 := by
    intro k
    induction k with
    | zero => intro u hu; rw [Lib.nDigits_small (by omega)]; omega
    | succ k ih =>
      intro u hu
      by_cases h10 : u < 10
      · rw [Lib.nDigits_small h10]; omega
      · rw [Lib.nDigits_big h10]
        have := ih (u / 10) (by rw [Nat.pow_succ] at hu; omega)
        omega
  exact this 5 u (by omega)
/-- A number's text without its sign. -/
def unsg (l : List UInt8) : List UInt8 := if 1 < l.length ∧ l[0]? = some 45 then l.drop 1 else l
theorem unsg_itoa (n : Int) : unsg (Lib.itoa n) = Lib.decDigits n.natAbs ∧ ((unsg (Lib.itoa n)).length < (Lib.itoa n).length ↔ n < 0) := by
  obtain ⟨b, r, hb, h1, h2⟩ := dec_head n.natAbs
  have hp := dec_pos n.natAbs
  unfold Lib.itoa
  by_cases h : n < 0
  · rw [if_pos h]
    have : unsg (45 :: Lib.decDigits n.natAbs) = Lib.decDigits n.natAbs := by
      unfold unsg
      rw [if_pos (by simp; exact hp)]
      rfl
    rw [this]
    simp [h]
  · rw [if_neg h]
    have e : n.toNat = n.natAbs := by omega
    rw [e]
    have : unsg (Lib.decDigits n.natAbs) = Lib.decDigits n.natAbs := by
      unfold unsg
      rw [if_neg]
      rw [hb]
      rintro ⟨_, h3⟩
      simp at h3
      subst h3
      simp at h1
    rw [this]
    simp [h]
/-- The number whose text this is. -/
noncomputable def pI (l : List UInt8) : Option Int := open Classical in if h : ∃ n : Int, -999999 ≤ n ∧ n ≤ 999999 ∧ Lib.itoa n = l then some h.choose else none
theorem dec_inj {u v : Nat} (h : Lib.decDigits u = Lib.decDigits v) : u = v := by
  have := dec_digits u
  rw [h, dec_digits v] at this
  exact (Option.some.inj this).symm
theorem itoa_inj {n m : Int} (h : Lib.itoa n = Lib.itoa m) : n = m := by
  obtain ⟨a1, a2⟩ := unsg_itoa n
  obtain ⟨b1, b2⟩ := unsg_itoa m
  rw [h] at a1 a2
  have := dec_inj (a1.symm.trans b1)
  by_cases hn : n < 0
  · have hm := b2.1 (a2.2 hn); omega
  · have hm : ¬ m < 0 := fun hm => hn (a2.1 (b2.2 hm)); omega
theorem pI_some {n : Int} (h0 : -999999 ≤ n) (h1 : n ≤ 999999) : pI (Lib.itoa n) = some n := by
  have hx : ∃ m : Int, -999999 ≤ m ∧ m ≤ 999999 ∧ Lib.itoa m = Lib.itoa n := ⟨n, h0, h1, rfl⟩
  unfold pI
  rw [dif_pos hx]
  exact congrArg some (itoa_inj hx.choose_spec.2.2)
theorem pI_inv {l : List UInt8} {n : Int} (h : pI l = some n) : -999999 ≤ n ∧ n ≤ 999999 ∧ Lib.itoa n = l := by
  unfold pI at h
  split at h
  · rename_i hx; cases h; exact hx.choose_spec
  · cases h
theorem itoa_len7 {n : Int} (h0 : -999999 ≤ n) (h1 : n ≤ 999999) : (Lib.itoa n).length ≤ 7 := by
  have := dec_len6 (u := n.natAbs) (by omega)
  unfold Lib.itoa
  split
  · simp; omega
  · rw [show n.toNat = n.natAbs by omega]; omega
theorem atoi_itoa (n : Int) : Lib.atoi (Lib.itoa n) = some n := by
  obtain ⟨b, r, hb, h1, h2⟩ := dec_head n.natAbs
  have hd := dec_digits n.natAbs
  have hdn : Lib.decNat (Lib.decDigits n.natAbs) = some n.natAbs := by
    unfold Lib.decNat
    rw [hd, hb]
    rfl
  unfold Lib.itoa
  by_cases h : n < 0
  · rw [if_pos h]
    simp only [Lib.atoi, beq_self_eq_true, if_true, hdn, Option.map_some]
    congr 1
    omega
  · rw [if_neg h, show n.toNat = n.natAbs by omega]
    rw [hb] at hdn ⊢
    have e1 : (b == 45) = false := by
      rw [beq_eq_false_iff_ne]; rintro rfl; simp at h1
    have e2 : (b == 43) = false := by
      rw [beq_eq_false_iff_ne]; rintro rfl; simp at h1
    simp only [Lib.atoi, e1, e2, Bool.false_eq_true, if_false, hdn, Option.map_some]
    congr 1
    omega
theorem atoiAll_itoa {n : Int} (h0 : -999999 ≤ n) (h1 : n ≤ 999999) : Lib.atoiAll (Lib.itoa n) = .ok n := by
  rw [Lib.atoiAll_short _ (by have := itoa_len7 h0 h1; omega), atoi_itoa]
  rfl
noncomputable def pV (l : List UInt8) : Int := (pI l).getD 0
noncomputable def pB (l : List UInt8) : Bool := (pI l).isSome
theorem c_implParse (k : Nat) (l : List UInt8) (h20 : l.length ≤ 281474976710656) (hk : 10 ≤ k) : callK C k 17 [.c (.string (bs l))] [] = some (.tp [.c (.int .i64 (pV l)), .c (.bool (pB l))], hpOf [] []) := by
  obtain ⟨k, rfl⟩ : ∃ m, k = m + 3 := ⟨k - 3, by omega⟩
  rw [callK_fn rfl F17 code17]
  have hx : callK C (k + 2) 51 [.c (.string (bs l))] [] = (match Lib.atoiAll l with
    | .ok v => some (.tp [.c (.int .i64 v), .c .nilIface], hpOf [] [])
    | .«syntax» => some (.tp [.c (.int .i64 0), .er], hpOf [] [])
    | .range => some (.tp [.c (.int .i64 (Lib.atoiSat l)), .er], hpOf [] [])) := by
    simp only [callK, cX, X, ext51, bs_size, h20, if_true]
    have : (bs l).data.toList = l := by simp [bs]
    rw [this]
    cases Lib.atoiAll l <;> simp
  have hwf : ∀ v : Int, callK C (k + 2) 46 [.c (.int .i64 v), .c (.int .i64 (-999999)), .c (.int .i64 999999)] [] = some (.c (.bool (decide (-999999 ≤ v) && decide (v ≤ 999999))), hpOf [] []) := fun v => c_within (k + 2) v (-999999) 999999 (by omega)
  cases ha : Lib.atoiAll l with
  | ok v =>
    rw [ha] at hx
    simp only [] at hx
    have hw := hwf v
    by_cases hr : -999999 ≤ v ∧ v ≤ 999999
    · have hit := c_Itoa (k + 2) v (by omega) (by omega) (by omega)
      simp [hr] at hw
      by_cases he : Lib.itoa v = l
      · have e := pI_some hr.1 hr.2
        rw [he] at e
        have hbq : ((bs (Lib.itoa v)).toList == (bs l).toList) = true := by rw [he]; simp
        have hbe : (bs (Lib.itoa v)).toList = (bs l).toList := by rw [he]
        simp [R17_0, R17_1, R17_2, R17_3, R17_4, Tryd.f17, hx, hw, hit, hbq, hbe, undef, pV, pB, e]
      · have e : pI l = none := by
          cases h : pI l with
          | none => rfl
          | some n =>
            obtain ⟨h1, h2, h3⟩ := pI_inv h
            have := atoiAll_itoa h1 h2
            rw [h3, ha] at this
            cases this
            exact absurd h3 he
        have hbe : ¬ (bs (Lib.itoa v)).toList = (bs l).toList := by
          rw [Lib.toList_data, Lib.toList_data]
          simpa [bs] using he
        simp [R17_0, R17_1, R17_2, R17_3, R17_4, Tryd.f17, hx, hw, hit, hbe, undef, pV, pB, e]
    · have e : pI l = none := by
        cases h : pI l with
        | none => rfl
        | some n =>
          obtain ⟨h1, h2, h3⟩ := pI_inv h
          have := atoiAll_itoa h1 h2
          rw [h3, ha] at this
          cases this
          exact absurd ⟨h1, h2⟩ hr
      have hb : (decide (-999999 ≤ v) && decide (v ≤ 999999)) = false := by
        simp only [Bool.and_eq_false_iff, decide_eq_false_iff_not]; omega
      rw [hb] at hw
      simp [R17_0, R17_1, R17_2, R17_3, R17_4, Tryd.f17, hx, hw, undef, pV, pB, e]
  | «syntax» =>
    rw [ha] at hx
    simp only [] at hx
    have e : pI l = none := by
      cases h : pI l with
      | none => rfl
      | some n =>
        obtain ⟨h1, h2, h3⟩ := pI_inv h
        have := atoiAll_itoa h1 h2
        rw [h3, ha] at this
        cases this
    simp [R17_0, R17_1, R17_2, R17_3, R17_4, Tryd.f17, hx, nilCmp, undef, pV, pB, e]
  | range =>
    rw [ha] at hx
    simp only [] at hx
    have e : pI l = none := by
      cases h : pI l with
      | none => rfl
      | some n =>
        obtain ⟨h1, h2, h3⟩ := pI_inv h
        have := atoiAll_itoa h1 h2
        rw [h3, ha] at this
        cases this
    simp [R17_0, R17_1, R17_2, R17_3, R17_4, Tryd.f17, hx, nilCmp, undef, pV, pB, e]
theorem pI_unsg {l : List UInt8} {n : Int} (h : pI l = some n) : unsg l = Lib.decDigits n.natAbs ∧ 1 ≤ (unsg l).length ∧ (unsg l).length ≤ 6 := by
  obtain ⟨h1, h2, h3⟩ := pI_inv h
  obtain ⟨a1, a2⟩ := unsg_itoa n
  rw [h3] at a1
  rw [a1]
  exact ⟨rfl, dec_pos _, dec_len6 (by omega)⟩
theorem c_l1In2 (k : Nat) (x a b : Int) (hk : 1 ≤ k) : callK C k 47 [.c (.int .i64 x), .c (.int .i64 a), .c (.int .i64 b)] [] = some (.c (.bool (decide (a ≤ x) && decide (x ≤ b))), hpOf [] []) := c_l1In k x a b hk
theorem pow6 {k : Nat} (h : k ≤ 6) : 10 ^ k ≤ 1000000 := Nat.le_trans (Nat.pow_le_pow_right (by decide) h) (by decide)
def RdX (t : List UInt8) (i : Nat) (st : St) : Prop := ∃ m : Nat, Lib.decFrom 0 (t.take i) = some m ∧ st.ρ 5 = .c (.int .i64 (m : Int))
theorem dec_none {t : List UInt8} (h : Lib.decFrom 0 t = none) : ∃ (j m : Nat) (hj : j < t.length), Lib.decFrom 0 (t.take j) = some m ∧ Lib.digitVal t[j] = none := by
  have key : ∀ (t : List UInt8) (acc : Nat), Lib.decFrom acc t = none → ∃ (j m : Nat) (hj : j < t.length), Lib.decFrom acc (t.take j) = some m ∧ Lib.digitVal t[j] = none := by
    intro t
    induction t with
    | nil => intro acc h; cases h
    | cons b t ih =>
      intro acc h
      simp only [Lib.decFrom] at h
      cases hb : Lib.digitVal b with
      | none => exact ⟨0, acc, by simp, rfl, hb⟩
      | some d =>
        rw [hb] at h
        obtain ⟨j, m, hj, h1, h2⟩ := ih _ h
        refine ⟨j + 1, m, by simpa using hj, ?_, by simpa using h2⟩
        rw [List.take_succ_cons]
        simp only [Lib.decFrom, hb]
        exact h1
  exact key t 0 h
theorem dec_take {t : List UInt8} {i m : Nat} (h : Lib.decFrom 0 (t.take i) = some m) (h6 : t.length ≤ 6) : m < 1000000 := by
  have := dec_lt (t.take i) 0 m 0 h (by decide)
  have h2 : 0 + (t.take i).length ≤ 6 := by rw [List.length_take]; omega
  exact Nat.lt_of_lt_of_le this (pow6 h2)
theorem dig_iff (b : UInt8) : (∃ d, Lib.digitVal b = some d ∧ 48 ≤ b.toNat ∧ b.toNat ≤ 57 ∧ b.toNat = 48 + d) ∨ (Lib.digitVal b = none ∧ (b.toNat < 48 ∨ 57 < b.toNat)) := by
  unfold Lib.digitVal
  by_cases h : 48 ≤ b.toNat ∧ b.toNat ≤ 57
  · left; exact ⟨b.toNat - 48, by rw [if_pos h], h.1, h.2, by omega⟩
  · right; exact ⟨by rw [if_neg h], by omega⟩

end Go.Proofs.YtalpgpjhloohfaaDoor.Eng
namespace Go.Proofs.YtalpgpjhloohfaaDoor.Eng
open Go Go.Proofs
set_option maxRecDepth 100000
set_option maxHeartbeats 2000000
set_option linter.unusedSimpArgs false
set_option linter.unusedVariables false
attribute [local simp] finK fin1 hpOf xi renQ isRoot runCode runOps Eng.step wantedV astep val ofO made loadV storeV find V.cells bin binT binA numT numFs eqCells un1 setAt fieldAddrV fieldV indexAddrV indexV bounds sliceV convV lenV foldV max2V min2V callO bor rdsO wrsO seen_none okD_none loops keepIds resV resultsV St.ev TK.agg refs refsL refsO V.one V.isC Value.oneCell' ren renL renO noTag noTagL noTagR noTagO nodup mapO passV frs psi refsR newD loopNext opsAt idx flatAt rootOf backR newsV appendV copyV clearV strV bytesV bldV bufV selfV bytesOf nilCmp buildV fillF chunk
attribute [local simp] cT cF cX cWR cOW cK cBL X ints_length ints_get ints_getElem ints_drop ints_take ints_append ints_nil ints_set
attribute [local simp] ints_replicate
attribute [local simp] putV_some putV_none putH_app applyD_nil applyD_cons seen_app gc_ρ gc_H gc_tick st0_ρ st0_H st0_tick retV callRo callV_if borL_nil borL_cons ints_snoc take_self callWr cutH_app findQ afterV exportV_0 exportV_n okD_nil okD_cons sub_seq0 sub_seq1 sub_cond0 sub_cond1 sub_block sub_loop sub_nil young_far young_none hidW_nil mayW_nil pairs okI ok_0 ok_1 ok_2
attribute [local simp] T3 T4 T5 T9 T22 T28 T32 T55 T57 T63 T64 T66 T70 T72
attribute [local simp] young_near clo cloF Region.binds Nat.testBit hidW declW mayW List.findIdx?_cons
/-- A byte stands in a text. -/
def stB (l : List UInt8) (b : UInt8) : Bool := decide (0 ≤ Lib.indexByte l b)
theorem st_mem (l : List UInt8) (b : UInt8) : stB l b = decide (b ∈ l) := by
  unfold stB
  by_cases hn : Lib.indexByte l b = -1
  · have hno := Lib.indexByte_none hn
    have : b ∉ l := fun h => by
      obtain ⟨i, hi, e⟩ := List.getElem_of_mem h
      exact hno i (by rw [List.getElem?_eq_getElem hi, e])
    simp [hn, this]
  · have hge := Lib.indexByte_ge l b
    obtain ⟨o, ho⟩ : ∃ o : Nat, Lib.indexByte l b = o := ⟨(Lib.indexByte l b).toNat, by omega⟩
    obtain ⟨h1, _⟩ := Lib.indexByte_some ho
    have : b ∈ l := List.mem_of_getElem? h1
    have h0 : 0 ≤ Lib.indexByte l b := by omega
    simp [h0, this]
/-- The lengths of texts, added up. -/
def lenS (p : List (List UInt8)) : Nat := (p.map (·.length)).sum
theorem lenS_take (p : List (List UInt8)) (i : Nat) (h : i < p.length) : lenS (p.take (i + 1)) = lenS (p.take i) + p[i].length := by
  unfold lenS
  rw [List.take_succ_eq_append_getElem h, List.map_append, List.sum_append]
  simp
theorem lenS_take_le (p : List (List UInt8)) : ∀ i, i ≤ p.length → lenS (p.take i) ≤ lenS p := by
  intro i
  induction p generalizing i with
  | nil => intro _; simp [lenS]
  | cons x r ih =>
    intro h
    cases i with
    | zero => simp [lenS]
    | succ i =>
      have := ih i (by simpa using h)
      simp only [lenS, List.take_succ_cons, List.map_cons, List.sum_cons] at this ⊢
      omega
theorem lenS_get (p : List (List UInt8)) (i : Nat) (h : i < p.length) : p[i].length ≤ lenS p := by
  have h1 := lenS_take p i h
  have h2 := lenS_take_le p (i + 1) h
  omega
/-- What joining gives, with one byte between the texts. -/
def joinB (p : List (List UInt8)) (b : UInt8) : List UInt8 := Lib.join p [b]
theorem joinB_len (p : List (List UInt8)) (b : UInt8) (h : p ≠ []) : (joinB p b).length = lenS p + (p.length - 1) := by
  cases p with
  | nil => exact absurd rfl h
  | cons x r =>
    unfold joinB
    rw [Lib.join_cons, List.length_append, Lib.joinTail_length]
    simp only [lenS, Lib.lens, List.map_cons, List.sum_cons, List.length_cons, List.length_nil]
    omega
theorem joinB_take (p : List (List UInt8)) (b : UInt8) (i : Nat) (h : i < p.length) : joinB (p.take (i + 1)) b = if i = 0 then p[i] else joinB (p.take i) b ++ [b] ++ p[i] := by
  cases p with
  | nil => simp at h
  | cons x r =>
    cases i with
    | zero => simp [joinB, Lib.join_one]
    | succ i =>
      have hi : i < r.length := by simpa using h
      simp only [List.take_succ_cons, List.getElem_cons_succ]
      rw [if_neg (by omega)]
      unfold joinB
      rw [Lib.join_cons, Lib.join_cons, Lib.joinTail_take_succ _ _ i r[i] (List.getElem?_eq_getElem hi)]
      simp
def joinOk (p : List (List UInt8)) (b : UInt8) : Bool := !p.isEmpty && p.all (fun x => !decide (b ∈ x)) && decide (lenS p + (p.length - 1) ≤ 4000)

end Go.Proofs.YtalpgpjhloohfaaDoor.Eng
namespace Go.Proofs.YtalpgpjhloohfaaDoor.Eng
open Go Go.Proofs
set_option maxRecDepth 100000
set_option maxHeartbeats 2000000
set_option linter.unusedSimpArgs false
set_option linter.unusedVariables false
attribute [local simp] finK fin1 hpOf xi renQ isRoot runCode runOps Eng.step wantedV astep val ofO made loadV storeV find V.cells bin binT binA numT numFs eqCells un1 setAt fieldAddrV fieldV indexAddrV indexV bounds sliceV convV lenV foldV max2V min2V callO bor rdsO wrsO seen_none okD_none loops keepIds resV resultsV St.ev TK.agg refs refsL refsO V.one V.isC Value.oneCell' ren renL renO noTag noTagL noTagR noTagO nodup mapO passV frs psi refsR newD loopNext opsAt idx flatAt rootOf backR newsV appendV copyV clearV strV bytesV bldV bufV selfV bytesOf nilCmp buildV fillF chunk
attribute [local simp] cT cF cX cWR cOW cK cBL X ints_length ints_get ints_getElem ints_drop ints_take ints_append ints_nil ints_set
attribute [local simp] ints_replicate
attribute [local simp] putV_some putV_none putH_app applyD_nil applyD_cons seen_app gc_ρ gc_H gc_tick st0_ρ st0_H st0_tick retV callRo callV_if borL_nil borL_cons ints_snoc take_self callWr cutH_app findQ afterV exportV_0 exportV_n okD_nil okD_cons sub_seq0 sub_seq1 sub_cond0 sub_cond1 sub_block sub_loop sub_nil young_far young_none hidW_nil mayW_nil pairs okI ok_0 ok_1 ok_2
attribute [local simp] T3 T4 T5 T9 T22 T28 T32 T55 T57 T63 T64 T66 T70 T72
attribute [local simp] young_near clo cloF Region.binds Nat.testBit hidW declW mayW List.findIdx?_cons
def fillQ {α : Type} (l m : List α) (i : Nat) : List α := l.take i ++ m.drop i
theorem fillQ_zero {α : Type} (l m : List α) : fillQ l m 0 = m := by simp [fillQ]
theorem fillQ_all {α : Type} (l m : List α) (h : m.length ≤ l.length) : fillQ l m l.length = l := by simp [fillQ, List.drop_eq_nil_of_le h]
theorem fillQ_length {α : Type} (l m : List α) (i : Nat) (h : m.length = l.length) : (fillQ l m i).length = l.length := by simp [fillQ]; omega
theorem fillQ_set {α : Type} (l m : List α) (i : Nat) (h : m.length = l.length) (hi : i < l.length) : (fillQ l m i).set i l[i] = fillQ l m (i + 1) := by
  unfold fillQ
  rw [List.set_append, if_neg (by simp; omega)]
  have : i - (l.take i).length = 0 := by simp; omega
  rw [this, List.drop_eq_getElem_cons (by omega : i < m.length), List.set_cons_zero, List.take_succ_eq_append_getElem hi, List.append_assoc]
  rfl
theorem strs_get (p : List (List UInt8)) (i : Nat) (h : i < p.length) : (strs p)[i]? = some [.c (.string (bs p[i]))] := by simp [strs, h]
theorem strs_at (p : List (List UInt8)) (i : Nat) (h : i < (strs p).length) : (strs p)[i] = [.c (.string (bs (p[i]'(by simpa [strs] using h))))] := by simp [strs]
theorem strs_set (p : List (List UInt8)) (i : Nat) (x : List UInt8) : (strs p).set i [.c (.string (bs x))] = strs (p.set i x) := by simp [strs, List.map_set]
theorem strs_replicate (n : Nat) : List.replicate n [V.c (.string ByteArray.empty)] = strs (List.replicate n []) := by simp [strs, bs]; exact .inr rfl

end Go.Proofs.YtalpgpjhloohfaaDoor.Eng
namespace Go.Proofs.YtalpgpjhloohfaaDoor.Eng
open Go Go.Proofs
set_option maxRecDepth 100000
set_option maxHeartbeats 2000000
set_option linter.unusedSimpArgs false
set_option linter.unusedVariables false
attribute [local simp] finK fin1 hpOf xi renQ isRoot runCode runOps Eng.step wantedV astep val ofO made loadV storeV find V.cells bin binT binA numT numFs eqCells un1 setAt fieldAddrV fieldV indexAddrV indexV bounds sliceV convV lenV foldV max2V min2V callO bor rdsO wrsO seen_none okD_none loops keepIds resV resultsV St.ev TK.agg refs refsL refsO V.one V.isC Value.oneCell' ren renL renO noTag noTagL noTagR noTagO nodup mapO passV frs psi refsR newD loopNext opsAt idx flatAt rootOf backR newsV appendV copyV clearV strV bytesV bldV bufV selfV bytesOf nilCmp buildV fillF chunk
attribute [local simp] cT cF cX cWR cOW cK cBL X ints_length ints_get ints_getElem ints_drop ints_take ints_append ints_nil ints_set
attribute [local simp] ints_replicate
attribute [local simp] putV_some putV_none putH_app applyD_nil applyD_cons seen_app gc_ρ gc_H gc_tick st0_ρ st0_H st0_tick retV callRo callV_if borL_nil borL_cons ints_snoc take_self callWr cutH_app findQ afterV exportV_0 exportV_n okD_nil okD_cons sub_seq0 sub_seq1 sub_cond0 sub_cond1 sub_block sub_loop sub_nil young_far young_none hidW_nil mayW_nil pairs okI ok_0 ok_1 ok_2
attribute [local simp] T3 T4 T5 T9 T22 T28 T32 T55 T57 T63 T64 T66 T70 T72
/-- The pieces between the bytes b. -/
def CutOf (b : UInt8) : List (List UInt8) → List UInt8 → Prop
  | [], _ => False
  | [x], l => l = x ∧ b ∉ x
  | x :: y :: r, l => b ∉ x ∧ ∃ l', l = x ++ b :: l' ∧ CutOf b (y :: r) l'
theorem cut_cons {b : UInt8} {x : List UInt8} {q : List (List UInt8)} {l' : List UInt8} (hx : b ∉ x) (h : CutOf b q l') : CutOf b (x :: q) (x ++ b :: l') := by
  cases q with
  | nil => exact absurd h (by simp [CutOf])
  | cons y r => exact ⟨hx, l', rfl, h⟩
theorem app_inj {b : UInt8} : ∀ {x y u v : List UInt8}, b ∉ x → b ∉ y → x ++ b :: u = y ++ b :: v → x = y ∧ u = v
  | [], [], u, v, _, _, h => ⟨rfl, by simpa using h⟩
  | [], c :: y, u, v, _, hy, h => by
    simp only [List.nil_append, List.cons_append, List.cons.injEq] at h
    exact absurd (by rw [h.1]; simp) hy
  | a :: x, [], u, v, hx, _, h => by
    simp only [List.nil_append, List.cons_append, List.cons.injEq] at h
    exact absurd (by rw [h.1]; simp) hx
  | a :: x, c :: y, u, v, hx, hy, h => by
    simp only [List.cons_append, List.cons.injEq] at h
    obtain ⟨h1, h2⟩ := app_inj (fun e => hx (List.mem_cons_of_mem _ e)) (fun e => hy (List.mem_cons_of_mem _ e)) h.2
    exact ⟨by rw [h.1, h1], h2⟩
theorem cut_unique (b : UInt8) : ∀ (p q : List (List UInt8)) (l : List UInt8), CutOf b p l → CutOf b q l → p = q
  | [], _, _, h, _ => absurd h (by simp [CutOf])
  | _ :: _, [], _, _, h => absurd h (by simp [CutOf])
  | [x], [y], l, h, k => by rw [← h.1, ← k.1]
  | [x], y :: z :: r, l, h, k => by
    obtain ⟨_, l', e, _⟩ := k
    exact absurd (by rw [← h.1, e]; simp) h.2
  | x :: z :: r, [y], l, h, k => by
    obtain ⟨_, l', e, _⟩ := h
    exact absurd (by rw [← k.1, e]; simp) k.2
  | x :: y :: r, x2 :: y2 :: r2, l, h, k => by
    obtain ⟨h1, l', e, h2⟩ := h
    obtain ⟨k1, l2, e2, k2⟩ := k
    obtain ⟨rfl, rfl⟩ := app_inj h1 k1 (e.symm.trans e2)
    rw [cut_unique b (y :: r) (y2 :: r2) _ h2 k2]
theorem cut_join (b : UInt8) : ∀ (p : List (List UInt8)) (l : List UInt8), CutOf b p l → joinB p b = l ∧ ∀ x ∈ p, b ∉ x
  | [], _, h => absurd h (by simp [CutOf])
  | [x], l, h => ⟨by rw [h.1]; simp [joinB, Lib.join_one], fun y hy => by rw [List.mem_singleton.1 hy]; exact h.2⟩
  | x :: y :: r, l, h => by
    obtain ⟨h1, l', e, h2⟩ := h
    obtain ⟨k1, k2⟩ := cut_join b (y :: r) l' h2
    refine ⟨?_, fun z hz => ?_⟩
    · rw [e, ← k1]
      unfold joinB
      rw [Lib.join_cons, Lib.join_cons]
      simp [Lib.joinTail]
    · rcases List.mem_cons.1 hz with rfl | hz
      · exact h1
      · exact k2 z hz
theorem spS_cut (l : List UInt8) (b : UInt8) : ∀ i, i ≤ l.length → b ∉ (l.drop (spS l b i).2).take (i - (spS l b i).2) ∧ ∀ q, CutOf b q (l.drop (spS l b i).2) → CutOf b ((spS l b i).1 ++ q) l
  | 0, _ => ⟨by simp, fun q h => by simpa [spS] using h⟩
  | i + 1, hi => by
    obtain ⟨h1, h2⟩ := spS_cut l b i (by omega)
    obtain ⟨le1, _⟩ := spS_le l b i
    have hlt : i < l.length := by omega
    by_cases he : l[i]? = some b
    · rw [spS_yes he]
      obtain ⟨p, hp⟩ : ∃ p, (spS l b i).1 = p := ⟨_, rfl⟩
      obtain ⟨f, hf⟩ : ∃ f, (spS l b i).2 = f := ⟨_, rfl⟩
      rw [hf] at h1 h2 le1 ⊢
      rw [hp] at h2 ⊢
      refine ⟨by simp, fun q hq => ?_⟩
      have hs : l.drop f = (l.drop f).take (i - f) ++ b :: l.drop (i + 1) := by
        conv => lhs; rw [← List.take_append_drop (i - f) (l.drop f)]
        congr 1
        rw [List.drop_drop, show f + (i - f) = i by omega, List.drop_eq_getElem_cons hlt]
        have : l[i] = b := by
          rw [List.getElem?_eq_getElem hlt] at he
          exact Option.some.inj he
        rw [this]
      have := h2 ((l.drop f).take (i - f) :: q) (by
        rw [hs]
        have hc := cut_cons h1 hq
        rwa [← hs] at hc ⊢)
      rw [List.append_assoc]
      exact this
    · rw [spS_no he]
      obtain ⟨f, hf⟩ : ∃ f, (spS l b i).2 = f := ⟨_, rfl⟩
      rw [hf] at h1 h2 le1 ⊢
      refine ⟨?_, h2⟩
      have hlt2 : i - f < (l.drop f).length := by rw [List.length_drop]; omega
      rw [show i + 1 - f = i - f + 1 by omega, List.take_succ_eq_append_getElem hlt2, List.mem_append, List.mem_singleton]
      rintro (h | h)
      · exact h1 h
      · rw [List.getElem_drop] at h
        refine he ?_
        rw [List.getElem?_eq_getElem hlt, h]
        simp [show f + (i - f) = i by omega]
theorem splitL_cut (l : List UInt8) (b : UInt8) : CutOf b (splitL l b) l := by
  obtain ⟨h1, h2⟩ := spS_cut l b l.length (Nat.le_refl _)
  obtain ⟨le1, _⟩ := spS_le l b l.length
  unfold splitL
  refine h2 _ ⟨rfl, ?_⟩
  rwa [List.take_of_length_le (by simp)] at h1
theorem splitK_cut (b : UInt8) : ∀ (k : Nat) (l : List UInt8), l.count b = k → CutOf b (Lib.splitK [b] 0 k l) l
  | 0, l, h => ⟨rfl, List.count_eq_zero.1 h⟩
  | k + 1, l, h => by
    unfold Lib.splitK
    rw [Lib.index_one]
    have hm : b ∈ l := List.count_pos_iff.1 (by omega)
    have hn : Lib.indexByte l b ≠ -1 := by
      intro hn
      have hno := Lib.indexByte_none hn
      obtain ⟨i, hi, e⟩ := List.getElem_of_mem hm
      exact hno i (by rw [List.getElem?_eq_getElem hi, e])
    have hge := Lib.indexByte_ge l b
    obtain ⟨o, ho⟩ : ∃ o : Nat, Lib.indexByte l b = o := ⟨(Lib.indexByte l b).toNat, by omega⟩
    obtain ⟨h1, h2⟩ := Lib.indexByte_some ho
    obtain ⟨hol, h1⟩ := List.getElem?_eq_some_iff.1 h1
    rw [if_neg (by simpa using hn), ho]
    have hx : b ∉ l.take o := by
      intro hx
      obtain ⟨i, hi, e⟩ := List.getElem_of_mem hx
      rw [List.length_take] at hi
      rw [List.getElem_take] at e
      exact h2 i (by omega) (by rw [List.getElem?_eq_getElem (by omega), e])
    have hs : l = l.take o ++ b :: l.drop (o + 1) := by
      conv => lhs; rw [← List.take_append_drop o l]
      rw [List.drop_eq_getElem_cons hol, h1]
    have hc : (l.drop (o + 1)).count b = k := by
      have := congrArg (List.count b) hs
      rw [List.count_append, List.count_cons_self, List.count_eq_zero.2 hx] at this
      omega
    have hr := cut_cons hx (splitK_cut b k (l.drop (o + 1)) hc)
    rw [← hs] at hr
    simpa using hr

end Go.Proofs.YtalpgpjhloohfaaDoor.Eng
namespace Go.Proofs.YtalpgpjhloohfaaDoor.Eng
open Go Go.Proofs
set_option maxRecDepth 100000
set_option maxHeartbeats 2000000
set_option linter.unusedSimpArgs false
set_option linter.unusedVariables false
attribute [local simp] finK fin1 hpOf xi renQ isRoot runCode runOps Eng.step wantedV astep val ofO made loadV storeV find V.cells bin binT binA numT numFs eqCells un1 setAt fieldAddrV fieldV indexAddrV indexV bounds sliceV convV lenV foldV max2V min2V callO bor rdsO wrsO seen_none okD_none loops keepIds resV resultsV St.ev TK.agg refs refsL refsO V.one V.isC Value.oneCell' ren renL renO noTag noTagL noTagR noTagO nodup mapO passV frs psi refsR newD loopNext opsAt idx flatAt rootOf backR newsV appendV copyV clearV strV bytesV bldV bufV selfV bytesOf nilCmp buildV fillF chunk
attribute [local simp] cT cF cX cWR cOW cK cBL X ints_length ints_get ints_getElem ints_drop ints_take ints_append ints_nil ints_set
attribute [local simp] ints_replicate
attribute [local simp] putV_some putV_none putH_app applyD_nil applyD_cons seen_app gc_ρ gc_H gc_tick st0_ρ st0_H st0_tick retV callRo callV_if borL_nil borL_cons ints_snoc take_self callWr cutH_app findQ afterV exportV_0 exportV_n okD_nil okD_cons sub_seq0 sub_seq1 sub_cond0 sub_cond1 sub_block sub_loop sub_nil young_far young_none hidW_nil mayW_nil pairs okI ok_0 ok_1 ok_2
attribute [local simp] T3 T4 T5 T9 T22 T28 T32 T55 T57 T63 T64 T66 T70 T72
attribute [local simp] young_near clo cloF Region.binds Nat.testBit hidW declW mayW List.findIdx?_cons
theorem strs_of2 (p : List ByteArray) : (p.map fun s => [V.c (.string s)]) = strs (p.map (·.data.toList)) := by
  unfold strs
  rw [List.map_map]
  refine List.map_congr_left fun s _ => ?_
  cases s
  simp [bs]
theorem c_Split (k : Nat) (l : List UInt8) (b : UInt8) (h20 : l.length ≤ 1048576) (hk : 1 ≤ k) : callK C k 61 [.c (.string (bs l)), .c (.string (bs [b]))] [] = some (.s 0 2 1 0 (splitL l b).length, hpOf [] [strsO (splitL l b)]) := by
  obtain ⟨k, rfl⟩ : ∃ m, k = m + 1 := ⟨k - 1, by omega⟩
  simp only [callK]
  have hx : C.ext 61 = some ext61 := rfl
  rw [hx]
  have hlen := Lib.splitB_all (bs [b]) (by rw [bs_size]; simp) 0 _ (bs l) rfl
  have hdat := Lib.splitB_data (bs [b]) 0 (Lib.countB (bs l) (bs [b])) (bs l)
  have hc : Lib.countB (bs l) (bs [b]) = l.count b := by
    show Lib.count (bs l).data.toList (bs [b]).data.toList = _
    rw [bs_data, bs_data, Lib.count_one]
  rw [hc] at hlen hdat
  rw [bs_data, bs_data] at hdat
  have hu := cut_unique b _ _ l (splitK_cut b (l.count b) l rfl) (splitL_cut l b)
  rw [hu] at hdat
  have hl2 : (splitL l b).length = l.count b + 1 := by rw [← hdat, List.length_map]; exact hlen
  have he : ext61 [.c (.string (bs l)), .c (.string (bs [b]))] = some (.s 0 2 1 0 (splitL l b).length, [strsO (splitL l b)]) := by
    unfold ext61
    simp only [hc, strs_of2, hdat]
    rw [if_pos ⟨by rw [bs_size]; rfl, by rw [bs_size]; exact h20⟩, hl2]
    rfl
  simp [he]
/-- How many digits a number has. -/
def ndg (n : Nat) : Nat := if h : n = 0 then 0 else ndg (n / 10) + 1
theorem ndg_le (n : Nat) : ndg n ≤ n := by
  induction n using Nat.strongRecOn with
  | _ n ih =>
    unfold ndg
    split
    · omega
    · have := ih (n / 10) (by omega)
      omega
theorem ndg_facts (n : Nat) : n / 10 ^ ndg n = 0 ∧ ∀ i, i < ndg n → 0 < n / 10 ^ i := by
  induction n using Nat.strongRecOn with
  | _ n ih =>
    unfold ndg
    split
    · rename_i h; subst h; simp
    · obtain ⟨h1, h2⟩ := ih (n / 10) (by omega)
      refine ⟨?_, fun i hi => ?_⟩
      · rw [Nat.pow_succ, Nat.mul_comm, ← Nat.div_div_eq_div_mul]; exact h1
      · cases i with
        | zero => simp; omega
        | succ i =>
          rw [Nat.pow_succ, Nat.mul_comm, ← Nat.div_div_eq_div_mul]
          exact h2 i (by omega)
/-- The last i digits. -/
def dgs (n : Nat) : Nat → List UInt8
  | 0 => []
  | i + 1 => UInt8.ofNat (48 + n / 10 ^ i % 10) :: dgs n i
theorem dgs_len (n : Nat) : ∀ i, (dgs n i).length = i
  | 0 => rfl
  | i + 1 => by simp [dgs, dgs_len n i]
def mkT (n : Nat) : List UInt8 := 109 :: dgs n (ndg n)
def mkL (k n : Nat) : List (List UInt8) := (List.range n).map fun i => mkT (k + i)
theorem mkL_len (k n : Nat) : (mkL k n).length = n := by simp [mkL]
theorem mkL_at (k n i : Nat) (h : i < (mkL k n).length) : (mkL k n)[i] = mkT (k + i) := by simp [mkL]

end Go.Proofs.YtalpgpjhloohfaaDoor.Eng
namespace Go.Proofs.YtalpgpjhloohfaaDoor.Eng
open Go Go.Proofs
set_option maxRecDepth 100000
set_option maxHeartbeats 2000000
set_option linter.unusedSimpArgs false
set_option linter.unusedVariables false
attribute [local simp] finK fin1 hpOf xi renQ isRoot runCode runOps Eng.step wantedV astep val ofO made loadV storeV find V.cells bin binT binA numT numFs eqCells un1 setAt fieldAddrV fieldV indexAddrV indexV bounds sliceV convV lenV foldV max2V min2V callO bor rdsO wrsO seen_none okD_none loops keepIds resV resultsV St.ev TK.agg refs refsL refsO V.one V.isC Value.oneCell' ren renL renO noTag noTagL noTagR noTagO nodup mapO passV frs psi refsR newD loopNext opsAt idx flatAt rootOf backR newsV appendV copyV clearV strV bytesV bldV bufV selfV bytesOf nilCmp buildV fillF chunk
attribute [local simp] cT cF cX cWR cOW cK cBL X ints_length ints_get ints_getElem ints_drop ints_take ints_append ints_nil ints_set
attribute [local simp] ints_replicate
attribute [local simp] putV_some putV_none putH_app applyD_nil applyD_cons seen_app gc_ρ gc_H gc_tick st0_ρ st0_H st0_tick retV callRo callV_if borL_nil borL_cons ints_snoc take_self callWr cutH_app findQ afterV exportV_0 exportV_n okD_nil okD_cons sub_seq0 sub_seq1 sub_cond0 sub_cond1 sub_block sub_loop sub_nil young_far young_none hidW_nil mayW_nil pairs okI ok_0 ok_1 ok_2
attribute [local simp] T3 T4 T5 T9 T22 T28 T32 T55 T57 T63 T64 T66 T70 T72
/-- A word that stands for a cell. -/
noncomputable def cellP (w : List UInt8) : Option Int := if w = [46] then some (-9999) else match pI w with
  | some n => if n = -9999 then none else some n
  | none => none
def cellT (n : Int) : List UInt8 := if n = -9999 then [46] else Lib.itoa n
theorem cellP_inv {w : List UInt8} {n : Int} (h : cellP w = some n) : cellT n = w := by
  unfold cellP at h
  split at h
  · rename_i e
    cases h
    rw [e]; rfl
  · split at h
    · rename_i m hm
      split at h
      · cases h
      · rename_i hn
        cases h
        unfold cellT
        rw [if_neg hn]
        exact (pI_inv hm).2.2
    · cases h
theorem itoa_dot (n : Int) : Lib.itoa n ≠ [46] := by
  intro e
  have h := unsg_itoa n
  rw [e] at h
  obtain ⟨b, r, hd, h1, h2⟩ := dec_head n.natAbs
  have h0 : unsg [46] = [46] := rfl
  rw [h0, hd] at h
  have := h.1
  injection this with h3 _
  rw [← h3] at h1
  exact absurd h1 (by decide)
theorem cellP_T {n : Int} (h : cellB n = true) : cellP (cellT n) = some n := by
  unfold cellB at h
  simp only [Bool.or_eq_true, beq_iff_eq, Bool.and_eq_true, decide_eq_true_eq] at h
  unfold cellT
  by_cases hn : n = -9999
  · rw [if_pos hn, hn]; rfl
  · rw [if_neg hn]
    unfold cellP
    rw [if_neg (itoa_dot n), pI_some (by omega) (by omega)]
    simp only
    rw [if_neg hn]
noncomputable def rowP : List (List UInt8) → Option (List Int)
  | [] => some []
  | w :: r => match cellP w with
    | none => none
    | some a => match rowP r with
      | none => none
      | some l => some (a :: l)
theorem rowP_inv : ∀ {ws : List (List UInt8)} {a : List Int}, rowP ws = some a → a.map cellT = ws
  | [], a, h => by cases h; rfl
  | w :: r, a, h => by
    unfold rowP at h
    split at h
    · cases h
    · rename_i x hx
      split at h
      · cases h
      · rename_i l hl
        cases h
        rw [List.map_cons, cellP_inv hx, rowP_inv hl]
theorem rowP_T : ∀ {a : List Int}, a.all cellB = true → rowP (a.map cellT) = some a
  | [], _ => rfl
  | x :: a, h => by
    simp only [List.all_cons, Bool.and_eq_true] at h
    rw [List.map_cons, rowP, cellP_T h.1, rowP_T h.2]
theorem rowP_take (ws : List (List UInt8)) : ∀ (i : Nat) (h : i < ws.length), rowP (ws.take (i + 1)) = match rowP (ws.take i) with
    | none => none
    | some l => match cellP ws[i] with
      | none => none
      | some a => some (l ++ [a]) := by
  induction ws with
  | nil => intro i h; simp at h
  | cons w r ih =>
    intro i h
    cases i with
    | zero =>
      simp only [List.take_succ_cons, List.take_zero, rowP, List.getElem_cons_zero]
      cases cellP w <;> rfl
    | succ i =>
      have hi : i < r.length := by simpa using h
      have := ih i hi
      simp only [List.take_succ_cons, rowP, List.getElem_cons_succ] at this ⊢
      rw [this]
      cases cellP w with
      | none => rfl
      | some a =>
        cases rowP (r.take i) with
        | none => rfl
        | some l => cases cellP r[i] <;> rfl
theorem rowP_len {ws : List (List UInt8)} {a : List Int} (h : rowP ws = some a) : a.length = ws.length := by
  rw [← rowP_inv h, List.length_map]
/-- One line behind what was read: the width, the cells. -/
noncomputable def stI (o : Option (Nat × List Int)) (x : List UInt8) : Option (Nat × List Int) := match o with
  | none => none
  | some (w, acc) => if 0 < w ∧ (splitL x 32).length ≠ w then none else match rowP (splitL x 32) with
    | none => none
    | some a => some ((splitL x 32).length, acc ++ a)
noncomputable def stS (o : Option (Nat × List Int)) (x : List UInt8) : Option (Nat × List Int) := match o with
  | none => none
  | some (_, acc) => match rowP (splitL x 32) with
    | none => none
    | some a => some ((splitL x 32).length, acc ++ a)
noncomputable def preI (L : List (List UInt8)) (i : Nat) : Option (Nat × List Int) := (L.take i).foldl stI (some (0, []))
noncomputable def preS (L : List (List UInt8)) (i : Nat) : Option (Nat × List Int) := (L.take i).foldl stS (some (0, []))
theorem preI_succ (L : List (List UInt8)) (i : Nat) (h : i < L.length) : preI L (i + 1) = stI (preI L i) L[i] := by
  unfold preI
  rw [List.take_succ_eq_append_getElem h, List.foldl_append]
  rfl
theorem preS_succ (L : List (List UInt8)) (i : Nat) (h : i < L.length) : preS L (i + 1) = stS (preS L i) L[i] := by
  unfold preS
  rw [List.take_succ_eq_append_getElem h, List.foldl_append]
  rfl
/-- Rows of cells, and their text. -/
def rowT (r : List Int) : List UInt8 := joinB (r.map cellT) 32
def rowsT (R : List (List Int)) : List UInt8 := R.flatMap fun r => rowT r ++ [10]
theorem dec_range (u : Nat) : ∀ b ∈ Lib.decDigits u, 48 ≤ b.toNat ∧ b.toNat ≤ 57 := by
  intro b hb
  obtain ⟨i, hi, rfl⟩ := List.getElem_of_mem hb
  obtain ⟨d, hd⟩ := Lib.digit_of_decFrom _ _ _ (dec_digits u) i _ (List.getElem?_eq_getElem hi)
  unfold Lib.digitVal at hd
  split at hd
  · rename_i hh; exact hh
  · cases hd
theorem cellT_no (n : Int) (c : UInt8) (hc : c = 32 ∨ c = 10) : c ∉ cellT n := by
  unfold cellT
  split
  · rcases hc with rfl | rfl <;> decide
  · intro h
    have hd : c ∈ Lib.itoa n → c = 45 ∨ c ∈ Lib.decDigits n.natAbs := by
      intro h
      unfold Lib.itoa at h
      split at h
      · rcases List.mem_cons.1 h with h | h
        · exact .inl h
        · exact .inr (by simpa using h)
      · exact .inr (by
          have : n.natAbs = n.toNat := by omega
          rw [this]; exact h)
    rcases hd h with h | h
    · rcases hc with rfl | rfl <;> exact absurd h (by decide)
    · have := dec_range _ _ h
      rcases hc with rfl | rfl <;> exact absurd this (by decide)

end Go.Proofs.YtalpgpjhloohfaaDoor.Eng
namespace Go.Proofs.YtalpgpjhloohfaaDoor.Eng
open Go Go.Proofs
set_option maxRecDepth 100000
set_option maxHeartbeats 2000000
set_option linter.unusedSimpArgs false
set_option linter.unusedVariables false
attribute [local simp] finK fin1 hpOf xi renQ isRoot runCode runOps Eng.step wantedV astep val ofO made loadV storeV find V.cells bin binT binA numT numFs eqCells un1 setAt fieldAddrV fieldV indexAddrV indexV bounds sliceV convV lenV foldV max2V min2V callO bor rdsO wrsO seen_none okD_none loops keepIds resV resultsV St.ev TK.agg refs refsL refsO V.one V.isC Value.oneCell' ren renL renO noTag noTagL noTagR noTagO nodup mapO passV frs psi refsR newD loopNext opsAt idx flatAt rootOf backR newsV appendV copyV clearV strV bytesV bldV bufV selfV bytesOf nilCmp buildV fillF chunk
attribute [local simp] cT cF cX cWR cOW cK cBL X ints_length ints_get ints_getElem ints_drop ints_take ints_append ints_nil ints_set
attribute [local simp] ints_replicate
attribute [local simp] putV_some putV_none putH_app applyD_nil applyD_cons seen_app gc_ρ gc_H gc_tick st0_ρ st0_H st0_tick retV callRo callV_if borL_nil borL_cons ints_snoc take_self callWr cutH_app findQ afterV exportV_0 exportV_n okD_nil okD_cons sub_seq0 sub_seq1 sub_cond0 sub_cond1 sub_block sub_loop sub_nil young_far young_none hidW_nil mayW_nil pairs okI ok_0 ok_1 ok_2
attribute [local simp] T3 T4 T5 T9 T22 T28 T32 T55 T57 T63 T64 T66 T70 T72
theorem cut_snoc (b : UInt8) : ∀ (p : List (List UInt8)) (l : List UInt8), CutOf b p l → CutOf b (p ++ [[]]) (l ++ [b])
  | [], _, h => absurd h (by simp [CutOf])
  | [x], l, h => ⟨h.2, [], by rw [h.1], rfl, by simp⟩
  | x :: y :: r, l, h => by
    obtain ⟨h1, l', e, h2⟩ := h
    have := cut_snoc b (y :: r) l' h2
    exact ⟨h1, l' ++ [b], by rw [e]; simp, this⟩
theorem cut_of (b : UInt8) : ∀ (p : List (List UInt8)), p ≠ [] → (∀ x ∈ p, b ∉ x) → CutOf b p (joinB p b)
  | [], h, _ => absurd rfl h
  | [x], _, h => ⟨by simp [joinB, Lib.join_one], h x (by simp)⟩
  | x :: y :: r, _, h => by
    have ih := cut_of b (y :: r) (by simp) (fun z hz => h z (List.mem_cons_of_mem _ hz))
    refine ⟨h x (by simp), joinB (y :: r) b, ?_, ih⟩
    unfold joinB
    rw [Lib.join_cons, Lib.join_cons]
    simp [Lib.joinTail]
theorem flat_join (b : UInt8) : ∀ (p : List (List UInt8)), p ≠ [] → p.flatMap (fun x => x ++ [b]) = joinB p b ++ [b]
  | [], h => absurd rfl h
  | [x], _ => by simp [joinB, Lib.join_one]
  | x :: y :: r, _ => by
    have ih := flat_join b (y :: r) (by simp)
    rw [List.flatMap_cons, ih]
    unfold joinB
    rw [Lib.join_cons, Lib.join_cons]
    simp [Lib.joinTail]
theorem split_is {b : UInt8} {p : List (List UInt8)} {l : List UInt8} (h : CutOf b p l) : splitL l b = p := cut_unique b _ _ l (splitL_cut l b) h
theorem split_ne (l : List UInt8) (b : UInt8) : splitL l b ≠ [] := by simp [splitL]
theorem row_split {r : List Int} (h : r ≠ []) : splitL (rowT r) 32 = r.map cellT := by
  refine split_is (cut_of 32 _ (by simpa using h) (fun x hx => ?_))
  obtain ⟨n, _, rfl⟩ := List.mem_map.1 hx
  exact cellT_no n 32 (.inl rfl)
theorem join_mem {b c : UInt8} : ∀ {p : List (List UInt8)}, c ∈ joinB p b → c = b ∨ ∃ x ∈ p, c ∈ x
  | [], h => by simp [joinB, Lib.join_nil] at h
  | [x], h => by simp [joinB, Lib.join_one] at h; exact .inr ⟨x, by simp, h⟩
  | x :: y :: r, h => by
    have e : joinB (x :: y :: r) b = x ++ b :: joinB (y :: r) b := by
      unfold joinB
      rw [Lib.join_cons, Lib.join_cons]
      simp [Lib.joinTail]
    rw [e, List.mem_append, List.mem_cons] at h
    rcases h with h | h | h
    · exact .inr ⟨x, by simp, h⟩
    · exact .inl h
    · rcases join_mem h with h | ⟨z, hz, h⟩
      · exact .inl h
      · exact .inr ⟨z, List.mem_cons_of_mem _ hz, h⟩
theorem row_no (r : List Int) : (10 : UInt8) ∉ rowT r := by
  intro h
  rcases join_mem h with h | ⟨x, hx, h⟩
  · exact absurd h (by decide)
  · obtain ⟨n, _, rfl⟩ := List.mem_map.1 hx
    exact cellT_no n 10 (.inr rfl) h
theorem rows_cut {R : List (List Int)} (h : R ≠ []) : CutOf 10 (R.map rowT) (joinB (R.map rowT) 10) ∧ rowsT R = joinB (R.map rowT) 10 ++ [10] := by
  refine ⟨cut_of 10 _ (by simpa using h) (fun x hx => ?_), ?_⟩
  · obtain ⟨r, _, rfl⟩ := List.mem_map.1 hx
    exact row_no r
  · rw [← flat_join 10 _ (by simpa using h)]
    simp [rowsT, List.flatMap_map]
/-- What was read, line by line: rows of one width. -/
theorem preI_rows (L : List (List UInt8)) : ∀ i, i ≤ L.length → ∀ w acc, preI L i = some (w, acc) → ∃ R : List (List Int), acc = R.flatten ∧ L.take i = R.map rowT ∧ (∀ r ∈ R, r.length = w) ∧ (i = 0 → w = 0) ∧ (0 < i → 0 < w)
  | 0, _, w, acc, h => by
    simp only [preI, List.take_zero, List.foldl_nil, Option.some.injEq, Prod.mk.injEq] at h
    obtain ⟨rfl, rfl⟩ := h
    exact ⟨[], rfl, by simp, by simp, fun _ => rfl, fun h => absurd h (by omega)⟩
  | i + 1, hi, w, acc, h => by
    rw [preI_succ L i (by omega)] at h
    cases hp : preI L i with
    | none => rw [hp] at h; cases h
    | some q =>
      obtain ⟨w0, acc0⟩ := q
      obtain ⟨R, rfl, hR, hw, h0, h1⟩ := preI_rows L i (by omega) w0 acc0 hp
      rw [hp] at h
      simp only [stI] at h
      split at h
      · cases h
      · rename_i hc
        split at h
        · cases h
        · rename_i a ha
          simp only [Option.some.injEq, Prod.mk.injEq] at h
          obtain ⟨rfl, rfl⟩ := h
          have hl := rowP_len ha
          have hne : (splitL L[i] 32).length ≠ 0 := fun e => split_ne L[i] 32 (List.length_eq_zero_iff.1 e)
          refine ⟨R ++ [a], by simp, ?_, fun r hr => ?_, fun e => by omega, fun _ => by omega⟩
          · rw [List.take_succ_eq_append_getElem (by omega), hR, List.map_append]
            congr 1
            simp only [List.map_cons, List.map_nil]
            have := (cut_join 32 _ _ (splitL_cut L[i] 32)).1
            rw [← rowP_inv ha] at this
            rw [← this]; rfl
          · rcases List.mem_append.1 hr with hr | hr
            · by_cases hi0 : i = 0
              · subst hi0
                simp only [List.take_zero] at hR
                have : R = [] := by simpa using hR.symm
                rw [this] at hr; cases hr
              · have := h1 (by omega)
                rw [hw r hr]
                by_cases e : (splitL L[i] 32).length = w0
                · exact e.symm
                · exact absurd ⟨this, e⟩ hc
            · rw [List.mem_singleton.1 hr, hl]
theorem preI_of (R : List (List Int)) (w : Nat) (hw : 0 < w) (hl : ∀ r ∈ R, r.length = w) (hc : ∀ r ∈ R, r.all cellB = true) : ∀ i, i ≤ R.length → preI (R.map rowT) i = some (if i = 0 then 0 else w, (R.take i).flatten) ∧ preS (R.map rowT) i = some (if i = 0 then 0 else w, (R.take i).flatten)
  | 0, _ => ⟨rfl, rfl⟩
  | i + 1, hi => by
    obtain ⟨h1, h2⟩ := preI_of R w hw hl hc i (by omega)
    have hlt : i < R.length := by omega
    have hm := List.getElem_mem hlt
    have hrl := hl _ hm
    have hne : R[i] ≠ [] := by intro e; rw [e] at hrl; simp at hrl; omega
    have hs := row_split hne
    have hp := rowP_T (hc _ hm)
    rw [preI_succ _ i (by simpa using hlt), preS_succ _ i (by simpa using hlt), h1, h2]
    simp only [List.getElem_map]
    have hlen : (splitL (rowT R[i]) 32).length = w := by rw [hs, List.length_map, hrl]
    constructor
    · simp only [stI]
      rw [if_neg (by rw [hlen]; split <;> omega), hs, hp]
      simp only [List.length_map, hrl]
      rw [if_neg (by omega), List.take_succ_eq_append_getElem hlt, List.flatten_append]
      simp only [List.flatten_cons, List.flatten_nil, List.append_nil]
    · simp only [stS]
      rw [hs, hp]
      simp only [List.length_map, hrl]
      rw [if_neg (by omega), List.take_succ_eq_append_getElem hlt, List.flatten_append]
      simp only [List.flatten_cons, List.flatten_nil, List.append_nil]
/-- Cells in rows of w. -/
def chnk (w : Nat) : Nat → List Int → List (List Int)
  | 0, _ => []
  | h + 1, c => c.take w :: chnk w h (c.drop w)
theorem chnk_len (w : Nat) : ∀ (h : Nat) (c : List Int), (chnk w h c).length = h
  | 0, _ => rfl
  | h + 1, c => by simp [chnk, chnk_len w h]
theorem chnk_flat (w : Nat) : ∀ (h : Nat) (c : List Int), c.length = w * h → (chnk w h c).flatten = c ∧ ∀ r ∈ chnk w h c, r.length = w
  | 0, c, e => by
    have : c = [] := List.length_eq_zero_iff.1 (by simpa using e)
    subst this
    simp [chnk]
  | h + 1, c, e => by
    rw [Nat.mul_succ] at e
    obtain ⟨h1, h2⟩ := chnk_flat w h (c.drop w) (by rw [List.length_drop]; omega)
    refine ⟨by simp [chnk, h1], fun r hr => ?_⟩
    rcases List.mem_cons.1 hr with rfl | hr
    · rw [List.length_take]; omega
    · exact h2 r hr
theorem chnk_of (w : Nat) : ∀ (R : List (List Int)), (∀ r ∈ R, r.length = w) → chnk w R.length R.flatten = R
  | [], _ => rfl
  | r :: R, h => by
    have hr := h r (by simp)
    have ih := chnk_of w R (fun x hx => h x (List.mem_cons_of_mem _ hx))
    simp only [List.length_cons, chnk, List.flatten_cons]
    rw [← hr, List.take_left, List.drop_left, hr, ih]
def textF (w h : Nat) (c : List Int) : List UInt8 := rowsT (chnk w h c)
theorem cell_len {n : Int} (h : cellB n = true) : (cellT n).length ≤ 5 := by
  unfold cellB at h
  simp only [Bool.or_eq_true, beq_iff_eq, Bool.and_eq_true, decide_eq_true_eq] at h
  unfold cellT
  split
  · decide
  · rename_i hn
    have hk : ∀ u : Nat, u ≤ 9999 → (Lib.decDigits u).length ≤ 4 := by
      intro u hu
      rw [Lib.decDigits_length]
      have hgen : ∀ (k u : Nat), u < 10 ^ (k + 1) → Lib.nDigits u ≤ k + 1 := by
        intro k
        induction k with
        | zero => intro u hu; rw [Lib.nDigits_small (by omega)]; omega
        | succ k ih =>
          intro u hu
          by_cases h10 : u < 10
          · rw [Lib.nDigits_small h10]; omega
          · rw [Lib.nDigits_big h10]
            have := ih (u / 10) (by rw [Nat.pow_succ] at hu; omega)
            omega
      exact hgen 3 u (by omega)
    unfold Lib.itoa
    split
    · rw [List.length_cons]
      have := hk n.natAbs (by omega)
      omega
    · have := hk n.toNat (by omega)
      omega
theorem row_len : ∀ (r : List Int), r.all cellB = true → (rowT r).length + 1 ≤ 6 * r.length + 1 ∧ (r ≠ [] → (rowT r).length + 1 ≤ 6 * r.length)
  | [], _ => by simp [rowT, joinB, Lib.join_nil]
  | [a], h => by
    simp only [List.all_cons, List.all_nil, Bool.and_true] at h
    have := cell_len h
    simp only [rowT, List.map_cons, List.map_nil, joinB, Lib.join_one, List.length_cons, List.length_nil]
    constructor
    · omega
    · intro _; omega
  | a :: b :: r, h => by
    simp only [List.all_cons, Bool.and_eq_true] at h
    have h1 := cell_len h.1
    have ih := (row_len (b :: r) (by simp only [List.all_cons, Bool.and_eq_true]; exact h.2)).2 (by simp)
    have e : rowT (a :: b :: r) = cellT a ++ 32 :: rowT (b :: r) := by
      unfold rowT joinB
      simp only [List.map_cons]
      rw [Lib.join_cons, Lib.join_cons]
      simp [Lib.joinTail]
    rw [e]
    simp only [List.length_append, List.length_cons] at ih ⊢
    constructor
    · omega
    · intro _; omega
theorem rows_len : ∀ (R : List (List Int)) (w : Nat), 0 < w → (∀ r ∈ R, r.length = w) → (∀ r ∈ R, r.all cellB = true) → (rowsT R).length ≤ 6 * (w * R.length)
  | [], _, _, _, _ => by simp [rowsT]
  | r :: R, w, hw, hl, hc => by
    have ih := rows_len R w hw (fun x hx => hl x (List.mem_cons_of_mem _ hx)) (fun x hx => hc x (List.mem_cons_of_mem _ hx))
    have hr := hl r (by simp)
    have h1 := (row_len r (hc r (by simp))).2 (by intro e; rw [e] at hr; simp at hr; omega)
    have e : rowsT (r :: R) = rowT r ++ [10] ++ rowsT R := by simp [rowsT]
    rw [e]
    simp only [List.length_append, List.length_cons, List.length_nil, Nat.mul_succ] at ih ⊢
    rw [hr] at h1
    omega
noncomputable def accI (s : List UInt8) : Option (Nat × Nat × List Int) := if s.length ≤ 384 ∧ s.getLast? = some 10 then (match preI (splitL s.dropLast 10) (splitL s.dropLast 10).length with
  | some (w, c) => if goodB w (splitL s.dropLast 10).length c = true then some (w, (splitL s.dropLast 10).length, c) else none
  | none => none) else none
noncomputable def accS (s : List UInt8) : Option (Nat × Nat × List Int) := if s.length ≤ 500 ∧ 1 ≤ (splitL s 10).length - 1 ∧ (splitL s 10).length - 1 ≤ 8 then (match preS (splitL s 10) ((splitL s 10).length - 1) with
  | some (w, c) => if goodB w ((splitL s 10).length - 1 : Nat) c = true ∧ textF w ((splitL s 10).length - 1) c = s then some (w, (splitL s 10).length - 1, c) else none
  | none => none) else none
theorem preS_take {L M : List (List UInt8)} {n : Nat} (h : L.take n = M.take n) : preS L n = preS M n := by
  unfold preS
  rw [h]
theorem cells_rows {R : List (List Int)} (h : R.flatten.all cellB = true) : ∀ r ∈ R, r.all cellB = true := fun r hr => by
  rw [List.all_eq_true] at h ⊢
  exact fun x hx => h x (List.mem_flatten.2 ⟨r, hr, hx⟩)
theorem acc_IS {s : List UInt8} {f : Nat × Nat × List Int} (h : accI s = some f) : accS s = some f := by
  unfold accI at h
  split at h
  case isFalse => cases h
  rename_i hc
  obtain ⟨hlen, hlast⟩ := hc
  split at h
  case h_2 => cases h
  rename_i w c hp
  split at h
  case isFalse => cases h
  rename_i hg
  cases h
  have hs : s = s.dropLast ++ [10] := by
    obtain ⟨ys, hy⟩ := List.getLast?_eq_some_iff.1 hlast
    rw [hy]; simp
  obtain ⟨L, hL⟩ : ∃ L, s.dropLast = L := ⟨_, rfl⟩
  rw [hL] at hp hg hs ⊢
  obtain ⟨R, rfl, hR, hw, _, hpos⟩ := preI_rows _ _ (Nat.le_refl _) w c hp
  rw [List.take_length] at hR
  have hn : (splitL L 10).length = R.length := by rw [hR, List.length_map]
  have hne0 := split_ne L 10
  have hR0 : R ≠ [] := by intro e; rw [e] at hR; exact hne0 hR
  have hRp : 0 < R.length := List.length_pos_iff.2 hR0
  have hw0 : 0 < w := hpos (by rw [hn]; exact hRp)
  obtain ⟨sh, _, hall, _⟩ := good_length hg
  obtain ⟨_, _, _, _, b1, b2⟩ := shape_area sh
  have hcr := cells_rows hall
  have hsp : splitL s 10 = R.map rowT ++ [[]] := by
    rw [hs]
    refine split_is (cut_snoc 10 _ _ ?_)
    rw [← hR]
    exact splitL_cut L 10
  have hcut := rows_cut hR0
  have hj : joinB (R.map rowT) 10 = L := by rw [← hR]; exact (cut_join 10 _ _ (splitL_cut L 10)).1
  have ht : textF w R.length R.flatten = s := by
    unfold textF
    rw [chnk_of w R hw, hcut.2, hj]
    exact hs.symm
  have hpS : preS (splitL s 10) R.length = some (w, R.flatten) := by
    rw [preS_take (M := R.map rowT) (by rw [hsp, List.take_append_of_le_length (by simp)])]
    have := (preI_of R w hw0 hw hcr R.length (Nat.le_refl _)).2
    rw [if_neg (by omega), List.take_length] at this
    exact this
  have hl1 : (splitL s 10).length - 1 = R.length := by rw [hsp]; simp
  unfold accS
  rw [hl1, hpS]
  rw [hn] at hg b2 ⊢
  simp only []
  rw [if_pos ⟨by omega, by omega, by omega⟩, if_pos ⟨hg, ht⟩]
theorem acc_SI {s : List UInt8} {f : Nat × Nat × List Int} (h : accS s = some f) : accI s = some f := by
  unfold accS at h
  split at h
  case isFalse => cases h
  rename_i hc
  obtain ⟨_, hn1, hn8⟩ := hc
  split at h
  case h_2 => cases h
  rename_i w c hp
  split at h
  case isFalse => cases h
  rename_i hg
  obtain ⟨hg, ht⟩ := hg
  obtain ⟨n, hn⟩ : ∃ n, (splitL s 10).length - 1 = n := ⟨_, rfl⟩
  rw [hn] at hn1 hn8 hp hg ht h
  cases h
  obtain ⟨sh, hcl, hall, _⟩ := good_length hg
  obtain ⟨_, _, a1, a2, b1, b2⟩ := shape_area sh
  have hcl' : c.length = w * n := by
    have : ((w * n : Nat) : Int) = (w : Int) * (n : Int) := Int.natCast_mul w n
    omega
  obtain ⟨hf, hw⟩ := chnk_flat w n c hcl'
  have hRl := chnk_len w n c
  unfold textF at ht
  obtain ⟨R, hR⟩ : ∃ R, chnk w n c = R := ⟨_, rfl⟩
  rw [hR] at hf hw hRl ht
  have hR0 : R ≠ [] := by intro e; rw [e] at hRl; simp at hRl; omega
  have hcr : ∀ r ∈ R, r.all cellB = true := cells_rows (by rw [hf]; exact hall)
  obtain ⟨hcut, he⟩ := rows_cut hR0
  obtain ⟨L, hL⟩ : ∃ L, joinB (R.map rowT) 10 = L := ⟨_, rfl⟩
  rw [hL] at hcut he
  have hs : s = L ++ [10] := by rw [← ht]; exact he
  have hsl : splitL L 10 = R.map rowT := split_is hcut
  have hdl : s.dropLast = L := by rw [hs]; simp
  have hlen : s.length ≤ 384 := by
    have := rows_len R w (by omega) hw hcr
    rw [ht, hRl] at this
    have h64 : w * n ≤ 64 := by
      have : w * n ≤ 8 * 8 := Nat.mul_le_mul (by omega) (by omega)
      omega
    omega
  have hpI : preI (R.map rowT) n = some (w, c) := by
    have := (preI_of R w (by omega) hw hcr R.length (Nat.le_refl _)).1
    rw [if_neg (by omega), List.take_length, hf, hRl] at this
    exact this
  unfold accI
  rw [hdl, hsl, List.length_map, hRl, hpI]
  simp only []
  rw [if_pos ⟨hlen, by rw [hs]; simp⟩, if_pos hg]
theorem acc_same (s : List UInt8) : accI s = accS s := by
  cases h : accI s with
  | some f => exact (acc_IS h).symm
  | none =>
    cases h2 : accS s with
    | none => rfl
    | some f => rw [acc_SI h2] at h; cases h

end Go.Proofs.YtalpgpjhloohfaaDoor.Eng
namespace Go.Proofs.YtalpgpjhloohfaaDoor.Eng
open Go Go.Proofs
set_option maxRecDepth 100000
set_option maxHeartbeats 2000000
set_option linter.unusedSimpArgs false
set_option linter.unusedVariables false
attribute [local simp] finK fin1 hpOf xi renQ isRoot runCode runOps Eng.step wantedV astep val ofO made loadV storeV find V.cells bin binT binA numT numFs eqCells un1 setAt fieldAddrV fieldV indexAddrV indexV bounds sliceV convV lenV foldV max2V min2V callO bor rdsO wrsO seen_none okD_none loops keepIds resV resultsV St.ev TK.agg refs refsL refsO V.one V.isC Value.oneCell' ren renL renO noTag noTagL noTagR noTagO nodup mapO passV frs psi refsR newD loopNext opsAt idx flatAt rootOf backR newsV appendV copyV clearV strV bytesV bldV bufV selfV bytesOf nilCmp buildV fillF chunk
attribute [local simp] cT cF cX cWR cOW cK cBL X ints_length ints_get ints_getElem ints_drop ints_take ints_append ints_nil ints_set
attribute [local simp] ints_replicate
attribute [local simp] putV_some putV_none putH_app applyD_nil applyD_cons seen_app gc_ρ gc_H gc_tick st0_ρ st0_H st0_tick retV callRo callV_if borL_nil borL_cons ints_snoc take_self callWr cutH_app findQ afterV exportV_0 exportV_n okD_nil okD_cons sub_seq0 sub_seq1 sub_cond0 sub_cond1 sub_block sub_loop sub_nil young_far young_none hidW_nil mayW_nil pairs okI ok_0 ok_1 ok_2
attribute [local simp] T3 T4 T5 T9 T22 T28 T32 T55 T57 T63 T64 T66 T70 T72
attribute [local simp] young_near clo cloF Region.binds Nat.testBit hidW declW mayW List.findIdx?_cons
def GwP (id : Nat) (v : V) (H : Hp) (acc : List Int) : Prop := (acc = [] ∧ v = .c (.slice none 0 0)) ∨ (acc ≠ [] ∧ ∃ tk, v = .s id tk 1 0 acc.length ∧ H id = some (tk, intsO acc))
def fzO : Eng.Obj := ⟨28, 3, false, [[.c (.int .i64 0), .c (.int .i64 0), .c (.slice none 0 0)]]⟩
/-- Does a text end with a line's end? -/
def endB (l : List UInt8) : Bool := decide (l.getLast? = some 10)
theorem snoc_of {l : List UInt8} (h : l ≠ []) : ∃ L c, l = L ++ [c] := ⟨l.dropLast, l.getLast h, (List.dropLast_concat_getLast h).symm⟩
theorem c_lHasSuffix (k : Nat) (l : List UInt8) (h20 : l.length ≤ 1048576) (hk : 2 ≤ k) : callK C k 88 [.c (.string (bs l)), .c (.string (bs [10]))] [] = some (.c (.bool (endB l)), hpOf [] []) := by
  obtain ⟨k, rfl⟩ : ∃ m, k = m + 1 := ⟨k - 1, by omega⟩
  rw [callK_fn rfl F88 code88]
  by_cases h : l = []
  · subst h
    simp [R88_0, R88_1, Tryd.f88, bs_size, endB, undef]
  · obtain ⟨L, c, rfl⟩ := snoc_of h
    have g1 : (1 : Int) ≤ (L.length : Int) + 1 := by omega
    have w1 : IntKind.i64.wrap (L.length : Int) = (L.length : Int) := by
      rw [List.length_append] at h20
      exact wrap_small (by omega) (by omega)
    have g2 : (L.length : Int) ≤ (L.length : Int) + 1 := by omega
    have hd : ((L ++ [c]).drop L.length).take 1 = [c] := by rw [List.drop_left]; rfl
    have he : endB (L ++ [c]) = decide (c = 10) := by simp [endB]
    rw [he]
    by_cases hc : c = 10
    · simp [R88_0, R88_1, Tryd.f88, bs_size, bs_extract, bs_neq, bs_toList, undef, g1, w1, g2, hd, hc]
    · simp [R88_0, R88_1, Tryd.f88, bs_size, bs_extract, bs_neq, bs_toList, undef, g1, w1, g2, hd, hc]
theorem c_HasSuffix (k : Nat) (l : List UInt8) (h20 : l.length ≤ 1048576) (hk : 3 ≤ k) : callK C k 60 [.c (.string (bs l)), .c (.string (bs [10]))] [] = some (.c (.bool (endB l)), hpOf [] []) := by
  obtain ⟨k, rfl⟩ : ∃ m, k = m + 1 := ⟨k - 1, by omega⟩
  rw [callK_fn rfl F60 code60]
  have h := c_lHasSuffix k l h20 (by omega)
  simp [R60_0, R60_1, Tryd.f60, h]
theorem c_TrimSuffix (k : Nat) (L : List UInt8) (h20 : L.length + 1 ≤ 1048576) (hk : 4 ≤ k) : callK C k 62 [.c (.string (bs (L ++ [10]))), .c (.string (bs [10]))] [] = some (.c (.string (bs L)), hpOf [] []) := by
  have hl : callK C (k - 1) 90 [.c (.string (bs (L ++ [10]))), .c (.string (bs [10]))] [] = some (.c (.string (bs L)), hpOf [] []) := by
    obtain ⟨k, rfl⟩ : ∃ m, k = m + 2 := ⟨k - 2, by omega⟩
    show callK C (k + 1) _ _ _ = _
    rw [callK_fn rfl F90 code90]
    have h := c_lHasSuffix k (L ++ [10]) (by simp; omega) (by omega)
    have he : endB (L ++ [10]) = true := by simp [endB]
    rw [he] at h
    have w1 : IntKind.i64.wrap (L.length : Int) = (L.length : Int) := wrap_small (by omega) (by omega)
    have g2 : (L.length : Int) ≤ (L.length : Int) + 1 := by omega
    simp [R90_0, R90_1, R90_2, R90_3, Tryd.f90, h, bs_size, bs_extract, w1, g2]
  obtain ⟨k, rfl⟩ : ∃ m, k = m + 1 := ⟨k - 1, by omega⟩
  rw [callK_fn rfl F62 code62]
  have hl : callK C k 90 [.c (.string (bs (L ++ [10]))), .c (.string (bs [10]))] [] = some (.c (.string (bs L)), hpOf [] []) := hl
  simp [R62_0, R62_1, Tryd.f62, hl]
/-- The field being read, and what stands around it. -/
structure PfX (L : List (List UInt8)) (W : Nat) (acc : List Int) (st : St) : Prop where
  q2 : st.ρ 2 = .p 16 1 3 0 0
  q5 : st.ρ 5 = .p 4160 4 3 0 0
  q28 : st.ρ 28 = .s 3120 3 1 0 L.length
  q29 : st.ρ 29 = .c (.int .i64 (L.length : Int))
  H16 : st.H 16 = some (1, fzO)
  H3 : st.H 3120 = some (3, strsO L)
  H4 : ∃ v, st.H 4160 = some (4, ⟨28, 3, false, [[.c (.int .i64 (W : Int)), .c (.int .i64 (L.length : Int)), v]]⟩) ∧ GwP 22616 v st.H acc
/-- The way out where there is no field. -/
def PfN (s : St) : Prop := s.ρ 2 = .p 16 1 3 0 0 ∧ s.ρ 3 = .c (.bool false) ∧ s.H 16 = some (1, fzO)
theorem pf_round (k : Nat) (L ws : List (List UInt8)) (W j tk8 : Nat) (acc a : List Int) (i : Nat) (hi : i < ws.length) (hacc : acc.length + i ≤ 10000000) (hwl : ws.length ≤ 10000000) (hwb : ∀ w ∈ ws, w.length ≤ 1000) (hk : 300 ≤ k) (st : St) (next : St → Option (Ex × St)) (hP : PfX L W (acc ++ a) st) (ha : a.length = i) (q30 : st.ρ 30 = .c (.int .i64 (j : Int))) (q50 : st.ρ 50 = .s 8224 tk8 1 0 ws.length) (q51 : st.ρ 51 = .c (.int .i64 (ws.length : Int))) (q52 : st.ρ 52 = .c (.int .i64 (i : Int))) (H8 : st.H 8224 = some (tk8, strsO ws)) :
    (∃ n, cellP ws[i] = some n ∧ ∃ st', loopNext (runCode C (callK C k) k (K 25) L25_1 2 (gc [2, 5, 28, 29, 30, 50, 51, 52] st)) next = next st' ∧ PfX L W (acc ++ a ++ [n]) st' ∧ st'.ρ 30 = .c (.int .i64 (j : Int)) ∧ st'.ρ 50 = .s 8224 tk8 1 0 ws.length ∧ st'.ρ 51 = .c (.int .i64 (ws.length : Int)) ∧ st'.ρ 52 = .c (.int .i64 ((i + 1 : Nat) : Int)) ∧ st'.H 8224 = some (tk8, strsO ws)) ∨
    (cellP ws[i] = none ∧ ∃ s, loopNext (runCode C (callK C k) k (K 25) L25_1 2 (gc [2, 5, 28, 29, 30, 50, 51, 52] st)) next = some (.ret, s) ∧ PfN s) := by
  obtain ⟨q2, q5, q28, q29, H16, H3, v, H4, hG⟩ := hP
  have nget := strs_get ws i hi
  have hpI := c_implParse k ws[i] (by have := hwb _ (List.getElem_mem hi); omega) (by omega)
  have hwn := wrap_next hi (by omega : ws.length ≤ 9000000000000000000)
  obtain ⟨w, hw⟩ : ∃ w, ws[i] = w := ⟨_, rfl⟩
  rw [hw] at hpI nget ⊢
  obtain ⟨B, hB⟩ : ∃ B, acc ++ a = B := ⟨_, rfl⟩
  have hBl : B.length ≤ 10000000 := by rw [← hB, List.length_append]; omega
  rw [hB] at hG ⊢
  have n1 : (B.length + 1) * 8 ≤ 140737488355328 := by omega
  have n2 : B.length + 1 ≤ maxLen := by unfold maxLen; omega
  simp [strsO] at H8 H3
  simp [fzO] at H16
  by_cases hd : w = [46]
  · have hcp : cellP w = some (-9999) := by unfold cellP; rw [if_pos hd]
    subst hd
    rcases hG with ⟨hb, rfl⟩ | ⟨hb, tk, rfl, hH⟩
    · subst hb
      left
      refine ⟨-9999, hcp, ?_⟩
      simp [L25_1, R25_0, R25_1, R25_2, R25_3, R25_4, R25_5, R25_6, R25_7, R25_8, R25_9, R25_10, R25_11, R25_12, R25_13, R25_14, R25_15, R25_16, R25_17, R25_18, R25_19, R25_20, R25_21, R25_22, R25_23, R25_24, R25_25, R25_26, R25_27, Tryd.f25, lpL25_0, lpL25_1, lpM25_0, lpM25_1, M25_0, M25_1, undef, q2, q5, q28, q29, q30, q50, q51, q52, H16, H3, H4, H8, hi, hw, nget, strs_at, strs_length, hpI, lit1, bs_neq, bs_toList, hwn, maxLen]
      refine ⟨_, rfl, ⟨by simp [q2], by simp [q5], by simp [q28], by simp [q29], by simp [q2, q5, q28, q29, q30, q50, q51, q52, H16, H3, H4, H8, fzO, strsO, intsO, ints], by simp [q2, q5, q28, q29, q30, q50, q51, q52, H16, H3, H4, H8, fzO, strsO, intsO, ints], _, by simp [q2, q5, q28, q29, q30, q50, q51, q52, H16, H3, H4, H8, fzO, strsO, intsO, ints]; rfl, .inr ⟨by simp, _, by simp; rfl, ?_⟩⟩, by simp [q30], by simp [q50], by simp [q51], by simp, by simp [q2, q5, q28, q29, q30, q50, q51, q52, H16, H3, H4, H8, fzO, strsO, intsO, ints]⟩
      simp [q2, q5, q28, q29, q30, q50, q51, q52, H16, H3, H4, H8, fzO, strsO, intsO, ints]
    · simp [intsO] at hH
      left
      refine ⟨-9999, hcp, ?_⟩
      simp [L25_1, R25_0, R25_1, R25_2, R25_3, R25_4, R25_5, R25_6, R25_7, R25_8, R25_9, R25_10, R25_11, R25_12, R25_13, R25_14, R25_15, R25_16, R25_17, R25_18, R25_19, R25_20, R25_21, R25_22, R25_23, R25_24, R25_25, R25_26, R25_27, Tryd.f25, lpL25_0, lpL25_1, lpM25_0, lpM25_1, M25_0, M25_1, undef, q2, q5, q28, q29, q30, q50, q51, q52, H16, H3, H4, H8, hi, hw, nget, strs_at, strs_length, hpI, lit1, bs_neq, bs_toList, hwn, hH, n1, n2, okI]
      refine ⟨_, rfl, ⟨by simp [q2], by simp [q5], by simp [q28], by simp [q29], by simp [q2, q5, q28, q29, q30, q50, q51, q52, H16, H3, H4, H8, fzO, strsO, intsO, hH], by simp [q2, q5, q28, q29, q30, q50, q51, q52, H16, H3, H4, H8, fzO, strsO, intsO, hH], _, by simp [q2, q5, q28, q29, q30, q50, q51, q52, H16, H3, H4, H8, fzO, strsO, intsO, hH]; rfl, .inr ⟨by simp, _, by simp; rfl, ?_⟩⟩, by simp [q30], by simp [q50], by simp [q51], by simp, by simp [q2, q5, q28, q29, q30, q50, q51, q52, H16, H3, H4, H8, fzO, strsO, intsO, hH]⟩
      simp [q2, q5, q28, q29, q30, q50, q51, q52, H16, H3, H4, H8, fzO, strsO, intsO, hH]
  · cases hp : pI w with
    | none =>
      have hcp : cellP w = none := by unfold cellP; rw [if_neg hd, hp]
      have e1 : pV w = 0 := by simp [pV, hp]
      have e2 : pB w = false := by simp [pB, hp]
      rw [e1, e2] at hpI
      right
      refine ⟨hcp, ?_⟩
      rcases hG with ⟨hb, rfl⟩ | ⟨hb, tk, rfl, hH⟩
      · subst hb
        simp [L25_1, R25_0, R25_1, R25_2, R25_3, R25_4, R25_5, R25_6, R25_7, R25_8, R25_9, R25_10, R25_11, R25_12, R25_13, R25_14, R25_15, R25_16, R25_17, R25_18, R25_19, R25_20, R25_21, R25_22, R25_23, R25_24, R25_25, R25_26, R25_27, Tryd.f25, lpL25_0, lpL25_1, lpM25_0, lpM25_1, M25_0, M25_1, undef, q2, q5, q28, q29, q30, q50, q51, q52, H16, H3, H4, H8, hi, hw, nget, strs_at, strs_length, hpI, lit1, bs_neq, bs_toList, hwn, hd, PfN, fzO]
      · simp [intsO] at hH
        simp [L25_1, R25_0, R25_1, R25_2, R25_3, R25_4, R25_5, R25_6, R25_7, R25_8, R25_9, R25_10, R25_11, R25_12, R25_13, R25_14, R25_15, R25_16, R25_17, R25_18, R25_19, R25_20, R25_21, R25_22, R25_23, R25_24, R25_25, R25_26, R25_27, Tryd.f25, lpL25_0, lpL25_1, lpM25_0, lpM25_1, M25_0, M25_1, undef, q2, q5, q28, q29, q30, q50, q51, q52, H16, H3, H4, H8, hi, hw, nget, strs_at, strs_length, hpI, lit1, bs_neq, bs_toList, hwn, hd, hH, PfN, fzO]
    | some n =>
      have e1 : pV w = n := by simp [pV, hp]
      have e2 : pB w = true := by simp [pB, hp]
      rw [e1, e2] at hpI
      by_cases hn : n = -9999
      · have hcp : cellP w = none := by unfold cellP; rw [if_neg hd, hp]; simp [hn]
        subst hn
        right
        refine ⟨hcp, ?_⟩
        rcases hG with ⟨hb, rfl⟩ | ⟨hb, tk, rfl, hH⟩
        · subst hb
          simp [L25_1, R25_0, R25_1, R25_2, R25_3, R25_4, R25_5, R25_6, R25_7, R25_8, R25_9, R25_10, R25_11, R25_12, R25_13, R25_14, R25_15, R25_16, R25_17, R25_18, R25_19, R25_20, R25_21, R25_22, R25_23, R25_24, R25_25, R25_26, R25_27, Tryd.f25, lpL25_0, lpL25_1, lpM25_0, lpM25_1, M25_0, M25_1, undef, q2, q5, q28, q29, q30, q50, q51, q52, H16, H3, H4, H8, hi, hw, nget, strs_at, strs_length, hpI, lit1, bs_neq, bs_toList, hwn, hd, PfN, fzO]
        · simp [intsO] at hH
          simp [L25_1, R25_0, R25_1, R25_2, R25_3, R25_4, R25_5, R25_6, R25_7, R25_8, R25_9, R25_10, R25_11, R25_12, R25_13, R25_14, R25_15, R25_16, R25_17, R25_18, R25_19, R25_20, R25_21, R25_22, R25_23, R25_24, R25_25, R25_26, R25_27, Tryd.f25, lpL25_0, lpL25_1, lpM25_0, lpM25_1, M25_0, M25_1, undef, q2, q5, q28, q29, q30, q50, q51, q52, H16, H3, H4, H8, hi, hw, nget, strs_at, strs_length, hpI, lit1, bs_neq, bs_toList, hwn, hd, hH, PfN, fzO]
      · have hcp : cellP w = some n := by unfold cellP; rw [if_neg hd, hp]; simp [hn]
        have hnb : (n == -9999) = false := by simpa using hn
        rcases hG with ⟨hb, rfl⟩ | ⟨hb, tk, rfl, hH⟩
        · subst hb
          left
          refine ⟨n, hcp, ?_⟩
          simp [L25_1, R25_0, R25_1, R25_2, R25_3, R25_4, R25_5, R25_6, R25_7, R25_8, R25_9, R25_10, R25_11, R25_12, R25_13, R25_14, R25_15, R25_16, R25_17, R25_18, R25_19, R25_20, R25_21, R25_22, R25_23, R25_24, R25_25, R25_26, R25_27, Tryd.f25, lpL25_0, lpL25_1, lpM25_0, lpM25_1, M25_0, M25_1, undef, q2, q5, q28, q29, q30, q50, q51, q52, H16, H3, H4, H8, hi, hw, nget, strs_at, strs_length, hpI, lit1, bs_neq, bs_toList, hwn, hd, hn, hnb, maxLen]
          refine ⟨_, rfl, ⟨by simp [q2], by simp [q5], by simp [q28], by simp [q29], by simp [q2, q5, q28, q29, q30, q50, q51, q52, H16, H3, H4, H8, fzO, strsO, intsO, ints], by simp [q2, q5, q28, q29, q30, q50, q51, q52, H16, H3, H4, H8, fzO, strsO, intsO, ints], _, by simp [q2, q5, q28, q29, q30, q50, q51, q52, H16, H3, H4, H8, fzO, strsO, intsO, ints]; rfl, .inr ⟨by simp, _, by simp; rfl, ?_⟩⟩, by simp [q30], by simp [q50], by simp [q51], by simp, by simp [q2, q5, q28, q29, q30, q50, q51, q52, H16, H3, H4, H8, fzO, strsO, intsO, ints]⟩
          simp [q2, q5, q28, q29, q30, q50, q51, q52, H16, H3, H4, H8, fzO, strsO, intsO, ints]
        · simp [intsO] at hH
          left
          refine ⟨n, hcp, ?_⟩
          simp [L25_1, R25_0, R25_1, R25_2, R25_3, R25_4, R25_5, R25_6, R25_7, R25_8, R25_9, R25_10, R25_11, R25_12, R25_13, R25_14, R25_15, R25_16, R25_17, R25_18, R25_19, R25_20, R25_21, R25_22, R25_23, R25_24, R25_25, R25_26, R25_27, Tryd.f25, lpL25_0, lpL25_1, lpM25_0, lpM25_1, M25_0, M25_1, undef, q2, q5, q28, q29, q30, q50, q51, q52, H16, H3, H4, H8, hi, hw, nget, strs_at, strs_length, hpI, lit1, bs_neq, bs_toList, hwn, hd, hn, hnb, hH, n1, n2, okI]
          refine ⟨_, rfl, ⟨by simp [q2], by simp [q5], by simp [q28], by simp [q29], by simp [q2, q5, q28, q29, q30, q50, q51, q52, H16, H3, H4, H8, fzO, strsO, intsO, hH], by simp [q2, q5, q28, q29, q30, q50, q51, q52, H16, H3, H4, H8, fzO, strsO, intsO, hH], _, by simp [q2, q5, q28, q29, q30, q50, q51, q52, H16, H3, H4, H8, fzO, strsO, intsO, hH]; rfl, .inr ⟨by simp, _, by simp; rfl, ?_⟩⟩, by simp [q30], by simp [q50], by simp [q51], by simp, by simp [q2, q5, q28, q29, q30, q50, q51, q52, H16, H3, H4, H8, fzO, strsO, intsO, hH]⟩
          simp [q2, q5, q28, q29, q30, q50, q51, q52, H16, H3, H4, H8, fzO, strsO, intsO, hH]

end Go.Proofs.YtalpgpjhloohfaaDoor.Eng
namespace Go.Proofs.YtalpgpjhloohfaaDoor.Eng
open Go Go.Proofs
set_option maxRecDepth 100000
set_option maxHeartbeats 2000000
set_option linter.unusedSimpArgs false
set_option linter.unusedVariables false
attribute [local simp] finK fin1 hpOf xi renQ isRoot runCode runOps Eng.step wantedV astep val ofO made loadV storeV find V.cells bin binT binA numT numFs eqCells un1 setAt fieldAddrV fieldV indexAddrV indexV bounds sliceV convV lenV foldV max2V min2V callO bor rdsO wrsO seen_none okD_none loops keepIds resV resultsV St.ev TK.agg refs refsL refsO V.one V.isC Value.oneCell' ren renL renO noTag noTagL noTagR noTagO nodup mapO passV frs psi refsR newD loopNext opsAt idx flatAt rootOf backR newsV appendV copyV clearV strV bytesV bldV bufV selfV bytesOf nilCmp buildV fillF chunk
attribute [local simp] cT cF cX cWR cOW cK cBL X ints_length ints_get ints_getElem ints_drop ints_take ints_append ints_nil ints_set
attribute [local simp] ints_replicate
attribute [local simp] putV_some putV_none putH_app applyD_nil applyD_cons seen_app gc_ρ gc_H gc_tick st0_ρ st0_H st0_tick retV callRo callV_if borL_nil borL_cons ints_snoc take_self callWr cutH_app findQ afterV exportV_0 exportV_n okD_nil okD_cons sub_seq0 sub_seq1 sub_cond0 sub_cond1 sub_block sub_loop sub_nil young_far young_none hidW_nil mayW_nil pairs okI ok_0 ok_1 ok_2
attribute [local simp] T3 T4 T5 T9 T22 T28 T32 T55 T57 T63 T64 T66 T70 T72
attribute [local simp] young_near clo cloF Region.binds Nat.testBit hidW declW mayW List.findIdx?_cons
def PfI (L ws : List (List UInt8)) (W j tk8 : Nat) (acc : List Int) (i : Nat) (st : St) : Prop := ∃ a, rowP (ws.take i) = some a ∧ PfX L W (acc ++ a) st ∧ st.ρ 30 = .c (.int .i64 (j : Int)) ∧ st.ρ 50 = .s 8224 tk8 1 0 ws.length ∧ st.ρ 51 = .c (.int .i64 (ws.length : Int)) ∧ st.ρ 52 = .c (.int .i64 (i : Int)) ∧ st.H 8224 = some (tk8, strsO ws)
theorem pf_step (k : Nat) (L ws : List (List UInt8)) (W j tk8 : Nat) (acc : List Int) (i : Nat) (hi : i < ws.length) (hacc : acc.length + ws.length ≤ 10000000) (hwb : ∀ w ∈ ws, w.length ≤ 1000) (hk : 300 ≤ k) (st : St) (next : St → Option (Ex × St)) (hI : PfI L ws W j tk8 acc i st) :
    (∃ st', loopNext (runCode C (callK C k) k (K 25) L25_1 2 (gc [2, 5, 28, 29, 30, 50, 51, 52] st)) next = next st' ∧ PfI L ws W j tk8 acc (i + 1) st') ∨
    (rowP (ws.take (i + 1)) = none ∧ ∃ s, loopNext (runCode C (callK C k) k (K 25) L25_1 2 (gc [2, 5, 28, 29, 30, 50, 51, 52] st)) next = some (.ret, s) ∧ PfN s) := by
  obtain ⟨a, ha, hP, q30, q50, q51, q52, H8⟩ := hI
  have hal := rowP_len ha
  rw [List.length_take] at hal
  have ht := rowP_take ws i hi
  rw [ha] at ht
  rcases pf_round k L ws W j tk8 acc a i hi (by omega) (by omega) hwb hk st next hP (by omega) q30 q50 q51 q52 H8 with ⟨n, hn, st', e, h1, h2, h3, h4, h5, h6⟩ | ⟨hn, s, e, h1⟩
  · left
    rw [hn] at ht
    exact ⟨st', e, a ++ [n], ht, by rw [← List.append_assoc]; exact h1, h2, h3, h4, h5, h6⟩
  · right
    rw [hn] at ht
    exact ⟨ht, s, e, h1⟩
theorem rowP_pre {ws : List (List UInt8)} {a : List Int} (h : rowP ws = some a) : ∀ d i, i + d = ws.length → ∃ b, rowP (ws.take i) = some b
  | 0, i, e => ⟨a, by rw [List.take_of_length_le (by omega)]; exact h⟩
  | d + 1, i, e => by
    obtain ⟨b, hb⟩ := rowP_pre h d (i + 1) (by omega)
    rw [rowP_take ws i (by omega)] at hb
    cases hc : rowP (ws.take i) with
    | none => rw [hc] at hb; cases hb
    | some c => exact ⟨c, rfl⟩
theorem pf_inner (k : Nat) (L ws : List (List UInt8)) (W j tk8 : Nat) (acc : List Int) (hacc : acc.length + ws.length ≤ 10000000) (hwb : ∀ w ∈ ws, w.length ≤ 1000) (hk : 300 + ws.length ≤ k) :
    (∀ a, rowP ws = some a → ∀ st, PfI L ws W j tk8 acc 0 st → ∃ s, loopRun (fun st => runCode C (callK C k) k (K 25) L25_1 2 st) [2, 5, 28, 29, 30, 50, 51, 52] k st = some (.ex 2, s) ∧ (PfX L W (acc ++ a) s ∧ s.ρ 30 = .c (.int .i64 (j : Int)))) ∧
    (rowP ws = none → ∀ st, PfI L ws W j tk8 acc 0 st → ∃ s, loopRun (fun st => runCode C (callK C k) k (K 25) L25_1 2 st) [2, 5, 28, 29, 30, 50, 51, 52] k st = some (.ret, s) ∧ PfN s) := by
  constructor
  · intro a ha
    exact loopHas (body := fun st => runCode C (callK C k) k (K 25) L25_1 2 st) (keep := [2, 5, 28, 29, 30, 50, 51, 52]) (.ex 2) (fun st => PfX L W (acc ++ a) st ∧ st.ρ 30 = .c (.int .i64 (j : Int))) (PfI L ws W j tk8 acc) ws.length k (by omega)
      (by
        intro i st next hi hI hx
        rcases pf_step k L ws W j tk8 acc i hi hacc hwb (by omega) st next hI with ⟨st', e, h⟩ | ⟨hn, _⟩
        · rw [e]; exact hx st' h
        · obtain ⟨b, hb⟩ := rowP_pre ha (ws.length - (i + 1)) (i + 1) (by omega)
          rw [hn] at hb; cases hb)
      (by
        rintro st next ⟨a', ha', ⟨q2, q5, q28, q29, H16, H3, v, H4, hG⟩, q30, q50, q51, q52, H8⟩
        rw [List.take_length, ha] at ha'
        obtain rfl := Option.some.inj ha'
        simp [strsO] at H8 H3
        simp [fzO] at H16
        rcases hG with ⟨hb, rfl⟩ | ⟨hb, tk, rfl, hH⟩
        · simp [L25_1, R25_0, R25_1, R25_2, R25_3, R25_4, R25_5, R25_6, R25_7, R25_8, R25_9, R25_10, R25_11, R25_12, R25_13, R25_14, R25_15, R25_16, R25_17, R25_18, R25_19, R25_20, R25_21, R25_22, R25_23, R25_24, R25_25, R25_26, R25_27, Tryd.f25, lpL25_0, lpL25_1, lpM25_0, lpM25_1, M25_0, M25_1, q2, q5, q28, q29, q30, q50, q51, q52, H16, H3, H4, H8]
          exact ⟨by simp [q2], by simp [q5], by simp [q28], by simp [q29], by simp [q2, q5, q28, q29, q30, q50, H16, H3, H4, H8, fzO], by simp [q2, q5, q28, q29, q30, q50, H16, H3, H4, H8, strsO], _, by simp [q2, q5, q28, q29, q30, q50, H16, H3, H4, H8] <;> rfl, .inl ⟨hb, rfl⟩⟩
        · simp [intsO] at hH
          simp [L25_1, R25_0, R25_1, R25_2, R25_3, R25_4, R25_5, R25_6, R25_7, R25_8, R25_9, R25_10, R25_11, R25_12, R25_13, R25_14, R25_15, R25_16, R25_17, R25_18, R25_19, R25_20, R25_21, R25_22, R25_23, R25_24, R25_25, R25_26, R25_27, Tryd.f25, lpL25_0, lpL25_1, lpM25_0, lpM25_1, M25_0, M25_1, q2, q5, q28, q29, q30, q50, q51, q52, H16, H3, H4, H8, hH]
          exact ⟨by simp [q2], by simp [q5], by simp [q28], by simp [q29], by simp [q2, q5, q28, q29, q30, q50, H16, H3, H4, H8, hH, fzO], by simp [q2, q5, q28, q29, q30, q50, H16, H3, H4, H8, hH, strsO], _, by simp [q2, q5, q28, q29, q30, q50, H16, H3, H4, H8, hH] <;> rfl, .inr ⟨hb, _, rfl, by simp [q2, q5, q28, q29, q30, q50, H16, H3, H4, H8, hH, intsO]⟩⟩)
  · intro ha
    exact loopHas (body := fun st => runCode C (callK C k) k (K 25) L25_1 2 st) (keep := [2, 5, 28, 29, 30, 50, 51, 52]) .ret PfN (PfI L ws W j tk8 acc) ws.length k (by omega)
      (by
        intro i st next hi hI hx
        rcases pf_step k L ws W j tk8 acc i hi hacc hwb (by omega) st next hI with ⟨st', e, h⟩ | ⟨_, s, e, h⟩
        · rw [e]; exact hx st' h
        · rw [e]; exact ⟨s, rfl, h⟩)
      (by
        rintro st next ⟨a', ha', _⟩
        rw [List.take_length, ha] at ha'
        cases ha')
theorem word_short (x : List UInt8) (b : UInt8) : ∀ w ∈ splitL x b, w.length ≤ x.length := by
  intro w hw
  obtain ⟨i, hi, rfl⟩ := List.getElem_of_mem hw
  have h1 := lenS_get (splitL x b) i hi
  have h2 := joinB_len (splitL x b) b (split_ne x b)
  rw [(cut_join b _ x (splitL_cut x b)).1] at h2
  omega
theorem split_short (x : List UInt8) (b : UInt8) : (splitL x b).length ≤ x.length + 1 := by
  have h2 := joinB_len (splitL x b) b (split_ne x b)
  rw [(cut_join b _ x (splitL_cut x b)).1] at h2
  omega
theorem pf_line (k : Nat) (L : List (List UInt8)) (W j : Nat) (acc : List Int) (hj : j < L.length) (hL : L.length ≤ 1000) (hb : ∀ x ∈ L, x.length ≤ 999) (hacc : acc.length ≤ 5000000) (hW : W ≤ 100000) (hk : 3000 ≤ k) (st : St) (next : St → Option (Ex × St)) (hP : PfX L W acc st) (q30 : st.ρ 30 = .c (.int .i64 (j : Int))) :
    (∃ W' acc', stI (some (W, acc)) L[j] = some (W', acc') ∧ ∃ st', loopNext (runCode C (callK C k) k (K 25) L25_0 1 (gc [2, 5, 28, 29, 30] st)) next = next st' ∧ PfX L W' acc' st' ∧ st'.ρ 30 = .c (.int .i64 ((j + 1 : Nat) : Int))) ∨
    (stI (some (W, acc)) L[j] = none ∧ ∃ s, loopNext (runCode C (callK C k) k (K 25) L25_0 1 (gc [2, 5, 28, 29, 30] st)) next = some (.ret, s) ∧ PfN s) := by
  obtain ⟨q2, q5, q28, q29, H16, H3, v, H4, hG⟩ := hP
  have nget := strs_get L j hj
  have hxl := hb _ (List.getElem_mem hj)
  have hS := c_Split k L[j] 32 (by omega) (by omega)
  have hws := word_short L[j] 32
  have hwl := split_short L[j] 32
  have hwn := wrap_next hj (by omega : L.length ≤ 9000000000000000000)
  simp only [stI]
  obtain ⟨ws, hw⟩ : ∃ ws, splitL L[j] 32 = ws := ⟨_, rfl⟩
  rw [hw] at hS hws hwl ⊢
  have hin := pf_inner k L ws ws.length j (st.tick + 1 + 1) acc (by omega) (fun w hw => by have := hws w hw; omega) (by omega)
  simp [strsO] at H3 hS
  simp [fzO] at H16
  by_cases hc : 0 < W ∧ ws.length ≠ W
  · right
    rw [if_pos hc]
    refine ⟨rfl, ?_⟩
    have c1 : (0 : Int) < (W : Int) := by omega
    have c2 : ¬ (ws.length : Int) = (W : Int) := by omega
    have c3 : ((ws.length : Int) != (W : Int)) = true := by simpa using c2
    have c4 : ¬ ws.length = W := hc.2
    have c5 := hc.1
    rcases hG with ⟨hb, rfl⟩ | ⟨hb, tk, rfl, hH⟩
    · simp [L25_0, R25_0, R25_1, R25_2, R25_3, R25_4, R25_5, R25_6, R25_7, R25_8, R25_9, R25_10, R25_11, R25_12, R25_13, R25_14, R25_15, R25_16, R25_17, R25_18, R25_19, R25_20, R25_21, R25_22, R25_23, R25_24, R25_25, R25_26, R25_27, Tryd.f25, lpL25_0, lpL25_1, lpM25_0, lpM25_1, undef, q2, q5, q28, q29, q30, H16, H3, H4, hj, nget, strs_at, strs_length, lit1, hS, c1, c2, c3, c4, c5, PfN, fzO]
    · simp [intsO] at hH
      simp [L25_0, R25_0, R25_1, R25_2, R25_3, R25_4, R25_5, R25_6, R25_7, R25_8, R25_9, R25_10, R25_11, R25_12, R25_13, R25_14, R25_15, R25_16, R25_17, R25_18, R25_19, R25_20, R25_21, R25_22, R25_23, R25_24, R25_25, R25_26, R25_27, Tryd.f25, lpL25_0, lpL25_1, lpM25_0, lpM25_1, undef, q2, q5, q28, q29, q30, H16, H3, H4, hH, hj, nget, strs_at, strs_length, lit1, hS, c1, c2, c3, c4, c5, PfN, fzO]
  · rw [if_neg hc]
    by_cases hW0 : W = 0
    · subst hW0
      rcases hG with ⟨hb, rfl⟩ | ⟨hb, tk, rfl, hH⟩
      · skip
        simp [L25_0, R25_0, R25_1, R25_2, R25_3, R25_4, R25_5, R25_6, R25_7, R25_8, R25_9, R25_10, R25_11, R25_12, R25_13, R25_14, R25_15, R25_16, R25_17, R25_18, R25_19, R25_20, R25_21, R25_22, R25_23, R25_24, R25_25, R25_26, R25_27, Tryd.f25, lpL25_0, lpL25_1, lpM25_0, lpM25_1, undef, q2, q5, q28, q29, q30, H16, H3, H4, hj, nget, strs_at, strs_length, lit1, hS, maxLen]
        generalize hr : loopRun _ _ _ _ = res
        cases hrp : rowP ws with
        | none =>
          right
          obtain ⟨s1, rfl, f1⟩ := loop_at (hin.2 hrp) hr ⟨[], rfl, ⟨by simp [q2], by simp [q5], by simp [q28], by simp [q29], by simp [q2, q5, q28, q29, q30, H16, H3, H4, fzO, strsO], by simp [q2, q5, q28, q29, q30, H16, H3, H4, fzO, strsO], _, by simp [q2, q5, q28, q29, q30, H16, H3, H4, fzO, strsO] <;> rfl, .inl ⟨by simp [hb], rfl⟩⟩, by simp [q30], by simp, by simp, by simp, by simp [q2, q5, q28, q29, q30, H16, H3, H4, fzO, strsO]⟩
          simp
          exact f1
        | some a =>
          left
          obtain ⟨s1, rfl, ⟨p2, p5, p28, p29, P16, P3, v, P4, pG⟩, p30⟩ := loop_at (hin.1 a hrp) hr ⟨[], rfl, ⟨by simp [q2], by simp [q5], by simp [q28], by simp [q29], by simp [q2, q5, q28, q29, q30, H16, H3, H4, fzO, strsO], by simp [q2, q5, q28, q29, q30, H16, H3, H4, fzO, strsO], _, by simp [q2, q5, q28, q29, q30, H16, H3, H4, fzO, strsO] <;> rfl, .inl ⟨by simp [hb], rfl⟩⟩, by simp [q30], by simp, by simp, by simp, by simp [q2, q5, q28, q29, q30, H16, H3, H4, fzO, strsO]⟩
          refine ⟨_, _, rfl, ?_⟩
          simp [R25_0, R25_1, R25_2, R25_3, R25_4, R25_5, R25_6, R25_7, R25_8, R25_9, R25_10, R25_11, R25_12, R25_13, R25_14, R25_15, R25_16, R25_17, R25_18, R25_19, R25_20, R25_21, R25_22, R25_23, R25_24, R25_25, R25_26, R25_27, Tryd.f25, lpL25_0, lpL25_1, lpM25_0, lpM25_1, M25_0, M25_1, p2, p5, p28, p29, p30, hwn]
          exact ⟨_, rfl, ⟨by simp [p2], by simp [p5], by simp [p28], by simp [p29], by simp [P16], by simp [P3], v, by simp [P4], by simpa using pG⟩, by simp⟩
      · simp [intsO] at hH
        simp [L25_0, R25_0, R25_1, R25_2, R25_3, R25_4, R25_5, R25_6, R25_7, R25_8, R25_9, R25_10, R25_11, R25_12, R25_13, R25_14, R25_15, R25_16, R25_17, R25_18, R25_19, R25_20, R25_21, R25_22, R25_23, R25_24, R25_25, R25_26, R25_27, Tryd.f25, lpL25_0, lpL25_1, lpM25_0, lpM25_1, undef, q2, q5, q28, q29, q30, H16, H3, H4, hH, hj, nget, strs_at, strs_length, lit1, hS, maxLen]
        generalize hr : loopRun _ _ _ _ = res
        cases hrp : rowP ws with
        | none =>
          right
          obtain ⟨s1, rfl, f1⟩ := loop_at (hin.2 hrp) hr ⟨[], rfl, ⟨by simp [q2], by simp [q5], by simp [q28], by simp [q29], by simp [q2, q5, q28, q29, q30, H16, H3, H4, fzO, strsO, hH], by simp [q2, q5, q28, q29, q30, H16, H3, H4, fzO, strsO, hH], _, by simp [q2, q5, q28, q29, q30, H16, H3, H4, fzO, strsO, hH] <;> rfl, .inr ⟨by simpa using hb, _, by simp; rfl, by simp [q2, q5, q28, q29, q30, H16, H3, H4, fzO, strsO, hH, intsO]⟩⟩, by simp [q30], by simp, by simp, by simp, by simp [q2, q5, q28, q29, q30, H16, H3, H4, fzO, strsO, hH]⟩
          simp
          exact f1
        | some a =>
          left
          obtain ⟨s1, rfl, ⟨p2, p5, p28, p29, P16, P3, v, P4, pG⟩, p30⟩ := loop_at (hin.1 a hrp) hr ⟨[], rfl, ⟨by simp [q2], by simp [q5], by simp [q28], by simp [q29], by simp [q2, q5, q28, q29, q30, H16, H3, H4, fzO, strsO, hH], by simp [q2, q5, q28, q29, q30, H16, H3, H4, fzO, strsO, hH], _, by simp [q2, q5, q28, q29, q30, H16, H3, H4, fzO, strsO, hH] <;> rfl, .inr ⟨by simpa using hb, _, by simp; rfl, by simp [q2, q5, q28, q29, q30, H16, H3, H4, fzO, strsO, hH, intsO]⟩⟩, by simp [q30], by simp, by simp, by simp, by simp [q2, q5, q28, q29, q30, H16, H3, H4, fzO, strsO, hH]⟩
          refine ⟨_, _, rfl, ?_⟩
          simp [R25_0, R25_1, R25_2, R25_3, R25_4, R25_5, R25_6, R25_7, R25_8, R25_9, R25_10, R25_11, R25_12, R25_13, R25_14, R25_15, R25_16, R25_17, R25_18, R25_19, R25_20, R25_21, R25_22, R25_23, R25_24, R25_25, R25_26, R25_27, Tryd.f25, lpL25_0, lpL25_1, lpM25_0, lpM25_1, M25_0, M25_1, p2, p5, p28, p29, p30, hwn]
          exact ⟨_, rfl, ⟨by simp [p2], by simp [p5], by simp [p28], by simp [p29], by simp [P16], by simp [P3], v, by simp [P4], by simpa using pG⟩, by simp⟩
    · have hWs : ws.length = W := by
        by_cases e : ws.length = W
        · exact e
        · exact absurd ⟨by omega, e⟩ hc
      subst hWs
      have c1 : (0 : Int) < (ws.length : Int) := by omega
      have c5 : 0 < ws.length := by omega
      have c6 : ¬ ws = [] := by intro e; rw [e] at c5; simp at c5
      rcases hG with ⟨hb, rfl⟩ | ⟨hb, tk, rfl, hH⟩
      · skip
        simp [L25_0, R25_0, R25_1, R25_2, R25_3, R25_4, R25_5, R25_6, R25_7, R25_8, R25_9, R25_10, R25_11, R25_12, R25_13, R25_14, R25_15, R25_16, R25_17, R25_18, R25_19, R25_20, R25_21, R25_22, R25_23, R25_24, R25_25, R25_26, R25_27, Tryd.f25, lpL25_0, lpL25_1, lpM25_0, lpM25_1, undef, q2, q5, q28, q29, q30, H16, H3, H4, hj, nget, strs_at, strs_length, lit1, hS, c1, c5, c6]
        generalize hr : loopRun _ _ _ _ = res
        cases hrp : rowP ws with
        | none =>
          right
          obtain ⟨s1, rfl, f1⟩ := loop_at (hin.2 hrp) hr ⟨[], rfl, ⟨by simp [q2], by simp [q5], by simp [q28], by simp [q29], by simp [q2, q5, q28, q29, q30, H16, H3, H4, fzO, strsO], by simp [q2, q5, q28, q29, q30, H16, H3, H4, fzO, strsO], _, by simp [q2, q5, q28, q29, q30, H16, H3, H4, fzO, strsO] <;> rfl, .inl ⟨by simp [hb], rfl⟩⟩, by simp [q30], by simp, by simp, by simp, by simp [q2, q5, q28, q29, q30, H16, H3, H4, fzO, strsO]⟩
          simp
          exact f1
        | some a =>
          left
          obtain ⟨s1, rfl, ⟨p2, p5, p28, p29, P16, P3, v, P4, pG⟩, p30⟩ := loop_at (hin.1 a hrp) hr ⟨[], rfl, ⟨by simp [q2], by simp [q5], by simp [q28], by simp [q29], by simp [q2, q5, q28, q29, q30, H16, H3, H4, fzO, strsO], by simp [q2, q5, q28, q29, q30, H16, H3, H4, fzO, strsO], _, by simp [q2, q5, q28, q29, q30, H16, H3, H4, fzO, strsO] <;> rfl, .inl ⟨by simp [hb], rfl⟩⟩, by simp [q30], by simp, by simp, by simp, by simp [q2, q5, q28, q29, q30, H16, H3, H4, fzO, strsO]⟩
          refine ⟨_, _, rfl, ?_⟩
          simp [R25_0, R25_1, R25_2, R25_3, R25_4, R25_5, R25_6, R25_7, R25_8, R25_9, R25_10, R25_11, R25_12, R25_13, R25_14, R25_15, R25_16, R25_17, R25_18, R25_19, R25_20, R25_21, R25_22, R25_23, R25_24, R25_25, R25_26, R25_27, Tryd.f25, lpL25_0, lpL25_1, lpM25_0, lpM25_1, M25_0, M25_1, p2, p5, p28, p29, p30, hwn]
          exact ⟨_, rfl, ⟨by simp [p2], by simp [p5], by simp [p28], by simp [p29], by simp [P16], by simp [P3], v, by simp [P4], by simpa using pG⟩, by simp⟩
      · simp [intsO] at hH
        simp [L25_0, R25_0, R25_1, R25_2, R25_3, R25_4, R25_5, R25_6, R25_7, R25_8, R25_9, R25_10, R25_11, R25_12, R25_13, R25_14, R25_15, R25_16, R25_17, R25_18, R25_19, R25_20, R25_21, R25_22, R25_23, R25_24, R25_25, R25_26, R25_27, Tryd.f25, lpL25_0, lpL25_1, lpM25_0, lpM25_1, undef, q2, q5, q28, q29, q30, H16, H3, H4, hH, hj, nget, strs_at, strs_length, lit1, hS, c1, c5, c6]
        generalize hr : loopRun _ _ _ _ = res
        cases hrp : rowP ws with
        | none =>
          right
          obtain ⟨s1, rfl, f1⟩ := loop_at (hin.2 hrp) hr ⟨[], rfl, ⟨by simp [q2], by simp [q5], by simp [q28], by simp [q29], by simp [q2, q5, q28, q29, q30, H16, H3, H4, fzO, strsO, hH], by simp [q2, q5, q28, q29, q30, H16, H3, H4, fzO, strsO, hH], _, by simp [q2, q5, q28, q29, q30, H16, H3, H4, fzO, strsO, hH] <;> rfl, .inr ⟨by simpa using hb, _, by simp; rfl, by simp [q2, q5, q28, q29, q30, H16, H3, H4, fzO, strsO, hH, intsO]⟩⟩, by simp [q30], by simp, by simp, by simp, by simp [q2, q5, q28, q29, q30, H16, H3, H4, fzO, strsO, hH]⟩
          simp
          exact f1
        | some a =>
          left
          obtain ⟨s1, rfl, ⟨p2, p5, p28, p29, P16, P3, v, P4, pG⟩, p30⟩ := loop_at (hin.1 a hrp) hr ⟨[], rfl, ⟨by simp [q2], by simp [q5], by simp [q28], by simp [q29], by simp [q2, q5, q28, q29, q30, H16, H3, H4, fzO, strsO, hH], by simp [q2, q5, q28, q29, q30, H16, H3, H4, fzO, strsO, hH], _, by simp [q2, q5, q28, q29, q30, H16, H3, H4, fzO, strsO, hH] <;> rfl, .inr ⟨by simpa using hb, _, by simp; rfl, by simp [q2, q5, q28, q29, q30, H16, H3, H4, fzO, strsO, hH, intsO]⟩⟩, by simp [q30], by simp, by simp, by simp, by simp [q2, q5, q28, q29, q30, H16, H3, H4, fzO, strsO, hH]⟩
          refine ⟨_, _, rfl, ?_⟩
          simp [R25_0, R25_1, R25_2, R25_3, R25_4, R25_5, R25_6, R25_7, R25_8, R25_9, R25_10, R25_11, R25_12, R25_13, R25_14, R25_15, R25_16, R25_17, R25_18, R25_19, R25_20, R25_21, R25_22, R25_23, R25_24, R25_25, R25_26, R25_27, Tryd.f25, lpL25_0, lpL25_1, lpM25_0, lpM25_1, M25_0, M25_1, p2, p5, p28, p29, p30, hwn]
          exact ⟨_, rfl, ⟨by simp [p2], by simp [p5], by simp [p28], by simp [p29], by simp [P16], by simp [P3], v, by simp [P4], by simpa using pG⟩, by simp⟩

end Go.Proofs.YtalpgpjhloohfaaDoor.Eng
namespace Go.Proofs.YtalpgpjhloohfaaDoor.Eng
open Go Go.Proofs
set_option maxRecDepth 100000
set_option maxHeartbeats 2000000
set_option linter.unusedSimpArgs false
set_option linter.unusedVariables false
attribute [local simp] finK fin1 hpOf xi renQ isRoot runCode runOps Eng.step wantedV astep val ofO made loadV storeV find V.cells bin binT binA numT numFs eqCells un1 setAt fieldAddrV fieldV indexAddrV indexV bounds sliceV convV lenV foldV max2V min2V callO bor rdsO wrsO seen_none okD_none loops keepIds resV resultsV St.ev TK.agg refs refsL refsO V.one V.isC Value.oneCell' ren renL renO noTag noTagL noTagR noTagO nodup mapO passV frs psi refsR newD loopNext opsAt idx flatAt rootOf backR newsV appendV copyV clearV strV bytesV bldV bufV selfV bytesOf nilCmp buildV fillF chunk
attribute [local simp] cT cF cX cWR cOW cK cBL X ints_length ints_get ints_getElem ints_drop ints_take ints_append ints_nil ints_set
attribute [local simp] ints_replicate
attribute [local simp] putV_some putV_none putH_app applyD_nil applyD_cons seen_app gc_ρ gc_H gc_tick st0_ρ st0_H st0_tick retV callRo callV_if borL_nil borL_cons ints_snoc take_self callWr cutH_app findQ afterV exportV_0 exportV_n okD_nil okD_cons sub_seq0 sub_seq1 sub_cond0 sub_cond1 sub_block sub_loop sub_nil young_far young_none hidW_nil mayW_nil pairs okI ok_0 ok_1 ok_2
attribute [local simp] T3 T4 T5 T9 T22 T28 T32 T55 T57 T63 T64 T66 T70 T72
attribute [local simp] young_near clo cloF Region.binds Nat.testBit hidW declW mayW List.findIdx?_cons
def PfL (L : List (List UInt8)) (j : Nat) (st : St) : Prop := ∃ W acc, preI L j = some (W, acc) ∧ acc.length ≤ 1000 * j ∧ W ≤ 1000 ∧ PfX L W acc st ∧ st.ρ 30 = .c (.int .i64 (j : Int))
theorem pfL_step (k : Nat) (L : List (List UInt8)) (j : Nat) (hj : j < L.length) (hL : L.length ≤ 1000) (hb : ∀ x ∈ L, x.length ≤ 999) (hk : 3000 ≤ k) (st : St) (next : St → Option (Ex × St)) (hI : PfL L j st) :
    (∃ st', loopNext (runCode C (callK C k) k (K 25) L25_0 1 (gc [2, 5, 28, 29, 30] st)) next = next st' ∧ PfL L (j + 1) st') ∨
    (preI L (j + 1) = none ∧ ∃ s, loopNext (runCode C (callK C k) k (K 25) L25_0 1 (gc [2, 5, 28, 29, 30] st)) next = some (.ret, s) ∧ PfN s) := by
  obtain ⟨W, acc, hp, ha, hW, hP, q30⟩ := hI
  have hs := preI_succ L j hj
  rw [hp] at hs
  rcases pf_line k L W j acc hj hL hb (by omega) (by omega) hk st next hP q30 with ⟨W', acc', e, st', e2, h1, h2⟩ | ⟨e, s, e2, h1⟩
  · left
    rw [e] at hs
    refine ⟨st', e2, W', acc', hs, ?_, ?_, h1, h2⟩
    · simp only [stI] at e
      split at e
      · cases e
      · split at e
        · cases e
        · rename_i a hra
          simp only [Option.some.injEq, Prod.mk.injEq] at e
          obtain ⟨_, rfl⟩ := e
          have := rowP_len hra
          have := split_short L[j] 32
          have := hb _ (List.getElem_mem hj)
          rw [List.length_append]
          omega
    · simp only [stI] at e
      split at e
      · cases e
      · split at e
        · cases e
        · simp only [Option.some.injEq, Prod.mk.injEq] at e
          have := split_short L[j] 32
          have := hb _ (List.getElem_mem hj)
          omega
  · right
    rw [e] at hs
    exact ⟨hs, s, e2, h1⟩
theorem preI_pre {L : List (List UInt8)} {q : Nat × List Int} (h : preI L L.length = some q) : ∀ d j, j + d = L.length → ∃ r, preI L j = some r
  | 0, j, e => ⟨q, by rw [show j = L.length by omega]; exact h⟩
  | d + 1, j, e => by
    obtain ⟨r, hr⟩ := preI_pre h d (j + 1) (by omega)
    rw [preI_succ L j (by omega)] at hr
    cases hc : preI L j with
    | none => rw [hc] at hr; cases hr
    | some c => exact ⟨c, rfl⟩
theorem pf_outer (k : Nat) (L : List (List UInt8)) (hL : L.length ≤ 1000) (hb : ∀ x ∈ L, x.length ≤ 999) (hk : 3000 ≤ k) :
    (∀ W c, preI L L.length = some (W, c) → ∀ st, PfL L 0 st → ∃ s, loopRun (fun st => runCode C (callK C k) k (K 25) L25_0 1 st) [2, 5, 28, 29, 30] k st = some (.ex 0, s) ∧ PfX L W c s) ∧
    (preI L L.length = none → ∀ st, PfL L 0 st → ∃ s, loopRun (fun st => runCode C (callK C k) k (K 25) L25_0 1 st) [2, 5, 28, 29, 30] k st = some (.ret, s) ∧ PfN s) := by
  constructor
  · intro W c hW
    exact loopHas (body := fun st => runCode C (callK C k) k (K 25) L25_0 1 st) (keep := [2, 5, 28, 29, 30]) (.ex 0) (fun st => PfX L W c st) (PfL L) L.length k (by omega)
      (by
        intro j st next hj hI hx
        rcases pfL_step k L j hj hL hb hk st next hI with ⟨st', e, h⟩ | ⟨hn, _⟩
        · rw [e]; exact hx st' h
        · obtain ⟨b, hb⟩ := preI_pre hW (L.length - (j + 1)) (j + 1) (by omega)
          rw [hn] at hb; cases hb)
      (by
        rintro st next ⟨W', c', hp, _, _, ⟨q2, q5, q28, q29, H16, H3, v, H4, hG⟩, q30⟩
        rw [hW] at hp
        simp only [Option.some.injEq, Prod.mk.injEq] at hp
        obtain ⟨rfl, rfl⟩ := hp
        simp [strsO] at H3
        simp [fzO] at H16
        rcases hG with ⟨hb, rfl⟩ | ⟨hb, tk, rfl, hH⟩
        · simp [L25_0, R25_0, R25_1, R25_2, R25_3, R25_4, R25_5, R25_6, R25_7, R25_8, R25_9, R25_10, R25_11, R25_12, R25_13, R25_14, R25_15, R25_16, R25_17, R25_18, R25_19, R25_20, R25_21, R25_22, R25_23, R25_24, R25_25, R25_26, R25_27, Tryd.f25, lpL25_0, lpL25_1, lpM25_0, lpM25_1, M25_0, M25_1, q2, q5, q28, q29, q30, H16, H3, H4]
          exact ⟨by simp [q2], by simp [q5], by simp [q28], by simp [q29], by simp [q2, q5, q28, q29, q30, H16, H3, H4, fzO], by simp [q2, q5, q28, q29, q30, H16, H3, H4, strsO], _, by simp [q2, q5, q28, q29, q30, H16, H3, H4] <;> rfl, .inl ⟨hb, rfl⟩⟩
        · simp [intsO] at hH
          simp [L25_0, R25_0, R25_1, R25_2, R25_3, R25_4, R25_5, R25_6, R25_7, R25_8, R25_9, R25_10, R25_11, R25_12, R25_13, R25_14, R25_15, R25_16, R25_17, R25_18, R25_19, R25_20, R25_21, R25_22, R25_23, R25_24, R25_25, R25_26, R25_27, Tryd.f25, lpL25_0, lpL25_1, lpM25_0, lpM25_1, M25_0, M25_1, q2, q5, q28, q29, q30, H16, H3, H4, hH]
          exact ⟨by simp [q2], by simp [q5], by simp [q28], by simp [q29], by simp [q2, q5, q28, q29, q30, H16, H3, H4, hH, fzO], by simp [q2, q5, q28, q29, q30, H16, H3, H4, hH, strsO], _, by simp [q2, q5, q28, q29, q30, H16, H3, H4, hH] <;> rfl, .inr ⟨hb, _, rfl, by simp [q2, q5, q28, q29, q30, H16, H3, H4, hH, intsO]⟩⟩)
  · intro hW
    exact loopHas (body := fun st => runCode C (callK C k) k (K 25) L25_0 1 st) (keep := [2, 5, 28, 29, 30]) .ret PfN (PfL L) L.length k (by omega)
      (by
        intro j st next hj hI hx
        rcases pfL_step k L j hj hL hb hk st next hI with ⟨st', e, h⟩ | ⟨_, s, e, h⟩
        · rw [e]; exact hx st' h
        · rw [e]; exact ⟨s, rfl, h⟩)
      (by
        rintro st next ⟨W', c', hp, _⟩
        rw [hW] at hp
        cases hp)
/-- What ParseField gives. -/
def pfRes : Option (Nat × Nat × List Int) → Option (V × Hp)
  | some (w, h, c) => some (.tp [.ag [.c (.int .i64 (w : Int)), .c (.int .i64 (h : Int)), .s 0 2 1 0 c.length], .c (.bool true)], hpOf [] [intsO c])
  | none => some (.tp [.ag [.c (.int .i64 0), .c (.int .i64 0), .c (.slice none 0 0)], .c (.bool false)], hpOf [] [])
theorem c_IsValidNil (k : Nat) (w h : Int) (hk : 200 ≤ k) : callK C k 32 [.ag [.c (.int .i64 w), .c (.int .i64 h), .c (.slice none 0 0)]] [] = some (.c (.bool false), hpOf [] []) := by
  obtain ⟨k, rfl⟩ : ∃ m, k = m + 9 := ⟨k - 9, by omega⟩
  rw [callK_fn rfl F32 code32]
  have w1 := c_within (k + 8) w 1 8 (by omega)
  have w2 := c_within (k + 8) h 1 8 (by omega)
  by_cases a1 : 1 ≤ w ∧ w ≤ 8
  · by_cases a2 : 1 ≤ h ∧ h ≤ 8
    · obtain ⟨b1, b2⟩ := a1
      obtain ⟨b3, b4⟩ := a2
      have hp : 1 * 1 ≤ w * h := Int.mul_le_mul b1 b3 (by omega) (by omega)
      have hq : w * h ≤ 8 * 8 := Int.mul_le_mul b2 b4 (by omega) (by omega)
      have hw : IntKind.i64.wrap (w * h) = w * h := wrap_small (by omega) (by omega)
      have hz : ¬ 0 = w * h := by omega
      have hzb : ((0 : Int) == w * h) = false := by simpa using hz
      simp [R32_0, R32_1, Tryd.f32, undef, w1, w2, b1, b2, b3, b4, hw, hz, hzb]
    · have e : (decide (1 ≤ h) && decide (h ≤ 8)) = false := by
        cases x : (decide (1 ≤ h) && decide (h ≤ 8))
        · rfl
        · simp at x; exact absurd x a2
      obtain ⟨b1, b2⟩ := a1
      rw [e] at w2
      simp [R32_0, R32_1, Tryd.f32, undef, w1, w2, b1, b2]
  · have e : (decide (1 ≤ w) && decide (w ≤ 8)) = false := by
      cases x : (decide (1 ≤ w) && decide (w ≤ 8))
      · rfl
      · simp at x; exact absurd x a1
    rw [e] at w1
    simp [R32_0, R32_1, Tryd.f32, undef, w1]
theorem c_implPF (k : Nat) (s : List UInt8) (h20 : s.length ≤ 1048576) (hk : 4000 ≤ k) : callK C k 25 [.c (.string (bs s))] [] = pfRes (accI s) := by
  obtain ⟨k, rfl⟩ : ∃ m, k = m + 9 := ⟨k - 9, by omega⟩
  rw [callK_fn rfl F25 code25]
  have hS := c_HasSuffix (k + 8) s h20 (by omega)
  by_cases h1 : 384 < s.length
  · have h1' : (384 : Int) < (s.length : Int) := by omega
    have ha : accI s = none := by unfold accI; rw [if_neg (by omega)]
    rw [ha]
    simp [R25_0, R25_1, R25_2, R25_3, R25_4, R25_5, R25_6, R25_7, R25_8, R25_9, R25_10, R25_11, R25_12, R25_13, R25_14, R25_15, R25_16, R25_17, R25_18, R25_19, R25_20, R25_21, R25_22, R25_23, R25_24, R25_25, R25_26, R25_27, Tryd.f25, lpL25_0, lpL25_1, lpM25_0, lpM25_1, M25_0, M25_1, undef, bs_size, h1, h1', pfRes]
  · have h1' : ¬ (384 : Int) < (s.length : Int) := by omega
    cases he : endB s
    · have ha : accI s = none := by
        unfold accI
        have : ¬ s.getLast? = some 10 := by simpa [endB] using he
        rw [if_neg (fun h => this h.2)]
      rw [ha]
      rw [he] at hS
      simp [R25_0, R25_1, R25_2, R25_3, R25_4, R25_5, R25_6, R25_7, R25_8, R25_9, R25_10, R25_11, R25_12, R25_13, R25_14, R25_15, R25_16, R25_17, R25_18, R25_19, R25_20, R25_21, R25_22, R25_23, R25_24, R25_25, R25_26, R25_27, Tryd.f25, lpL25_0, lpL25_1, lpM25_0, lpM25_1, M25_0, M25_1, undef, bs_size, h1, h1', hS, lit1, pfRes]
    · have hl : s.getLast? = some 10 := by simpa [endB] using he
      obtain ⟨L0, rfl⟩ := List.getLast?_eq_some_iff.1 hl
      have hdl : (L0 ++ [10]).dropLast = L0 := by simp
      rw [List.length_append] at h1 h20
      simp only [List.length_cons, List.length_nil] at h1 h20
      have hT := c_TrimSuffix (k + 8) L0 (by omega) (by omega)
      have hP := c_Split (k + 8) L0 10 (by omega) (by omega)
      rw [he] at hS
      have hws := word_short L0 10
      have hwl := split_short L0 10
      have hacc : accI (L0 ++ [10]) = (match preI (splitL L0 10) (splitL L0 10).length with
          | some (w, c) => if goodB w (splitL L0 10).length c = true then some (w, (splitL L0 10).length, c) else none
          | none => none) := by
        unfold accI
        rw [if_pos ⟨by rw [List.length_append]; simp only [List.length_cons, List.length_nil]; omega, hl⟩, hdl]
        all_goals (generalize preI (splitL L0 10) (splitL L0 10).length = o; rcases o with _ | ⟨w, c⟩ <;> rfl)
      rw [hacc]
      obtain ⟨L, hLe⟩ : ∃ L, splitL L0 10 = L := ⟨_, rfl⟩
      rw [hLe] at hP hws hwl ⊢
      obtain ⟨o1, o2⟩ := pf_outer (k + 8) L (by omega) (fun x hx => by have := hws x hx; omega) (by omega)
      have h3 : ¬ (384 : Int) < (L0.length : Int) + 1 := by omega
      simp [strsO] at hP
      simp [R25_0, R25_1, R25_2, R25_3, R25_4, R25_5, R25_6, R25_7, R25_8, R25_9, R25_10, R25_11, R25_12, R25_13, R25_14, R25_15, R25_16, R25_17, R25_18, R25_19, R25_20, R25_21, R25_22, R25_23, R25_24, R25_25, R25_26, R25_27, Tryd.f25, lpL25_0, lpL25_1, lpM25_0, lpM25_1, undef, bs_size, h1, h3, hS, lit1, hT, hP, strs_length]
      generalize hr : loopRun _ _ _ _ = res
      have hst : ∀ st : St, st.ρ 2 = .p 16 1 3 0 0 → st.ρ 5 = .p 4160 4 3 0 0 → st.ρ 28 = .s 3120 3 1 0 L.length → st.ρ 29 = .c (.int .i64 (L.length : Int)) → st.ρ 30 = .c (.int .i64 0) → st.H 16 = some (1, fzO) → st.H 3120 = some (3, strsO L) → st.H 4160 = some (4, ⟨28, 3, false, [[.c (.int .i64 0), .c (.int .i64 (L.length : Int)), .c (.slice none 0 0)]]⟩) → PfL L 0 st := fun st a1 a2 a3 a4 a5 a6 a7 a8 => ⟨0, [], rfl, by simp, by omega, ⟨a1, a2, a3, a4, a6, a7, _, a8, .inl ⟨rfl, rfl⟩⟩, a5⟩
      cases hp : preI L L.length with
      | none =>
        obtain ⟨s1, rfl, p2, p3, P16⟩ := loop_at (o2 hp) hr (hst _ (by simp) (by simp) (by simp) (by simp) (by simp) (by simp [fzO]) (by simp [strsO]) (by simp))
        simp [fzO] at P16
        simp [R25_0, R25_1, R25_2, R25_3, R25_4, R25_5, R25_6, R25_7, R25_8, R25_9, R25_10, R25_11, R25_12, R25_13, R25_14, R25_15, R25_16, R25_17, R25_18, R25_19, R25_20, R25_21, R25_22, R25_23, R25_24, R25_25, R25_26, R25_27, Tryd.f25, lpL25_0, lpL25_1, lpM25_0, lpM25_1, M25_0, M25_1, p2, p3, P16, pfRes]
      | some q =>
        obtain ⟨w, c⟩ := q
        obtain ⟨s1, rfl, p2, p5, p28, p29, P16, P3, v, P4, pG⟩ := loop_at (o1 w c hp) hr (hst _ (by simp) (by simp) (by simp) (by simp) (by simp) (by simp [fzO]) (by simp [strsO]) (by simp))
        simp [fzO] at P16
        have hV := c_IsValidField (k + 8) true (w : Int) (L.length : Int) c (by omega)
        simp only []
        rcases pG with ⟨hc, rfl⟩ | ⟨hc, tk, rfl, hH⟩
        · subst hc
          have hg : goodB (w : Int) (L.length : Int) [] = false := by
            cases hg : goodB (w : Int) (L.length : Int) []
            · rfl
            · obtain ⟨sh, hcl, _, _⟩ := good_length hg
              obtain ⟨_, _, a1, _, a2, _⟩ := shape_area sh
              have : 1 * 1 ≤ (w : Int) * (L.length : Int) := Int.mul_le_mul a1 a2 (by omega) (by omega)
              simp at hcl
              omega
          have hN := c_IsValidNil (k + 8) (w : Int) (L.length : Int) (by omega)
          rw [hg]
          simp [R25_0, R25_1, R25_2, R25_3, R25_4, R25_5, R25_6, R25_7, R25_8, R25_9, R25_10, R25_11, R25_12, R25_13, R25_14, R25_15, R25_16, R25_17, R25_18, R25_19, R25_20, R25_21, R25_22, R25_23, R25_24, R25_25, R25_26, R25_27, Tryd.f25, lpL25_0, lpL25_1, lpM25_0, lpM25_1, M25_0, M25_1, p2, p5, P16, P4, hN, pfRes]
        · simp [intsO] at hH
          cases hg : goodB (w : Int) (L.length : Int) c
          · rw [hg] at hV
            simp [fldV] at hV
            simp [R25_0, R25_1, R25_2, R25_3, R25_4, R25_5, R25_6, R25_7, R25_8, R25_9, R25_10, R25_11, R25_12, R25_13, R25_14, R25_15, R25_16, R25_17, R25_18, R25_19, R25_20, R25_21, R25_22, R25_23, R25_24, R25_25, R25_26, R25_27, Tryd.f25, lpL25_0, lpL25_1, lpM25_0, lpM25_1, M25_0, M25_1, p2, p5, P16, P4, hH, hV, pfRes]
          · rw [hg] at hV
            simp [fldV] at hV
            simp [R25_0, R25_1, R25_2, R25_3, R25_4, R25_5, R25_6, R25_7, R25_8, R25_9, R25_10, R25_11, R25_12, R25_13, R25_14, R25_15, R25_16, R25_17, R25_18, R25_19, R25_20, R25_21, R25_22, R25_23, R25_24, R25_25, R25_26, R25_27, Tryd.f25, lpL25_0, lpL25_1, lpM25_0, lpM25_1, M25_0, M25_1, p2, p5, P16, P4, hH, hV, pfRes, intsO]

end Go.Proofs.YtalpgpjhloohfaaDoor.Eng
namespace Go.Proofs.YtalpgpjhloohfaaDoor.Eng
open Go Go.Proofs
set_option maxRecDepth 100000
set_option maxHeartbeats 2000000
set_option linter.unusedSimpArgs false
set_option linter.unusedVariables false
attribute [local simp] finK fin1 hpOf xi renQ isRoot runCode runOps Eng.step wantedV astep val ofO made loadV storeV find V.cells bin binT binA numT numFs eqCells un1 setAt fieldAddrV fieldV indexAddrV indexV bounds sliceV convV lenV foldV max2V min2V callO bor rdsO wrsO seen_none okD_none loops keepIds resV resultsV St.ev TK.agg refs refsL refsO V.one V.isC Value.oneCell' ren renL renO noTag noTagL noTagR noTagO nodup mapO passV frs psi refsR newD loopNext opsAt idx flatAt rootOf backR newsV appendV copyV clearV strV bytesV bldV bufV selfV bytesOf nilCmp buildV fillF chunk
attribute [local simp] cT cF cX cWR cOW cK cBL X ints_length ints_get ints_getElem ints_drop ints_take ints_append ints_nil ints_set
attribute [local simp] ints_replicate
attribute [local simp] putV_some putV_none putH_app applyD_nil applyD_cons seen_app gc_ρ gc_H gc_tick st0_ρ st0_H st0_tick retV callRo callV_if borL_nil borL_cons ints_snoc take_self callWr cutH_app findQ afterV exportV_0 exportV_n okD_nil okD_cons sub_seq0 sub_seq1 sub_cond0 sub_cond1 sub_block sub_loop sub_nil young_far young_none hidW_nil mayW_nil pairs okI ok_0 ok_1 ok_2
attribute [local simp] T3 T4 T5 T9 T22 T28 T32 T55 T57 T63 T64 T66 T70 T72
theorem mul64_facts : ∀ n : Fin 65, IntKind.u64.wrap ((BitVec.ofNat IntKind.u64.bits n.val &&& BitVec.ofNat IntKind.u64.bits 4294967295).toNat : Int) = (n.val : Int) ∧ (n.val : Int).fdiv 4294967296 = 0 ∧ IntKind.u64.wrap (n.val : Int) = (n.val : Int) ∧ IntKind.i64.wrap (n.val : Int) = (n.val : Int) := by decide
def repL (n : Nat) (a : Int) (m : Nat) : List Int := List.replicate m a ++ List.replicate (n - m) 0
theorem repL_length {n m : Nat} (a : Int) (h : m ≤ n) : (repL n a m).length = n := by simp [repL]; omega
theorem repL_take (n : Nat) (a : Int) (m : Nat) : (repL n a m).take m = List.replicate m a := by simp [repL]
theorem repL_next {n m : Nat} (a : Int) (h : m ≤ n) : List.replicate m a ++ (List.replicate (min (n - m) m) a ++ (repL n a m).drop (m + min m (n - m))) = repL n a (m + min m (n - m)) := by
  unfold repL
  rw [List.drop_append, List.drop_eq_nil_of_le (by simp), List.nil_append, List.drop_replicate, List.length_replicate, ← List.append_assoc, List.replicate_append_replicate]
  congr 1
  · congr 1; omega
  · congr 1; omega
theorem repL_all (n : Nat) (a : Int) : repL n a n = List.replicate n a := by simp [repL]

end Go.Proofs.YtalpgpjhloohfaaDoor.Eng
namespace Go.Proofs.YtalpgpjhloohfaaDoor.Eng
open Go Go.Proofs
set_option maxRecDepth 100000
set_option maxHeartbeats 2000000
set_option linter.unusedSimpArgs false
set_option linter.unusedVariables false
attribute [local simp] finK fin1 hpOf xi renQ isRoot runCode runOps Eng.step wantedV astep val ofO made loadV storeV find V.cells bin binT binA numT numFs eqCells un1 setAt fieldAddrV fieldV indexAddrV indexV bounds sliceV convV lenV foldV max2V min2V callO bor rdsO wrsO seen_none okD_none loops keepIds resV resultsV St.ev TK.agg refs refsL refsO V.one V.isC Value.oneCell' ren renL renO noTag noTagL noTagR noTagO nodup mapO passV frs psi refsR newD loopNext opsAt idx flatAt rootOf backR newsV appendV copyV clearV strV bytesV bldV bufV selfV bytesOf nilCmp buildV fillF chunk
attribute [local simp] cT cF cX cWR cOW cK cBL X ints_length ints_get ints_getElem ints_drop ints_take ints_append ints_nil ints_set
attribute [local simp] ints_replicate
attribute [local simp] putV_some putV_none putH_app applyD_nil applyD_cons seen_app gc_ρ gc_H gc_tick st0_ρ st0_H st0_tick retV callRo callV_if borL_nil borL_cons ints_snoc take_self callWr cutH_app findQ afterV exportV_0 exportV_n okD_nil okD_cons sub_seq0 sub_seq1 sub_cond0 sub_cond1 sub_block sub_loop sub_nil young_far young_none hidW_nil mayW_nil pairs okI ok_0 ok_1 ok_2
attribute [local simp] T3 T4 T5 T9 T22 T28 T32 T55 T57 T63 T64 T66 T70 T72
def hasB (w h x y : Int) : Bool := (decide (0 ≤ x) && decide (x ≤ w - 1)) && (decide (0 ≤ y) && decide (y ≤ h - 1))
def cellOf (l : List Int) (w x y : Int) : Int := l.getD (y * w + x).toNat 0
def tabL (n : Nat) (w : Int) (g : Int → Int → Int) : List Int := (List.range n).map fun (i : Nat) => g ((i : Int).tmod w) ((i : Int) / w)
theorem tabL_length (n : Nat) (w : Int) (g : Int → Int → Int) : (tabL n w g).length = n := by simp [tabL]
theorem tabL_get (n : Nat) (w : Int) (g : Int → Int → Int) (i : Nat) (h : i < n) : (tabL n w g)[i]'(by rw [tabL_length]; exact h) = g ((i : Int).tmod w) ((i : Int) / w) := by simp [tabL]
theorem tabL_at {W N v u : Nat} (g : Int → Int → Int) (hu : u < W) (h : v * W + u < N) : (tabL N (W : Int) g)[v * W + u]'(by rw [tabL_length]; exact h) = g (u : Int) (v : Int) := by
  rw [tabL_get _ _ _ _ h]
  have e1 : ((v * W + u : Nat) : Int).tmod (W : Int) = (u : Int) := by
    show (((v * W + u) % W : Nat) : Int) = u
    rw [Nat.mul_comm, Nat.mul_add_mod, Nat.mod_eq_of_lt hu]
  have e2 : ((v * W + u : Nat) : Int) / (W : Int) = (v : Int) := by
    show (((v * W + u) / W : Nat) : Int) = v
    rw [Nat.mul_comm, Nat.mul_add_div (by omega), Nat.div_eq_of_lt hu, Nat.add_zero]
  rw [e1, e2]
theorem cell_ix {w h x y : Int} {l : List Int} (hl : (l.length : Int) = w * h) (hx : 0 ≤ x) (hx' : x < w) (hy : 0 ≤ y) (hy' : y < h) : 0 ≤ y * w + x ∧ y * w + x < l.length ∧ 0 ≤ y * w ∧ l[(y * w + x).toNat]? = some (cellOf l w x y) := by
  have h1 : 0 ≤ y * w := Int.mul_nonneg hy (by omega)
  have h2 : (y + 1) * w ≤ h * w := Int.mul_le_mul_of_nonneg_right (by omega) (by omega)
  rw [Int.add_mul, Int.mul_comm h w, Int.one_mul] at h2
  refine ⟨by omega, by omega, h1, ?_⟩
  have h3 : (y * w + x).toNat < l.length := by omega
  rw [cellOf, List.getD_eq_getElem?_getD, List.getElem?_eq_getElem h3]
  rfl
theorem c_l2Has (k : Nat) (b : Bool) (w h : Int) (l : List Int) (x y : Int) (hw : 1 ≤ w ∧ w ≤ 8) (hh : 1 ≤ h ∧ h ≤ 8) (hk : 2 ≤ k) : callK C k 69 [fldV b w h l, .c (.int .i64 x), .c (.int .i64 y)] [] = some (.c (.bool (hasB w h x y)), hpOf [] []) := by
  obtain ⟨k, rfl⟩ : ∃ m, k = m + 2 := ⟨k - 2, by omega⟩
  rw [callK_fn rfl F69 code69]
  have w1 : IntKind.i64.wrap (w - 1) = w - 1 := wrap_small (by omega) (by omega)
  have w2 : IntKind.i64.wrap (h - 1) = h - 1 := wrap_small (by omega) (by omega)
  have h1 := c_l1In (k + 1) x 0 (w - 1) (by omega)
  have h2 := c_l1In (k + 1) y 0 (h - 1) (by omega)
  unfold hasB
  cases e : (decide (0 ≤ x) && decide (x ≤ w - 1))
  · rw [e] at h1
    simp [R69_0, R69_1, Tryd.f69, fldV, w1, h1]
  · rw [e] at h1
    simp [R69_0, R69_1, Tryd.f69, fldV, w1, w2, h1, h2]
theorem c_hasCell (k : Nat) (b : Bool) (w h : Int) (l : List Int) (x y : Int) (hw : 1 ≤ w ∧ w ≤ 8) (hh : 1 ≤ h ∧ h ≤ 8) (hk : 2 ≤ k) : callK C k 66 [fldV b w h l, .c (.int .i64 x), .c (.int .i64 y)] [] = some (.c (.bool (hasB w h x y)), hpOf [] []) := by
  obtain ⟨k, rfl⟩ : ∃ m, k = m + 2 := ⟨k - 2, by omega⟩
  rw [callK_fn rfl F66 code66]
  have w1 : IntKind.i64.wrap (w - 1) = w - 1 := wrap_small (by omega) (by omega)
  have w2 : IntKind.i64.wrap (h - 1) = h - 1 := wrap_small (by omega) (by omega)
  have h1 := c_within (k + 1) x 0 (w - 1) (by omega)
  have h2 := c_within (k + 1) y 0 (h - 1) (by omega)
  unfold hasB
  cases e : (decide (0 ≤ x) && decide (x ≤ w - 1))
  · rw [e] at h1
    simp [R66_0, R66_1, Tryd.f66, fldV, w1, h1]
  · rw [e] at h1
    simp [R66_0, R66_1, Tryd.f66, fldV, w1, w2, h1, h2]
theorem c_l2At (k : Nat) (b : Bool) (w h : Int) (l : List Int) (x y : Int) (hl : (l.length : Int) = w * h) (h64 : l.length ≤ 64) (hx : 0 ≤ x) (hx' : x < w) (hy : 0 ≤ y) (hy' : y < h) (hk : 2 ≤ k) : callK C k 78 [fldV b w h l, .c (.int .i64 x), .c (.int .i64 y)] [] = some (.c (.int .i64 (cellOf l w x y)), hpOf [] []) := by
  obtain ⟨k, rfl⟩ : ∃ m, k = m + 2 := ⟨k - 2, by omega⟩
  rw [callK_fn rfl F78 code78]
  obtain ⟨h1, h2, h3, h4⟩ := cell_ix hl hx hx' hy hy'
  have w1 : IntKind.i64.wrap (y * w) = y * w := wrap_small (by omega) (by omega)
  have w2 : IntKind.i64.wrap (y * w + x) = y * w + x := wrap_small (by omega) (by omega)
  simp [R78_0, R78_1, Tryd.f78, fldV, w1, w2, h1, h4]

end Go.Proofs.YtalpgpjhloohfaaDoor.Eng
namespace Go.Proofs.YtalpgpjhloohfaaDoor.Eng
open Go Go.Proofs
set_option maxRecDepth 100000
set_option maxHeartbeats 2000000
set_option linter.unusedSimpArgs false
set_option linter.unusedVariables false
attribute [local simp] finK fin1 hpOf xi renQ isRoot runCode runOps Eng.step wantedV astep val ofO made loadV storeV find V.cells bin binT binA numT numFs eqCells un1 setAt fieldAddrV fieldV indexAddrV indexV bounds sliceV convV lenV foldV max2V min2V callO bor rdsO wrsO seen_none okD_none loops keepIds resV resultsV St.ev TK.agg refs refsL refsO V.one V.isC Value.oneCell' ren renL renO noTag noTagL noTagR noTagO nodup mapO passV frs psi refsR newD loopNext opsAt idx flatAt rootOf backR newsV appendV copyV clearV strV bytesV bldV bufV selfV bytesOf nilCmp buildV fillF chunk
attribute [local simp] cT cF cX cWR cOW cK cBL X ints_length ints_get ints_getElem ints_drop ints_take ints_append ints_nil ints_set
attribute [local simp] ints_replicate
attribute [local simp] putV_some putV_none putH_app applyD_nil applyD_cons seen_app gc_ρ gc_H gc_tick st0_ρ st0_H st0_tick retV callRo callV_if borL_nil borL_cons ints_snoc take_self callWr cutH_app findQ afterV exportV_0 exportV_n okD_nil okD_cons sub_seq0 sub_seq1 sub_cond0 sub_cond1 sub_block sub_loop sub_nil young_far young_none hidW_nil mayW_nil pairs okI ok_0 ok_1 ok_2
attribute [local simp] T3 T4 T5 T9 T22 T28 T32 T55 T57 T63 T64 T66 T70 T72
attribute [local simp] young_near clo cloF Region.binds Nat.testBit
def tkH (H : Hp) (id : Nat) : Nat := match H id with | some (t, _) => t | none => 0
theorem tkH_eq {H : Hp} {id t : Nat} {o : Eng.Obj} (h : H id = some (t, o)) : tkH H id = t := by simp [tkH, h]
def subG (l : List Int) (w x y : Int) (u v : Int) : Int := cellOf l w (x + u) (y + v)
def fitB (w h x y wide high : Int) : Bool := decide (x + wide ≤ w) && decide (y + high ≤ h)
def subB (w h : Int) (l : List Int) (x y wide high : Int) : Bool := goodB w h l && (hasB w h x y && (shapeB wide high && fitB w h x y wide high))
theorem has_bound {w h x y : Int} (h0 : hasB w h x y = true) : 0 ≤ x ∧ x < w ∧ 0 ≤ y ∧ y < h := by
  simp only [hasB, Bool.and_eq_true, decide_eq_true_eq] at h0
  omega
theorem has_fit {w h x y wide high : Int} (h0 : hasB w h x y = true) (hs : shapeB wide high = true) : hasB w h (x + wide - 1) (y + high - 1) = fitB w h x y wide high := by
  have h1 := has_bound h0
  obtain ⟨_, _, h2⟩ := shape_area hs
  rw [Bool.eq_iff_iff]
  simp only [hasB, fitB, Bool.and_eq_true, decide_eq_true_eq]
  omega

end Go.Proofs.YtalpgpjhloohfaaDoor.Eng
namespace Go.Proofs.YtalpgpjhloohfaaDoor.Eng
open Go Go.Proofs
set_option maxRecDepth 100000
set_option maxHeartbeats 2000000
set_option linter.unusedSimpArgs false
set_option linter.unusedVariables false
attribute [local simp] finK fin1 hpOf xi renQ isRoot runCode runOps Eng.step wantedV astep val ofO made loadV storeV find V.cells bin binT binA numT numFs eqCells un1 setAt fieldAddrV fieldV indexAddrV indexV bounds sliceV convV lenV foldV max2V min2V callO bor rdsO wrsO seen_none okD_none loops keepIds resV resultsV St.ev TK.agg refs refsL refsO V.one V.isC Value.oneCell' ren renL renO noTag noTagL noTagR noTagO nodup mapO passV frs psi refsR newD loopNext opsAt idx flatAt rootOf backR newsV appendV copyV clearV strV bytesV bldV bufV selfV bytesOf nilCmp buildV fillF chunk
attribute [local simp] cT cF cX cWR cOW cK cBL X ints_length ints_get ints_getElem ints_drop ints_take ints_append ints_nil ints_set
attribute [local simp] ints_replicate
attribute [local simp] putV_some putV_none putH_app applyD_nil applyD_cons seen_app gc_ρ gc_H gc_tick st0_ρ st0_H st0_tick retV callRo callV_if borL_nil borL_cons ints_snoc take_self callWr cutH_app findQ afterV exportV_0 exportV_n okD_nil okD_cons sub_seq0 sub_seq1 sub_cond0 sub_cond1 sub_block sub_loop sub_nil young_far young_none hidW_nil mayW_nil pairs okI ok_0 ok_1 ok_2
attribute [local simp] T3 T4 T5 T9 T22 T28 T32 T55 T57 T63 T64 T66 T70 T72
theorem c_l1Own (k : Nat) (b : Bool) (l : List Int) (hl : l.length ≤ 1048576) (hk : 1 ≤ k) : callK C k 92 [.sq b true 1 (ints l)] [] = some (.s 0 2 1 0 l.length, hpOf [] [intsO l]) := by
  obtain ⟨k, rfl⟩ : ∃ m, k = m + 1 := ⟨k - 1, by omega⟩
  rw [callK_fn rfl F92 code92]
  have b2 : l.length * 8 ≤ 140737488355328 := by omega
  have b3 : l.length ≤ maxLen := by unfold maxLen; omega
  by_cases h0 : l = []
  · subst h0
    simp [R92_0, R92_1, Tryd.f92, intsO, ints]
  · simp [R92_0, R92_1, Tryd.f92, h0, intsO, b2, b3]
theorem c_l2Own (k : Nat) (b : Bool) (w h : Int) (l : List Int) (hl : l.length ≤ 1048576) (hk : 2 ≤ k) : callK C k 71 [fldV b w h l] [] = some (ownV w h 0 2 l.length, hpOf [] [intsO l]) := by
  obtain ⟨k, rfl⟩ : ∃ m, k = m + 2 := ⟨k - 2, by omega⟩
  rw [callK_fn rfl F71 code71]
  have hc := c_l1Own (k + 1) b l hl (by omega)
  simp [R71_0, R71_1, Tryd.f71, fldV, hc, intsO, ownV]

end Go.Proofs.YtalpgpjhloohfaaDoor.Eng
namespace Go.Proofs.YtalpgpjhloohfaaDoor.Eng
open Go Go.Proofs
set_option maxRecDepth 100000
set_option maxHeartbeats 2000000
set_option linter.unusedSimpArgs false
set_option linter.unusedVariables false
attribute [local simp] finK fin1 hpOf xi renQ isRoot runCode runOps Eng.step wantedV astep val ofO made loadV storeV find V.cells bin binT binA numT numFs eqCells un1 setAt fieldAddrV fieldV indexAddrV indexV bounds sliceV convV lenV foldV max2V min2V callO bor rdsO wrsO seen_none okD_none loops keepIds resV resultsV St.ev TK.agg refs refsL refsO V.one V.isC Value.oneCell' ren renL renO noTag noTagL noTagR noTagO nodup mapO passV frs psi refsR newD loopNext opsAt idx flatAt rootOf backR newsV appendV copyV clearV strV bytesV bldV bufV selfV bytesOf nilCmp buildV fillF chunk
attribute [local simp] cT cF cX cWR cOW cK cBL X ints_length ints_get ints_getElem ints_drop ints_take ints_append ints_nil ints_set
attribute [local simp] ints_replicate
attribute [local simp] putV_some putV_none putH_app applyD_nil applyD_cons seen_app gc_ρ gc_H gc_tick st0_ρ st0_H st0_tick retV callRo callV_if borL_nil borL_cons ints_snoc take_self callWr cutH_app findQ afterV exportV_0 exportV_n okD_nil okD_cons sub_seq0 sub_seq1 sub_cond0 sub_cond1 sub_block sub_loop sub_nil young_far young_none hidW_nil mayW_nil pairs okI ok_0 ok_1 ok_2
attribute [local simp] T3 T4 T5 T9 T22 T28 T32 T55 T57 T63 T64 T66 T70 T72
attribute [local simp] young_near clo cloF Region.binds Nat.testBit hidW declW mayW List.findIdx?_cons
theorem chnk_get (w : Nat) : ∀ (h : Nat) (c : List Int) (y : Nat) (hy : y < (chnk w h c).length), (chnk w h c)[y] = (c.drop (y * w)).take w
  | 0, c, y, hy => by simp [chnk] at hy
  | h + 1, c, 0, hy => by simp [chnk]
  | h + 1, c, y + 1, hy => by
    have hy' : y < (chnk w h (c.drop w)).length := by
      rw [chnk_len] at hy ⊢; omega
    have := chnk_get w h (c.drop w) y hy'
    simp only [chnk, List.getElem_cons_succ]
    rw [this, List.drop_drop, Nat.succ_mul, Nat.add_comm w]
theorem row_step (r : List Int) (x : Nat) (hx : x < r.length) : rowT (r.take (x + 1)) = if x = 0 then cellT r[x] else rowT (r.take x) ++ [32] ++ cellT r[x] := by
  have h := joinB_take (r.map cellT) 32 x (by simpa using hx)
  unfold rowT
  rw [List.map_take, List.map_take, h, List.getElem_map]
theorem rows_step (R : List (List Int)) (y : Nat) (hy : y < R.length) : rowsT (R.take (y + 1)) = rowsT (R.take y) ++ rowT R[y] ++ [10] := by
  unfold rowsT
  rw [List.take_succ_eq_append_getElem hy, List.flatMap_append, List.flatMap_singleton, List.append_assoc]
theorem c_l2Text (k : Nat) (b : Bool) (W H : Nat) (l : List Int) (hg : goodB W H l = true) (hk : 500 ≤ k) : callK C k 38 [fldV b W H l] [] = some (.c (.string (bs (textF W H l))), hpOf [] []) := by
  obtain ⟨k, rfl⟩ : ∃ m, k = m + 9 := ⟨k - 9, by omega⟩
  rw [callK_fn rfl F38 code38]
  obtain ⟨sh, hcl, hall, h64⟩ := good_length hg
  obtain ⟨_, _, a1, a2, b1, b2⟩ := shape_area sh
  have hcl' : l.length = W * H := by
    have : ((W * H : Nat) : Int) = (W : Int) * (H : Int) := Int.natCast_mul W H
    omega
  obtain ⟨hf, hw⟩ := chnk_flat W H l hcl'
  have hRl := chnk_len W H l
  have hRg := chnk_get W H l
  have hrows := rows_len (chnk W H l)
  unfold textF
  obtain ⟨R, hR⟩ : ∃ R, chnk W H l = R := ⟨_, rfl⟩
  have hRg' : ∀ (y : Nat) (hy : y < R.length), R[y] = (l.drop (y * W)).take W := by subst hR; exact hRg
  rw [hR] at hf hw hRl hrows ⊢
  have hcr : ∀ r ∈ R, r.all cellB = true := cells_rows (by rw [hf]; exact hall)
  have hB : ∀ y, y ≤ R.length → (rowsT (R.take y)).length ≤ 384 := by
    intro y hy
    have := rows_len (R.take y) W (by omega) (fun r hr => hw r (List.mem_of_mem_take hr)) (fun r hr => hcr r (List.mem_of_mem_take hr))
    have h8 : W * (R.take y).length ≤ 8 * 8 := Nat.mul_le_mul (by omega) (by rw [List.length_take]; omega)
    omega
  have hBox := fldV b W H l
  have hrow : ∀ (y : Nat) (hy : y < H) (P : List UInt8), P.length ≤ 384 → ∀ st : St, (st.ρ 1 = .p 16 1 3 0 0 ∧ st.H 16 = some (1, ⟨28, 3, false, [[.c (.int .i64 (W : Int)), .c (.int .i64 (H : Int)), .sq b true 1 (ints l)]]⟩) ∧ st.ρ 3 = .c (.string (bs P)) ∧ st.ρ 4 = .c (.int .i64 (y : Int)) ∧ st.ρ 5 = .c (.int .i64 0)) → ∃ s, loopRun (fun st => runCode C (callK C (k + 8)) (k + 8) (K 38) L38_1 2 st) [1, 3, 4, 5] (k + 8) st = some (.ex 2, s) ∧ (s.ρ 1 = .p 16 1 3 0 0 ∧ s.H 16 = some (1, ⟨28, 3, false, [[.c (.int .i64 (W : Int)), .c (.int .i64 (H : Int)), .sq b true 1 (ints l)]]⟩) ∧ s.ρ 3 = .c (.string (bs (P ++ rowT (R[y]'(by omega))))) ∧ s.ρ 4 = .c (.int .i64 (y : Int))) := by
    intro y hy P hP st hst
    obtain ⟨r, hr⟩ : ∃ r, R[y]'(by omega) = r := ⟨_, rfl⟩
    have hrw : r.length = W := by rw [← hr]; exact hw _ (List.getElem_mem _)
    have hrc : r.all cellB = true := by rw [← hr]; exact hcr _ (List.getElem_mem _)
    have hrl : ∀ x, x ≤ r.length → (rowT (r.take x)).length ≤ 100 := by
      intro x hx
      have := (row_len (r.take x) (by
        rw [List.all_eq_true] at hrc ⊢
        exact fun z hz => hrc z (List.mem_of_mem_take hz))).1
      rw [List.length_take] at this
      omega
    rw [hr]
    refine loopHas (body := fun st => runCode C (callK C (k + 8)) (k + 8) (K 38) L38_1 2 st) (keep := [1, 3, 4, 5]) (.ex 2) (fun s => s.ρ 1 = .p 16 1 3 0 0 ∧ s.H 16 = some (1, ⟨28, 3, false, [[.c (.int .i64 (W : Int)), .c (.int .i64 (H : Int)), .sq b true 1 (ints l)]]⟩) ∧ s.ρ 3 = .c (.string (bs (P ++ rowT r))) ∧ s.ρ 4 = .c (.int .i64 (y : Int)))
      (fun x s => s.ρ 1 = .p 16 1 3 0 0 ∧ s.H 16 = some (1, ⟨28, 3, false, [[.c (.int .i64 (W : Int)), .c (.int .i64 (H : Int)), .sq b true 1 (ints l)]]⟩) ∧ s.ρ 3 = .c (.string (bs (P ++ rowT (r.take x)))) ∧ s.ρ 4 = .c (.int .i64 (y : Int)) ∧ s.ρ 5 = .c (.int .i64 (x : Int)))
      W (k + 8) (by omega) ?_ ?_ st ?_
    · rintro x s next hx ⟨q1, H1, q3, q4, q5⟩ hn
      have hxr : x < r.length := by omega
      have hst2 := row_step r x hxr
      have hbl := hrl x (by omega)
      have hat := c_l2At (k + 8) b (W : Int) (H : Int) l (x : Int) (y : Int) hcl h64 (by omega) (by omega) (by omega) (by omega) (by omega)
      have hcv : cellOf l (W : Int) (x : Int) (y : Int) = r[x] := by
        have e1 : r[x]? = l[y * W + x]? := by
          rw [← hr, hRg' y (by omega), List.getElem?_take, if_pos hx, List.getElem?_drop]
        rw [List.getElem?_eq_getElem hxr] at e1
        unfold cellOf
        have e2 : ((y : Int) * (W : Int) + (x : Int)).toNat = y * W + x := by
          have : ((y * W + x : Nat) : Int) = (y : Int) * (W : Int) + (x : Int) := by simp
          omega
        rw [e2, List.getD_eq_getElem?_getD, ← e1]
        rfl
      rw [hcv] at hat
      have hcell := List.all_eq_true.1 hrc _ (List.getElem_mem hxr)
      have hclen := cell_len hcell
      obtain ⟨v, hv⟩ : ∃ v, r[x] = v := ⟨_, rfl⟩
      rw [hv] at hat hst2 hcell hclen
      have hwn := wrap_next hx (by omega : W ≤ 9000000000000000000)
      obtain ⟨S, hS⟩ : ∃ S, P ++ rowT (r.take x) = S := ⟨_, rfl⟩
      have hSl : S.length ≤ 500 := by rw [← hS, List.length_append]; omega
      rw [hS] at q3
      have hx2 : (x : Int) < (W : Int) := by omega
      simp [fldV] at hat
      have hnum : v ≠ -9999 → callK C (k + 8) 48 [.c (.int .i64 v)] [] = some (.c (.string (bs (cellT v))), hpOf [] []) := by
        intro hne
        unfold cellB at hcell
        simp only [Bool.or_eq_true, beq_iff_eq, Bool.and_eq_true, decide_eq_true_eq] at hcell
        unfold cellT
        rw [if_neg hne]
        exact c_l1Num (k + 8) v (by omega) (by omega) (by omega)
      have z1 : S.length + 1 ≤ 9223372036854775807 := by omega
      have z2 : S.length + 1 + 1 ≤ 9223372036854775807 := by omega
      have z3 : S.length + 1 + (cellT v).length ≤ 9223372036854775807 := by omega
      have z4 : S.length + (cellT v).length ≤ 9223372036854775807 := by omega
      by_cases hx0 : x = 0
      · have hnew : P ++ rowT (r.take (x + 1)) = S ++ cellT v := by
          rw [hst2, if_pos hx0, ← hS, hx0]; simp [rowT, joinB, Lib.join_nil]
        rw [hnew] at hn
        have c1 : ¬ (0 : Int) < (x : Int) := by omega
        have c2 : ¬ 0 < x := by omega
        by_cases hm : v = -9999
        · have hct : cellT v = [46] := by rw [hm]; rfl
          rw [hct] at hn
          rw [hm] at hat
          simp [L38_1, R38_0, R38_1, R38_2, R38_3, R38_4, R38_5, R38_6, R38_7, R38_8, R38_9, R38_10, R38_11, R38_12, R38_13, R38_14, R38_15, Tryd.f38, lpL38_0, lpL38_1, lpM38_0, lpM38_1, lpM38_2, M38_0, M38_1, M38_2, q1, H1, q3, q4, q5, hx2, hat, lit1, bs_append, bs_size, hwn, c1, c2, z1]
          exact hn _ ⟨by simp [q1], by simp [q1, H1], by simp [hx0], by simp [q4], by simp⟩
        · have hmb : (v == -9999) = false := by simpa using hm
          have hnu := hnum hm
          simp [L38_1, R38_0, R38_1, R38_2, R38_3, R38_4, R38_5, R38_6, R38_7, R38_8, R38_9, R38_10, R38_11, R38_12, R38_13, R38_14, R38_15, Tryd.f38, lpL38_0, lpL38_1, lpM38_0, lpM38_1, lpM38_2, M38_0, M38_1, M38_2, q1, H1, q3, q4, q5, hx2, hat, lit1, bs_append, bs_size, hwn, c1, c2, hm, hmb, hnu, z4]
          exact hn _ ⟨by simp [q1], by simp [q1, H1], by simp [hx0], by simp [q4], by simp⟩
      · have hnew : P ++ rowT (r.take (x + 1)) = S ++ 32 :: cellT v := by
          rw [hst2, if_neg hx0, ← hS]; simp
        rw [hnew] at hn
        have c1 : (0 : Int) < (x : Int) := by omega
        have c2 : 0 < x := by omega
        by_cases hm : v = -9999
        · have hct : cellT v = [46] := by rw [hm]; rfl
          rw [hct] at hn
          rw [hm] at hat
          simp [L38_1, R38_0, R38_1, R38_2, R38_3, R38_4, R38_5, R38_6, R38_7, R38_8, R38_9, R38_10, R38_11, R38_12, R38_13, R38_14, R38_15, Tryd.f38, lpL38_0, lpL38_1, lpM38_0, lpM38_1, lpM38_2, M38_0, M38_1, M38_2, q1, H1, q3, q4, q5, hx2, hat, lit1, bs_append, bs_size, hwn, c1, c2, z1, z2]
          exact hn _ ⟨by simp [q1], by simp [q1, H1], by simp [q3], by simp [q4], by simp⟩
        · have hmb : (v == -9999) = false := by simpa using hm
          have hnu := hnum hm
          simp [L38_1, R38_0, R38_1, R38_2, R38_3, R38_4, R38_5, R38_6, R38_7, R38_8, R38_9, R38_10, R38_11, R38_12, R38_13, R38_14, R38_15, Tryd.f38, lpL38_0, lpL38_1, lpM38_0, lpM38_1, lpM38_2, M38_0, M38_1, M38_2, q1, H1, q3, q4, q5, hx2, hat, lit1, bs_append, bs_size, hwn, c1, c2, hm, hmb, hnu, z1, z3]
          exact hn _ ⟨by simp [q1], by simp [q1, H1], by simp [q3], by simp [q4], by simp⟩
    · rintro s next ⟨q1, H1, q3, q4, q5⟩
      rw [show r.take W = r by rw [← hrw]; exact List.take_length] at q3
      simp [L38_1, R38_0, R38_1, R38_2, R38_3, R38_4, R38_5, R38_6, R38_7, R38_8, R38_9, R38_10, R38_11, R38_12, R38_13, R38_14, R38_15, Tryd.f38, lpL38_0, lpL38_1, lpM38_0, lpM38_1, lpM38_2, M38_0, M38_1, M38_2, q1, H1, q3, q4, q5]
    · obtain ⟨q1, H1, q3, q4, q5⟩ := hst
      exact ⟨q1, H1, by simp [q3, rowT, joinB, Lib.join_nil], q4, by simp [q5]⟩
  have hL := loopHas (body := fun st => runCode C (callK C (k + 8)) (k + 8) (K 38) L38_0 1 st) (keep := [1, 3, 4]) (.ex 0) (fun s => s.ρ 3 = .c (.string (bs (rowsT R))))
    (fun y s => s.ρ 1 = .p 16 1 3 0 0 ∧ s.H 16 = some (1, ⟨28, 3, false, [[.c (.int .i64 (W : Int)), .c (.int .i64 (H : Int)), .sq b true 1 (ints l)]]⟩) ∧ s.ρ 3 = .c (.string (bs (rowsT (R.take y)))) ∧ s.ρ 4 = .c (.int .i64 (y : Int)))
    H (k + 8) (by omega)
    (by
      rintro y s next hy ⟨q1, H1, q3, q4⟩ hn
      have hyR : y < R.length := by omega
      have hs := rows_step R y hyR
      have hPl := hB y (by omega)
      have hwn := wrap_next hy (by omega : H ≤ 9000000000000000000)
      have hy2 : (y : Int) < (H : Int) := by omega
      have hrl : (rowT R[y]).length ≤ 100 := by
        have := (row_len R[y] (hcr _ (List.getElem_mem hyR))).1
        rw [hw _ (List.getElem_mem hyR)] at this
        omega
      obtain ⟨P, hP⟩ : ∃ P, rowsT (R.take y) = P := ⟨_, rfl⟩
      rw [hP] at q3 hs hPl
      rw [hs] at hn
      simp [L38_0, R38_0, R38_1, R38_2, R38_3, R38_4, R38_5, R38_6, R38_7, R38_8, R38_9, R38_10, R38_11, R38_12, R38_13, R38_14, R38_15, Tryd.f38, lpL38_0, lpL38_1, lpM38_0, lpM38_1, lpM38_2, q1, H1, q3, q4, hy2]
      generalize hr : loopRun _ _ _ _ = res
      obtain ⟨s1, rfl, p1, P1, p3, p4⟩ := loop_at (hrow y hy P hPl) hr ⟨by simp [q1], by simp [q1, H1], by simp [q3], by simp [q4], by simp⟩
      obtain ⟨S, hS⟩ : ∃ S, P ++ rowT R[y] = S := ⟨_, rfl⟩
      have z1 : S.length + 1 ≤ 9223372036854775807 := by rw [← hS, List.length_append]; omega
      rw [hS] at p3 hn
      simp [R38_0, R38_1, R38_2, R38_3, R38_4, R38_5, R38_6, R38_7, R38_8, R38_9, R38_10, R38_11, R38_12, R38_13, R38_14, R38_15, Tryd.f38, lpL38_0, lpL38_1, lpM38_0, lpM38_1, lpM38_2, M38_0, M38_1, M38_2, p1, P1, p3, p4, lit1, bs_append, bs_size, z1, hwn]
      exact hn _ ⟨by simp [p1], by simp [p1, P1], by simp, by simp⟩)
    (by
      rintro s next ⟨q1, H1, q3, q4⟩
      rw [show R.take H = R by rw [← hRl]; exact List.take_length] at q3
      simp [L38_0, R38_0, R38_1, R38_2, R38_3, R38_4, R38_5, R38_6, R38_7, R38_8, R38_9, R38_10, R38_11, R38_12, R38_13, R38_14, R38_15, Tryd.f38, lpL38_0, lpL38_1, lpM38_0, lpM38_1, lpM38_2, M38_0, M38_1, M38_2, q1, H1, q3, q4])
  simp [R38_0, R38_1, R38_2, R38_3, R38_4, R38_5, R38_6, R38_7, R38_8, R38_9, R38_10, R38_11, R38_12, R38_13, R38_14, R38_15, Tryd.f38, lpL38_0, lpL38_1, lpM38_0, lpM38_1, lpM38_2, fldV, lit0]
  generalize hr : loopRun _ _ _ _ = res
  obtain ⟨s1, rfl, f3⟩ := loop_at hL hr ⟨by simp, by simp, by simp [rowsT], by simp⟩
  simp [R38_0, R38_1, R38_2, R38_3, R38_4, R38_5, R38_6, R38_7, R38_8, R38_9, R38_10, R38_11, R38_12, R38_13, R38_14, R38_15, Tryd.f38, lpL38_0, lpL38_1, lpM38_0, lpM38_1, lpM38_2, M38_0, M38_1, M38_2, f3]

end Go.Proofs.YtalpgpjhloohfaaDoor.Eng
namespace Go.Proofs.YtalpgpjhloohfaaDoor.Eng
open Go Go.Proofs
set_option maxRecDepth 100000
set_option maxHeartbeats 2000000
set_option linter.unusedSimpArgs false
set_option linter.unusedVariables false
/-- Where a number goes in a list that rises: behind the last one that is not greater. -/
def posAt (l : List Int) (n : Int) : Nat → Nat
  | 0 => 0
  | k + 1 => if n < l.getD k 0 then posAt l n k else k + 1
def pos (l : List Int) (n : Int) : Nat := posAt l n l.length
def ins (l : List Int) (n : Int) : List Int := l.take (pos l n) ++ n :: l.drop (pos l n)
theorem posAt_le (l : List Int) (n : Int) : ∀ k, posAt l n k ≤ k
  | 0 => Nat.le_refl _
  | k + 1 => by
    unfold posAt
    split
    · exact Nat.le_succ_of_le (posAt_le l n k)
    · exact Nat.le_refl _
theorem posAt_gt (l : List Int) (n : Int) : ∀ k j, posAt l n k ≤ j → j < k → n < l.getD j 0
  | 0, j, _, h => by omega
  | k + 1, j, h, h' => by
    unfold posAt at h
    split at h
    · by_cases e : j = k
      · subst e; assumption
      · exact posAt_gt l n k j h (by omega)
    · omega
theorem posAt_stop (l : List Int) (n : Int) : ∀ k j, posAt l n k = j + 1 → ¬ n < l.getD j 0
  | 0, j, h => by simp [posAt] at h
  | k + 1, j, h => by
    unfold posAt at h
    split at h
    · exact posAt_stop l n k j h
    · obtain rfl : k = j := by omega
      assumption
theorem pos_le (l : List Int) (n : Int) : pos l n ≤ l.length := posAt_le l n _
theorem pos_gt {l : List Int} {n : Int} {j : Nat} (h : pos l n ≤ j) (h' : j < l.length) : n < l[j] := by
  have := posAt_gt l n _ j h h'
  simpa [List.getD, List.getElem?_eq_getElem h'] using this
theorem pos_stop {l : List Int} {n : Int} {j : Nat} (h : pos l n = j + 1) (h' : j < l.length) : ¬ n < l[j] := by
  have := posAt_stop l n _ j h
  simpa [List.getD, List.getElem?_eq_getElem h'] using this
theorem ins_length (l : List Int) (n : Int) : (ins l n).length = l.length + 1 := by
  have := pos_le l n
  simp [ins]; omega
theorem ins_perm (l : List Int) (n : Int) : (ins l n).Perm (n :: l) := by
  unfold ins
  refine (List.perm_middle).trans ?_
  rw [List.take_append_drop]
/-- The state of a shift to the right: i of the elements behind the place are moved. -/
def shiftL (l : List Int) (n : Int) (i : Nat) : List Int := l.take (l.length - i) ++ (if i = 0 then n else l.getD (l.length - i) 0) :: l.drop (l.length - i)
theorem shiftL_zero (l : List Int) (n : Int) : shiftL l n 0 = l ++ [n] := by simp [shiftL]
theorem shiftL_length (l : List Int) (n : Int) (i : Nat) : (shiftL l n i).length = l.length + 1 := by simp [shiftL]; omega
theorem shiftL_get (l : List Int) (n : Int) (i m : Nat) (h : m + (i + 1) = l.length) : (shiftL l n i)[m]? = some (l[m]'(by omega)) := by
  unfold shiftL
  rw [List.getElem?_append_left (by simp; omega), List.getElem?_take, if_pos (by omega), List.getElem?_eq_getElem]
theorem shiftL_set (l : List Int) (n : Int) (i m : Nat) (h : m + (i + 1) = l.length) : (shiftL l n i).set (m + 1) (l[m]'(by omega)) = shiftL l n (i + 1) := by
  have hm : m < l.length := by omega
  have e0 : l.length - i = m + 1 := by omega
  have e1 : l.length - (i + 1) = m := by omega
  have e2 : l.getD m 0 = l[m] := by simp [List.getD, List.getElem?_eq_getElem hm]
  unfold shiftL
  rw [e0, e1, if_neg (by omega : ¬ i + 1 = 0), e2]
  have e3 : (l.take (m + 1)).length = m + 1 := by simp; omega
  rw [List.set_append, if_neg (by omega), e3, Nat.sub_self, List.set_cons_zero, List.take_succ_eq_append_getElem hm, List.append_assoc]
  rw [List.drop_eq_getElem_cons hm]
  rfl
theorem shiftL_ins (l : List Int) (n : Int) : (shiftL l n (l.length - pos l n)).set (pos l n) n = ins l n := by
  unfold shiftL ins
  have hp := pos_le l n
  have e : l.length - (l.length - pos l n) = pos l n := by omega
  rw [e, List.set_append, if_neg (by simp; omega)]
  have : pos l n - (l.take (pos l n)).length = 0 := by simp; omega
  rw [this, List.set_cons_zero]
/-- The values of a row of a field from column a, d of them, that are not missing. -/
def upL (l : List Int) : List Int := l.filter fun x => x != -9999
def sortL (l : List Int) : List Int := l.foldl ins []
theorem sortL_perm_aux : ∀ (l acc : List Int), (l.foldl ins acc).Perm (acc ++ l)
  | [], acc => by simp
  | x :: l, acc => by
    rw [List.foldl_cons]
    refine (sortL_perm_aux l (ins acc x)).trans ?_
    refine ((ins_perm acc x).append_right l).trans ?_
    exact (List.perm_middle (l₁ := acc) (l₂ := l) (a := x)).symm
theorem sortL_perm (l : List Int) : (sortL l).Perm l := by simpa [sortL] using sortL_perm_aux l []
theorem ins_sorted {l : List Int} (h : l.Pairwise (· ≤ ·)) (n : Int) : (ins l n).Pairwise (· ≤ ·) := by
  have hp := pos_le l n
  unfold ins
  rw [List.pairwise_append]
  refine ⟨h.sublist (List.take_sublist _ _), ?_, ?_⟩
  · rw [List.pairwise_cons]
    refine ⟨fun a ha => ?_, h.sublist (List.drop_sublist _ _)⟩
    obtain ⟨i, hi, rfl⟩ := List.mem_iff_getElem.1 ha
    rw [List.getElem_drop]
    have hi' : pos l n + i < l.length := by simpa [List.length_drop] using (by simp at hi; omega : pos l n + i < l.length)
    exact Int.le_of_lt (pos_gt (Nat.le_add_right _ _) hi')
  · intro a ha b hb
    have hab : a ≤ n := by
      obtain ⟨i, hi, rfl⟩ := List.mem_iff_getElem.1 ha
      rw [List.length_take] at hi
      have hi' : i < pos l n := by omega
      rw [List.getElem_take]
      obtain ⟨j, hj⟩ : ∃ j, pos l n = j + 1 := ⟨pos l n - 1, by omega⟩
      have h1 : ¬ n < l[j] := pos_stop hj (by omega)
      by_cases e : i = j
      · subst e; omega
      · have := List.pairwise_iff_getElem.1 h i j (by omega) (by omega) (by omega)
        omega
    rcases List.mem_cons.1 hb with rfl | hb
    · exact hab
    · obtain ⟨i, hi, rfl⟩ := List.mem_iff_getElem.1 hb
      rw [List.getElem_drop]
      have hi' : pos l n + i < l.length := by simp at hi; omega
      have := pos_gt (l := l) (n := n) (Nat.le_add_right _ i) hi'
      omega
theorem sortL_sorted_aux : ∀ (l acc : List Int), acc.Pairwise (· ≤ ·) → (l.foldl ins acc).Pairwise (· ≤ ·)
  | [], _, h => h
  | x :: l, acc, h => by rw [List.foldl_cons]; exact sortL_sorted_aux l _ (ins_sorted h x)
theorem sortL_sorted (l : List Int) : (sortL l).Pairwise (· ≤ ·) := sortL_sorted_aux l [] List.Pairwise.nil
theorem sortL_length (l : List Int) : (sortL l).length = l.length := (sortL_perm l).length_eq
/-- The greatest number of a list, as a loop finds it. -/
def maxL : List Int → Int
  | [] => 0
  | x :: l => l.foldl (fun m v => if v > m then v else m) x
def minL : List Int → Int
  | [] => 0
  | x :: l => l.foldl (fun m v => if v < m then v else m) x
theorem maxF_ge : ∀ (l : List Int) (x : Int), x ≤ l.foldl (fun m v => if v > m then v else m) x ∧ (∀ y ∈ l, y ≤ l.foldl (fun m v => if v > m then v else m) x) ∧ (l.foldl (fun m v => if v > m then v else m) x = x ∨ l.foldl (fun m v => if v > m then v else m) x ∈ l)
  | [], x => by simp
  | a :: l, x => by
    rw [List.foldl_cons]
    obtain ⟨h1, h2, h3⟩ := maxF_ge l (if a > x then a else x)
    have hax : a ≤ (if a > x then a else x) ∧ x ≤ (if a > x then a else x) := by split <;> omega
    refine ⟨Int.le_trans hax.2 h1, ?_, ?_⟩
    · intro y hy
      rcases List.mem_cons.1 hy with rfl | hy
      · exact Int.le_trans hax.1 h1
      · exact h2 y hy
    · rcases h3 with h3 | h3
      · rw [h3]
        split
        · exact .inr (List.mem_cons_self ..)
        · exact .inl rfl
      · exact .inr (List.mem_cons_of_mem _ h3)
theorem minF_le : ∀ (l : List Int) (x : Int), l.foldl (fun m v => if v < m then v else m) x ≤ x ∧ (∀ y ∈ l, l.foldl (fun m v => if v < m then v else m) x ≤ y) ∧ (l.foldl (fun m v => if v < m then v else m) x = x ∨ l.foldl (fun m v => if v < m then v else m) x ∈ l)
  | [], x => by simp
  | a :: l, x => by
    rw [List.foldl_cons]
    obtain ⟨h1, h2, h3⟩ := minF_le l (if a < x then a else x)
    have hax : (if a < x then a else x) ≤ a ∧ (if a < x then a else x) ≤ x := by split <;> omega
    refine ⟨Int.le_trans h1 hax.2, ?_, ?_⟩
    · intro y hy
      rcases List.mem_cons.1 hy with rfl | hy
      · exact Int.le_trans h1 hax.1
      · exact h2 y hy
    · rcases h3 with h3 | h3
      · rw [h3]
        split
        · exact .inr (List.mem_cons_self ..)
        · exact .inl rfl
      · exact .inr (List.mem_cons_of_mem _ h3)
theorem maxL_spec {l : List Int} (h : l ≠ []) : maxL l ∈ l ∧ ∀ y ∈ l, y ≤ maxL l := by
  cases l with
  | nil => exact absurd rfl h
  | cons x l =>
    obtain ⟨h1, h2, h3⟩ := maxF_ge l x
    refine ⟨?_, fun y hy => ?_⟩
    · rcases h3 with h3 | h3
      · exact List.mem_cons.2 (.inl h3)
      · exact List.mem_cons_of_mem _ h3
    · rcases List.mem_cons.1 hy with rfl | hy
      · exact h1
      · exact h2 y hy
theorem minL_spec {l : List Int} (h : l ≠ []) : minL l ∈ l ∧ ∀ y ∈ l, minL l ≤ y := by
  cases l with
  | nil => exact absurd rfl h
  | cons x l =>
    obtain ⟨h1, h2, h3⟩ := minF_le l x
    refine ⟨?_, fun y hy => ?_⟩
    · rcases h3 with h3 | h3
      · exact List.mem_cons.2 (.inl h3)
      · exact List.mem_cons_of_mem _ h3
    · rcases List.mem_cons.1 hy with rfl | hy
      · exact h1
      · exact h2 y hy
theorem sortL_last {l : List Int} (h : 0 < l.length) : (sortL l)[l.length - 1]'(by rw [sortL_length]; omega) = maxL l := by
  have hl : l ≠ [] := by intro e; subst e; simp at h
  obtain ⟨h1, h2⟩ := maxL_spec hl
  have hm : (sortL l)[l.length - 1]'(by rw [sortL_length]; omega) ∈ l := (sortL_perm l).mem_iff.1 (List.getElem_mem _)
  have hx := (sortL_perm l).mem_iff.2 h1
  obtain ⟨i, hi, hx⟩ := List.mem_iff_getElem.1 hx
  have hi' := hi
  rw [sortL_length] at hi'
  have a := h2 _ hm
  by_cases e : i = l.length - 1
  · subst e; omega
  · have b := List.pairwise_iff_getElem.1 (sortL_sorted l) i (l.length - 1) hi (by rw [sortL_length]; omega) (by omega)
    omega
theorem sortL_first {l : List Int} (h : 0 < l.length) : (sortL l)[0]'(by rw [sortL_length]; omega) = minL l := by
  have hl : l ≠ [] := by intro e; subst e; simp at h
  obtain ⟨h1, h2⟩ := minL_spec hl
  have hm : (sortL l)[0]'(by rw [sortL_length]; omega) ∈ l := (sortL_perm l).mem_iff.1 (List.getElem_mem _)
  have hx := (sortL_perm l).mem_iff.2 h1
  obtain ⟨i, hi, hx⟩ := List.mem_iff_getElem.1 hx
  have hi' := hi
  rw [sortL_length] at hi'
  have a := h2 _ hm
  by_cases e : i = 0
  · subst e; omega
  · have b := List.pairwise_iff_getElem.1 (sortL_sorted l) 0 i (by rw [sortL_length]; omega) hi (by omega)
    omega
theorem perm_sum {l m : List Int} (h : l.Perm m) : l.sum = m.sum := by
  induction h with
  | nil => rfl
  | cons x _ ih => simp [ih]
  | swap x y l => simp only [List.sum_cons]; omega
  | trans _ _ a b => exact a.trans b
theorem sortL_sum (l : List Int) : (sortL l).sum = l.sum := perm_sum (sortL_perm l)
theorem sortL_count (l : List Int) (p : Int → Bool) : (sortL l).countP p = l.countP p := (sortL_perm l).countP_eq p
theorem sum_bound {l : List Int} (h : l.all (fun x => decide (-9000 ≤ x) && decide (x ≤ 9000)) = true) : -9000 * (l.length : Int) ≤ l.sum ∧ l.sum ≤ 9000 * (l.length : Int) := by
  induction l with
  | nil => simp
  | cons x l ih =>
    simp only [List.all_cons, Bool.and_eq_true, decide_eq_true_eq] at h
    have := ih h.2
    simp only [List.sum_cons, List.length_cons, Int.natCast_add, Int.natCast_one]
    omega
def rowL (c : Int → Int → Int) (v u0 : Int) (d : Nat) : List Int := ((List.range d).map fun (i : Nat) => c (u0 + i) v).filter fun x => x != -9999
def rowsL (c : Int → Int → Int) (v0 u0 : Int) (m d : Nat) : List Int := (List.range m).flatMap fun (j : Nat) => rowL c (v0 + j) u0 d
theorem rowL_zero (c : Int → Int → Int) (v u0 : Int) : rowL c v u0 0 = [] := rfl
theorem rowL_miss {c : Int → Int → Int} {v u0 : Int} {d : Nat} (h : c (u0 + d) v = -9999) : rowL c v u0 (d + 1) = rowL c v u0 d := by
  simp [rowL, List.range_succ, h]
theorem rowL_more {c : Int → Int → Int} {v u0 : Int} {d : Nat} (h : ¬ c (u0 + d) v = -9999) : rowL c v u0 (d + 1) = rowL c v u0 d ++ [c (u0 + d) v] := by
  simp [rowL, List.range_succ, h]
theorem rowsL_zero (c : Int → Int → Int) (v0 u0 : Int) (d : Nat) : rowsL c v0 u0 0 d = [] := rfl
theorem rowsL_next (c : Int → Int → Int) (v0 u0 : Int) (m d : Nat) : rowsL c v0 u0 (m + 1) d = rowsL c v0 u0 m d ++ rowL c (v0 + m) u0 d := by
  simp [rowsL, List.range_succ]
theorem rowL_length (c : Int → Int → Int) (v u0 : Int) (d : Nat) : (rowL c v u0 d).length ≤ d := by
  have := List.length_filter_le (fun x => x != -9999) ((List.range d).map fun (i : Nat) => c (u0 + i) v)
  simpa [rowL] using this
theorem rowsL_length (c : Int → Int → Int) (v0 u0 : Int) (m d : Nat) : (rowsL c v0 u0 m d).length ≤ m * d := by
  induction m with
  | zero => simp [rowsL_zero]
  | succ m ih =>
    rw [rowsL_next, List.length_append, Nat.succ_mul]
    have := rowL_length c (v0 + m) u0 d
    omega
theorem sortL_append (l m : List Int) : sortL (l ++ m) = m.foldl ins (sortL l) := by simp [sortL, List.foldl_append]
theorem sortL_snoc (l : List Int) (n : Int) : sortL (l ++ [n]) = ins (sortL l) n := by simp [sortL, List.foldl_append]
theorem rowL_mem {c : Int → Int → Int} {v u0 : Int} {d : Nat} {x : Int} (h : x ∈ rowL c v u0 d) : x ≠ -9999 ∧ ∃ i : Nat, i < d ∧ x = c (u0 + i) v := by
  simp only [rowL, List.mem_filter, List.mem_map, List.mem_range] at h
  obtain ⟨⟨i, hi, rfl⟩, h2⟩ := h
  exact ⟨by simpa using h2, i, hi, rfl⟩
theorem rowsL_mem {c : Int → Int → Int} {v0 u0 : Int} {m d : Nat} {x : Int} (h : x ∈ rowsL c v0 u0 m d) : x ≠ -9999 ∧ ∃ j i : Nat, j < m ∧ i < d ∧ x = c (u0 + i) (v0 + j) := by
  simp only [rowsL, List.mem_flatMap, List.mem_range] at h
  obtain ⟨j, hj, h⟩ := h
  obtain ⟨h1, i, hi, h2⟩ := rowL_mem h
  exact ⟨h1, j, i, hj, hi, h2⟩
/-- The values of a neighborhood: from where, how many. -/
def lowE (y r : Int) : Int := if y - r < 0 then 0 else y - r
def topE (h y r : Int) : Int := if h - 1 < y + r then h - 1 else y + r
def nbL (c : Int → Int → Int) (w h x y r : Int) : List Int := rowsL c (lowE y r) (lowE x r) (topE h y r - lowE y r + 1).toNat (topE w x r - lowE x r + 1).toNat
theorem edge_facts {h y r : Int} (hy : 0 ≤ y) (hy' : y < h) (hr : 0 ≤ r) : 0 ≤ lowE y r ∧ lowE y r ≤ y ∧ y ≤ topE h y r ∧ topE h y r < h ∧ (if r < y then y - r else 0) = lowE y r ∧ (if y + r < h - 1 then y + r else h - 1) = topE h y r := by
  unfold lowE topE
  refine ⟨?_, ?_, ?_, ?_, ?_, ?_⟩ <;> (try split) <;> (try split) <;> omega
theorem edge_facts' (y r : Int) : (if y < r then 0 else y - r) = lowE y r := by
  unfold lowE
  split <;> split <;> omega

end Go.Proofs.YtalpgpjhloohfaaDoor.Eng
namespace Go.Proofs.YtalpgpjhloohfaaDoor.Eng
open Go Go.Proofs
set_option maxRecDepth 100000
set_option maxHeartbeats 2000000
set_option linter.unusedSimpArgs false
set_option linter.unusedVariables false
attribute [local simp] finK fin1 hpOf xi renQ isRoot runCode runOps Eng.step wantedV astep val ofO made loadV storeV find V.cells bin binT binA numT numFs eqCells un1 setAt fieldAddrV fieldV indexAddrV indexV bounds sliceV convV lenV foldV max2V min2V callO bor rdsO wrsO seen_none okD_none loops keepIds resV resultsV St.ev TK.agg refs refsL refsO V.one V.isC Value.oneCell' ren renL renO noTag noTagL noTagR noTagO nodup mapO passV frs psi refsR newD loopNext opsAt idx flatAt rootOf backR newsV appendV copyV clearV strV bytesV bldV bufV selfV bytesOf nilCmp buildV fillF chunk
attribute [local simp] cT cF cX cWR cOW cK cBL X ints_length ints_get ints_getElem ints_drop ints_take ints_append ints_nil ints_set
attribute [local simp] ints_replicate
attribute [local simp] putV_some putV_none putH_app applyD_nil applyD_cons seen_app gc_ρ gc_H gc_tick st0_ρ st0_H st0_tick retV callRo callV_if borL_nil borL_cons ints_snoc take_self callWr cutH_app findQ afterV exportV_0 exportV_n okD_nil okD_cons sub_seq0 sub_seq1 sub_cond0 sub_cond1 sub_block sub_loop sub_nil young_far young_none hidW_nil mayW_nil pairs okI ok_0 ok_1 ok_2
attribute [local simp] T3 T4 T5 T9 T22 T28 T32 T55 T57 T63 T64 T66 T70 T72
def nearI (a b : Int) : Int := if a < 0 then -((-2 * a + b).tdiv (2 * b)) else (2 * a + b).tdiv (2 * b)
theorem tdiv_bound {x y : Int} (hx : 0 ≤ x) (hy : 0 < y) : 0 ≤ x.tdiv y ∧ x.tdiv y ≤ x := ⟨Int.tdiv_nonneg hx (by omega), Int.tdiv_le_self _ hx⟩
theorem near_facts {a b : Int} (ha : -1000000000 ≤ a) (ha' : a ≤ 1000000000) (hb : 1 ≤ b) (hb' : b ≤ 1000000000) :
    IntKind.i64.wrap (-2 * a) = -2 * a ∧ IntKind.i64.wrap (2 * a) = 2 * a ∧ IntKind.i64.wrap (2 * b) = 2 * b ∧ IntKind.i64.wrap (-2 * a + b) = -2 * a + b ∧ IntKind.i64.wrap (2 * a + b) = 2 * a + b ∧ ¬ 2 * b = 0 := by
  refine ⟨wrap_small (by omega) (by omega), wrap_small (by omega) (by omega), wrap_small (by omega) (by omega), wrap_small (by omega) (by omega), wrap_small (by omega) (by omega), by omega⟩
def okV (x : Int) : Bool := decide (-9000 ≤ x) && decide (x ≤ 9000)
theorem sum_take {l : List Int} {i : Nat} (h : i < l.length) : (l.take (i + 1)).sum = (l.take i).sum + l[i] := by
  rw [List.take_succ_eq_append_getElem h, List.sum_append]; simp only [List.sum_cons, List.sum_nil, Int.add_zero]
theorem sum_take_bound {l : List Int} (hl : l.all okV = true) (h64 : l.length ≤ 64) (i : Nat) : -576000 ≤ (l.take i).sum ∧ (l.take i).sum ≤ 576000 := by
  have h := sum_bound (l := l.take i) (by
    rw [List.all_eq_true] at hl ⊢
    exact fun x hx => hl x (List.mem_of_mem_take hx))
  have : (l.take i).length ≤ 64 := by rw [List.length_take]; omega
  omega
def cntG (thr : Int) (l : List Int) : Int := ((l.countP fun x => decide (thr ≤ x) : Nat) : Int)
theorem cnt_take_yes {l : List Int} {thr : Int} {i : Nat} (h : i < l.length) (hx : thr ≤ l[i]) : cntG thr (l.take (i + 1)) = cntG thr (l.take i) + 1 := by
  unfold cntG; rw [List.take_succ_eq_append_getElem h, List.countP_append]; simp only [List.countP_cons, List.countP_nil, hx, decide_true, decide_false, if_true, if_false, Bool.false_eq_true]; omega
theorem cnt_take_no {l : List Int} {thr : Int} {i : Nat} (h : i < l.length) (hx : ¬ thr ≤ l[i]) : cntG thr (l.take (i + 1)) = cntG thr (l.take i) := by
  unfold cntG; rw [List.take_succ_eq_append_getElem h, List.countP_append]; simp only [List.countP_cons, List.countP_nil, hx, decide_true, decide_false, if_true, if_false, Bool.false_eq_true]; omega
theorem cnt_bound (thr : Int) (l : List Int) : 0 ≤ cntG thr l ∧ cntG thr l ≤ l.length := by
  have := List.countP_le_length (p := fun x => decide (thr ≤ x)) (l := l)
  unfold cntG
  omega
theorem ok_get {l : List Int} (hl : l.all okV = true) {i : Nat} (h : i < l.length) : -9000 ≤ l[i] ∧ l[i] ≤ 9000 := by
  have := List.all_eq_true.1 hl _ (List.getElem_mem h)
  simpa [okV] using this
theorem max_take {x : Int} {l : List Int} {i : Nat} (h : i < l.length) : maxL ((x :: l).take (i + 2)) = (if l[i] > maxL ((x :: l).take (i + 1)) then l[i] else maxL ((x :: l).take (i + 1))) := by
  simp only [List.take_succ_cons, maxL]
  rw [List.take_succ_eq_append_getElem h, List.foldl_append]
  rfl
theorem min_take {x : Int} {l : List Int} {i : Nat} (h : i < l.length) : minL ((x :: l).take (i + 2)) = (if l[i] < minL ((x :: l).take (i + 1)) then l[i] else minL ((x :: l).take (i + 1))) := by
  simp only [List.take_succ_cons, minL]
  rw [List.take_succ_eq_append_getElem h, List.foldl_append]
  rfl

end Go.Proofs.YtalpgpjhloohfaaDoor.Eng
namespace Go.Proofs.YtalpgpjhloohfaaDoor.Eng
open Go Go.Proofs
set_option maxRecDepth 100000
set_option maxHeartbeats 2000000
set_option linter.unusedSimpArgs false
set_option linter.unusedVariables false
attribute [local simp] finK fin1 hpOf xi renQ isRoot runCode runOps Eng.step wantedV astep val ofO made loadV storeV find V.cells bin binT binA numT numFs eqCells un1 setAt fieldAddrV fieldV indexAddrV indexV bounds sliceV convV lenV foldV max2V min2V callO bor rdsO wrsO seen_none okD_none loops keepIds resV resultsV St.ev TK.agg refs refsL refsO V.one V.isC Value.oneCell' ren renL renO noTag noTagL noTagR noTagO nodup mapO passV frs psi refsR newD loopNext opsAt idx flatAt rootOf backR newsV appendV copyV clearV strV bytesV bldV bufV selfV bytesOf nilCmp buildV fillF chunk
attribute [local simp] cT cF cX cWR cOW cK cBL X ints_length ints_get ints_getElem ints_drop ints_take ints_append ints_nil ints_set
attribute [local simp] ints_replicate
attribute [local simp] putV_some putV_none putH_app applyD_nil applyD_cons seen_app gc_ρ gc_H gc_tick st0_ρ st0_H st0_tick retV callRo callV_if borL_nil borL_cons ints_snoc take_self callWr cutH_app findQ afterV exportV_0 exportV_n okD_nil okD_cons sub_seq0 sub_seq1 sub_cond0 sub_cond1 sub_block sub_loop sub_nil young_far young_none hidW_nil mayW_nil pairs okI ok_0 ok_1 ok_2
attribute [local simp] T3 T4 T5 T9 T22 T28 T32 T55 T57 T63 T64 T66 T70 T72
attribute [local simp] young_near clo cloF Region.binds Nat.testBit hidW declW mayW
/-- The values of a list of cells. -/
def valsL (l : List Int) : List Int := l.filter fun x => x != -9999
theorem valsL_take (l : List Int) (j : Nat) (h : j < l.length) : valsL (l.take (j + 1)) = valsL (l.take j) ++ (if l[j] = -9999 then [] else [l[j]]) := by
  unfold valsL
  rw [List.take_succ_eq_append_getElem h, List.filter_append]
  by_cases e : l[j] = -9999 <;> simp [e]
theorem valsL_le (l : List Int) (j : Nat) : (valsL (l.take j)).length ≤ j := Nat.le_trans (List.length_filter_le _ _) (by rw [List.length_take]; omega)
def DlX (l : List Int) (j : Nat) (st : St) : Prop := ∃ arr : List Int, arr.length = l.length ∧ arr.take (valsL (l.take j)).length = valsL (l.take j) ∧ arr.drop j = l.drop j ∧ (valsL (l.take j)).length < j ∧ st.H 0 = some (0, intsO arr)

end Go.Proofs.YtalpgpjhloohfaaDoor.Eng
namespace Go.Proofs.YtalpgpjhloohfaaDoor.Eng
open Go Go.Proofs
set_option maxRecDepth 100000
set_option maxHeartbeats 2000000
set_option linter.unusedSimpArgs false
set_option linter.unusedVariables false
attribute [local simp] finK fin1 hpOf xi renQ isRoot runCode runOps Eng.step wantedV astep val ofO made loadV storeV find V.cells bin binT binA numT numFs eqCells un1 setAt fieldAddrV fieldV indexAddrV indexV bounds sliceV convV lenV foldV max2V min2V callO bor rdsO wrsO seen_none okD_none loops keepIds resV resultsV St.ev TK.agg refs refsL refsO V.one V.isC Value.oneCell' ren renL renO noTag noTagL noTagR noTagO nodup mapO passV frs psi refsR newD loopNext opsAt idx flatAt rootOf backR newsV appendV copyV clearV strV bytesV bldV bufV selfV bytesOf nilCmp buildV fillF chunk
attribute [local simp] cT cF cX cWR cOW cK cBL X ints_length ints_get ints_getElem ints_drop ints_take ints_append ints_nil ints_set
attribute [local simp] ints_replicate
attribute [local simp] putV_some putV_none putH_app applyD_nil applyD_cons seen_app gc_ρ gc_H gc_tick st0_ρ st0_H st0_tick retV callRo callV_if borL_nil borL_cons ints_snoc take_self callWr cutH_app findQ afterV exportV_0 exportV_n okD_nil okD_cons sub_seq0 sub_seq1 sub_cond0 sub_cond1 sub_block sub_loop sub_nil young_far young_none hidW_nil mayW_nil pairs okI ok_0 ok_1 ok_2
attribute [local simp] T3 T4 T5 T9 T22 T28 T32 T55 T57 T63 T64 T66 T70 T72
attribute [local simp] young_near clo cloF Region.binds Nat.testBit hidW declW mayW
theorem good_ne {w h : Int} {l : List Int} (hg : goodB w h l = true) : l ≠ [] := by
  obtain ⟨s1, n1, cl1, k1⟩ := good_length hg
  obtain ⟨_, _, hs⟩ := shape_area s1
  intro e; subst e
  have := Int.mul_pos (by omega : 0 < w) (by omega : 0 < h)
  simp at n1; omega
theorem vals_ok {l : List Int} (h : l.all cellB = true) : (valsL l).all okV = true := by
  rw [List.all_eq_true] at h ⊢
  intro x hx
  obtain ⟨h1, h2⟩ := List.mem_filter.1 hx
  have h3 := h x h1
  unfold cellB at h3
  unfold okV
  simp only [bne_iff_ne, ne_eq] at h2
  simpa [h2] using h3
theorem vals_len (l : List Int) : (valsL l).length ≤ l.length := List.length_filter_le _ _
def totI (w h : Int) (l : List Int) : Int := if goodB w h l then (valsL l).sum else 0
def missI (w h : Int) (l : List Int) : Int := if goodB w h l then (l.length : Int) - ((valsL l).length : Int) else 0
def neB (l : List Int) : Bool := match l with
  | [] => false
  | _ => true
theorem neB_nil : neB [] = false := rfl
theorem neB_ne {l : List Int} (h : l ≠ []) : neB l = true := by cases l with
  | nil => exact absurd rfl h
  | cons x l => rfl
theorem neB_snoc (l : List Int) (x : Int) : neB (l ++ [x]) = true := neB_ne (by simp)
def rOk (w h : Int) (l : List Int) : Bool := goodB w h l && neB (valsL l)
def rLo (w h : Int) (l : List Int) : Int := if rOk w h l then minL (valsL l) else 0
def rHi (w h : Int) (l : List Int) : Int := if rOk w h l then maxL (valsL l) else 0
theorem minL_snoc (l : List Int) (v : Int) : minL (l ++ [v]) = if l = [] then v else if v < minL l then v else minL l := by
  cases l with
  | nil => simp [minL]
  | cons x l => simp [minL, List.foldl_append]; split <;> rename_i hc <;> simp [hc]
theorem maxL_snoc (l : List Int) (v : Int) : maxL (l ++ [v]) = if l = [] then v else if v > maxL l then v else maxL l := by
  cases l with
  | nil => simp [maxL]
  | cons x l => simp [maxL, List.foldl_append]
theorem sum_ge (l : List Int) (a : Int) (h : ∀ x ∈ l, a ≤ x) : a * (l.length : Int) ≤ l.sum := by
  induction l with
  | nil => simp
  | cons x l ih =>
    have h1 := ih fun y hy => h y (by simp [hy])
    have h2 := h x (by simp)
    rw [List.sum_cons, List.length_cons, Int.natCast_add, Int.mul_add]
    simp
    omega
theorem sum_le (l : List Int) (a : Int) (h : ∀ x ∈ l, x ≤ a) : l.sum ≤ a * (l.length : Int) := by
  induction l with
  | nil => simp
  | cons x l ih =>
    have h1 := ih fun y hy => h y (by simp [hy])
    have h2 := h x (by simp)
    rw [List.sum_cons, List.length_cons, Int.natCast_add, Int.mul_add]
    simp
    omega
theorem c_vInts (k : Nat) (b c : Bool) (l : List Int) (hl : l.length ≤ 1048576) (hk : l.length + 10 ≤ k) : callK C k 72 [.sq b true 1 (ints l), .sq c true 1 (ints l)] [] = some (.c (.bool true), hpOf [] []) := by
  obtain ⟨k, rfl⟩ : ∃ m, k = m + 3 := ⟨k - 3, by omega⟩
  rw [callK_fn rfl F72 code72]
  have hL := loopHas (body := fun st => runCode C (callK C (k + 2)) (k + 2) (K 72) L72_0 1 st) (keep := [0, 1, 5]) (.ex 0) (fun st => True)
    (fun i st => st.ρ 0 = .sq b true 1 (ints l) ∧ st.ρ 1 = .sq c true 1 (ints l) ∧ st.ρ 5 = .c (.int .i64 (i : Int)))
    l.length (k + 2) (by omega)
    (by
      rintro i st next hi ⟨q0, q1, q5⟩ hx
      have hwn := wrap_next hi (by omega)
      simp [L72_0, R72_0, R72_1, R72_2, R72_3, R72_4, R72_5, R72_6, R72_7, R72_8, Tryd.f72, lpL72_0, lpM72_0, M72_0, q0, q1, q5, hi, hwn] at hx ⊢
      exact hx _ (by simp [q0]) (by simp [q1]) (by simp))
    (by
      rintro st next ⟨q0, q1, q5⟩
      simp [L72_0, R72_0, R72_1, R72_2, R72_3, R72_4, R72_5, R72_6, R72_7, R72_8, Tryd.f72, lpL72_0, lpM72_0, M72_0, q0, q1, q5])
  simp [R72_0, R72_1, R72_2, R72_3, R72_4, R72_5, R72_6, R72_7, R72_8, Tryd.f72, lpL72_0, lpM72_0]
  generalize hr2 : loopRun _ _ _ _ = res
  obtain ⟨s1, rfl, _⟩ := loop_at hL hr2 ⟨by simp, by simp, by simp⟩
  simp [R72_0, R72_1, R72_2, R72_3, R72_4, R72_5, R72_6, R72_7, R72_8, Tryd.f72, lpL72_0, lpM72_0, M72_0]
theorem c_vField (k : Nat) (b c : Bool) (w h : Int) (l : List Int) (hl : l.length ≤ 1048576) (hk : l.length + 20 ≤ k) : callK C k 31 [fldV b w h l, fldV c w h l] [] = some (.c (.bool true), hpOf [] []) := by
  obtain ⟨k, rfl⟩ : ∃ m, k = m + 1 := ⟨k - 1, by omega⟩
  rw [callK_fn rfl F31 code31]
  have e := c_vInts k b c l hl (by omega)
  simp [R31_0, R31_1, Tryd.f31, fldV, e]
theorem c_vFieldNil (k : Nat) (hk : 20 ≤ k) : callK C k 31 [nilV, nilV] [] = some (.c (.bool true), hpOf [] []) := by
  obtain ⟨k, rfl⟩ : ∃ m, k = m + 9 := ⟨k - 9, by omega⟩
  rw [callK_fn rfl F31 code31]
  have e : callK C (k + 8) 72 [.c (.slice none 0 0), .c (.slice none 0 0)] [] = some (.c (.bool true), hpOf [] []) := by
    rw [callK_fn (k := k + 7) rfl F72 code72]
    simp [R72_0, R72_1, R72_2, R72_3, R72_4, R72_5, R72_6, R72_7, R72_8, Tryd.f72, lpL72_0, lpM72_0, M72_0, L72_0, loopRun_succ]
  simp [R31_0, R31_1, Tryd.f31, nilV, e]

end Go.Proofs.YtalpgpjhloohfaaDoor.Eng
