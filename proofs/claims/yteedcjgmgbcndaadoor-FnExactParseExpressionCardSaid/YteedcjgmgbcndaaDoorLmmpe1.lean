/- A deterministic reading of Go code over plain data: what functions of the program compute, and what its laws come to. No conditions. -/
import Derived.Test.YteedcjgmgbcndaaDoorEngT
import Derived.IntWalk
import Derived.Lib.ItoaLen
import Derived.Lib.IndexLaws
import Derived.Lib.Bytes
import Derived.Lib.ItoaMem
import Derived.Lib.Atoi
import Derived.Lib.AtoiTie
namespace Go.Proofs.YteedcjgmgbcndaaDoor.Eng
open Go Go.Proofs
set_option maxRecDepth 100000
set_option maxHeartbeats 2000000
set_option linter.unusedSimpArgs false
set_option linter.unusedVariables false
attribute [local simp] finK fin1 hpOf xi renQ isRoot runCode runOps stepX inlOf Eng.step wantedV astep val ofO made loadV storeV find V.cells bin binT binA numT numFs eqCells un1 setAt fieldAddrV fieldV indexAddrV indexV bounds sliceV convV lenV foldV max2V min2V callO bor rdsO wrsO seen_none okD_none loops keepIds resV resultsV St.ev TK.agg refs refsL refsO V.one V.isC Value.oneCell' ren renL renO noTag noTagL noTagR noTagO nodup mapO passV frs psi refsR newD loopNext opsAt idx flatAt rootOf backR newsV appendV copyV clearV strV bytesV bldV bufV selfV bytesOf nilCmp buildV fillF chunk freeL frzW cellSame sameV
attribute [local simp] cT cF cX cWR cOW cK cBL X ints_length ints_get ints_getElem ints_drop ints_take ints_append ints_nil ints_set
attribute [local simp] T3 T4 T5 T9 T22 T29 T34 T35 T37 T39 T42 T43 T56
theorem wrap_small {n : Int} (h : -9223372036854775808 ≤ n) (h' : n ≤ 9223372036854775807) : IntKind.i64.wrap n = n := IntWalk.i64_in _ ⟨h, h'⟩
def cellB (n : Int) : Bool := n == -9999 || (decide (-9000 ≤ n) && decide (n ≤ 9000))
def shapeB (x y : Int) : Bool := (decide (1 ≤ x) && decide (x ≤ 8)) && (decide (1 ≤ y) && decide (y ≤ 8))
def goodB (w h : Int) (l : List Int) : Bool := shapeB w h && (((l.length : Int) == w * h) && l.all cellB)
def fldV (b : Bool) (w h : Int) (l : List Int) : V := .ag [.c (.int .i64 w), .c (.int .i64 h), .sq b true 1 (ints l)]
def intV (n : Int) : V := .c (.int .i64 n)
def boolV (b : Bool) : V := .c (.bool b)
theorem shape_area {w h : Int} (hs : shapeB w h = true) : 0 ≤ w * h ∧ w * h ≤ 64 ∧ 1 ≤ w ∧ w ≤ 8 ∧ 1 ≤ h ∧ h ≤ 8 := by
  unfold shapeB at hs
  simp only [Bool.and_eq_true, decide_eq_true_eq] at hs
  obtain ⟨⟨hw1, hw2⟩, hh1, hh2⟩ := hs
  exact ⟨Int.mul_nonneg (by omega) (by omega), by have := Int.mul_le_mul hw2 hh2 (by omega) (by omega); omega, hw1, hw2, hh1, hh2⟩
theorem good_length {w h : Int} {l : List Int} (hg : goodB w h l = true) : shapeB w h = true ∧ (l.length : Int) = w * h ∧ l.all cellB = true ∧ l.length ≤ 64 := by
  unfold goodB at hg
  simp only [Bool.and_eq_true, beq_iff_eq] at hg
  have := shape_area hg.1
  exact ⟨hg.1, hg.2.1, hg.2.2, by omega⟩
/-- A loop, by what holds at its head before round i. -/
theorem loopInd {body : St → Option (Ex × St)} {keep : List Nat} {P : Option (Ex × St) → Prop} (I : Nat → St → Prop) (n : Nat)
    (hs : ∀ i st next, i < n → I i st → (∀ st', I (i + 1) st' → P (next st')) → P (loopNext (body (gc keep st)) next))
    (hf : ∀ st next, I n st → P (loopNext (body (gc keep st)) next)) : ∀ (d i k : Nat) (st : St), i + d = n → d < k → I i st → P (loopRun body keep k st) := by
  intro d
  induction d with
  | zero =>
    intro i k st hi hk h
    obtain ⟨k, rfl⟩ : ∃ m, k = m + 1 := ⟨k - 1, by omega⟩
    obtain rfl : i = n := by omega
    rw [loopRun_succ]
    exact hf st _ h
  | succ d ih =>
    intro i k st hi hk h
    obtain ⟨k, rfl⟩ : ∃ m, k = m + 1 := ⟨k - 1, by omega⟩
    rw [loopRun_succ]
    exact hs i st _ (by omega) h fun st' h' => ih (i + 1) k st' (by omega) (by omega) h'
/-- The same, with a word for the state behind it. -/
theorem loopOut {body : St → Option (Ex × St)} {keep : List Nat} (e : Ex) (R : St → Prop) (I : Nat → St → Prop) (n k : Nat) (hk : n < k)
    (hs : ∀ i st next, i < n → I i st → (∀ st', I (i + 1) st' → ∃ s, next st' = some (e, s) ∧ R s) → ∃ s, loopNext (body (gc keep st)) next = some (e, s) ∧ R s)
    (hf : ∀ st next, I n st → ∃ s, loopNext (body (gc keep st)) next = some (e, s) ∧ R s) :
    ∃ out : St → St, ∀ st, I 0 st → loopRun body keep k st = some (e, out st) ∧ R (out st) := by
  obtain ⟨out, h1, h2⟩ := outOf (D := I 0) (LP := loopRun body keep k) (e := e) (R := fun _ s => R s) (fun st h0 => loopInd (P := fun r => ∃ s, r = some (e, s) ∧ R s) I n hs hf n 0 k st (by omega) hk h0)
  exact ⟨out, fun st h => ⟨h1 st h, h2 st h⟩⟩
/-- A list being written over by another, from the left. -/
def fillL (l m : List Int) (i : Nat) : List Int := l.take i ++ m.drop i
theorem fillL_zero (l m : List Int) : fillL l m 0 = m := by simp [fillL]
theorem fillL_all (l m : List Int) (h : m.length ≤ l.length) : fillL l m l.length = l := by simp [fillL, List.drop_eq_nil_of_le h]
theorem fillL_length (l m : List Int) (i : Nat) (h : m.length = l.length) : (fillL l m i).length = l.length := by simp [fillL]; omega
theorem fillL_get (l m : List Int) (i : Nat) (h : m.length = l.length) (hi : i < l.length) : (fillL l m i)[i]? = some (m[i]'(by omega)) := by
  unfold fillL
  rw [List.getElem?_append_right (by simp; omega)]
  have : i - (l.take i).length = 0 := by simp; omega
  rw [this, List.getElem?_drop, List.getElem?_eq_getElem (by omega)]
  rfl
theorem fillL_set (l m : List Int) (i : Nat) (h : m.length = l.length) (hi : i < l.length) : (fillL l m i).set i l[i] = fillL l m (i + 1) := by
  unfold fillL
  rw [List.set_append, if_neg (by simp; omega)]
  have : i - (l.take i).length = 0 := by simp; omega
  rw [this, List.drop_eq_getElem_cons (by omega : i < m.length), List.set_cons_zero, List.take_succ_eq_append_getElem hi, List.append_assoc]
  rfl
theorem wrap_next {i n : Nat} (h : i < n) (hn : n ≤ 9000000000000000000) : IntKind.i64.wrap ((i : Int) + 1) = (i : Int) + 1 := wrap_small (by omega) (by omega)
theorem ints_replicate (n : Nat) (a : Int) : List.replicate n [V.c (.int .i64 a)] = ints (List.replicate n a) := by simp [ints]
theorem okI (ty : TypeId) (l : List Int) : okObj ⟨ty, 1, true, ints l⟩ = true := by simp [okObj, ints, V.one, V.isC, Value.oneCell']
theorem ok_1 (ty : TypeId) (sz : Nat) (fl : Bool) (e : List V) : okObj ⟨ty, sz, fl, [e]⟩ = (e.length == sz && e.all fun x => x.one && (!fl || x.isC)) := by simp [okObj]
theorem ok_2 (ty : TypeId) (sz : Nat) (fl : Bool) (e e' : List V) : okObj ⟨ty, sz, fl, [e, e']⟩ = ((e.length == sz && e.all fun x => x.one && (!fl || x.isC)) && (e'.length == sz && e'.all fun x => x.one && (!fl || x.isC))) := by simp [okObj]
theorem ok_0 (ty : TypeId) (sz : Nat) (fl : Bool) : okObj ⟨ty, sz, fl, []⟩ = true := rfl
theorem wrap_1 : IntKind.i64.wrap 1 = 1 := rfl
theorem wrap_2 : IntKind.i64.wrap 2 = 2 := rfl
/-- A field that is only read: its slice's mark, its shape, its cells. -/
structure Fd where
  b : Bool
  w : Int
  h : Int
  l : List Int
def Fd.cells (q : Fd) : List V := [.c (.int .i64 q.w), .c (.int .i64 q.h), .sq q.b true 1 (ints q.l)]
def Fd.good (q : Fd) : Bool := goodB q.w q.h q.l
theorem young_far {rid j id : Nat} {W : List (Nat × Nat)} {ops : List Oper} (h : (decide (rid * 64 < id / 16) && decide (id / 16 ≤ rid * 64 + 64)) = false) : youngOf (some (rid, W)) ops j id = hidW W ops j id := by simp [youngOf, h]
theorem hidW_nil (ops : List Oper) (j id : Nat) : hidW [] ops j id = false := rfl
theorem mayW_nil (j id : Nat) : mayW [] j id = true := rfl
theorem keepsF_nil (j id : Nat) (old new : Option (Nat × Eng.Obj)) : keepsF [] j id old new = true := rfl
theorem keepsF_cons (z : Nat × Nat) (W : List (Nat × Nat)) (j id : Nat) (old new : Option (Nat × Eng.Obj)) : keepsF (z :: W) j id old new = ((!(z.1 == 1000 + j && z.2 / 8 == 12500 + id) || cellSame (z.2 % 8) old new) && keepsF W j id old new) := rfl
theorem young_none {j id : Nat} {ops : List Oper} : youngOf none ops j id = false := rfl
/-! Slots and objects are looked up one by one; a state is never opened under a binder. -/
theorem putV_some (ρ : Nat → V) (d x : Nat) (v : V) : putV ρ (some d) v x = if x = d then v else ρ x := rfl
theorem putV_none (ρ : Nat → V) (v : V) : putV ρ none v = ρ := rfl
def putH (H : Hp) (i : Nat) (o : Option (Nat × Eng.Obj)) : Hp := fun id => if id = i then o else H id
theorem putH_app (H : Hp) (i id : Nat) (o : Option (Nat × Eng.Obj)) : putH H i o id = if id = i then o else H id := rfl
theorem applyD_nil (H : Hp) : applyD H [] = H := rfl
theorem applyD_cons (H : Hp) (i : Nat) (o : Option (Nat × Eng.Obj)) (δ : List (Nat × Option (Nat × Eng.Obj))) : applyD H ((i, o) :: δ) = applyD (putH H i o) δ := rfl
theorem seen_app (rid j id : Nat) (W : List (Nat × Nat)) (ops : List Oper) (fr : Nat → Bool) (H : Hp) : Eng.seen (some (rid, W)) ops j fr H id = if youngOf (some (rid, W)) ops j id then (if fr id then H id else none) else H id := rfl
theorem gc_ρ (l : List Nat) (st : St) (x : Nat) : (gc l st).ρ x = if l.contains x then st.ρ x else .un := rfl
theorem gc_H (l : List Nat) (st : St) (id : Nat) : (gc l st).H id = if decide (id < 16) || (keepIds l st).contains id || l.contains 999 then st.H id else none := rfl
theorem gc_tick (l : List Nat) (st : St) : (gc l st).tick = st.tick := rfl
theorem st0_ρ (args : List V) (frag : List Eng.Obj) (x : Nat) : (st0 args frag).ρ x = args.getD x (.c undef) := rfl
theorem st0_H (args : List V) (frag : List Eng.Obj) (id : Nat) : (st0 args frag).H id = (frag[id]?).map fun o => (0, o) := rfl
theorem st0_tick (args : List V) (frag : List Eng.Obj) : (st0 args frag).tick = 1 := rfl
/-! Calls and ends, said without a state under a binder. -/
def retV (tick site : Nat) (v : V) (Hc : Hp) : Out :=
  if nodup ((refs v).map (·.1)) && noTag v && decide ((refs v).length ≤ 16) then
    match mapO (flatAt Hc) (refs v), ren (psi [] (refs v) site tick) v with
    | some objs, some v' => some (some v', newD tick (16 * site) objs)
    | _, _ => none
  else none
def callRo (call : CallF) (tick site : Nat) (f : FuncId) (al : Option (List V)) : Out :=
  match al with
  | none => none
  | some al => match call f al [] with
    | none => none
    | some (v, Hc) => retV tick site v Hc
theorem isRoot_0 (q : Nat × Nat) : isRoot 0 q = false := rfl
theorem filter_0 (l : List (Nat × Nat)) : l.filter (fun q => !isRoot 0 q) = l := by
  rw [List.filter_eq_self]; intro q _; rfl
def borL (H : Hp) (l : List V) : Option (List V) := mapO (bor H 4) l
theorem borL_nil (H : Hp) : borL H [] = some [] := by unfold borL; rw [mapO]
theorem borL_cons (H : Hp) (x : V) (l : List V) : borL H (x :: l) = (match bor H 4 x with
    | none => none
    | some y => match borL H l with
      | none => none
      | some l' => some (y :: l')) := by
  unfold borL
  rw [mapO]
  cases bor H 4 x <;> simp only [] <;> cases mapO (bor H 4) l <;> rfl
theorem callV_ro {C : Cfg} {call : CallF} {H : Hp} {tick site : Nat} {f : FuncId} {args : List V} (h : C.wr f = false) : callV C call H tick site f args = callRo call tick site f (borL H args) := by
  show _ = callRo call tick site f (mapO (bor H 4) args)
  have hp : passV false (C.own f) (fun id => if List.contains (List.map (·.1) ([] : List (Nat × Nat))) id = true then none else H id) (frs []) = bor H 4 := by
    funext x
    have hh : (fun id => if List.contains (List.map (·.1) ([] : List (Nat × Nat))) id = true then none else H id) = H := by funext id; rfl
    rw [hh]
    cases x <;> rfl
  unfold callV callRo
  simp only [h, Bool.false_eq_true, if_false, mapO, List.flatMap_nil, List.append_nil, List.map_nil, List.nil_append]
  simp only [List.map_nil] at hp
  rw [hp, if_pos (show nodup [] = true from rfl)]
  cases mapO (bor H 4) args with
  | none => rfl
  | some al =>
    simp only []
    cases call f al [] with
    | none => rfl
    | some r =>
      obtain ⟨v, Hc⟩ := r
      simp only [retV, List.length_nil, List.range_zero, List.map_nil, refsR, List.append_nil, noTagR, Bool.and_true, List.zip_nil_left, mapO, filter_0, List.nil_append]
      cases nodup ((refs v).map (·.1)) && noTag v && decide ((refs v).length ≤ 16) with
      | false => rfl
      | true =>
        simp only [if_true]
        cases mapO (flatAt Hc) (refs v) <;> cases ren (psi [] (refs v) site tick) v <;> rfl
def cutH (H : Hp) (ids : List Nat) : Hp := fun id => if ids.contains id then none else H id
theorem cutH_app (H : Hp) (ids : List Nat) (id : Nat) : cutH H ids id = if ids.contains id then none else H id := rfl
def findQ (H : Hp) (q : Nat × Nat) : Option Eng.Obj := find H q.1 q.2
def afterV (Hc : Hp) : Nat → List (Option Eng.Obj)
  | 0 => []
  | n + 1 => afterV Hc n ++ [find Hc n 0]
theorem afterV_is (Hc : Hp) (n : Nat) : (List.range n).map (fun i => find Hc i 0) = afterV Hc n := by
  induction n with
  | zero => rfl
  | succ n ih => rw [List.range_succ, List.map_append, ih]; rfl
def callWr (C : Cfg) (call : CallF) (H : Hp) (tick site : Nat) (f : FuncId) (args : List V) (roots : List (Nat × Nat)) : Out :=
  match mapO (findQ H) roots with
  | none => none
  | some robjs =>
    match mapO (flatAt H) (robjs.flatMap refsO) with
    | none => none
    | some sobjs =>
      if nodup ((roots ++ robjs.flatMap refsO).map (·.1)) then
        match mapO (passV true (C.own f) (cutH H ((roots ++ robjs.flatMap refsO).map (·.1))) (frs (roots ++ robjs.flatMap refsO))) args, mapO (renO (frs (roots ++ robjs.flatMap refsO))) robjs with
        | some al, some fr =>
          match call f al (fr ++ sobjs) with
          | none => none
          | some (v, Hc) =>
            let after := afterV Hc (roots ++ robjs.flatMap refsO).length
            let pulled := (refs v ++ refsR after).filter (fun q => !isRoot (roots ++ robjs.flatMap refsO).length q)
            if nodup (pulled.map (·.1)) && noTag v && decide (pulled.length ≤ 16) && noTagR after then
              match mapO (flatAt Hc) pulled, ren (psi (roots ++ robjs.flatMap refsO) pulled site tick) v, mapO (backR (psi (roots ++ robjs.flatMap refsO) pulled site tick)) ((roots ++ robjs.flatMap refsO).zip after) with
              | some objs, some v', some rs => some (some v', rs ++ newD tick (16 * site) objs)
              | _, _, _ => none
            else none
        | _, _ => none
      else none
theorem callV_wr {C : Cfg} {call : CallF} {H : Hp} {tick site : Nat} {f : FuncId} {args : List V} (h : C.wr f = true) : callV C call H tick site f args = callWr C call H tick site f args (args.flatMap (rootOf (C.own f))) := by
  unfold callV callWr
  simp only [h, if_true, ← afterV_is]
  rfl
theorem exportV_0 (v : V) (H : Hp) : exportV 0 v H = if nodup ((refs v).map (·.1)) then (match mapO (flatAt H) (refs v), ren (xi 0 (refs v)) v with
    | some objs, some v' => some (v', hpOf [] objs)
    | _, _ => none) else none := by
  simp only [exportV, List.range_zero, List.map_nil, refsR, List.append_nil, filter_0, mapO]
  cases nodup ((refs v).map (·.1)) with
  | false => rfl
  | true =>
    simp only [if_true]
    cases mapO (flatAt H) (refs v) <;> cases ren (xi 0 (refs v)) v <;> rfl
theorem exportV_n (n : Nat) (v : V) (H : Hp) : exportV (n + 1) v H =
    (if nodup (((refs v ++ refsR (afterV H (n + 1))).filter (fun q => !isRoot (n + 1) q)).map (·.1)) then
      match mapO (flatAt H) ((refs v ++ refsR (afterV H (n + 1))).filter (fun q => !isRoot (n + 1) q)), ren (xi (n + 1) ((refs v ++ refsR (afterV H (n + 1))).filter (fun q => !isRoot (n + 1) q))) v, mapO (renQ (xi (n + 1) ((refs v ++ refsR (afterV H (n + 1))).filter (fun q => !isRoot (n + 1) q)))) (afterV H (n + 1)) with
      | some objs, some v', some after' => some (v', hpOf after' objs)
      | _, _, _ => none
    else none) := by
  simp only [exportV, afterV_is]
  rfl
theorem okD_nil (dr : Dr) (yg : Nat → Bool) (H : Hp) (site : Nat) (wr : Bool) : okD dr yg H site wr [] = true := by cases dr <;> rfl
theorem okD_cons (rid : Nat) (W : List (Nat × Nat)) (yg : Nat → Bool) (H : Hp) (site i : Nat) (wr : Bool) (o : Option (Nat × Eng.Obj)) (δ : List (Nat × Option (Nat × Eng.Obj))) : okD (some (rid, W)) yg H site wr ((i, o) :: δ) =
    ((if i / 16 = site ∧ i % 16 < 8 then (H i).isNone && o.isSome else wr && !yg i && mayW W (site - rid * 64 - 1) i && keepsF W (site - rid * 64 - 1) i (H i) o) && okD (some (rid, W)) yg H site wr δ) := rfl
theorem sub_seq0 (p : List Nat) (a b : Code) : subC (0 :: p) (.seq a b) = subC p a := rfl
theorem sub_seq1 (p : List Nat) (a b : Code) : subC (1 :: p) (.seq a b) = subC p b := rfl
theorem sub_cond0 (p : List Nat) (t : Operand) (a b : Code) : subC (0 :: p) (.cond t a b) = subC p a := rfl
theorem sub_cond1 (p : List Nat) (t : Operand) (a b : Code) : subC (1 :: p) (.cond t a b) = subC p b := rfl
theorem sub_block (p : List Nat) (i : Nat) (a : Code) : subC (0 :: p) (.block i a) = subC p a := rfl
theorem sub_loop (p : List Nat) (a : Code) : subC (0 :: p) (.loop a) = subC p a := rfl
theorem sub_nil (c : Code) : subC [] c = c := by cases c <;> rfl
theorem fillL_keep (l m : List Int) (i : Nat) (h : m.length = l.length) (hi : i < l.length) (he : m[i]'(by omega) = l[i]) : fillL l m (i + 1) = fillL l m i := by
  rw [← fillL_set l m i h hi, ← he]
  have hg := fillL_get l m i h hi
  obtain ⟨hl, hg'⟩ := List.getElem?_eq_some_iff.1 hg
  rw [← hg', List.set_getElem_self]
def intsO (l : List Int) : Eng.Obj := ⟨3, 1, true, ints l⟩
theorem young_near {rid j id : Nat} {W : List (Nat × Nat)} {ops : List Oper} (h : (decide (rid * 64 < id / 16) && decide (id / 16 ≤ rid * 64 + 64)) = true) : youngOf (some (rid, W)) ops j id = ((decide (id % 16 < 8) && !((clo ops).getD j 0).testBit (id / 16 - rid * 64 - 1)) || hidW W ops j id) := by simp [youngOf, h]
theorem ints_snoc (l : List Int) (a : Int) : ints l ++ [[V.c (.int .i64 a)]] = ints (l ++ [a]) := by simp only [ints, List.map_append, List.map_cons, List.map_nil]
theorem take_self (l : List Int) (n : Nat) : (l.take n).take n = l.take n := by rw [List.take_take, Nat.min_self]
/-- A loop, asked of one state: what it leaves. -/
theorem loopHas {body : St → Option (Ex × St)} {keep : List Nat} (e : Ex) (R : St → Prop) (I : Nat → St → Prop) (n k : Nat) (hk : n < k)
    (hs : ∀ i st next, i < n → I i st → (∀ st', I (i + 1) st' → ∃ s, next st' = some (e, s) ∧ R s) → ∃ s, loopNext (body (gc keep st)) next = some (e, s) ∧ R s)
    (hf : ∀ st next, I n st → ∃ s, loopNext (body (gc keep st)) next = some (e, s) ∧ R s) :
    ∀ st, I 0 st → ∃ s, loopRun body keep k st = some (e, s) ∧ R s :=
  fun st h0 => loopInd (P := fun r => ∃ s, r = some (e, s) ∧ R s) I n hs hf n 0 k st (by omega) hk h0
theorem loop_at {LP : St → Option (Ex × St)} {e : Ex} {D R : St → Prop} (h : ∀ st, D st → ∃ s, LP st = some (e, s) ∧ R s) {st : St} {res : Option (Ex × St)} (hr : LP st = res) (hD : D st) : ∃ s, res = some (e, s) ∧ R s := by
  obtain ⟨s, h1, h2⟩ := h st hD
  exact ⟨s, hr ▸ h1, h2⟩
theorem run_at {e : Option (V × Hp)} {x : Option (V × Hp)} (h : x = e) : x = e := h
theorem callV_if {C : Cfg} {call : CallF} {H : Hp} {tick site : Nat} {f : FuncId} {args : List V} : callV C call H tick site f args = if C.wr f = true then callWr C call H tick site f args (args.flatMap (rootOf (C.own f))) else callRo call tick site f (borL H args) := by
  cases h : C.wr f
  · rw [callV_ro h, if_neg (by decide)]
  · rw [callV_wr h, if_pos rfl]

end Go.Proofs.YteedcjgmgbcndaaDoor.Eng
namespace Go.Proofs.YteedcjgmgbcndaaDoor.Eng
open Go Go.Proofs
set_option maxRecDepth 100000
set_option maxHeartbeats 2000000
set_option linter.unusedSimpArgs false
set_option linter.unusedVariables false
attribute [local simp] finK fin1 hpOf xi renQ isRoot runCode runOps stepX inlOf Eng.step wantedV astep val ofO made loadV storeV find V.cells bin binT binA numT numFs eqCells un1 setAt fieldAddrV fieldV indexAddrV indexV bounds sliceV convV lenV foldV max2V min2V callO bor rdsO wrsO seen_none okD_none loops keepIds resV resultsV St.ev TK.agg refs refsL refsO V.one V.isC Value.oneCell' ren renL renO noTag noTagL noTagR noTagO nodup mapO passV frs psi refsR newD loopNext opsAt idx flatAt rootOf backR newsV appendV copyV clearV strV bytesV bldV bufV selfV bytesOf nilCmp buildV fillF chunk freeL frzW cellSame sameV
attribute [local simp] cT cF cX cWR cOW cK cBL X ints_length ints_get ints_getElem ints_drop ints_take ints_append ints_nil ints_set
attribute [local simp] ints_replicate
attribute [local simp] putV_some putV_none putH_app applyD_nil applyD_cons seen_app gc_ρ gc_H gc_tick st0_ρ st0_H st0_tick retV callRo callV_if borL_nil borL_cons ints_snoc take_self callWr cutH_app findQ afterV exportV_0 exportV_n okD_nil okD_cons sub_seq0 sub_seq1 sub_cond0 sub_cond1 sub_block sub_loop sub_nil young_far young_none hidW_nil mayW_nil keepsF_nil keepsF_cons pairs okI ok_0 ok_1 ok_2
attribute [local simp] T3 T4 T5 T9 T22 T29 T34 T35 T37 T39 T42 T43 T56
theorem c_within (k : Nat) (x a b : Int) (hk : 1 ≤ k) : callK C k 34 [.c (.int .i64 x), .c (.int .i64 a), .c (.int .i64 b)] [] = some (.c (.bool (decide (a ≤ x) && decide (x ≤ b))), hpOf [] []) := by
  obtain ⟨k, rfl⟩ : ∃ m, k = m + 1 := ⟨k - 1, by omega⟩
  rw [callK_fn rfl F34 code34]
  by_cases h : a ≤ x <;> simp [R34_0, R34_1, Tryd.f34, h]
def ownV (w h : Int) (id vr n : Nat) : V := .ag [.c (.int .i64 w), .c (.int .i64 h), .s id vr 1 0 n]
def nilV : V := .ag [.c (.int .i64 0), .c (.int .i64 0), .c (.slice none 0 0)]

end Go.Proofs.YteedcjgmgbcndaaDoor.Eng
namespace Go.Proofs.YteedcjgmgbcndaaDoor.Eng
open Go Go.Proofs
set_option maxRecDepth 100000
set_option maxHeartbeats 2000000
set_option linter.unusedSimpArgs false
set_option linter.unusedVariables false
attribute [local simp] finK fin1 hpOf xi renQ isRoot runCode runOps stepX inlOf Eng.step wantedV astep val ofO made loadV storeV find V.cells bin binT binA numT numFs eqCells un1 setAt fieldAddrV fieldV indexAddrV indexV bounds sliceV convV lenV foldV max2V min2V callO bor rdsO wrsO seen_none okD_none loops keepIds resV resultsV St.ev TK.agg refs refsL refsO V.one V.isC Value.oneCell' ren renL renO noTag noTagL noTagR noTagO nodup mapO passV frs psi refsR newD loopNext opsAt idx flatAt rootOf backR newsV appendV copyV clearV strV bytesV bldV bufV selfV bytesOf nilCmp buildV fillF chunk freeL frzW cellSame sameV
attribute [local simp] cT cF cX cWR cOW cK cBL X ints_length ints_get ints_getElem ints_drop ints_take ints_append ints_nil ints_set
attribute [local simp] ints_replicate
attribute [local simp] putV_some putV_none putH_app applyD_nil applyD_cons seen_app gc_ρ gc_H gc_tick st0_ρ st0_H st0_tick retV callRo callV_if borL_nil borL_cons ints_snoc take_self callWr cutH_app findQ afterV exportV_0 exportV_n okD_nil okD_cons sub_seq0 sub_seq1 sub_cond0 sub_cond1 sub_block sub_loop sub_nil young_far young_none hidW_nil mayW_nil keepsF_nil keepsF_cons pairs okI ok_0 ok_1 ok_2
attribute [local simp] T3 T4 T5 T9 T22 T29 T34 T35 T37 T39 T42 T43 T56
theorem c_l1In (k : Nat) (x a b : Int) (hk : 1 ≤ k) : callK C k 39 [.c (.int .i64 x), .c (.int .i64 a), .c (.int .i64 b)] [] = some (.c (.bool (decide (a ≤ x) && decide (x ≤ b))), hpOf [] []) := by
  obtain ⟨k, rfl⟩ : ∃ m, k = m + 1 := ⟨k - 1, by omega⟩
  rw [callK_fn rfl F39 code39]
  by_cases h : a ≤ x <;> simp [R39_0, R39_1, Tryd.f39, h]

end Go.Proofs.YteedcjgmgbcndaaDoor.Eng
namespace Go.Proofs.YteedcjgmgbcndaaDoor.Eng
open Go Go.Proofs
set_option maxRecDepth 100000
set_option maxHeartbeats 2000000
set_option linter.unusedSimpArgs false
set_option linter.unusedVariables false
attribute [local simp] finK fin1 hpOf xi renQ isRoot runCode runOps stepX inlOf Eng.step wantedV astep val ofO made loadV storeV find V.cells bin binT binA numT numFs eqCells un1 setAt fieldAddrV fieldV indexAddrV indexV bounds sliceV convV lenV foldV max2V min2V callO bor rdsO wrsO seen_none okD_none loops keepIds resV resultsV St.ev TK.agg refs refsL refsO V.one V.isC Value.oneCell' ren renL renO noTag noTagL noTagR noTagO nodup mapO passV frs psi refsR newD loopNext opsAt idx flatAt rootOf backR newsV appendV copyV clearV strV bytesV bldV bufV selfV bytesOf nilCmp buildV fillF chunk freeL frzW cellSame sameV
attribute [local simp] cT cF cX cWR cOW cK cBL X ints_length ints_get ints_getElem ints_drop ints_take ints_append ints_nil ints_set
attribute [local simp] ints_replicate
attribute [local simp] putV_some putV_none putH_app applyD_nil applyD_cons seen_app gc_ρ gc_H gc_tick st0_ρ st0_H st0_tick retV callRo callV_if borL_nil borL_cons ints_snoc take_self callWr cutH_app findQ afterV exportV_0 exportV_n okD_nil okD_cons sub_seq0 sub_seq1 sub_cond0 sub_cond1 sub_block sub_loop sub_nil young_far young_none hidW_nil mayW_nil keepsF_nil keepsF_cons pairs okI ok_0 ok_1 ok_2
attribute [local simp] T3 T4 T5 T9 T22 T29 T34 T35 T37 T39 T42 T43 T56

end Go.Proofs.YteedcjgmgbcndaaDoor.Eng
namespace Go.Proofs.YteedcjgmgbcndaaDoor.Eng
open Go Go.Proofs
set_option maxRecDepth 100000
set_option maxHeartbeats 2000000
set_option linter.unusedSimpArgs false
set_option linter.unusedVariables false
/-- Nodes: kind and value; how many arguments a node takes, -1: it is no node. -/
def arI (q : Int × Int) : Int := if (q.1 = 1 ∧ (0 ≤ q.2 ∧ q.2 ≤ 3)) ∨ (q.1 = 2 ∧ (0 ≤ q.2 ∧ q.2 ≤ 9000)) then 0 else if (3 ≤ q.1 ∧ q.1 ≤ 6) ∧ q.2 = 0 then 2 else if q.1 = 7 ∧ (0 ≤ q.2 ∧ q.2 ≤ 9000) then 1 else -1
theorem ar_cases (q : Int × Int) : arI q = 0 ∨ arI q = 1 ∨ arI q = 2 ∨ arI q = -1 := by
  unfold arI
  split
  · exact .inl rfl
  split
  · exact .inr (.inr (.inl rfl))
  split
  · exact .inr (.inl rfl)
  · exact .inr (.inr (.inr rfl))
/-- How many expressions lie on the stack behind i nodes; -1: it fell. -/
def runO (l : List (Int × Int)) : Nat → Int
  | 0 => 0
  | i + 1 => if runO l i < 0 ∨ arI (l.getD i (0, 0)) < 0 ∨ runO l i < arI (l.getD i (0, 0)) then -1 else runO l i - arI (l.getD i (0, 0)) + 1
theorem runO_succ (l : List (Int × Int)) (i : Nat) : runO l (i + 1) = if runO l i < 0 ∨ arI (l.getD i (0, 0)) < 0 ∨ runO l i < arI (l.getD i (0, 0)) then -1 else runO l i - arI (l.getD i (0, 0)) + 1 := rfl
def goodE (l : List (Int × Int)) : Bool := decide (l.length ≤ 15) && decide (runO l l.length = 1)
theorem runO_ge (l : List (Int × Int)) (i : Nat) : -1 ≤ runO l i := by
  induction i with
  | zero => simp [runO]
  | succ i ih =>
    rw [runO_succ]
    split
    · omega
    · rcases ar_cases (l.getD i (0, 0)) with h | h | h | h <;> omega
theorem runO_le (l : List (Int × Int)) (i : Nat) : runO l i ≤ i := by
  induction i with
  | zero => simp [runO]
  | succ i ih =>
    rw [runO_succ]
    split
    · omega
    · rcases ar_cases (l.getD i (0, 0)) with h | h | h | h <;> omega
theorem runO_back {l : List (Int × Int)} {i : Nat} (h : 0 ≤ runO l (i + 1)) : 0 ≤ runO l i ∧ 0 ≤ arI (l.getD i (0, 0)) ∧ arI (l.getD i (0, 0)) ≤ runO l i ∧ runO l (i + 1) = runO l i - arI (l.getD i (0, 0)) + 1 := by
  rw [runO_succ] at h ⊢
  split at h
  · omega
  · rename_i hn
    rw [if_neg hn]
    omega
theorem runO_mono {l : List (Int × Int)} {n : Nat} (h : 0 ≤ runO l n) : ∀ d i, i + d = n → 0 ≤ runO l i
  | 0, i, e => by obtain rfl : i = n := by omega
                  exact h
  | d + 1, i, e => (runO_back (runO_mono h d (i + 1) (by omega))).1
theorem runO_pos {l : List (Int × Int)} {i : Nat} (h : 0 ≤ runO l (i + 1)) : 1 ≤ runO l (i + 1) := by
  have := runO_back h
  omega
/-- The stack behind i nodes, the last one ahead: where each expression begins, how deep it is. -/
def stk (l : List (Int × Int)) : Nat → List (Nat × Int)
  | 0 => []
  | i + 1 => if arI (l.getD i (0, 0)) = 0 then (i, 1) :: stk l i else if arI (l.getD i (0, 0)) = 1 then (match stk l i with
    | (a, d) :: s => (a, d + 1) :: s
    | [] => []) else (match stk l i with
    | (_, d2) :: (a, d1) :: s => (a, (if d1 > d2 then d1 else d2) + 1) :: s
    | s => s)
theorem stk_0 {l : List (Int × Int)} {i : Nat} (h : arI (l.getD i (0, 0)) = 0) : stk l (i + 1) = (i, 1) :: stk l i := by rw [stk, if_pos h]
theorem stk_1 {l : List (Int × Int)} {i : Nat} {a : Nat} {d : Int} {s : List (Nat × Int)} (h : arI (l.getD i (0, 0)) = 1) (hs : stk l i = (a, d) :: s) : stk l (i + 1) = (a, d + 1) :: s := by rw [stk, if_neg (by omega), if_pos h, hs]
theorem stk_2 {l : List (Int × Int)} {i : Nat} {a a2 : Nat} {d1 d2 : Int} {s : List (Nat × Int)} (h : arI (l.getD i (0, 0)) = 2) (hs : stk l i = (a2, d2) :: (a, d1) :: s) : stk l (i + 1) = (a, (if d1 > d2 then d1 else d2) + 1) :: s := by rw [stk, if_neg (by omega), if_neg (by omega), hs]
theorem stk_len {l : List (Int × Int)} : ∀ i, 0 ≤ runO l i → ((stk l i).length : Int) = runO l i
  | 0, _ => by simp [stk, runO]
  | i + 1, h => by
    obtain ⟨h1, h2, h3, h4⟩ := runO_back h
    have ih := stk_len i h1
    rw [h4]
    rcases ar_cases (l.getD i (0, 0)) with e | e | e | e
    · rw [stk_0 e, e]; simp only [List.length_cons]; omega
    · cases hs : stk l i with
      | nil => rw [hs] at ih; simp only [List.length_nil] at ih; omega
      | cons x s => obtain ⟨a, d⟩ := x; rw [stk_1 e hs, e]; rw [hs] at ih; simp only [List.length_cons] at ih ⊢; omega
    · cases hs : stk l i with
      | nil => rw [hs] at ih; simp only [List.length_nil] at ih; omega
      | cons x s =>
        cases s with
        | nil => rw [hs] at ih; simp only [List.length_cons, List.length_nil] at ih; omega
        | cons y s => obtain ⟨a2, d2⟩ := x; obtain ⟨a, d1⟩ := y; rw [stk_2 e hs, e]; rw [hs] at ih; simp only [List.length_cons] at ih ⊢; omega
    · omega
/-- Behind a node: an expression that begins at some place, on what lay there then. -/
theorem stk_top {l : List (Int × Int)} : ∀ i, 0 ≤ runO l (i + 1) → ∃ a d, a ≤ i ∧ stk l (i + 1) = (a, d) :: stk l a := by
  intro i
  induction i using Nat.strongRecOn with
  | _ i ih =>
    intro h
    obtain ⟨h1, h2, h3, h4⟩ := runO_back h
    rcases ar_cases (l.getD i (0, 0)) with e | e | e | e
    · exact ⟨i, 1, Nat.le_refl _, stk_0 e⟩
    · obtain ⟨j, rfl⟩ : ∃ j, i = j + 1 := by
        cases i with
        | zero => rw [e] at h3; exact absurd h3 (by simp [runO])
        | succ j => exact ⟨j, rfl⟩
      obtain ⟨a, d, ha, hs⟩ := ih j (by omega) h1
      exact ⟨a, d + 1, by omega, stk_1 e hs⟩
    · obtain ⟨j, rfl⟩ : ∃ j, i = j + 1 := by
        cases i with
        | zero => rw [e] at h3; exact absurd h3 (by simp [runO])
        | succ j => exact ⟨j, rfl⟩
      obtain ⟨a, d, ha, hs⟩ := ih j (by omega) h1
      have hl := stk_len (j + 1) h1
      have ha0 : 0 ≤ runO l a := runO_mono h1 (j + 1 - a) a (by omega)
      have hla := stk_len a ha0
      rw [hs] at hl
      simp only [List.length_cons] at hl
      obtain ⟨b, rfl⟩ : ∃ b, a = b + 1 := by
        cases a with
        | zero => simp only [stk, List.length_nil] at hl; omega
        | succ b => exact ⟨b, rfl⟩
      obtain ⟨c, d', hc, hs'⟩ := ih b (by omega) ha0
      exact ⟨c, (if d' > d then d' else d) + 1, by omega, stk_2 e (by rw [hs, hs'])⟩
    · omega

end Go.Proofs.YteedcjgmgbcndaaDoor.Eng
namespace Go.Proofs.YteedcjgmgbcndaaDoor.Eng
open Go Go.Proofs
set_option maxRecDepth 100000
set_option maxHeartbeats 2000000
set_option linter.unusedSimpArgs false
set_option linter.unusedVariables false
/-- The depths on the stack, the lowest one ahead. -/
def depL (l : List (Int × Int)) (i : Nat) : List Int := ((stk l i).map (·.2)).reverse
def mxf (L : List Int) : Int := L.foldl (fun m d => max m (d + 1)) 1
theorem mxf_snoc (L : List Int) (d : Int) : mxf (L ++ [d]) = max (mxf L) (d + 1) := by simp [mxf, List.foldl_append]
theorem mxf_pos (L : List Int) : 1 ≤ mxf L := by
  unfold mxf
  suffices h : ∀ (L : List Int) (m : Int), 1 ≤ m → 1 ≤ L.foldl (fun m d => max m (d + 1)) m from h L 1 (by omega)
  intro L
  induction L with
  | nil => intro m h; exact h
  | cons a L ih => intro m h; exact ih _ (Int.le_trans h (Int.le_max_left _ _))
theorem stk_pos {l : List (Int × Int)} : ∀ i, ∀ x ∈ stk l i, 1 ≤ x.2 ∧ x.2 ≤ i
  | 0, x, h => by simp [stk] at h
  | i + 1, x, h => by
    have ih := stk_pos (l := l) i
    unfold stk at h
    split at h
    · rcases List.mem_cons.1 h with e | e
      · subst e; simp only []; omega
      · have := ih x e; omega
    split at h
    · split at h
      · rename_i a d s hs
        rw [hs] at ih
        rcases List.mem_cons.1 h with e | e
        · subst e
          have := ih (a, d) (by simp)
          simp only [] at this ⊢
          omega
        · have := ih x (by simp [e]); omega
      · simp at h
    · split at h
      · rename_i a2 d2 a d1 s hs
        rw [hs] at ih
        rcases List.mem_cons.1 h with e | e
        · subst e
          have h1 := ih (a2, d2) (by simp)
          have h2 := ih (a, d1) (by simp)
          simp only [] at h1 h2 ⊢
          split <;> omega
        · have := ih x (by simp [e]); omega
      · have := ih x h; omega
theorem depL_len {l : List (Int × Int)} {i : Nat} (h : 0 ≤ runO l i) : ((depL l i).length : Int) = runO l i := by
  rw [← stk_len i h]; simp [depL]
theorem depL_bound {l : List (Int × Int)} {i : Nat} {x : Int} (h : x ∈ depL l i) : 1 ≤ x ∧ x ≤ i := by
  simp only [depL, List.mem_reverse, List.mem_map] at h
  obtain ⟨q, hq, rfl⟩ := h
  exact stk_pos i q hq
theorem mxf_bound {l : List (Int × Int)} {i : Nat} {L : List Int} (h : ∀ x ∈ L, x ∈ depL l i) : mxf L ≤ i + 1 := by
  unfold mxf
  suffices hs : ∀ (L : List Int) (m : Int), (∀ x ∈ L, x ≤ (i : Int)) → m ≤ i + 1 → L.foldl (fun m d => max m (d + 1)) m ≤ i + 1 from hs L 1 (fun x hx => (depL_bound (h x hx)).2) (by omega)
  intro L
  induction L with
  | nil => intro m _ h; exact h
  | cons a L ih => intro m hl h; exact ih _ (fun x hx => hl x (by simp [hx])) (by have := hl a (by simp); exact Int.max_le.2 ⟨h, by omega⟩)
theorem dep_step {l : List (Int × Int)} {i : Nat} (h : 0 ≤ runO l (i + 1)) : depL l (i + 1) = (depL l i).take ((depL l i).length - (arI (l.getD i (0, 0))).toNat) ++ [mxf ((depL l i).drop ((depL l i).length - (arI (l.getD i (0, 0))).toNat))] := by
  obtain ⟨h1, h2, h3, h4⟩ := runO_back h
  have hl := stk_len i h1
  have hp := stk_pos (l := l) i
  unfold depL
  rcases ar_cases (l.getD i (0, 0)) with e | e | e | e
  · rw [stk_0 e, e]
    have hn : (List.map (·.2) (stk l i)).reverse.length = (stk l i).length := by simp
    simp only [List.map_cons, List.reverse_cons, hn, Int.toNat_zero, Nat.sub_zero]
    rw [List.take_of_length_le (by omega), List.drop_eq_nil_of_le (by omega)]
    simp [mxf]
  · cases hs : stk l i with
    | nil => rw [hs] at hl; simp only [List.length_nil] at hl; omega
    | cons x s =>
      obtain ⟨a, d⟩ := x
      have := hp (a, d) (by rw [hs]; simp)
      simp only [] at this
      rw [stk_1 e hs, e]
      simp [mxf]
      omega
  · cases hs : stk l i with
    | nil => rw [hs] at hl; simp only [List.length_nil] at hl; omega
    | cons x s =>
      cases s with
      | nil => rw [hs] at hl; simp only [List.length_cons, List.length_nil] at hl; omega
      | cons y s =>
        obtain ⟨a2, d2⟩ := x
        obtain ⟨a, d1⟩ := y
        have p1 := hp (a2, d2) (by rw [hs]; simp)
        have p2 := hp (a, d1) (by rw [hs]; simp)
        simp only [] at p1 p2
        rw [stk_2 e hs, e]
        simp [mxf]
        split <;> omega
  · omega
/-- How deep an expression is. -/
def depthI (l : List (Int × Int)) : Int := if goodE l then (depL l l.length).headD 0 else 0
theorem good_run {l : List (Int × Int)} (h : goodE l = true) : l.length ≤ 15 ∧ runO l l.length = 1 := by simpa [goodE] using h
theorem depth_top {l : List (Int × Int)} {a : Nat} {d : Int} {s : List (Nat × Int)} (h : goodE l = true) (hs : stk l l.length = (a, d) :: s) : depthI l = d ∧ depL l l.length = [d] := by
  obtain ⟨h1, h2⟩ := good_run h
  have hl := stk_len (l := l) l.length (by omega)
  rw [hs] at hl
  have : s = [] := by
    cases s with
    | nil => rfl
    | cons x s => simp at hl; omega
  subst this
  simp [depthI, h, depL, hs]

end Go.Proofs.YteedcjgmgbcndaaDoor.Eng
namespace Go.Proofs.YteedcjgmgbcndaaDoor.Eng
open Go Go.Proofs
set_option maxRecDepth 100000
set_option maxHeartbeats 2000000
set_option linter.unusedSimpArgs false
set_option linter.unusedVariables false
attribute [local simp] finK fin1 hpOf xi renQ isRoot runCode runOps stepX inlOf Eng.step wantedV astep val ofO made loadV storeV find V.cells bin binT binA numT numFs eqCells un1 setAt fieldAddrV fieldV indexAddrV indexV bounds sliceV convV lenV foldV max2V min2V callO bor rdsO wrsO seen_none okD_none loops keepIds resV resultsV St.ev TK.agg refs refsL refsO V.one V.isC Value.oneCell' ren renL renO noTag noTagL noTagR noTagO nodup mapO passV frs psi refsR newD loopNext opsAt idx flatAt rootOf backR newsV appendV copyV clearV strV bytesV bldV bufV selfV bytesOf nilCmp buildV fillF chunk freeL frzW cellSame sameV
attribute [local simp] cT cF cX cWR cOW cK cBL X ints_length ints_get ints_getElem ints_drop ints_take ints_append ints_nil ints_set
attribute [local simp] ints_replicate
attribute [local simp] putV_some putV_none putH_app applyD_nil applyD_cons seen_app gc_ρ gc_H gc_tick st0_ρ st0_H st0_tick retV callRo callV_if borL_nil borL_cons ints_snoc take_self callWr cutH_app findQ afterV exportV_0 exportV_n okD_nil okD_cons sub_seq0 sub_seq1 sub_cond0 sub_cond1 sub_block sub_loop sub_nil young_far young_none hidW_nil mayW_nil keepsF_nil keepsF_cons pairs okI ok_0 ok_1 ok_2
attribute [local simp] T3 T4 T5 T9 T22 T29 T34 T35 T37 T39 T42 T43 T56
def ndE (q : Int × Int) : List V := [.c (.int .i64 q.1), .c (.int .i64 q.2)]
def ndL (l : List (Int × Int)) : List (List V) := l.map ndE
theorem ndL_length (l : List (Int × Int)) : (ndL l).length = l.length := by simp [ndL]
theorem ndL_get (l : List (Int × Int)) (i : Nat) (h : i < l.length) : (ndL l)[i]? = some (ndE l[i]) := by simp [ndL, List.getElem?_eq_getElem h]
theorem ndL_take (l : List (Int × Int)) : (ndL l).take l.length = ndL l := List.take_of_length_le (by simp [ndL])
theorem ndL_at (l : List (Int × Int)) (i : Nat) (h : i < (ndL l).length) : (ndL l)[i] = ndE (l[i]'(by simpa [ndL] using h)) := by simp [ndL]
theorem getD_nd {l : List (Int × Int)} {i : Nat} (h : i < l.length) : l.getD i (0, 0) = l[i] := by simp [List.getD, List.getElem?_eq_getElem h]
theorem c_l5Arity (k : Nat) (q : Int × Int) (hk : 3 ≤ k) : callK C k 26 [.ag (ndE q)] [] = some (.c (.int .i64 (arI q)), hpOf [] []) := by
  obtain ⟨k, rfl⟩ : ∃ m, k = m + 1 := ⟨k - 1, by omega⟩
  rw [callK_fn rfl F26 code26]
  obtain ⟨a, b⟩ := q
  have i1 := c_l1In k b 0 3 (by omega)
  have i2 := c_l1In k b 0 9000 (by omega)
  have i3 := c_l1In k a 3 6 (by omega)
  unfold arI
  simp only []
  by_cases a1 : a = 1
  · subst a1
    cases e1 : (decide (0 ≤ b) && decide (b ≤ 3))
    · rw [e1] at i1
      have e1' : ¬ (0 ≤ b ∧ b ≤ 3) := by simpa using e1
      simp [R26_0, R26_1, R26_2, R26_3, R26_4, R26_5, R26_6, R26_7, R26_8, Tryd.f26, ndE, i1, i3, e1']
    · rw [e1] at i1
      have e1' : 0 ≤ b ∧ b ≤ 3 := by simpa using e1
      simp [R26_0, R26_1, R26_2, R26_3, R26_4, R26_5, R26_6, R26_7, R26_8, Tryd.f26, ndE, i1, i3, e1']
  have a1' : (a == 1) = false := by simpa using a1
  by_cases a2 : a = 2
  · subst a2
    cases e1 : (decide (0 ≤ b) && decide (b ≤ 9000))
    · rw [e1] at i2
      have e1' : ¬ (0 ≤ b ∧ b ≤ 9000) := by simpa using e1
      simp [R26_0, R26_1, R26_2, R26_3, R26_4, R26_5, R26_6, R26_7, R26_8, Tryd.f26, ndE, i2, i3, e1']
    · rw [e1] at i2
      have e1' : 0 ≤ b ∧ b ≤ 9000 := by simpa using e1
      simp [R26_0, R26_1, R26_2, R26_3, R26_4, R26_5, R26_6, R26_7, R26_8, Tryd.f26, ndE, i2, i3, e1']
  have a2' : (a == 2) = false := by simpa using a2
  cases e3 : (decide (3 ≤ a) && decide (a ≤ 6))
  · rw [e3] at i3
    have e3' : ¬ (3 ≤ a ∧ a ≤ 6) := by simpa using e3
    by_cases a7 : a = 7
    · subst a7
      cases e1 : (decide (0 ≤ b) && decide (b ≤ 9000))
      · rw [e1] at i2
        have e1' : ¬ (0 ≤ b ∧ b ≤ 9000) := by simpa using e1
        simp [R26_0, R26_1, R26_2, R26_3, R26_4, R26_5, R26_6, R26_7, R26_8, Tryd.f26, ndE, i2, i3, e1']
      · rw [e1] at i2
        have e1' : 0 ≤ b ∧ b ≤ 9000 := by simpa using e1
        simp [R26_0, R26_1, R26_2, R26_3, R26_4, R26_5, R26_6, R26_7, R26_8, Tryd.f26, ndE, i2, i3, e1']
    · have a7' : (a == 7) = false := by simpa using a7
      simp [R26_0, R26_1, R26_2, R26_3, R26_4, R26_5, R26_6, R26_7, R26_8, Tryd.f26, ndE, i3, a1, a1', a2, a2', a7, a7', e3']
  · rw [e3] at i3
    have e3' : 3 ≤ a ∧ a ≤ 6 := by simpa using e3
    have a7 : ¬ a = 7 := by omega
    have a7' : (a == 7) = false := by simpa using a7
    by_cases b0 : b = 0
    · simp [R26_0, R26_1, R26_2, R26_3, R26_4, R26_5, R26_6, R26_7, R26_8, Tryd.f26, ndE, i3, a1, a1', a2, a2', e3', b0]
    · have b0' : (b == 0) = false := by simpa using b0
      simp [R26_0, R26_1, R26_2, R26_3, R26_4, R26_5, R26_6, R26_7, R26_8, Tryd.f26, ndE, i3, a1, a1', a2, a2', a7, a7', e3', b0, b0']
def argI (q : Int × Int) : Int := if 3 ≤ q.1 ∧ q.1 ≤ 6 then 2 else if q.1 = 7 then 1 else 0
theorem argI_eq {q : Int × Int} (h : 0 ≤ arI q) : argI q = arI q := by
  unfold argI arI at *
  split at h
  · rename_i h1
    rw [if_pos h1, if_neg (by omega), if_neg (by omega)]
  · rename_i h1
    rw [if_neg h1]
    split at h
    · rename_i h2
      rw [if_pos h2, if_pos h2.1]
    · rename_i h2
      rw [if_neg h2]
      split at h
      · rename_i h3
        rw [if_pos h3, if_neg (by omega), if_pos h3.1]
      · omega
theorem arg_bound (q : Int × Int) : 0 ≤ argI q ∧ argI q ≤ 2 := by
  unfold argI
  split
  · omega
  · split <;> omega
theorem c_arguments (k : Nat) (q : Int × Int) (hk : 3 ≤ k) : callK C k 19 [.ag (ndE q)] [] = some (.c (.int .i64 (argI q)), hpOf [] []) := by
  obtain ⟨k, rfl⟩ : ∃ m, k = m + 1 := ⟨k - 1, by omega⟩
  rw [callK_fn rfl F19 code19]
  obtain ⟨a, b⟩ := q
  have i3 := c_within k a 3 6 (by omega)
  unfold argI
  simp only []
  cases e3 : (decide (3 ≤ a) && decide (a ≤ 6))
  · rw [e3] at i3
    have e3' : ¬ (3 ≤ a ∧ a ≤ 6) := by simpa using e3
    by_cases a7 : a = 7
    · subst a7
      simp [R19_0, R19_1, R19_2, R19_3, R19_4, R19_5, Tryd.f19, ndE, i3]
    · have a7' : (a == 7) = false := by simpa using a7
      simp [R19_0, R19_1, R19_2, R19_3, R19_4, R19_5, Tryd.f19, ndE, i3, a7, a7', e3']
  · rw [e3] at i3
    have e3' : 3 ≤ a ∧ a ≤ 6 := by simpa using e3
    simp [R19_0, R19_1, R19_2, R19_3, R19_4, R19_5, Tryd.f19, ndE, i3, e3']
theorem c_isNode (k : Nat) (q : Int × Int) (hk : 3 ≤ k) : callK C k 20 [.ag (ndE q)] [] = some (.c (.bool (decide (0 ≤ arI q))), hpOf [] []) := by
  obtain ⟨k, rfl⟩ : ∃ m, k = m + 1 := ⟨k - 1, by omega⟩
  rw [callK_fn rfl F20 code20]
  obtain ⟨a, b⟩ := q
  have i1 := c_within k b 0 3 (by omega)
  have i2 := c_within k b 0 9000 (by omega)
  have i3 := c_within k a 3 6 (by omega)
  unfold arI
  simp only []
  by_cases a1 : a = 1
  · subst a1
    cases e1 : (decide (0 ≤ b) && decide (b ≤ 3))
    · rw [e1] at i1
      have e1' : ¬ (0 ≤ b ∧ b ≤ 3) := by simpa using e1
      simp [R20_0, R20_1, R20_2, R20_3, R20_4, R20_5, Tryd.f20, ndE, i1, i3, e1']
    · rw [e1] at i1
      have e1' : 0 ≤ b ∧ b ≤ 3 := by simpa using e1
      simp [R20_0, R20_1, R20_2, R20_3, R20_4, R20_5, Tryd.f20, ndE, i1, i3, e1']
  have a1' : (a == 1) = false := by simpa using a1
  by_cases a2 : a = 2
  · subst a2
    cases e1 : (decide (0 ≤ b) && decide (b ≤ 9000))
    · rw [e1] at i2
      have e1' : ¬ (0 ≤ b ∧ b ≤ 9000) := by simpa using e1
      simp [R20_0, R20_1, R20_2, R20_3, R20_4, R20_5, Tryd.f20, ndE, i2, i3, e1']
    · rw [e1] at i2
      have e1' : 0 ≤ b ∧ b ≤ 9000 := by simpa using e1
      simp [R20_0, R20_1, R20_2, R20_3, R20_4, R20_5, Tryd.f20, ndE, i2, i3, e1']
  have a2' : (a == 2) = false := by simpa using a2
  by_cases a7 : a = 7
  · subst a7
    cases e1 : (decide (0 ≤ b) && decide (b ≤ 9000))
    · rw [e1] at i2
      have e1' : ¬ (0 ≤ b ∧ b ≤ 9000) := by simpa using e1
      simp [R20_0, R20_1, R20_2, R20_3, R20_4, R20_5, Tryd.f20, ndE, i2, i3, e1']
    · rw [e1] at i2
      have e1' : 0 ≤ b ∧ b ≤ 9000 := by simpa using e1
      simp [R20_0, R20_1, R20_2, R20_3, R20_4, R20_5, Tryd.f20, ndE, i2, i3, e1']
  have a7' : (a == 7) = false := by simpa using a7
  cases e3 : (decide (3 ≤ a) && decide (a ≤ 6))
  · rw [e3] at i3
    have e3' : ¬ (3 ≤ a ∧ a ≤ 6) := by simpa using e3
    simp [R20_0, R20_1, R20_2, R20_3, R20_4, R20_5, Tryd.f20, ndE, i3, a1, a1', a2, a2', a7, a7', e3']
  · rw [e3] at i3
    have e3' : 3 ≤ a ∧ a ≤ 6 := by simpa using e3
    by_cases b0 : b = 0
    · simp [R20_0, R20_1, R20_2, R20_3, R20_4, R20_5, Tryd.f20, ndE, i3, a1, a1', a2, a2', a7, a7', e3', b0]
    · have b0' : (b == 0) = false := by simpa using b0
      simp [R20_0, R20_1, R20_2, R20_3, R20_4, R20_5, Tryd.f20, ndE, i3, a1, a1', a2, a2', a7, a7', e3', b0, b0']

theorem c_l5Good (k : Nat) (b : Bool) (l : List (Int × Int)) (hk : 100 ≤ k) : callK C k 15 [.sq b true 2 (ndL l)] [] = some (.c (.bool (goodE l)), hpOf [] []) := by
  obtain ⟨k, rfl⟩ : ∃ m, k = m + 1 := ⟨k - 1, by omega⟩
  rw [callK_fn rfl F15 code15]
  by_cases h15 : l.length ≤ 15
  · have h15' : ¬ (15 : Int) < (l.length : Int) := by omega
    have har := fun q => c_l5Arity k q (by omega)
    by_cases hg : 0 ≤ runO l l.length
    · have hL := loopHas (body := fun st => runCode C (callK C (k + 0)) (k + 0) (K 15) L15_0 1 st) (keep := [0, 3, 4]) (.ex 0) (fun st => st.ρ 3 = .c (.int .i64 (runO l l.length)))
        (fun i st => st.ρ 0 = .sq b true 2 (ndL l) ∧ st.ρ 3 = .c (.int .i64 (runO l i)) ∧ st.ρ 4 = .c (.int .i64 (i : Int)))
        l.length (k + 0) (by omega)
        (by
          rintro i st next hi ⟨q0, q3, q4⟩ hn
          have hgi : 0 ≤ runO l (i + 1) := runO_mono hg (l.length - (i + 1)) (i + 1) (by omega)
          obtain ⟨r1, r2, r3, r4⟩ := runO_back hgi
          rw [getD_nd hi] at r2 r3 r4
          have r5 := runO_le l i
          have nget := ndL_get l i hi
          have haq := har l[i]
          simp [ndE] at haq
          have g1 : ¬ arI l[i] < 0 := by omega
          have g2 : ¬ runO l i < arI l[i] := by omega
          have w1 : IntKind.i64.wrap (runO l i - arI l[i]) = runO l i - arI l[i] := wrap_small (by omega) (by omega)
          have w2 : IntKind.i64.wrap (runO l i - arI l[i] + 1) = runO l (i + 1) := by rw [r4]; exact wrap_small (by omega) (by omega)
          simp [L15_0, R15_0, R15_1, R15_2, R15_3, R15_4, R15_5, R15_6, R15_7, R15_8, R15_9, R15_10, R15_11, Tryd.f15, lpL15_0, lpM15_0, M15_0, q0, q3, q4, hi, ndL_length, ndL_at, ndE, haq, g1, g2, w1, w2, wrap_next hi (by omega : l.length ≤ 9000000000000000000)]
          exact hn _ (by simp [q0]))
        (by
          rintro st next ⟨q0, q3, q4⟩
          simp [L15_0, R15_0, R15_1, R15_2, R15_3, R15_4, R15_5, R15_6, R15_7, R15_8, R15_9, R15_10, R15_11, Tryd.f15, lpL15_0, lpM15_0, M15_0, q0, q3, q4, ndL_length])
      simp [R15_0, R15_1, R15_2, R15_3, R15_4, R15_5, R15_6, R15_7, R15_8, R15_9, R15_10, R15_11, Tryd.f15, lpL15_0, lpM15_0, ndL_length, h15']
      generalize hr : loopRun _ _ _ _ = res
      obtain ⟨s1, rfl, f3⟩ := loop_at hL hr (by simp [runO])
      simp [R15_0, R15_1, R15_2, R15_3, R15_4, R15_5, R15_6, R15_7, R15_8, R15_9, R15_10, R15_11, Tryd.f15, lpL15_0, lpM15_0, M15_0, f3, goodE, h15]
      try (by_cases h1 : runO l l.length = 1 <;> simp [h1])
    · have hL := loopHas (body := fun st => runCode C (callK C (k + 0)) (k + 0) (K 15) L15_0 1 st) (keep := [0, 3, 4]) .ret (fun st => st.ρ 2 = .c (.bool false))
        (fun i st => st.ρ 0 = .sq b true 2 (ndL l) ∧ st.ρ 3 = .c (.int .i64 (runO l i)) ∧ st.ρ 4 = .c (.int .i64 (i : Int)) ∧ 0 ≤ runO l i)
        l.length (k + 0) (by omega)
        (by
          rintro i st next hi ⟨q0, q3, q4, r1⟩ hn
          have r5 := runO_le l i
          have nget := ndL_get l i hi
          have haq := har l[i]
          simp [ndE] at haq
          have hs := runO_succ l i
          rw [getD_nd hi] at hs
          have hca := ar_cases l[i]
          by_cases g1 : arI l[i] < 0
          · simp [L15_0, R15_0, R15_1, R15_2, R15_3, R15_4, R15_5, R15_6, R15_7, R15_8, R15_9, R15_10, R15_11, Tryd.f15, lpL15_0, lpM15_0, M15_0, q0, q3, q4, hi, ndL_length, ndL_at, ndE, haq, g1]
          · by_cases g2 : runO l i < arI l[i]
            · simp [L15_0, R15_0, R15_1, R15_2, R15_3, R15_4, R15_5, R15_6, R15_7, R15_8, R15_9, R15_10, R15_11, Tryd.f15, lpL15_0, lpM15_0, M15_0, q0, q3, q4, hi, ndL_length, ndL_at, ndE, haq, g1, g2]
            · rw [if_neg (by omega)] at hs
              have w1 : IntKind.i64.wrap (runO l i - arI l[i]) = runO l i - arI l[i] := wrap_small (by omega) (by omega)
              have w2 : IntKind.i64.wrap (runO l i - arI l[i] + 1) = runO l (i + 1) := by rw [hs]; exact wrap_small (by omega) (by omega)
              simp [L15_0, R15_0, R15_1, R15_2, R15_3, R15_4, R15_5, R15_6, R15_7, R15_8, R15_9, R15_10, R15_11, Tryd.f15, lpL15_0, lpM15_0, M15_0, q0, q3, q4, hi, ndL_length, ndL_at, ndE, haq, g1, g2, w1, w2, wrap_next hi (by omega : l.length ≤ 9000000000000000000)]
              exact hn _ ⟨by simp [q0], by simp, by simp, by omega⟩)
        (by
          rintro st next ⟨q0, q3, q4, r1⟩
          omega)
      have hg1 : goodE l = false := by
        have : ¬ runO l l.length = 1 := by omega
        simp [goodE, this]
      simp [R15_0, R15_1, R15_2, R15_3, R15_4, R15_5, R15_6, R15_7, R15_8, R15_9, R15_10, R15_11, Tryd.f15, lpL15_0, lpM15_0, ndL_length, h15']
      generalize hr : loopRun _ _ _ _ = res
      obtain ⟨s1, rfl, f2⟩ := loop_at hL hr (by simp [runO])
      simp [R15_0, R15_1, R15_2, R15_3, R15_4, R15_5, R15_6, R15_7, R15_8, R15_9, R15_10, R15_11, Tryd.f15, lpL15_0, lpM15_0, M15_0, f2, hg1]
  · have h15' : (15 : Int) < (l.length : Int) := by omega
    simp [R15_0, R15_1, R15_2, R15_3, R15_4, R15_5, R15_6, R15_7, R15_8, R15_9, R15_10, R15_11, Tryd.f15, lpL15_0, lpM15_0, M15_0, ndL_length, h15', goodE, h15]

end Go.Proofs.YteedcjgmgbcndaaDoor.Eng
namespace Go.Proofs.YteedcjgmgbcndaaDoor.Eng
open Go Go.Proofs
set_option maxRecDepth 100000
set_option maxHeartbeats 2000000
set_option linter.unusedSimpArgs false
set_option linter.unusedVariables false
attribute [local simp] finK fin1 hpOf xi renQ isRoot runCode runOps stepX inlOf Eng.step wantedV astep val ofO made loadV storeV find V.cells bin binT binA numT numFs eqCells un1 setAt fieldAddrV fieldV indexAddrV indexV bounds sliceV convV lenV foldV max2V min2V callO bor rdsO wrsO seen_none okD_none loops keepIds resV resultsV St.ev TK.agg refs refsL refsO V.one V.isC Value.oneCell' ren renL renO noTag noTagL noTagR noTagO nodup mapO passV frs psi refsR newD loopNext opsAt idx flatAt rootOf backR newsV appendV copyV clearV strV bytesV bldV bufV selfV bytesOf nilCmp buildV fillF chunk freeL frzW cellSame sameV
attribute [local simp] cT cF cX cWR cOW cK cBL X ints_length ints_get ints_getElem ints_drop ints_take ints_append ints_nil ints_set
attribute [local simp] ints_replicate
attribute [local simp] putV_some putV_none putH_app applyD_nil applyD_cons seen_app gc_ρ gc_H gc_tick st0_ρ st0_H st0_tick retV callRo callV_if borL_nil borL_cons ints_snoc take_self callWr cutH_app findQ afterV exportV_0 exportV_n okD_nil okD_cons sub_seq0 sub_seq1 sub_cond0 sub_cond1 sub_block sub_loop sub_nil young_far young_none hidW_nil mayW_nil keepsF_nil keepsF_cons pairs okI ok_0 ok_1 ok_2
attribute [local simp] T3 T4 T5 T9 T22 T29 T34 T35 T37 T39 T42 T43 T56
theorem c_IsExpression (k : Nat) (b : Bool) (l : List (Int × Int)) (hk : 100 ≤ k) : callK C k 11 [.sq b true 2 (ndL l)] [] = some (.c (.bool (goodE l)), hpOf [] []) := by
  obtain ⟨k, rfl⟩ : ∃ m, k = m + 1 := ⟨k - 1, by omega⟩
  rw [callK_fn rfl F11 code11]
  by_cases h15 : l.length ≤ 15
  · have h15' : ¬ (15 : Int) < (l.length : Int) := by omega
    have hag := fun q => c_arguments k q (by omega)
    have hnd := fun q => c_isNode k q (by omega)
    by_cases hg : 0 ≤ runO l l.length
    · have hL := loopHas (body := fun st => runCode C (callK C (k + 0)) (k + 0) (K 11) L11_0 1 st) (keep := [3, 9, 10, 11]) (.ex 0) (fun st => st.ρ 3 = .c (.int .i64 (runO l l.length)))
        (fun i st => st.ρ 9 = .sq b true 2 (ndL l) ∧ st.ρ 10 = .c (.int .i64 (l.length : Int)) ∧ st.ρ 3 = .c (.int .i64 (runO l i)) ∧ st.ρ 11 = .c (.int .i64 (i : Int)))
        l.length (k + 0) (by omega)
        (by
          rintro i st next hi ⟨q9, q10, q3, q11⟩ hn
          have hgi : 0 ≤ runO l (i + 1) := runO_mono hg (l.length - (i + 1)) (i + 1) (by omega)
          obtain ⟨r1, r2, r3, r4⟩ := runO_back hgi
          rw [getD_nd hi] at r2 r3 r4
          have r5 := runO_le l i
          have nget := ndL_get l i hi
          have ha := hag l[i]
          have hd := hnd l[i]
          rw [argI_eq r2] at ha
          have g2 : ¬ runO l i - arI l[i] < 0 := by omega
          have w1 : IntKind.i64.wrap (runO l i - arI l[i]) = runO l i - arI l[i] := wrap_small (by omega) (by omega)
          have w2 : IntKind.i64.wrap (runO l i - arI l[i] + 1) = runO l (i + 1) := by rw [r4]; exact wrap_small (by omega) (by omega)
          simp [ndE] at ha hd
          simp [L11_0, R11_0, R11_1, R11_2, R11_3, R11_4, R11_5, R11_6, R11_7, R11_8, R11_9, R11_10, R11_11, R11_12, Tryd.f11, lpL11_0, lpM11_0, M11_0, q9, q10, q3, q11, hi, nget, ndL_at, ndE, ha, hd, r2, g2, w1, w2, wrap_next hi (by omega : l.length ≤ 9000000000000000000)]
          exact hn _ (by simp [q9, q10]))
        (by
          rintro st next ⟨q9, q10, q3, q11⟩
          simp [L11_0, R11_0, R11_1, R11_2, R11_3, R11_4, R11_5, R11_6, R11_7, R11_8, R11_9, R11_10, R11_11, R11_12, Tryd.f11, lpL11_0, lpM11_0, M11_0, q9, q10, q3, q11])
      simp [R11_0, R11_1, R11_2, R11_3, R11_4, R11_5, R11_6, R11_7, R11_8, R11_9, R11_10, R11_11, R11_12, Tryd.f11, lpL11_0, lpM11_0, ndL_length, h15']
      generalize hr : loopRun _ _ _ _ = res
      obtain ⟨s1, rfl, f3⟩ := loop_at hL hr (by simp [runO, ndL_length])
      simp [R11_0, R11_1, R11_2, R11_3, R11_4, R11_5, R11_6, R11_7, R11_8, R11_9, R11_10, R11_11, R11_12, Tryd.f11, lpL11_0, lpM11_0, M11_0, f3, goodE, h15]
      try (by_cases h1 : runO l l.length = 1 <;> simp [h1])
    · have hL := loopHas (body := fun st => runCode C (callK C (k + 0)) (k + 0) (K 11) L11_0 1 st) (keep := [3, 9, 10, 11]) .ret (fun st => st.ρ 2 = .c (.bool false))
        (fun i st => st.ρ 9 = .sq b true 2 (ndL l) ∧ st.ρ 10 = .c (.int .i64 (l.length : Int)) ∧ st.ρ 3 = .c (.int .i64 (runO l i)) ∧ st.ρ 11 = .c (.int .i64 (i : Int)) ∧ 0 ≤ runO l i)
        l.length (k + 0) (by omega)
        (by
          rintro i st next hi ⟨q9, q10, q3, q11, r1⟩ hn
          have r5 := runO_le l i
          have nget := ndL_get l i hi
          have ha := hag l[i]
          have hd := hnd l[i]
          have hs := runO_succ l i
          rw [getD_nd hi] at hs
          have hca := ar_cases l[i]
          obtain ⟨ab1, ab2⟩ := arg_bound l[i]
          have w1 : IntKind.i64.wrap (runO l i - argI l[i]) = runO l i - argI l[i] := wrap_small (by omega) (by omega)
          by_cases g1 : arI l[i] < 0
          · have g1' : ¬ 0 ≤ arI l[i] := by omega
            simp [ndE] at ha hd
            simp [L11_0, R11_0, R11_1, R11_2, R11_3, R11_4, R11_5, R11_6, R11_7, R11_8, R11_9, R11_10, R11_11, R11_12, Tryd.f11, lpL11_0, lpM11_0, M11_0, q9, q10, q3, q11, hi, nget, ndL_at, ndE, ha, hd, w1, g1']
          · have g1' : 0 ≤ arI l[i] := by omega
            rw [argI_eq g1'] at ha w1
            by_cases g2 : runO l i - arI l[i] < 0
            · simp [ndE] at ha hd
              simp [L11_0, R11_0, R11_1, R11_2, R11_3, R11_4, R11_5, R11_6, R11_7, R11_8, R11_9, R11_10, R11_11, R11_12, Tryd.f11, lpL11_0, lpM11_0, M11_0, q9, q10, q3, q11, hi, nget, ndL_at, ndE, ha, hd, w1, g1', g2]
            · rw [if_neg (by omega)] at hs
              have w2 : IntKind.i64.wrap (runO l i - arI l[i] + 1) = runO l (i + 1) := by rw [hs]; exact wrap_small (by omega) (by omega)
              simp [ndE] at ha hd
              simp [L11_0, R11_0, R11_1, R11_2, R11_3, R11_4, R11_5, R11_6, R11_7, R11_8, R11_9, R11_10, R11_11, R11_12, Tryd.f11, lpL11_0, lpM11_0, M11_0, q9, q10, q3, q11, hi, nget, ndL_at, ndE, ha, hd, g1', g2, w1, w2, wrap_next hi (by omega : l.length ≤ 9000000000000000000)]
              exact hn _ ⟨by simp [q9], by simp [q10], by simp, by simp, by omega⟩)
        (by
          rintro st next ⟨q9, q10, q3, q11, r1⟩
          omega)
      have hg1 : goodE l = false := by
        have : ¬ runO l l.length = 1 := by omega
        simp [goodE, this]
      simp [R11_0, R11_1, R11_2, R11_3, R11_4, R11_5, R11_6, R11_7, R11_8, R11_9, R11_10, R11_11, R11_12, Tryd.f11, lpL11_0, lpM11_0, ndL_length, h15']
      generalize hr : loopRun _ _ _ _ = res
      obtain ⟨s1, rfl, f2⟩ := loop_at hL hr (by simp [runO, ndL_length])
      simp [R11_0, R11_1, R11_2, R11_3, R11_4, R11_5, R11_6, R11_7, R11_8, R11_9, R11_10, R11_11, R11_12, Tryd.f11, lpL11_0, lpM11_0, M11_0, f2, hg1]
  · have h15' : (15 : Int) < (l.length : Int) := by omega
    simp [R11_0, R11_1, R11_2, R11_3, R11_4, R11_5, R11_6, R11_7, R11_8, R11_9, R11_10, R11_11, R11_12, Tryd.f11, lpL11_0, lpM11_0, M11_0, ndL_length, h15', goodE, h15]

end Go.Proofs.YteedcjgmgbcndaaDoor.Eng
namespace Go.Proofs.YteedcjgmgbcndaaDoor.Eng
open Go Go.Proofs
set_option maxRecDepth 100000
set_option maxHeartbeats 2000000
set_option linter.unusedSimpArgs false
set_option linter.unusedVariables false
attribute [local simp] finK fin1 hpOf xi renQ isRoot runCode runOps stepX inlOf Eng.step wantedV astep val ofO made loadV storeV find V.cells bin binT binA numT numFs eqCells un1 setAt fieldAddrV fieldV indexAddrV indexV bounds sliceV convV lenV foldV max2V min2V callO bor rdsO wrsO seen_none okD_none loops keepIds resV resultsV St.ev TK.agg refs refsL refsO V.one V.isC Value.oneCell' ren renL renO noTag noTagL noTagR noTagO nodup mapO passV frs psi refsR newD loopNext opsAt idx flatAt rootOf backR newsV appendV copyV clearV strV bytesV bldV bufV selfV bytesOf nilCmp buildV fillF chunk freeL frzW cellSame sameV
attribute [local simp] cT cF cX cWR cOW cK cBL X ints_length ints_get ints_getElem ints_drop ints_take ints_append ints_nil ints_set
attribute [local simp] ints_replicate
attribute [local simp] putV_some putV_none putH_app applyD_nil applyD_cons seen_app gc_ρ gc_H gc_tick st0_ρ st0_H st0_tick retV callRo callV_if borL_nil borL_cons ints_snoc take_self callWr cutH_app findQ afterV exportV_0 exportV_n okD_nil okD_cons sub_seq0 sub_seq1 sub_cond0 sub_cond1 sub_block sub_loop sub_nil young_far young_none hidW_nil mayW_nil keepsF_nil keepsF_cons pairs okI ok_0 ok_1 ok_2
attribute [local simp] T3 T4 T5 T9 T22 T29 T34 T35 T37 T39 T42 T43 T56
theorem c_l5Start (b : Bool) (l : List (Int × Int)) (h15 : l.length ≤ 15) : ∀ (i : Nat), i < l.length → 0 ≤ runO l (i + 1) → ∀ k, i + 10 ≤ k → ∀ a d s, stk l (i + 1) = (a, d) :: s →
    callK C k 28 [.sq b true 2 (ndL l), .c (.int .i64 (i : Int))] [] = some (.c (.int .i64 (a : Int)), hpOf [] []) := by
  intro i
  induction i using Nat.strongRecOn with
  | _ i ih =>
    intro hi h k hk a d s hs
    obtain ⟨k, rfl⟩ : ∃ m, k = m + 1 := ⟨k - 1, by omega⟩
    rw [callK_fn rfl F28 code28]
    obtain ⟨h1, h2, h3, h4⟩ := runO_back h
    have ha := c_l5Arity k (l[i]) (by omega)
    have hg := getD_nd hi
    have hn := ndL_get l i hi
    have hw : IntKind.i64.wrap ((i : Int) - 1) = (i : Int) - 1 := wrap_small (by omega) (by omega)
    simp [ndE] at ha
    rcases ar_cases (l.getD i (0, 0)) with e | e | e | e <;> (have e' := e; rw [hg] at e'; rw [e'] at ha)
    · rw [stk_0 e] at hs
      injection hs with hs1 hs2
      injection hs1 with hs1 hs3
      subst hs1
      simp [R28_0, R28_1, R28_2, R28_3, R28_4, R28_5, R28_6, Tryd.f28, ndL_length, hi, hn, ndL_at, ndE, ha]
    · obtain ⟨j, rfl⟩ : ∃ j, i = j + 1 := by
        cases i with
        | zero => rw [e] at h3; exact absurd h3 (by simp [runO])
        | succ j => exact ⟨j, rfl⟩
      have hj0 : (0 : Int) ≤ (j : Int) + 1 := by omega
      obtain ⟨a', d', ha', hs'⟩ := stk_top j h1
      rw [stk_1 e hs'] at hs
      injection hs with hs1 hs2
      injection hs1 with hs1 hs3
      subst hs1
      have hrec := ih j (by omega) (by omega) h1 k (by omega) a' d' _ hs'
      have hw' : IntKind.i64.wrap (j : Int) = (j : Int) := wrap_small (by omega) (by omega)
      try simp at hn
      try simp at ha
      try simp at hi
      simp [R28_0, R28_1, R28_2, R28_3, R28_4, R28_5, R28_6, Tryd.f28, ndL_length, hi, hn, ndL_at, ndE, ha, hj0, hw', hrec]
    · obtain ⟨j, rfl⟩ : ∃ j, i = j + 1 := by
        cases i with
        | zero => rw [e] at h3; exact absurd h3 (by simp [runO])
        | succ j => exact ⟨j, rfl⟩
      have hj0 : (0 : Int) ≤ (j : Int) + 1 := by omega
      obtain ⟨a2, d2, ha2, hs'⟩ := stk_top j h1
      have hl := stk_len (j + 1) h1
      have ha0 : 0 ≤ runO l a2 := runO_mono h1 (j + 1 - a2) a2 (by omega)
      have hla := stk_len a2 ha0
      rw [hs'] at hl
      simp only [List.length_cons] at hl
      obtain ⟨c, rfl⟩ : ∃ c, a2 = c + 1 := by
        cases a2 with
        | zero => simp only [stk, List.length_nil] at hl; omega
        | succ c => exact ⟨c, rfl⟩
      obtain ⟨a1, d1, ha1, hs1⟩ := stk_top c ha0
      rw [stk_2 e (by rw [hs', hs1])] at hs
      injection hs with hs2 hs3
      injection hs2 with hs2 hs4
      subst hs2
      have hrec1 := ih j (by omega) (by omega) h1 k (by omega) (c + 1) d2 _ hs'
      have hrec2 := ih c (by omega) (by omega) ha0 k (by omega) a1 d1 _ hs1
      have hw' : IntKind.i64.wrap (j : Int) = (j : Int) := wrap_small (by omega) (by omega)
      have hw2 : IntKind.i64.wrap (c : Int) = (c : Int) := wrap_small (by omega) (by omega)
      try simp at hn
      try simp at ha
      try simp at hi
      try simp at hrec1
      simp [R28_0, R28_1, R28_2, R28_3, R28_4, R28_5, R28_6, Tryd.f28, ndL_length, hi, hn, ndL_at, ndE, ha, hj0, hw', hw2, hrec1, hrec2]
    · omega

end Go.Proofs.YteedcjgmgbcndaaDoor.Eng
namespace Go.Proofs.YteedcjgmgbcndaaDoor.Eng
open Go Go.Proofs
set_option maxRecDepth 100000
set_option maxHeartbeats 2000000
set_option linter.unusedSimpArgs false
set_option linter.unusedVariables false
attribute [local simp] finK fin1 hpOf xi renQ isRoot runCode runOps stepX inlOf Eng.step wantedV astep val ofO made loadV storeV find V.cells bin binT binA numT numFs eqCells un1 setAt fieldAddrV fieldV indexAddrV indexV bounds sliceV convV lenV foldV max2V min2V callO bor rdsO wrsO seen_none okD_none loops keepIds resV resultsV St.ev TK.agg refs refsL refsO V.one V.isC Value.oneCell' ren renL renO noTag noTagL noTagR noTagO nodup mapO passV frs psi refsR newD loopNext opsAt idx flatAt rootOf backR newsV appendV copyV clearV strV bytesV bldV bufV selfV bytesOf nilCmp buildV fillF chunk freeL frzW cellSame sameV
attribute [local simp] cT cF cX cWR cOW cK cBL X ints_length ints_get ints_getElem ints_drop ints_take ints_append ints_nil ints_set
attribute [local simp] ints_replicate
attribute [local simp] putV_some putV_none putH_app applyD_nil applyD_cons seen_app gc_ρ gc_H gc_tick st0_ρ st0_H st0_tick retV callRo callV_if borL_nil borL_cons ints_snoc take_self callWr cutH_app findQ afterV exportV_0 exportV_n okD_nil okD_cons sub_seq0 sub_seq1 sub_cond0 sub_cond1 sub_block sub_loop sub_nil young_far young_none hidW_nil mayW_nil keepsF_nil keepsF_cons pairs okI ok_0 ok_1 ok_2
attribute [local simp] T3 T4 T5 T9 T22 T29 T34 T35 T37 T39 T42 T43 T56
def fillG {α : Type} (l m : List α) (i : Nat) : List α := l.take i ++ m.drop i
theorem fillG_zero {α : Type} (l m : List α) : fillG l m 0 = m := by simp [fillG]
theorem fillG_all {α : Type} (l m : List α) (h : m.length ≤ l.length) : fillG l m l.length = l := by simp [fillG, List.drop_eq_nil_of_le h]
theorem fillG_length {α : Type} (l m : List α) (i : Nat) (h : m.length = l.length) : (fillG l m i).length = l.length := by simp [fillG]; omega
theorem fillG_get {α : Type} (l m : List α) (i : Nat) (h : m.length = l.length) (hi : i < l.length) : (fillG l m i)[i]? = some (m[i]'(by omega)) := by
  unfold fillG
  rw [List.getElem?_append_right (by simp; omega)]
  have : i - (l.take i).length = 0 := by simp; omega
  rw [this, List.getElem?_drop, List.getElem?_eq_getElem (by omega)]
  rfl
theorem fillG_set {α : Type} (l m : List α) (i : Nat) (h : m.length = l.length) (hi : i < l.length) : (fillG l m i).set i l[i] = fillG l m (i + 1) := by
  unfold fillG
  rw [List.set_append, if_neg (by simp; omega)]
  have : i - (l.take i).length = 0 := by simp; omega
  rw [this, List.drop_eq_getElem_cons (by omega : i < m.length), List.set_cons_zero, List.take_succ_eq_append_getElem hi, List.append_assoc]
  rfl
def ndO (l : List (Int × Int)) : Eng.Obj := ⟨34, 2, true, ndL l⟩
theorem ndL_set (l : List (Int × Int)) (i : Nat) (a : Int × Int) : (ndL l).set i (ndE a) = ndL (l.set i a) := by simp [ndL, List.map_set]
theorem ndL_fill_get {l m : List (Int × Int)} {i : Nat} (h : m.length = l.length) (hi : i < l.length) : (ndL (fillG l m i))[i]? = some (ndE (m[i]'(by omega))) := by
  unfold ndL
  rw [List.getElem?_map, fillG_get l m i h hi]
  rfl
theorem ndL_fill_set {l m : List (Int × Int)} {i : Nat} (h : m.length = l.length) (hi : i < l.length) : (ndL (fillG l m i)).set i (ndE l[i]) = ndL (fillG l m (i + 1)) := by rw [ndL_set, fillG_set l m i h hi]
theorem ndL_replicate (n : Nat) : List.replicate n [V.c (.int .i64 0), V.c (.int .i64 0)] = ndL (List.replicate n (0, 0)) := by simp [ndL, ndE]
theorem okN (ty : TypeId) (l : List (Int × Int)) : okObj ⟨ty, 2, true, ndL l⟩ = true := by simp [okObj, ndL, ndE, V.one, V.isC, Value.oneCell']
theorem c_eqNode (k : Nat) (q r : Int × Int) (hk : 1 ≤ k) : callK C k 13 [.ag (ndE q), .ag (ndE r)] [] = some (.c (.bool (decide (q = r))), hpOf [] []) := by
  obtain ⟨k, rfl⟩ : ∃ m, k = m + 1 := ⟨k - 1, by omega⟩
  rw [callK_fn rfl F13 code13]
  obtain ⟨a, b⟩ := q
  obtain ⟨c, d⟩ := r
  by_cases h1 : a = c
  · subst h1
    by_cases h2 : b = d
    · subst h2; simp [R13_0, R13_1, R13_2, R13_3, R13_4, R13_5, Tryd.f13, ndE]
    · simp [R13_0, R13_1, R13_2, R13_3, R13_4, R13_5, Tryd.f13, ndE, h2]
  · simp [R13_0, R13_1, R13_2, R13_3, R13_4, R13_5, Tryd.f13, ndE, h1]
theorem c_eqNodeS (k : Nat) (b c : Bool) (l m : List (Int × Int)) (hl : l.length ≤ 1048576) (hk : l.length + 10 ≤ k) : callK C k 6 [.sq b true 2 (ndL l), .sq c true 2 (ndL m)] [] = some (.c (.bool (decide (l = m))), hpOf [] []) := by
  obtain ⟨k, rfl⟩ : ∃ m, k = m + 3 := ⟨k - 3, by omega⟩
  rw [callK_fn rfl F6 code6]
  have heq := fun q r => c_eqNode (k + 2) q r (by omega)
  simp [ndE] at heq
  by_cases hlm : l = m
  · subst hlm
    have hL := loopHas (body := fun st => runCode C (callK C (k + 2)) (k + 2) (K 6) L6_0 1 st) (keep := [0, 1, 5]) (.ex 0) (fun st => True)
      (fun i st => st.ρ 0 = .sq b true 2 (ndL l) ∧ st.ρ 1 = .sq c true 2 (ndL l) ∧ st.ρ 5 = .c (.int .i64 (i : Int)))
      l.length (k + 2) (by omega)
      (by
        rintro i st next hi ⟨h0, h1, h5⟩ hn
        have nget := ndL_get l i hi
        simp [L6_0, R6_0, R6_1, R6_2, R6_3, R6_4, R6_5, R6_6, R6_7, R6_8, Tryd.f6, lpL6_0, lpM6_0, M6_0, h0, h1, h5, hi, ndL_length, nget, ndL_at, ndE, heq, wrap_next hi (by omega : l.length ≤ 9000000000000000000)]
        simp only [and_true] at hn
        refine hn _ ⟨?_, ?_, ?_⟩ <;> simp [h0, h1])
      (by
        rintro st next ⟨h0, h1, h5⟩
        simp [L6_0, R6_0, R6_1, R6_2, R6_3, R6_4, R6_5, R6_6, R6_7, R6_8, Tryd.f6, lpL6_0, lpM6_0, M6_0, h0, h1, h5, ndL_length])
    simp [R6_0, R6_1, R6_2, R6_3, R6_4, R6_5, R6_6, R6_7, R6_8, Tryd.f6, lpL6_0, lpM6_0, ndL_length]
    generalize hr : loopRun _ _ _ _ = res
    obtain ⟨s1, rfl, _⟩ := loop_at hL hr (by simp)
    simp [R6_0, R6_1, R6_2, R6_3, R6_4, R6_5, R6_6, R6_7, R6_8, Tryd.f6, lpL6_0, lpM6_0, M6_0]
  · by_cases hll : l.length = m.length
    · have hL := loopHas (body := fun st => runCode C (callK C (k + 2)) (k + 2) (K 6) L6_0 1 st) (keep := [0, 1, 5]) .ret (fun st => st.ρ 4 = .c (.bool false))
        (fun i st => st.ρ 0 = .sq b true 2 (ndL l) ∧ st.ρ 1 = .sq c true 2 (ndL m) ∧ st.ρ 5 = .c (.int .i64 (i : Int)) ∧ l.take i = m.take i)
        l.length (k + 2) (by omega)
        (by
          rintro i st next hi ⟨h0, h1, h5, ht⟩ hn
          have hi' : i < m.length := by omega
          have nget := ndL_get l i hi
          have nget' := ndL_get m i hi'
          by_cases hx : l[i] = m[i]
          · have ht' : l.take (i + 1) = m.take (i + 1) := by rw [List.take_succ_eq_append_getElem hi, List.take_succ_eq_append_getElem hi', ht, hx]
            simp [L6_0, R6_0, R6_1, R6_2, R6_3, R6_4, R6_5, R6_6, R6_7, R6_8, Tryd.f6, lpL6_0, lpM6_0, M6_0, h0, h1, h5, hi, hi', ndL_length, nget, nget', ndL_at, ndE, heq, hx, wrap_next hi (by omega : l.length ≤ 9000000000000000000)]
            exact hn _ ⟨by simp [h0], by simp [h1], by simp, ht'⟩
          · have hx' : (l[i].1 = m[i].1 → ¬ l[i].2 = m[i].2) := fun e1 e2 => hx (Prod.ext e1 e2)
            have hx3 : ¬ l[i].1 = m[i].1 ∨ ¬ l[i].2 = m[i].2 := by
              by_cases e1 : l[i].1 = m[i].1
              · exact .inr (hx' e1)
              · exact .inl e1
            simp [L6_0, R6_0, R6_1, R6_2, R6_3, R6_4, R6_5, R6_6, R6_7, R6_8, Tryd.f6, lpL6_0, lpM6_0, M6_0, h0, h1, h5, hi, hi', ndL_length, nget, nget', ndL_at, ndE, heq, hx3])
        (by
          rintro st next ⟨h0, h1, h5, ht⟩
          rw [List.take_of_length_le (by omega), List.take_of_length_le (by omega)] at ht
          exact absurd ht hlm)
      have hll' : (l.length : Int) = m.length := by omega
      simp [R6_0, R6_1, R6_2, R6_3, R6_4, R6_5, R6_6, R6_7, R6_8, Tryd.f6, lpL6_0, lpM6_0, ndL_length, hll]
      generalize hr : loopRun _ _ _ _ = res
      obtain ⟨s1, rfl, f4⟩ := loop_at hL hr ⟨by simp, by simp, by simp, by simp⟩
      simp [R6_0, R6_1, R6_2, R6_3, R6_4, R6_5, R6_6, R6_7, R6_8, Tryd.f6, lpL6_0, lpM6_0, M6_0, f4, hlm]
    · have hll' : ¬ (l.length : Int) = m.length := by omega
      simp [R6_0, R6_1, R6_2, R6_3, R6_4, R6_5, R6_6, R6_7, R6_8, Tryd.f6, lpL6_0, lpM6_0, M6_0, ndL_length, hlm, hll']

end Go.Proofs.YteedcjgmgbcndaaDoor.Eng
namespace Go.Proofs.YteedcjgmgbcndaaDoor.Eng
open Go Go.Proofs
set_option maxRecDepth 100000
set_option maxHeartbeats 2000000
set_option linter.unusedSimpArgs false
set_option linter.unusedVariables false
attribute [local simp] finK fin1 hpOf xi renQ isRoot runCode runOps stepX inlOf Eng.step wantedV astep val ofO made loadV storeV find V.cells bin binT binA numT numFs eqCells un1 setAt fieldAddrV fieldV indexAddrV indexV bounds sliceV convV lenV foldV max2V min2V callO bor rdsO wrsO seen_none okD_none loops keepIds resV resultsV St.ev TK.agg refs refsL refsO V.one V.isC Value.oneCell' ren renL renO noTag noTagL noTagR noTagO nodup mapO passV frs psi refsR newD loopNext opsAt idx flatAt rootOf backR newsV appendV copyV clearV strV bytesV bldV bufV selfV bytesOf nilCmp buildV fillF chunk freeL frzW cellSame sameV
attribute [local simp] cT cF cX cWR cOW cK cBL X ints_length ints_get ints_getElem ints_drop ints_take ints_append ints_nil ints_set
attribute [local simp] ints_replicate
attribute [local simp] putV_some putV_none putH_app applyD_nil applyD_cons seen_app gc_ρ gc_H gc_tick st0_ρ st0_H st0_tick retV callRo callV_if borL_nil borL_cons ints_snoc take_self callWr cutH_app findQ afterV exportV_0 exportV_n okD_nil okD_cons sub_seq0 sub_seq1 sub_cond0 sub_cond1 sub_block sub_loop sub_nil young_far young_none hidW_nil mayW_nil keepsF_nil keepsF_cons pairs okI ok_0 ok_1 ok_2
attribute [local simp] T3 T4 T5 T9 T22 T29 T34 T35 T37 T39 T42 T43 T56
def mkN (n : Int) (len : Nat) : List (Int × Int) := (List.range len).map fun i => (n + 2 * ((i : Nat) : Int), n + 2 * ((i : Nat) : Int) + 1)
theorem mkN_len (n : Int) (len : Nat) : (mkN n len).length = len := by simp [mkN]
def fillN (n : Int) (A : List (Int × Int)) (i : Nat) : List (Int × Int) := mkN n i ++ A.drop i
theorem fillN_get (n : Int) (A : List (Int × Int)) (i : Nat) (h : i < A.length) : (ndL (fillN n A i))[i]? = some (ndE A[i]) := by
  have : (fillN n A i)[i]? = some A[i] := by
    unfold fillN
    rw [List.getElem?_append_right (by rw [mkN_len]; exact Nat.le_refl _), mkN_len, Nat.sub_self, List.getElem?_drop, Nat.add_zero, List.getElem?_eq_getElem h]
  simp [ndL, this]
theorem fillN_set (n : Int) (A : List (Int × Int)) (i : Nat) (h : i < A.length) : (ndL (fillN n A i)).set i [.c (.int .i64 (n + 2 * (i : Int))), .c (.int .i64 (n + 2 * (i : Int) + 1))] = ndL (fillN n A (i + 1)) := by
  have e : (fillN n A i).set i (n + 2 * (i : Int), n + 2 * (i : Int) + 1) = fillN n A (i + 1) := by
    unfold fillN
    rw [List.set_append, if_neg (by rw [mkN_len]; omega), mkN_len, Nat.sub_self, List.drop_eq_getElem_cons h, List.set_cons_zero]
    have : mkN n (i + 1) = mkN n i ++ [(n + 2 * (i : Int), n + 2 * (i : Int) + 1)] := by simp [mkN, List.range_succ]
    rw [this, List.append_assoc]
    rfl
  rw [← e, ← ndL_set]
  rfl
theorem c_markNodeS (k : Nat) (A : List (Int × Int)) (n : Int) (hl : A.length ≤ 1048576) (hn0 : -1000000 ≤ n) (hn1 : n ≤ 100000000000) (hk : A.length + 10 ≤ k) : callK C k 7 [.s 0 0 2 0 A.length, .c (.int .i64 n)] [ndO A] = some (.c (.int .i64 (n + 2 * A.length)), hpOf [some (ndO (fillN n A A.length))] []) := by
  obtain ⟨k, rfl⟩ : ∃ m, k = m + 3 := ⟨k - 3, by omega⟩
  rw [callK_fn rfl F7 code7]
  have hL := loopHas (body := fun st => runCode C (callK C (k + 2)) (k + 2) (K 7) L7_0 1 st) (keep := [0, 1, 5]) (.ex 0) (fun st => st.ρ 1 = .c (.int .i64 (n + 2 * A.length)) ∧ st.H 0 = some (0, ndO (fillN n A A.length)))
    (fun i st => st.ρ 0 = .s 0 0 2 0 A.length ∧ st.ρ 1 = .c (.int .i64 (n + 2 * (i : Int))) ∧ st.H 0 = some (0, ndO (fillN n A i)) ∧ st.ρ 5 = .c (.int .i64 (i : Int)))
    A.length (k + 2) (by omega)
    (by
      rintro i st next hi ⟨h0, h1, hH, h5⟩ hn
      have hg := fillN_get n A i hi
      have hs := fillN_set n A i hi
      obtain ⟨_, hg2⟩ := List.getElem?_eq_some_iff.1 hg
      simp [ndE] at hg2
      have w1 : IntKind.i64.wrap (n + 2 * (i : Int) + 1) = n + 2 * (i : Int) + 1 := wrap_small (by omega) (by omega)
      have w2 : IntKind.i64.wrap (n + 2 * (i : Int) + 1 + 1) = n + 2 * ((i : Int) + 1) := by rw [wrap_small (by omega) (by omega)]; omega
      have hlen : i < (ndL (fillN n A i)).length := by rw [ndL_length]; unfold fillN; rw [List.length_append, mkN_len, List.length_drop]; omega
      simp [ndE] at hg
      simp [L7_0, R7_0, R7_1, R7_2, R7_3, R7_4, R7_5, R7_6, R7_7, R7_8, Tryd.f7, lpL7_0, lpM7_0, M7_0, h0, h1, h5, hH, hi, ndO, wrap_next hi (by omega : A.length ≤ 9000000000000000000), hg2, hs, hlen, w1, w2]
      refine hn _ ⟨?_, ?_, ?_, ?_⟩ <;> simp [h0, ndO])
    (by
      rintro st next ⟨h0, h1, hH, h5⟩
      simp [L7_0, R7_0, R7_1, R7_2, R7_3, R7_4, R7_5, R7_6, R7_7, R7_8, Tryd.f7, lpL7_0, lpM7_0, M7_0, h0, h1, h5, hH, ndO])
  simp [R7_0, R7_1, R7_2, R7_3, R7_4, R7_5, R7_6, R7_7, R7_8, Tryd.f7, lpL7_0, lpM7_0]
  generalize hr2 : loopRun _ _ _ _ = res
  obtain ⟨s1, rfl, f1, F0⟩ := loop_at hL hr2 ⟨by simp, by simp, by simp [fillN, mkN], by simp⟩
  simp [R7_0, R7_1, R7_2, R7_3, R7_4, R7_5, R7_6, R7_7, R7_8, Tryd.f7, lpL7_0, lpM7_0, M7_0, f1, F0, ndO]

end Go.Proofs.YteedcjgmgbcndaaDoor.Eng
namespace Go.Proofs.YteedcjgmgbcndaaDoor.Eng
open Go Go.Proofs
set_option maxRecDepth 100000
set_option maxHeartbeats 2000000
set_option linter.unusedSimpArgs false
set_option linter.unusedVariables false
attribute [local simp] finK fin1 hpOf xi renQ isRoot runCode runOps stepX inlOf Eng.step wantedV astep val ofO made loadV storeV find V.cells bin binT binA numT numFs eqCells un1 setAt fieldAddrV fieldV indexAddrV indexV bounds sliceV convV lenV foldV max2V min2V callO bor rdsO wrsO seen_none okD_none loops keepIds resV resultsV St.ev TK.agg refs refsL refsO V.one V.isC Value.oneCell' ren renL renO noTag noTagL noTagR noTagO nodup mapO passV frs psi refsR newD loopNext opsAt idx flatAt rootOf backR newsV appendV copyV clearV strV bytesV bldV bufV selfV bytesOf nilCmp buildV fillF chunk freeL frzW cellSame sameV
attribute [local simp] cT cF cX cWR cOW cK cBL X ints_length ints_get ints_getElem ints_drop ints_take ints_append ints_nil ints_set
attribute [local simp] ints_replicate
attribute [local simp] putV_some putV_none putH_app applyD_nil applyD_cons seen_app gc_ρ gc_H gc_tick st0_ρ st0_H st0_tick retV callRo callV_if borL_nil borL_cons ints_snoc take_self callWr cutH_app findQ afterV exportV_0 exportV_n okD_nil okD_cons sub_seq0 sub_seq1 sub_cond0 sub_cond1 sub_block sub_loop sub_nil young_far young_none hidW_nil mayW_nil keepsF_nil keepsF_cons pairs okI ok_0 ok_1 ok_2
attribute [local simp] T3 T4 T5 T9 T22 T29 T34 T35 T37 T39 T42 T43 T56
attribute [local simp] young_near clo cloF Region.binds Nat.testBit hidW declW mayW List.findIdx?_cons
theorem mkN_at (n : Int) (len i : Nat) (h : i < len) : (ndL (mkN n len))[i]? = some [V.c (.int .i64 (n + 2 * (i : Int))), V.c (.int .i64 (n + 2 * (i : Int) + 1))] := by
  simp [ndL, mkN, ndE, h]
theorem c_heldNodeS (k : Nat) (b : Bool) (n : Nat) (hn : n ≤ 1000) (hk : n + 10 ≤ k) : callK C k 8 [.sq b true 2 (ndL (mkN 1 n)), .c (.int .i64 1)] [] = some (.c (.int .i64 (1 + 2 * (n : Int))), hpOf [] []) := by
  obtain ⟨k, rfl⟩ : ∃ m, k = m + 3 := ⟨k - 3, by omega⟩
  rw [callK_fn rfl F8 code8]
  have hlen : (mkN 1 n).length = n := mkN_len 1 n
  have hL := loopHas (body := fun st => runCode C (callK C (k + 2)) (k + 2) (K 8) L8_0 1 st) (keep := [0, 1, 5]) (.ex 0) (fun st => st.ρ 1 = .c (.int .i64 (1 + 2 * (n : Int))))
    (fun i st => st.ρ 0 = .sq b true 2 (ndL (mkN 1 n)) ∧ st.ρ 1 = .c (.int .i64 (1 + 2 * (i : Int))) ∧ st.ρ 5 = .c (.int .i64 (i : Int)))
    n (k + 2) (by omega)
    (by
      rintro i st next hi ⟨h0, h1, h5⟩ hx
      have hg := mkN_at 1 n i hi
      obtain ⟨_, hg2⟩ := List.getElem?_eq_some_iff.1 hg
      have w1 : IntKind.i64.wrap (1 + 2 * (i : Int) + 1) = 1 + 2 * (i : Int) + 1 := wrap_small (by omega) (by omega)
      have w2 : IntKind.i64.wrap (1 + 2 * (i : Int) + 1 + 1) = 1 + 2 * ((i : Int) + 1) := by rw [wrap_small (by omega) (by omega)]; omega
      simp [L8_0, R8_0, R8_1, R8_2, R8_3, R8_4, R8_5, R8_6, R8_7, R8_8, R8_9, R8_10, Tryd.f8, lpL8_0, lpM8_0, M8_0, h0, h1, h5, hi, hg, hg2, hlen, ndL_length, w1, w2, wrap_next hi (by omega : n ≤ 9000000000000000000)]
      exact hx _ ⟨by simp [h0], by simp, by simp⟩)
    (by
      rintro st next ⟨h0, h1, h5⟩
      simp [L8_0, R8_0, R8_1, R8_2, R8_3, R8_4, R8_5, R8_6, R8_7, R8_8, R8_9, R8_10, Tryd.f8, lpL8_0, lpM8_0, M8_0, h0, h1, h5, hlen, ndL_length])
  simp [R8_0, R8_1, R8_2, R8_3, R8_4, R8_5, R8_6, R8_7, R8_8, R8_9, R8_10, Tryd.f8, lpL8_0, lpM8_0]
  generalize hr2 : loopRun _ _ _ _ = res
  obtain ⟨s1, rfl, f1⟩ := loop_at hL hr2 ⟨by simp, by simp, by simp⟩
  simp [R8_0, R8_1, R8_2, R8_3, R8_4, R8_5, R8_6, R8_7, R8_8, R8_9, R8_10, Tryd.f8, lpL8_0, lpM8_0, M8_0, f1]
theorem c_heldNodeNil (k : Nat) (hk : 10 ≤ k) : callK C k 8 [.c (.slice none 0 0), .c (.int .i64 1)] [] = some (.c (.int .i64 1), hpOf [] []) := by
  obtain ⟨k, rfl⟩ : ∃ m, k = m + 3 := ⟨k - 3, by omega⟩
  rw [callK_fn rfl F8 code8]
  simp [R8_0, R8_1, R8_2, R8_3, R8_4, R8_5, R8_6, R8_7, R8_8, R8_9, R8_10, Tryd.f8, lpL8_0, lpM8_0, M8_0, L8_0, loopRun_succ]
theorem c_markNodeNil (k : Nat) (hk : 10 ≤ k) : callK C k 7 [.c (.slice none 0 0), .c (.int .i64 1)] [] = some (.c (.int .i64 1), hpOf [] []) := by
  obtain ⟨k, rfl⟩ : ∃ m, k = m + 3 := ⟨k - 3, by omega⟩
  rw [callK_fn rfl F7 code7]
  simp [R7_0, R7_1, R7_2, R7_3, R7_4, R7_5, R7_6, R7_7, R7_8, Tryd.f7, lpL7_0, lpM7_0, M7_0, L7_0, loopRun_succ]
theorem c_eqNodeNil (k : Nat) (b : Bool) (hk : 10 ≤ k) : callK C k 6 [.c (.slice none 0 0), .sq b true 2 []] [] = some (.c (.bool true), hpOf [] []) := by
  obtain ⟨k, rfl⟩ : ∃ m, k = m + 3 := ⟨k - 3, by omega⟩
  rw [callK_fn rfl F6 code6]
  simp [R6_0, R6_1, R6_2, R6_3, R6_4, R6_5, R6_6, R6_7, R6_8, Tryd.f6, lpL6_0, lpM6_0, M6_0, L6_0, loopRun_succ]

end Go.Proofs.YteedcjgmgbcndaaDoor.Eng
namespace Go.Proofs.YteedcjgmgbcndaaDoor.Eng
open Go Go.Proofs
set_option maxRecDepth 100000
set_option maxHeartbeats 2000000
set_option linter.unusedSimpArgs false
set_option linter.unusedVariables false
attribute [local simp] finK fin1 hpOf xi renQ isRoot runCode runOps stepX inlOf Eng.step wantedV astep val ofO made loadV storeV find V.cells bin binT binA numT numFs eqCells un1 setAt fieldAddrV fieldV indexAddrV indexV bounds sliceV convV lenV foldV max2V min2V callO bor rdsO wrsO seen_none okD_none loops keepIds resV resultsV St.ev TK.agg refs refsL refsO V.one V.isC Value.oneCell' ren renL renO noTag noTagL noTagR noTagO nodup mapO passV frs psi refsR newD loopNext opsAt idx flatAt rootOf backR newsV appendV copyV clearV strV bytesV bldV bufV selfV bytesOf nilCmp buildV fillF chunk freeL frzW cellSame sameV
attribute [local simp] cT cF cX cWR cOW cK cBL X ints_length ints_get ints_getElem ints_drop ints_take ints_append ints_nil ints_set
attribute [local simp] ints_replicate
attribute [local simp] putV_some putV_none putH_app applyD_nil applyD_cons seen_app gc_ρ gc_H gc_tick st0_ρ st0_H st0_tick retV callRo callV_if borL_nil borL_cons ints_snoc take_self callWr cutH_app findQ afterV exportV_0 exportV_n okD_nil okD_cons sub_seq0 sub_seq1 sub_cond0 sub_cond1 sub_block sub_loop sub_nil young_far young_none hidW_nil mayW_nil keepsF_nil keepsF_cons pairs okI ok_0 ok_1 ok_2
attribute [local simp] T3 T4 T5 T9 T22 T29 T34 T35 T37 T39 T42 T43 T56
def bs (l : List UInt8) : ByteArray := ⟨l.toArray⟩
theorem bs_size (l : List UInt8) : (bs l).size = l.length := by simp [bs, ByteArray.size]
theorem bs_append (l m : List UInt8) : bs l ++ bs m = bs (l ++ m) := by
  apply ByteArray.ext
  simp [bs]
theorem dig_slice (c : Nat) (h : c < 10) : sliceV T 9 (.c (.string ⟨#[48, 49, 50, 51, 52, 53, 54, 55, 56, 57]⟩)) (some (.c (.int .i64 (c : Int)))) (some (.c (.int .i64 ((c : Int) + 1)))) none = some (.c (.string (bs [UInt8.ofNat (48 + c)]))) := by
  have : c = 0 ∨ c = 1 ∨ c = 2 ∨ c = 3 ∨ c = 4 ∨ c = 5 ∨ c = 6 ∨ c = 7 ∨ c = 8 ∨ c = 9 := by omega
  rcases this with rfl | rfl | rfl | rfl | rfl | rfl | rfl | rfl | rfl | rfl <;> rfl
theorem dec_length {u : Nat} (h : u ≤ 9223372036854775807) : (Lib.decDigits u).length ≤ 21 := by
  have := Lib.itoa_length_le (u : Int) (by omega) (by omega)
  rwa [Lib.itoa_nonneg] at this
theorem c_l1NumNat : ∀ m u : Nat, u < 10 ^ m → u ≤ 1000000000000 → ∀ k, m + 1 ≤ k → callK C k 27 [.c (.int .i64 (u : Int))] [] = some (.c (.string (bs (Lib.decDigits u))), hpOf [] []) := by
  intro m
  induction m with
  | zero =>
    intro u hu _ k hk
    obtain rfl : u = 0 := by omega
    obtain ⟨k, rfl⟩ : ∃ m, k = m + 1 := ⟨k - 1, by omega⟩
    rw [callK_fn rfl F27 code27]
    have hd := dig_slice 0 (by omega)
    have e : Lib.decDigits 0 = [UInt8.ofNat (48 + 0)] := Lib.decDigits_one (by omega)
    simp [-sliceV] at hd
    simp [-sliceV, R27_0, R27_1, R27_2, R27_3, R27_4, R27_5, Tryd.f27, hd, e, wrap_1]
  | succ m ih =>
    intro u hu hu' k hk
    obtain ⟨k, rfl⟩ : ∃ m, k = m + 1 := ⟨k - 1, by omega⟩
    rw [callK_fn rfl F27 code27]
    by_cases h : u < 10
    · have hd := dig_slice u h
      have e := Lib.decDigits_one h
      have w1 : IntKind.i64.wrap ((u : Int) + 1) = (u : Int) + 1 := wrap_small (by omega) (by omega)
      have g1 : ¬ ((u : Int) < 0) := by omega
      have g2 : (u : Int) < 10 := by omega
      simp [-sliceV, R27_0, R27_1, R27_2, R27_3, R27_4, R27_5, Tryd.f27, hd, e, w1, g1, g2]
    · rw [Nat.pow_succ] at hu
      obtain ⟨q, hq⟩ : ∃ q, u / 10 = q := ⟨_, rfl⟩
      obtain ⟨c, hc⟩ : ∃ c, u % 10 = c := ⟨_, rfl⟩
      have hr := ih q (by omega) (by omega) k (by omega)
      have hd := dig_slice c (by omega)
      have e1 : (u : Int) / 10 = (q : Int) := by omega
      have e2 : (u : Int).tmod 10 = (c : Int) := by rw [← hc]; rfl
      have e3 : Lib.decDigits u = Lib.decDigits q ++ [UInt8.ofNat (48 + c)] := by rw [Lib.decDigits, dif_neg h, hq, hc]
      have w0 : IntKind.i64.wrap (q : Int) = (q : Int) := wrap_small (by omega) (by omega)
      have w1 : IntKind.i64.wrap ((c : Int) + 1) = (c : Int) + 1 := wrap_small (by omega) (by omega)
      have g1 : ¬ ((u : Int) < 0) := by omega
      have g2 : ¬ ((u : Int) < 10) := by omega
      have l1 := dec_length (u := q) (by omega)
      have l2 : (Lib.decDigits q).length + 1 ≤ 9223372036854775807 := by omega
      simp [-sliceV, R27_0, R27_1, R27_2, R27_3, R27_4, R27_5, Tryd.f27, hr, hd, e1, e2, e3, w0, w1, g1, g2, bs_size, bs_append, l2]
theorem c_l1Num (k : Nat) (n : Int) (h0 : -1000000000000 ≤ n) (h1 : n ≤ 1000000000000) (hk : 30 ≤ k) : callK C k 27 [.c (.int .i64 n)] [] = some (.c (.string (bs (Lib.itoa n))), hpOf [] []) := by
  by_cases h : n < 0
  · obtain ⟨k, rfl⟩ : ∃ m, k = m + 1 := ⟨k - 1, by omega⟩
    rw [callK_fn rfl F27 code27]
    obtain ⟨u, rfl⟩ : ∃ u : Nat, n = -(u : Int) := ⟨n.natAbs, by omega⟩
    have hr := c_l1NumNat 13 u (by omega) (by omega) k (by omega)
    have e : Lib.itoa (-(u : Int)) = 45 :: Lib.decDigits u := Lib.itoa_neg u (by omega)
    have w1 : IntKind.i64.wrap (u : Int) = (u : Int) := wrap_small (by omega) (by omega)
    have l1 := dec_length (u := u) (by omega)
    have l2 : 1 + (Lib.decDigits u).length ≤ 9223372036854775807 := by omega
    have b1 : (⟨#[45]⟩ : ByteArray) = bs [45] := rfl
    have hu : 0 < u := by omega
    simp [R27_0, R27_1, R27_2, R27_3, R27_4, R27_5, Tryd.f27, hr, e, w1, b1, bs_size, bs_append, l2, hu]
  · obtain ⟨u, rfl⟩ : ∃ u : Nat, n = (u : Int) := ⟨n.toNat, by omega⟩
    rw [Lib.itoa_nonneg]
    exact c_l1NumNat 13 u (by omega) (by omega) k (by omega)
theorem c_Itoa (k : Nat) (n : Int) (h0 : -9223372036854775808 ≤ n) (h1 : n ≤ 9223372036854775807) (hk : 1 ≤ k) : callK C k 21 [.c (.int .i64 n)] [] = some (.c (.string (bs (Lib.itoa n))), hpOf [] []) := by
  obtain ⟨k, rfl⟩ : ∃ m, k = m + 1 := ⟨k - 1, by omega⟩
  simp only [callK]
  have hx : C.ext 21 = some ext21 := rfl
  rw [hx]
  simp [ext21, h0, h1, bs]

end Go.Proofs.YteedcjgmgbcndaaDoor.Eng
namespace Go.Proofs.YteedcjgmgbcndaaDoor.Eng
open Go Go.Proofs
set_option maxRecDepth 100000
set_option maxHeartbeats 2000000
set_option linter.unusedSimpArgs false
set_option linter.unusedVariables false
attribute [local simp] finK fin1 hpOf xi renQ isRoot runCode runOps stepX inlOf Eng.step wantedV astep val ofO made loadV storeV find V.cells bin binT binA numT numFs eqCells un1 setAt fieldAddrV fieldV indexAddrV indexV bounds sliceV convV lenV foldV max2V min2V callO bor rdsO wrsO seen_none okD_none loops keepIds resV resultsV St.ev TK.agg refs refsL refsO V.one V.isC Value.oneCell' ren renL renO noTag noTagL noTagR noTagO nodup mapO passV frs psi refsR newD loopNext opsAt idx flatAt rootOf backR newsV appendV copyV clearV strV bytesV bldV bufV selfV bytesOf nilCmp buildV fillF chunk freeL frzW cellSame sameV
attribute [local simp] cT cF cX cWR cOW cK cBL X ints_length ints_get ints_getElem ints_drop ints_take ints_append ints_nil ints_set
attribute [local simp] ints_replicate
attribute [local simp] putV_some putV_none putH_app applyD_nil applyD_cons seen_app gc_ρ gc_H gc_tick st0_ρ st0_H st0_tick retV callRo callV_if borL_nil borL_cons ints_snoc take_self callWr cutH_app findQ afterV exportV_0 exportV_n okD_nil okD_cons sub_seq0 sub_seq1 sub_cond0 sub_cond1 sub_block sub_loop sub_nil young_far young_none hidW_nil mayW_nil keepsF_nil keepsF_cons pairs okI ok_0 ok_1 ok_2
attribute [local simp] T3 T4 T5 T9 T22 T29 T34 T35 T37 T39 T42 T43 T56
theorem lit0 : (⟨#[]⟩ : ByteArray) = bs [] := rfl
theorem lit1 (a : UInt8) : (⟨#[a]⟩ : ByteArray) = bs [a] := rfl
theorem bs_data (l : List UInt8) : (bs l).data.toList = l := by simp [bs]
theorem bs_of (s : ByteArray) : ∃ l, s = bs l := ⟨s.data.toList, by cases s; simp [bs]⟩
theorem byteAt_bs {l : List UInt8} {i : Nat} (h : i < l.length) : byteAt (bs l) (i : Int) = ((l[i].toNat : Nat) : Int) := by
  unfold byteAt
  rw [bs_data]
  simp [List.getD, List.getElem?_eq_getElem h]
def ckS (h : Int) (c : UInt8) : Int := (41 * h + (c.toNat : Int) + 1).tmod 999979
def ckL (l : List UInt8) : Int := l.foldl ckS 7
theorem ck_bound : ∀ (l : List UInt8) (h : Int), 0 ≤ h → h < 999979 → 0 ≤ l.foldl ckS h ∧ l.foldl ckS h < 999979
  | [], h, a, b => ⟨a, b⟩
  | c :: l, h, a, b => by
    rw [List.foldl_cons]
    have hc : c.toNat < 256 := c.toNat_lt
    exact ck_bound l _ (Int.tmod_nonneg _ (by omega)) (Int.tmod_lt_of_pos _ (by omega))
theorem ck_take {l : List UInt8} {i : Nat} (h : i < l.length) : ckL (l.take (i + 1)) = ckS (ckL (l.take i)) l[i] := by
  unfold ckL
  rw [List.take_succ_eq_append_getElem h, List.foldl_append]
  rfl
def hasB1 (l : List UInt8) : Bool := decide (0 ≤ Lib.indexByte l 35)
def sealL (l : List UInt8) : List UInt8 := l ++ (35 :: Lib.itoa (ckL l))
theorem itoa_len (l : List UInt8) : (Lib.itoa (ckL l)).length ≤ 21 := by
  have b := ck_bound l 7 (by omega) (by omega)
  unfold ckL
  exact Lib.itoa_length_le _ (by omega) (by omega)
def appB (l : List UInt8) : Bool := decide (l.length ≤ 4000) && (!hasB1 l && decide ((sealL l).length ≤ 4000))

end Go.Proofs.YteedcjgmgbcndaaDoor.Eng
namespace Go.Proofs.YteedcjgmgbcndaaDoor.Eng
open Go Go.Proofs
set_option maxRecDepth 100000
set_option maxHeartbeats 2000000
set_option linter.unusedSimpArgs false
set_option linter.unusedVariables false
attribute [local simp] finK fin1 hpOf xi renQ isRoot runCode runOps stepX inlOf Eng.step wantedV astep val ofO made loadV storeV find V.cells bin binT binA numT numFs eqCells un1 setAt fieldAddrV fieldV indexAddrV indexV bounds sliceV convV lenV foldV max2V min2V callO bor rdsO wrsO seen_none okD_none loops keepIds resV resultsV St.ev TK.agg refs refsL refsO V.one V.isC Value.oneCell' ren renL renO noTag noTagL noTagR noTagO nodup mapO passV frs psi refsR newD loopNext opsAt idx flatAt rootOf backR newsV appendV copyV clearV strV bytesV bldV bufV selfV bytesOf nilCmp buildV fillF chunk freeL frzW cellSame sameV
attribute [local simp] cT cF cX cWR cOW cK cBL X ints_length ints_get ints_getElem ints_drop ints_take ints_append ints_nil ints_set
attribute [local simp] ints_replicate
attribute [local simp] putV_some putV_none putH_app applyD_nil applyD_cons seen_app gc_ρ gc_H gc_tick st0_ρ st0_H st0_tick retV callRo callV_if borL_nil borL_cons ints_snoc take_self callWr cutH_app findQ afterV exportV_0 exportV_n okD_nil okD_cons sub_seq0 sub_seq1 sub_cond0 sub_cond1 sub_block sub_loop sub_nil young_far young_none hidW_nil mayW_nil keepsF_nil keepsF_cons pairs okI ok_0 ok_1 ok_2
attribute [local simp] T3 T4 T5 T9 T22 T29 T34 T35 T37 T39 T42 T43 T56
theorem bs_toList (l : List UInt8) : (bs l).toList = l := by rw [Lib.toList_data, bs_data]
theorem bs_neq (l m : List UInt8) : ((bs l).toList == (bs m).toList) = decide (l = m) := by
  rw [bs_toList, bs_toList]
  by_cases h : l = m <;> simp [h]
theorem bs_extract (l : List UInt8) (a b : Nat) : (bs l).extract a b = bs ((l.drop a).take (b - a)) := by
  apply ByteArray.ext
  simp [bs, ByteArray.data_extract]
def spS (l : List UInt8) (b : UInt8) : Nat → List (List UInt8) × Nat
  | 0 => ([], 0)
  | i + 1 => if l[i]? = some b then ((spS l b i).1 ++ [(l.drop (spS l b i).2).take (i - (spS l b i).2)], i + 1) else spS l b i
def splitL (l : List UInt8) (b : UInt8) : List (List UInt8) := (spS l b l.length).1 ++ [l.drop (spS l b l.length).2]
theorem spS_le (l : List UInt8) (b : UInt8) : ∀ i, (spS l b i).2 ≤ i ∧ (spS l b i).1.length ≤ i
  | 0 => by simp [spS]
  | i + 1 => by
    have := spS_le l b i
    unfold spS
    split
    · simp; omega
    · omega
theorem spS_yes {l : List UInt8} {b : UInt8} {i : Nat} (h : l[i]? = some b) : spS l b (i + 1) = ((spS l b i).1 ++ [(l.drop (spS l b i).2).take (i - (spS l b i).2)], i + 1) := by simp [spS, h]
theorem spS_no {l : List UInt8} {b : UInt8} {i : Nat} (h : ¬ l[i]? = some b) : spS l b (i + 1) = spS l b i := by simp [spS, h]
/-- What stands ahead of the first byte b. -/
def headL (l : List UInt8) (b : UInt8) : List UInt8 := if Lib.indexByte l b = -1 then l else l.take (Lib.indexByte l b).toNat
theorem spS_none {l : List UInt8} {b : UInt8} (o : Nat) (h : ∀ k, k < o → l[k]? ≠ some b) : ∀ i, i ≤ o → spS l b i = ([], 0)
  | 0, _ => rfl
  | i + 1, hi => by rw [spS_no (h i (by omega)), spS_none o h i (by omega)]
theorem spS_some {l : List UInt8} {b : UInt8} {o : Nat} (h0 : l[o]? = some b) (h : ∀ k, k < o → l[k]? ≠ some b) : ∀ d, ∃ r, (spS l b (o + 1 + d)).1 = l.take o :: r
  | 0 => by
    refine ⟨[], ?_⟩
    rw [Nat.add_zero, spS_yes h0, spS_none o h o (Nat.le_refl _)]
    simp
  | d + 1 => by
    obtain ⟨r, hr⟩ := spS_some h0 h d
    by_cases hx : l[o + 1 + d]? = some b
    · rw [← Nat.add_assoc, spS_yes hx]
      exact ⟨r ++ [(l.drop (spS l b (o + 1 + d)).2).take (o + 1 + d - (spS l b (o + 1 + d)).2)], by rw [hr]; rfl⟩
    · rw [← Nat.add_assoc, spS_no hx]
      exact ⟨r, hr⟩
theorem split_head (l : List UInt8) (b : UInt8) : ∃ r, splitL l b = headL l b :: r := by
  unfold splitL headL
  by_cases hn : Lib.indexByte l b = -1
  · have hno := Lib.indexByte_none hn
    rw [spS_none l.length (fun k _ => hno k) l.length (Nat.le_refl _), if_pos hn]
    exact ⟨[], by simp⟩
  · have hge := Lib.indexByte_ge l b
    obtain ⟨o, ho⟩ : ∃ o : Nat, Lib.indexByte l b = o := ⟨(Lib.indexByte l b).toNat, by omega⟩
    obtain ⟨h1, h2⟩ := Lib.indexByte_some ho
    have hol : o < l.length := (List.getElem?_eq_some_iff.1 h1).1
    obtain ⟨r, hr⟩ := spS_some h1 h2 (l.length - (o + 1))
    rw [show o + 1 + (l.length - (o + 1)) = l.length by omega] at hr
    rw [if_neg hn, hr, ho]
    exact ⟨r ++ [l.drop (spS l b l.length).2], by simp⟩
def strs (p : List (List UInt8)) : List (List V) := p.map fun x => [.c (.string (bs x))]
def strsO (p : List (List UInt8)) : Eng.Obj := ⟨9, 1, true, strs p⟩
theorem strs_snoc (p : List (List UInt8)) (x : List UInt8) : strs p ++ [[V.c (.string (bs x))]] = strs (p ++ [x]) := by simp [strs]
theorem strs_length (p : List (List UInt8)) : (strs p).length = p.length := by simp [strs]
theorem strs_take (p : List (List UInt8)) (n : Nat) : (strs p).take n = strs (p.take n) := by simp [strs]
theorem strs_nil : strs [] = [] := rfl
theorem okS (ty : TypeId) (p : List (List UInt8)) : okObj ⟨ty, 1, true, strs p⟩ = true := by simp [okObj, strs, V.one, V.isC, Value.oneCell']
theorem strs_one (x : List UInt8) : [[V.c (.string (bs x))]] = strs [x] := rfl
/-- A list of texts that grows. -/
def Cs (v : V) (H : Hp) (p : List (List UInt8)) : Prop := (p = [] ∧ v = .s 1040 2 1 0 0 ∧ H 1040 = some (2, strsO [])) ∨ (p ≠ [] ∧ ∃ tk, v = .s 7288 tk 1 0 p.length ∧ H 7288 = some (tk, strsO p))

end Go.Proofs.YteedcjgmgbcndaaDoor.Eng
namespace Go.Proofs.YteedcjgmgbcndaaDoor.Eng
open Go Go.Proofs
set_option maxRecDepth 100000
set_option maxHeartbeats 2000000
set_option linter.unusedSimpArgs false
set_option linter.unusedVariables false
attribute [local simp] finK fin1 hpOf xi renQ isRoot runCode runOps stepX inlOf Eng.step wantedV astep val ofO made loadV storeV find V.cells bin binT binA numT numFs eqCells un1 setAt fieldAddrV fieldV indexAddrV indexV bounds sliceV convV lenV foldV max2V min2V callO bor rdsO wrsO seen_none okD_none loops keepIds resV resultsV St.ev TK.agg refs refsL refsO V.one V.isC Value.oneCell' ren renL renO noTag noTagL noTagR noTagO nodup mapO passV frs psi refsR newD loopNext opsAt idx flatAt rootOf backR newsV appendV copyV clearV strV bytesV bldV bufV selfV bytesOf nilCmp buildV fillF chunk freeL frzW cellSame sameV
attribute [local simp] cT cF cX cWR cOW cK cBL X ints_length ints_get ints_getElem ints_drop ints_take ints_append ints_nil ints_set
attribute [local simp] ints_replicate
attribute [local simp] putV_some putV_none putH_app applyD_nil applyD_cons seen_app gc_ρ gc_H gc_tick st0_ρ st0_H st0_tick retV callRo callV_if borL_nil borL_cons ints_snoc take_self callWr cutH_app findQ afterV exportV_0 exportV_n okD_nil okD_cons sub_seq0 sub_seq1 sub_cond0 sub_cond1 sub_block sub_loop sub_nil young_far young_none hidW_nil mayW_nil keepsF_nil keepsF_cons pairs okI ok_0 ok_1 ok_2
attribute [local simp] T3 T4 T5 T9 T22 T29 T34 T35 T37 T39 T42 T43 T56
theorem decFrom_append : ∀ (l m : List UInt8) (acc : Nat), Lib.decFrom acc (l ++ m) = (Lib.decFrom acc l).bind fun n => Lib.decFrom n m
  | [], m, acc => by simp [Lib.decFrom]
  | b :: l, m, acc => by
    simp only [List.cons_append, Lib.decFrom]
    cases Lib.digitVal b with
    | none => rfl
    | some d => exact decFrom_append l m _
theorem digit_ofNat {d : Nat} (h : d < 10) : Lib.digitVal (UInt8.ofNat (48 + d)) = some d := by
  unfold Lib.digitVal
  have : (UInt8.ofNat (48 + d)).toNat = 48 + d := by rw [UInt8.toNat_ofNat']; omega
  rw [this, if_pos (by omega)]
  congr 1
  omega
theorem dec_digits (u : Nat) : Lib.decFrom 0 (Lib.decDigits u) = some u := by
  induction u using Nat.strongRecOn with
  | _ u ih =>
    rw [Lib.decDigits]
    split
    · rename_i h
      simp only [Lib.decFrom, digit_ofNat h, Nat.zero_mul, Nat.zero_add]
    · rename_i h
      rw [decFrom_append, ih (u / 10) (by omega)]
      simp only [Option.bind_some, Lib.decFrom, digit_ofNat (by omega : u % 10 < 10)]
      congr 1
      omega
theorem dec_pos (u : Nat) : 0 < (Lib.decDigits u).length := by
  rw [Lib.decDigits]
  split <;> simp
theorem dec_head (u : Nat) : ∃ b r, Lib.decDigits u = b :: r ∧ 48 ≤ b.toNat ∧ b.toNat ≤ 57 := by
  obtain ⟨b, r, h⟩ : ∃ b r, Lib.decDigits u = b :: r := by
    cases h : Lib.decDigits u with
    | nil => have := dec_pos u; rw [h] at this; simp at this
    | cons b r => exact ⟨b, r, rfl⟩
  obtain ⟨d, hd⟩ := Lib.digit_of_decFrom _ _ _ (dec_digits u) 0 b (by rw [h]; rfl)
  unfold Lib.digitVal at hd
  split at hd
  · rename_i hh; exact ⟨b, r, h, hh⟩
  · cases hd
theorem dec_lt : ∀ (l : List UInt8) (acc n k : Nat), Lib.decFrom acc l = some n → acc < 10 ^ k → n < 10 ^ (k + l.length)
  | [], acc, n, k, h, ha => by simp only [Lib.decFrom, Option.some.injEq] at h; subst h; simpa using ha
  | b :: l, acc, n, k, h, ha => by
    simp only [Lib.decFrom] at h
    cases hb : Lib.digitVal b with
    | none => rw [hb] at h; cases h
    | some d =>
      rw [hb] at h
      have hd : d < 10 := by
        unfold Lib.digitVal at hb
        split at hb
        · cases hb; omega
        · cases hb
      have := dec_lt l (acc * 10 + d) n (k + 1) h (by rw [Nat.pow_succ]; omega)
      rw [show k + (b :: l).length = k + 1 + l.length by simp; omega]
      exact this
theorem dec_len6 {u : Nat} (h : u ≤ 999999) : (Lib.decDigits u).length ≤ 6 := by
  rw [Lib.decDigits_length]
  have : ∀ (k u : Nat), u < 10 ^ (k + 1) → Lib.nDigits u ≤ k + 1 := by
    intro k
    induction k with
    | zero => intro u hu; rw [Lib.nDigits_small (by omega)]; omega
    | succ k ih =>
      intro u hu
      by_cases h10 : u < 10
      · rw [Lib.nDigits_small h10]; omega
      · rw [Lib.nDigits_big h10]
        have := ih (u / 10) (by rw [Nat.pow_succ] at hu; omega)
        omega
  exact this 5 u (by omega)
/-- A number's text without its sign. -/
def unsg (l : List UInt8) : List UInt8 := if 1 < l.length ∧ l[0]? = some 45 then l.drop 1 else l
theorem unsg_itoa (n : Int) : unsg (Lib.itoa n) = Lib.decDigits n.natAbs ∧ ((unsg (Lib.itoa n)).length < (Lib.itoa n).length ↔ n < 0) := by
  obtain ⟨b, r, hb, h1, h2⟩ := dec_head n.natAbs
  have hp := dec_pos n.natAbs
  unfold Lib.itoa
  by_cases h : n < 0
  · rw [if_pos h]
    have : unsg (45 :: Lib.decDigits n.natAbs) = Lib.decDigits n.natAbs := by
      unfold unsg
      rw [if_pos (by simp; exact hp)]
      rfl
    rw [this]
    simp [h]
  · rw [if_neg h]
    have e : n.toNat = n.natAbs := by omega
    rw [e]
    have : unsg (Lib.decDigits n.natAbs) = Lib.decDigits n.natAbs := by
      unfold unsg
      rw [if_neg]
      rw [hb]
      rintro ⟨_, h3⟩
      simp at h3
      subst h3
      simp at h1
    rw [this]
    simp [h]
/-- The number whose text this is. -/
noncomputable def pI (l : List UInt8) : Option Int := open Classical in if h : ∃ n : Int, -999999 ≤ n ∧ n ≤ 999999 ∧ Lib.itoa n = l then some h.choose else none
theorem dec_inj {u v : Nat} (h : Lib.decDigits u = Lib.decDigits v) : u = v := by
  have := dec_digits u
  rw [h, dec_digits v] at this
  exact (Option.some.inj this).symm
theorem itoa_inj {n m : Int} (h : Lib.itoa n = Lib.itoa m) : n = m := by
  obtain ⟨a1, a2⟩ := unsg_itoa n
  obtain ⟨b1, b2⟩ := unsg_itoa m
  rw [h] at a1 a2
  have := dec_inj (a1.symm.trans b1)
  by_cases hn : n < 0
  · have hm := b2.1 (a2.2 hn); omega
  · have hm : ¬ m < 0 := fun hm => hn (a2.1 (b2.2 hm)); omega
theorem pI_some {n : Int} (h0 : -999999 ≤ n) (h1 : n ≤ 999999) : pI (Lib.itoa n) = some n := by
  have hx : ∃ m : Int, -999999 ≤ m ∧ m ≤ 999999 ∧ Lib.itoa m = Lib.itoa n := ⟨n, h0, h1, rfl⟩
  unfold pI
  rw [dif_pos hx]
  exact congrArg some (itoa_inj hx.choose_spec.2.2)
theorem pI_inv {l : List UInt8} {n : Int} (h : pI l = some n) : -999999 ≤ n ∧ n ≤ 999999 ∧ Lib.itoa n = l := by
  unfold pI at h
  split at h
  · rename_i hx; cases h; exact hx.choose_spec
  · cases h
theorem itoa_len7 {n : Int} (h0 : -999999 ≤ n) (h1 : n ≤ 999999) : (Lib.itoa n).length ≤ 7 := by
  have := dec_len6 (u := n.natAbs) (by omega)
  unfold Lib.itoa
  split
  · simp; omega
  · rw [show n.toNat = n.natAbs by omega]; omega
theorem atoi_itoa (n : Int) : Lib.atoi (Lib.itoa n) = some n := by
  obtain ⟨b, r, hb, h1, h2⟩ := dec_head n.natAbs
  have hd := dec_digits n.natAbs
  have hdn : Lib.decNat (Lib.decDigits n.natAbs) = some n.natAbs := by
    unfold Lib.decNat
    rw [hd, hb]
    rfl
  unfold Lib.itoa
  by_cases h : n < 0
  · rw [if_pos h]
    simp only [Lib.atoi, beq_self_eq_true, if_true, hdn, Option.map_some]
    congr 1
    omega
  · rw [if_neg h, show n.toNat = n.natAbs by omega]
    rw [hb] at hdn ⊢
    have e1 : (b == 45) = false := by
      rw [beq_eq_false_iff_ne]; rintro rfl; simp at h1
    have e2 : (b == 43) = false := by
      rw [beq_eq_false_iff_ne]; rintro rfl; simp at h1
    simp only [Lib.atoi, e1, e2, Bool.false_eq_true, if_false, hdn, Option.map_some]
    congr 1
    omega
theorem atoiAll_itoa {n : Int} (h0 : -999999 ≤ n) (h1 : n ≤ 999999) : Lib.atoiAll (Lib.itoa n) = .ok n := by
  rw [Lib.atoiAll_short _ (by have := itoa_len7 h0 h1; omega), atoi_itoa]
  rfl
noncomputable def pV (l : List UInt8) : Int := (pI l).getD 0
noncomputable def pB (l : List UInt8) : Bool := (pI l).isSome
theorem c_implParse (k : Nat) (l : List UInt8) (h20 : l.length ≤ 281474976710656) (hk : 10 ≤ k) : callK C k 40 [.c (.string (bs l))] [] = some (.tp [.c (.int .i64 (pV l)), .c (.bool (pB l))], hpOf [] []) := by
  obtain ⟨k, rfl⟩ : ∃ m, k = m + 3 := ⟨k - 3, by omega⟩
  rw [callK_fn rfl F40 code40]
  have hx : callK C (k + 2) 44 [.c (.string (bs l))] [] = (match Lib.atoiAll l with
    | .ok v => some (.tp [.c (.int .i64 v), .c .nilIface], hpOf [] [])
    | .«syntax» => some (.tp [.c (.int .i64 0), .er], hpOf [] [])
    | .range => some (.tp [.c (.int .i64 (Lib.atoiSat l)), .er], hpOf [] [])) := by
    simp only [callK, cX, X, ext44, bs_size, h20, if_true]
    have : (bs l).data.toList = l := by simp [bs]
    rw [this]
    cases Lib.atoiAll l <;> simp
  have hwf : ∀ v : Int, callK C (k + 2) 34 [.c (.int .i64 v), .c (.int .i64 (-999999)), .c (.int .i64 999999)] [] = some (.c (.bool (decide (-999999 ≤ v) && decide (v ≤ 999999))), hpOf [] []) := fun v => c_within (k + 2) v (-999999) 999999 (by omega)
  cases ha : Lib.atoiAll l with
  | ok v =>
    rw [ha] at hx
    simp only [] at hx
    have hw := hwf v
    by_cases hr : -999999 ≤ v ∧ v ≤ 999999
    · have hit := c_Itoa (k + 2) v (by omega) (by omega) (by omega)
      simp [hr] at hw
      by_cases he : Lib.itoa v = l
      · have e := pI_some hr.1 hr.2
        rw [he] at e
        have hbq : ((bs (Lib.itoa v)).toList == (bs l).toList) = true := by rw [he]; simp
        have hbe : (bs (Lib.itoa v)).toList = (bs l).toList := by rw [he]
        simp [R40_0, R40_1, R40_2, R40_3, R40_4, Tryd.f40, hx, hw, hit, hbq, hbe, undef, pV, pB, e]
      · have e : pI l = none := by
          cases h : pI l with
          | none => rfl
          | some n =>
            obtain ⟨h1, h2, h3⟩ := pI_inv h
            have := atoiAll_itoa h1 h2
            rw [h3, ha] at this
            cases this
            exact absurd h3 he
        have hbe : ¬ (bs (Lib.itoa v)).toList = (bs l).toList := by
          rw [Lib.toList_data, Lib.toList_data]
          simpa [bs] using he
        simp [R40_0, R40_1, R40_2, R40_3, R40_4, Tryd.f40, hx, hw, hit, hbe, undef, pV, pB, e]
    · have e : pI l = none := by
        cases h : pI l with
        | none => rfl
        | some n =>
          obtain ⟨h1, h2, h3⟩ := pI_inv h
          have := atoiAll_itoa h1 h2
          rw [h3, ha] at this
          cases this
          exact absurd ⟨h1, h2⟩ hr
      have hb : (decide (-999999 ≤ v) && decide (v ≤ 999999)) = false := by
        simp only [Bool.and_eq_false_iff, decide_eq_false_iff_not]; omega
      rw [hb] at hw
      simp [R40_0, R40_1, R40_2, R40_3, R40_4, Tryd.f40, hx, hw, undef, pV, pB, e]
  | «syntax» =>
    rw [ha] at hx
    simp only [] at hx
    have e : pI l = none := by
      cases h : pI l with
      | none => rfl
      | some n =>
        obtain ⟨h1, h2, h3⟩ := pI_inv h
        have := atoiAll_itoa h1 h2
        rw [h3, ha] at this
        cases this
    simp [R40_0, R40_1, R40_2, R40_3, R40_4, Tryd.f40, hx, nilCmp, undef, pV, pB, e]
  | range =>
    rw [ha] at hx
    simp only [] at hx
    have e : pI l = none := by
      cases h : pI l with
      | none => rfl
      | some n =>
        obtain ⟨h1, h2, h3⟩ := pI_inv h
        have := atoiAll_itoa h1 h2
        rw [h3, ha] at this
        cases this
    simp [R40_0, R40_1, R40_2, R40_3, R40_4, Tryd.f40, hx, nilCmp, undef, pV, pB, e]
theorem pI_unsg {l : List UInt8} {n : Int} (h : pI l = some n) : unsg l = Lib.decDigits n.natAbs ∧ 1 ≤ (unsg l).length ∧ (unsg l).length ≤ 6 := by
  obtain ⟨h1, h2, h3⟩ := pI_inv h
  obtain ⟨a1, a2⟩ := unsg_itoa n
  rw [h3] at a1
  rw [a1]
  exact ⟨rfl, dec_pos _, dec_len6 (by omega)⟩
theorem c_l1In2 (k : Nat) (x a b : Int) (hk : 1 ≤ k) : callK C k 39 [.c (.int .i64 x), .c (.int .i64 a), .c (.int .i64 b)] [] = some (.c (.bool (decide (a ≤ x) && decide (x ≤ b))), hpOf [] []) := c_l1In k x a b hk
theorem pow6 {k : Nat} (h : k ≤ 6) : 10 ^ k ≤ 1000000 := Nat.le_trans (Nat.pow_le_pow_right (by decide) h) (by decide)
def RdX (t : List UInt8) (i : Nat) (st : St) : Prop := ∃ m : Nat, Lib.decFrom 0 (t.take i) = some m ∧ st.ρ 5 = .c (.int .i64 (m : Int))
theorem dec_none {t : List UInt8} (h : Lib.decFrom 0 t = none) : ∃ (j m : Nat) (hj : j < t.length), Lib.decFrom 0 (t.take j) = some m ∧ Lib.digitVal t[j] = none := by
  have key : ∀ (t : List UInt8) (acc : Nat), Lib.decFrom acc t = none → ∃ (j m : Nat) (hj : j < t.length), Lib.decFrom acc (t.take j) = some m ∧ Lib.digitVal t[j] = none := by
    intro t
    induction t with
    | nil => intro acc h; cases h
    | cons b t ih =>
      intro acc h
      simp only [Lib.decFrom] at h
      cases hb : Lib.digitVal b with
      | none => exact ⟨0, acc, by simp, rfl, hb⟩
      | some d =>
        rw [hb] at h
        obtain ⟨j, m, hj, h1, h2⟩ := ih _ h
        refine ⟨j + 1, m, by simpa using hj, ?_, by simpa using h2⟩
        rw [List.take_succ_cons]
        simp only [Lib.decFrom, hb]
        exact h1
  exact key t 0 h
theorem dec_take {t : List UInt8} {i m : Nat} (h : Lib.decFrom 0 (t.take i) = some m) (h6 : t.length ≤ 6) : m < 1000000 := by
  have := dec_lt (t.take i) 0 m 0 h (by decide)
  have h2 : 0 + (t.take i).length ≤ 6 := by rw [List.length_take]; omega
  exact Nat.lt_of_lt_of_le this (pow6 h2)
theorem dig_iff (b : UInt8) : (∃ d, Lib.digitVal b = some d ∧ 48 ≤ b.toNat ∧ b.toNat ≤ 57 ∧ b.toNat = 48 + d) ∨ (Lib.digitVal b = none ∧ (b.toNat < 48 ∨ 57 < b.toNat)) := by
  unfold Lib.digitVal
  by_cases h : 48 ≤ b.toNat ∧ b.toNat ≤ 57
  · left; exact ⟨b.toNat - 48, by rw [if_pos h], h.1, h.2, by omega⟩
  · right; exact ⟨by rw [if_neg h], by omega⟩
theorem c_l1Read (k : Nat) (l : List UInt8) (h20 : l.length ≤ 1048576) (hk : 200 ≤ k) : callK C k 43 [.c (.string (bs l))] [] = some (.tp [.c (.int .i64 (pV l)), .c (.bool (pB l))], hpOf [] []) := by
  obtain ⟨k, rfl⟩ : ∃ m, k = m + 9 := ⟨k - 9, by omega⟩
  rw [callK_fn rfl F43 code43]
  obtain ⟨t, ht⟩ : ∃ t, unsg l = t := ⟨_, rfl⟩
  have htl : t.length ≤ l.length := by rw [← ht]; unfold unsg; split <;> simp
  have i1 := c_l1In2 (k + 8) (t.length : Int) 1 6 (by omega)
  -- the loop
  have hLd := fun (m : Nat) (h6 : t.length ≤ 6) (hd : Lib.decFrom 0 t = some m) => loopHas (body := fun st => runCode C (callK C (k + 8)) (k + 8) (K 43) L43_0 1 st) (keep := [0, 4, 5, 6]) (.ex 0) (fun st => st.ρ 0 = .c (.string (bs l)) ∧ st.ρ 4 = .c (.string (bs t)) ∧ st.ρ 5 = .c (.int .i64 (m : Int)))
    (fun i st => st.ρ 0 = .c (.string (bs l)) ∧ st.ρ 4 = .c (.string (bs t)) ∧ st.ρ 6 = .c (.int .i64 (i : Int)) ∧ RdX t i st)
    t.length (k + 8) (by omega)
    (by
      rintro i st next hi ⟨q0, q4, q6, m', hm', q5⟩ hx
      have hb := byteAt_bs hi
      have hwn := wrap_next hi (by omega)
      have hlt := dec_take hm' h6
      rcases dig_iff t[i] with ⟨d, hdv, g1, g2, g3⟩ | ⟨hn, _⟩
      · have hm2 := Lib.decFrom_take t i 0 m' t[i] d hm' (List.getElem?_eq_getElem hi) hdv
        have c1 : ¬ t[i].toNat < 48 := by omega
        have c2 : ¬ 57 < t[i].toNat := by omega
        have c1' : ¬ ((t[i].toNat : Nat) : Int) < 48 := by omega
        have c2' : ¬ (57 : Int) < ((t[i].toNat : Nat) : Int) := by omega
        have w1 : IntKind.i64.wrap (10 * (m' : Int)) = 10 * (m' : Int) := wrap_small (by omega) (by omega)
        have w2 : IntKind.u8.wrap (((t[i].toNat : Nat) : Int) - 48) = (d : Int) := by
          rw [g3]
          show ((((48 + d : Nat) : Int) - 48) % 256) = _
          omega
        have w3 : IntKind.i64.wrap (d : Int) = d := wrap_small (by omega) (by omega)
        have w4 : IntKind.i64.wrap (10 * (m' : Int) + (d : Int)) = ((m' * 10 + d : Nat) : Int) := by rw [wrap_small (by omega) (by omega)]; omega
        simp [L43_0, R43_0, R43_1, R43_2, R43_3, R43_4, R43_5, R43_6, R43_7, R43_8, R43_9, R43_10, R43_11, R43_12, R43_13, R43_14, R43_15, R43_16, R43_17, Tryd.f43, lpL43_0, lpM43_0, undef, q0, q4, q5, q6, bs_size, hi, hb, c1, c2, c1', c2', w1, w2, w3, w4, hwn]
        refine hx _ ⟨?_, ?_, ?_, m' * 10 + d, hm2, ?_⟩ <;> simp [q0, q4]
      · obtain ⟨e, he⟩ := Lib.digit_of_decFrom _ _ _ hd i t[i] (List.getElem?_eq_getElem hi)
        rw [hn] at he
        cases he)
    (by
      rintro st next ⟨q0, q4, q6, m', hm', q5⟩
      rw [List.take_length, hd] at hm'
      cases hm'
      simp [L43_0, R43_0, R43_1, R43_2, R43_3, R43_4, R43_5, R43_6, R43_7, R43_8, R43_9, R43_10, R43_11, R43_12, R43_13, R43_14, R43_15, R43_16, R43_17, Tryd.f43, lpL43_0, lpM43_0, q0, q4, q5, q6, bs_size])
  have hLn := fun (j : Nat) (mj : Nat) (hj : j < t.length) (h6 : t.length ≤ 6) (hd : Lib.decFrom 0 (t.take j) = some mj) (hn : Lib.digitVal t[j] = none) => loopHas (body := fun st => runCode C (callK C (k + 8)) (k + 8) (K 43) L43_0 1 st) (keep := [0, 4, 5, 6]) .ret (fun st => st.ρ 2 = .c (.int .i64 0) ∧ st.ρ 3 = .c (.bool false))
    (fun i st => st.ρ 0 = .c (.string (bs l)) ∧ st.ρ 4 = .c (.string (bs t)) ∧ st.ρ 6 = .c (.int .i64 (i : Int)) ∧ RdX t i st)
    j (k + 8) (by omega)
    (by
      rintro i st next hi ⟨q0, q4, q6, m', hm', q5⟩ hx
      have hit : i < t.length := by omega
      have hb := byteAt_bs hit
      have hwn := wrap_next hit (by omega)
      have hlt := dec_take hm' h6
      rcases dig_iff t[i] with ⟨d, hdv, g1, g2, g3⟩ | ⟨hn', _⟩
      · have hm2 := Lib.decFrom_take t i 0 m' t[i] d hm' (List.getElem?_eq_getElem hit) hdv
        have c1 : ¬ t[i].toNat < 48 := by omega
        have c2 : ¬ 57 < t[i].toNat := by omega
        have c1' : ¬ ((t[i].toNat : Nat) : Int) < 48 := by omega
        have c2' : ¬ (57 : Int) < ((t[i].toNat : Nat) : Int) := by omega
        have w1 : IntKind.i64.wrap (10 * (m' : Int)) = 10 * (m' : Int) := wrap_small (by omega) (by omega)
        have w2 : IntKind.u8.wrap (((t[i].toNat : Nat) : Int) - 48) = (d : Int) := by
          rw [g3]
          show ((((48 + d : Nat) : Int) - 48) % 256) = _
          omega
        have w3 : IntKind.i64.wrap (d : Int) = d := wrap_small (by omega) (by omega)
        have w4 : IntKind.i64.wrap (10 * (m' : Int) + (d : Int)) = ((m' * 10 + d : Nat) : Int) := by rw [wrap_small (by omega) (by omega)]; omega
        simp [L43_0, R43_0, R43_1, R43_2, R43_3, R43_4, R43_5, R43_6, R43_7, R43_8, R43_9, R43_10, R43_11, R43_12, R43_13, R43_14, R43_15, R43_16, R43_17, Tryd.f43, lpL43_0, lpM43_0, undef, q0, q4, q5, q6, bs_size, hit, hb, c1, c2, c1', c2', w1, w2, w3, w4, hwn]
        refine hx _ ⟨?_, ?_, ?_, m' * 10 + d, hm2, ?_⟩ <;> simp [q0, q4]
      · obtain ⟨e, he⟩ := Lib.digit_of_decFrom _ _ _ hd i t[i] (by rw [List.getElem?_take, if_pos hi, List.getElem?_eq_getElem hit])
        rw [hn'] at he
        cases he)
    (by
      rintro st next ⟨q0, q4, q6, m', hm', q5⟩
      have hb := byteAt_bs hj
      rcases dig_iff t[j] with ⟨d, hdv, _⟩ | ⟨_, g | g⟩
      · rw [hn] at hdv; cases hdv
      · have c1' : ((t[j].toNat : Nat) : Int) < 48 := by omega
        simp [L43_0, R43_0, R43_1, R43_2, R43_3, R43_4, R43_5, R43_6, R43_7, R43_8, R43_9, R43_10, R43_11, R43_12, R43_13, R43_14, R43_15, R43_16, R43_17, Tryd.f43, lpL43_0, lpM43_0, undef, q0, q4, q5, q6, bs_size, hj, hb, g, c1']
      · have c1 : ¬ t[j].toNat < 48 := by omega
        have c1' : ¬ ((t[j].toNat : Nat) : Int) < 48 := by omega
        have c2' : (57 : Int) < ((t[j].toNat : Nat) : Int) := by omega
        simp [L43_0, R43_0, R43_1, R43_2, R43_3, R43_4, R43_5, R43_6, R43_7, R43_8, R43_9, R43_10, R43_11, R43_12, R43_13, R43_14, R43_15, R43_16, R43_17, Tryd.f43, lpL43_0, lpM43_0, undef, q0, q4, q5, q6, bs_size, hj, hb, g, c1, c1', c2'])
  by_cases hs : 1 < l.length ∧ l[0]? = some 45
  · have ht' : l.drop 1 = t := by rw [← ht]; unfold unsg; rw [if_pos hs]
    have h1 : (1 : Int) < (l.length : Int) := by omega
    have h1' : (1 : Int) ≤ (l.length : Int) := by omega
    have h1n : 1 ≤ l.length := by omega
    have hb0 : byteAt (bs l) 0 = 45 := by
      have := byteAt_bs (l := l) (i := 0) (by omega)
      have h2 : l[0]'(by omega) = 45 := by
        have := hs.2
        rw [List.getElem?_eq_getElem (by omega)] at this
        exact Option.some.inj this
      rw [h2] at this
      exact this
    have hx : (bs l).extract 1 l.length = bs t := by
      rw [← ht']
      apply ByteArray.ext
      simp [bs, ByteArray.data_extract]
      exact List.take_of_length_le (by simp)
    have h0l : 0 < l.length := by omega
    by_cases h6 : 1 ≤ t.length ∧ t.length ≤ 6
    · have hb1 : (decide ((1 : Int) ≤ (t.length : Int)) && decide ((t.length : Int) ≤ 6)) = true := by simp; omega
      rw [hb1] at i1
      try simp at i1
      simp [R43_0, R43_1, R43_2, R43_3, R43_4, R43_5, R43_6, R43_7, R43_8, R43_9, R43_10, R43_11, R43_12, R43_13, R43_14, R43_15, R43_16, R43_17, Tryd.f43, lpL43_0, lpM43_0, hs.1, h1, h1', h1n, h0l, hb0, hx, i1, undef, bs_size]
      generalize hr2 : loopRun _ _ _ _ = res
      cases hd : Lib.decFrom 0 t with
      | some m =>
        obtain ⟨s1, rfl, f0, f4, f5⟩ := loop_at (hLd m h6.2 hd) hr2 ⟨by simp, by simp [hs.1, h1, h1', h1n, h0l, hb0, hx], by simp, 0, rfl, by simp⟩
        have hm := dec_take (t := t) (i := t.length) (m := m) (by rw [List.take_length]; exact hd) h6.2
        obtain ⟨n, hn, hnr⟩ : ∃ n : Int, -(m : Int) = n ∧ -999999 ≤ n ∧ n ≤ 999999 := ⟨_, rfl, by omega, by omega⟩
        have hw : IntKind.i64.wrap n = n := wrap_small (by omega) (by omega)
        have hw0 : IntKind.i64.wrap (-(m : Int)) = -(m : Int) := wrap_small (by omega) (by omega)
        have hl1 := c_l1Num (k + 8) n (by omega) (by omega) (by omega)
        have hlt : t.length < l.length := by rw [← ht', List.length_drop]; omega
        by_cases he : Lib.itoa n = l
        · have e := pI_some hnr.1 hnr.2
          rw [he] at e
          rw [he] at hl1
          simp [R43_0, R43_1, R43_2, R43_3, R43_4, R43_5, R43_6, R43_7, R43_8, R43_9, R43_10, R43_11, R43_12, R43_13, R43_14, R43_15, R43_16, R43_17, Tryd.f43, lpL43_0, lpM43_0, M43_0, f0, f4, f5, bs_size, hlt, hw, hw0, hn, hl1, pV, pB, e]
        · have e : pI l = none := by
            cases h : pI l with
            | none => rfl
            | some n' =>
              obtain ⟨z1, z2, z3⟩ := pI_inv h
              obtain ⟨a1, _, _⟩ := pI_unsg h
              obtain ⟨_, a2⟩ := unsg_itoa n'
              rw [z3, ht] at a2
              rw [ht] at a1
              have := dec_digits n'.natAbs
              rw [← a1, hd] at this
              have hmn := Option.some.inj this
              have : n' = n := by
                have := a2.1 hlt; omega
              rw [this] at z3
              exact absurd z3 he
          have hbe : ¬ (bs (Lib.itoa n)).toList = (bs l).toList := by
            rw [Lib.toList_data, Lib.toList_data]
            simpa [bs] using he
          simp [R43_0, R43_1, R43_2, R43_3, R43_4, R43_5, R43_6, R43_7, R43_8, R43_9, R43_10, R43_11, R43_12, R43_13, R43_14, R43_15, R43_16, R43_17, Tryd.f43, lpL43_0, lpM43_0, M43_0, f0, f4, f5, bs_size, hlt, hw, hw0, hn, hl1, hbe, pV, pB, e]
      | none =>
        obtain ⟨j, mj, hj, d1, d2⟩ := dec_none hd
        obtain ⟨s1, rfl, f2, f3⟩ := loop_at (hLn j mj hj h6.2 d1 d2) hr2 ⟨by simp, by simp [hs.1, h1, h1', h1n, h0l, hb0, hx], by simp, 0, rfl, by simp⟩
        have e : pI l = none := by
          cases h : pI l with
          | none => rfl
          | some n' =>
            obtain ⟨a1, _, _⟩ := pI_unsg h
            rw [ht] at a1
            have := dec_digits n'.natAbs
            rw [← a1, hd] at this
            cases this
        simp [R43_0, R43_1, R43_2, R43_3, R43_4, R43_5, R43_6, R43_7, R43_8, R43_9, R43_10, R43_11, R43_12, R43_13, R43_14, R43_15, R43_16, R43_17, Tryd.f43, lpL43_0, lpM43_0, f2, f3, pV, pB, e]
    · have hb1 : (decide ((1 : Int) ≤ (t.length : Int)) && decide ((t.length : Int) ≤ 6)) = false := by
        simp only [Bool.and_eq_false_iff, decide_eq_false_iff_not]; omega
      rw [hb1] at i1
      try simp at i1
      have e : pI l = none := by
        cases h : pI l with
        | none => rfl
        | some n' =>
          obtain ⟨_, a2, a3⟩ := pI_unsg h
          rw [ht] at a2 a3
          exact absurd ⟨a2, a3⟩ h6
      simp [R43_0, R43_1, R43_2, R43_3, R43_4, R43_5, R43_6, R43_7, R43_8, R43_9, R43_10, R43_11, R43_12, R43_13, R43_14, R43_15, R43_16, R43_17, Tryd.f43, lpL43_0, lpM43_0, M43_0, hs.1, h1, h1', h1n, h0l, hb0, hx, i1, undef, bs_size, pV, pB, e]
  · have ht' : t = l := by rw [← ht]; unfold unsg; rw [if_neg hs]
    by_cases hl1 : 1 < l.length
    · have h1 : (1 : Int) < (l.length : Int) := by omega
      have h0l : 0 < l.length := by omega
      have hb0 : ¬ byteAt (bs l) 0 = 45 := by
        have h3 := byteAt_bs (l := l) (i := 0) (by omega)
        intro h4
        rw [show ((0 : Nat) : Int) = 0 from rfl, h4] at h3
        apply hs
        refine ⟨hl1, ?_⟩
        rw [List.getElem?_eq_getElem (by omega)]
        congr 1
        exact UInt8.toNat_inj.1 (by have : (45 : UInt8).toNat = 45 := rfl; omega)
      have hbb : (byteAt (bs l) 0 == 45) = false := by simpa using hb0
      by_cases h6 : 1 ≤ t.length ∧ t.length ≤ 6
      · have hb1 : (decide ((1 : Int) ≤ (t.length : Int)) && decide ((t.length : Int) ≤ 6)) = true := by simp; omega
        rw [hb1] at i1
        rw [ht'] at i1; try simp at i1
        simp [R43_0, R43_1, R43_2, R43_3, R43_4, R43_5, R43_6, R43_7, R43_8, R43_9, R43_10, R43_11, R43_12, R43_13, R43_14, R43_15, R43_16, R43_17, Tryd.f43, lpL43_0, lpM43_0, hl1, h1, h0l, hb0, hbb, ht', i1, undef, bs_size]
        generalize hr2 : loopRun _ _ _ _ = res
        cases hd : Lib.decFrom 0 t with
        | some m =>
          obtain ⟨s1, rfl, f0, f4, f5⟩ := loop_at (hLd m h6.2 hd) hr2 ⟨by simp, by simp [hl1, h1, h0l, hb0, hbb, ht'], by simp, 0, rfl, by simp⟩
          have hm := dec_take (t := t) (i := t.length) (m := m) (by rw [List.take_length]; exact hd) h6.2
          obtain ⟨n, hn, hnr⟩ : ∃ n : Int, (m : Int) = n ∧ -999999 ≤ n ∧ n ≤ 999999 := ⟨_, rfl, by omega, by omega⟩
          have hw : IntKind.i64.wrap n = n := wrap_small (by omega) (by omega)
          have hw0 : IntKind.i64.wrap (-(m : Int)) = -(m : Int) := wrap_small (by omega) (by omega)
          have hl1 := c_l1Num (k + 8) n (by omega) (by omega) (by omega)
          have hlt : ¬ t.length < l.length := by rw [ht']; omega
          by_cases he : Lib.itoa n = l
          · have e := pI_some hnr.1 hnr.2
            rw [he] at e
            rw [he] at hl1
            simp [R43_0, R43_1, R43_2, R43_3, R43_4, R43_5, R43_6, R43_7, R43_8, R43_9, R43_10, R43_11, R43_12, R43_13, R43_14, R43_15, R43_16, R43_17, Tryd.f43, lpL43_0, lpM43_0, M43_0, f0, f4, f5, bs_size, hlt, hw, hw0, hn, hl1, pV, pB, e]
          · have e : pI l = none := by
              cases h : pI l with
              | none => rfl
              | some n' =>
                obtain ⟨z1, z2, z3⟩ := pI_inv h
                obtain ⟨a1, _, _⟩ := pI_unsg h
                obtain ⟨_, a2⟩ := unsg_itoa n'
                rw [z3, ht] at a2
                rw [ht] at a1
                have := dec_digits n'.natAbs
                rw [← a1, hd] at this
                have hmn := Option.some.inj this
                have : n' = n := by
                  have : ¬ n' < 0 := fun h => hlt (a2.2 h); omega
                rw [this] at z3
                exact absurd z3 he
            have hbe : ¬ (bs (Lib.itoa n)).toList = (bs l).toList := by
              rw [Lib.toList_data, Lib.toList_data]
              simpa [bs] using he
            simp [R43_0, R43_1, R43_2, R43_3, R43_4, R43_5, R43_6, R43_7, R43_8, R43_9, R43_10, R43_11, R43_12, R43_13, R43_14, R43_15, R43_16, R43_17, Tryd.f43, lpL43_0, lpM43_0, M43_0, f0, f4, f5, bs_size, hlt, hw, hw0, hn, hl1, hbe, pV, pB, e]
        | none =>
          obtain ⟨j, mj, hj, d1, d2⟩ := dec_none hd
          obtain ⟨s1, rfl, f2, f3⟩ := loop_at (hLn j mj hj h6.2 d1 d2) hr2 ⟨by simp, by simp [hl1, h1, h0l, hb0, hbb, ht'], by simp, 0, rfl, by simp⟩
          have e : pI l = none := by
            cases h : pI l with
            | none => rfl
            | some n' =>
              obtain ⟨a1, _, _⟩ := pI_unsg h
              rw [ht] at a1
              have := dec_digits n'.natAbs
              rw [← a1, hd] at this
              cases this
          simp [R43_0, R43_1, R43_2, R43_3, R43_4, R43_5, R43_6, R43_7, R43_8, R43_9, R43_10, R43_11, R43_12, R43_13, R43_14, R43_15, R43_16, R43_17, Tryd.f43, lpL43_0, lpM43_0, f2, f3, pV, pB, e]
      · have hb1 : (decide ((1 : Int) ≤ (t.length : Int)) && decide ((t.length : Int) ≤ 6)) = false := by
          simp only [Bool.and_eq_false_iff, decide_eq_false_iff_not]; omega
        rw [hb1] at i1
        rw [ht'] at i1; try simp at i1
        have e : pI l = none := by
          cases h : pI l with
          | none => rfl
          | some n' =>
            obtain ⟨_, a2, a3⟩ := pI_unsg h
            rw [ht] at a2 a3
            exact absurd ⟨a2, a3⟩ h6
        simp [R43_0, R43_1, R43_2, R43_3, R43_4, R43_5, R43_6, R43_7, R43_8, R43_9, R43_10, R43_11, R43_12, R43_13, R43_14, R43_15, R43_16, R43_17, Tryd.f43, lpL43_0, lpM43_0, M43_0, hl1, h1, h0l, hb0, hbb, ht', i1, undef, bs_size, pV, pB, e]
    · have h1 : ¬ (1 : Int) < (l.length : Int) := by omega
      by_cases h6 : 1 ≤ t.length ∧ t.length ≤ 6
      · have hb1 : (decide ((1 : Int) ≤ (t.length : Int)) && decide ((t.length : Int) ≤ 6)) = true := by simp; omega
        rw [hb1] at i1
        rw [ht'] at i1; try simp at i1
        simp [R43_0, R43_1, R43_2, R43_3, R43_4, R43_5, R43_6, R43_7, R43_8, R43_9, R43_10, R43_11, R43_12, R43_13, R43_14, R43_15, R43_16, R43_17, Tryd.f43, lpL43_0, lpM43_0, hl1, h1, ht', i1, undef, bs_size]
        generalize hr2 : loopRun _ _ _ _ = res
        cases hd : Lib.decFrom 0 t with
        | some m =>
          obtain ⟨s1, rfl, f0, f4, f5⟩ := loop_at (hLd m h6.2 hd) hr2 ⟨by simp, by simp [hl1, h1, ht'], by simp, 0, rfl, by simp⟩
          have hm := dec_take (t := t) (i := t.length) (m := m) (by rw [List.take_length]; exact hd) h6.2
          obtain ⟨n, hn, hnr⟩ : ∃ n : Int, (m : Int) = n ∧ -999999 ≤ n ∧ n ≤ 999999 := ⟨_, rfl, by omega, by omega⟩
          have hw : IntKind.i64.wrap n = n := wrap_small (by omega) (by omega)
          have hw0 : IntKind.i64.wrap (-(m : Int)) = -(m : Int) := wrap_small (by omega) (by omega)
          have hl1 := c_l1Num (k + 8) n (by omega) (by omega) (by omega)
          have hlt : ¬ t.length < l.length := by rw [ht']; omega
          by_cases he : Lib.itoa n = l
          · have e := pI_some hnr.1 hnr.2
            rw [he] at e
            rw [he] at hl1
            simp [R43_0, R43_1, R43_2, R43_3, R43_4, R43_5, R43_6, R43_7, R43_8, R43_9, R43_10, R43_11, R43_12, R43_13, R43_14, R43_15, R43_16, R43_17, Tryd.f43, lpL43_0, lpM43_0, M43_0, f0, f4, f5, bs_size, hlt, hw, hw0, hn, hl1, pV, pB, e]
          · have e : pI l = none := by
              cases h : pI l with
              | none => rfl
              | some n' =>
                obtain ⟨z1, z2, z3⟩ := pI_inv h
                obtain ⟨a1, _, _⟩ := pI_unsg h
                obtain ⟨_, a2⟩ := unsg_itoa n'
                rw [z3, ht] at a2
                rw [ht] at a1
                have := dec_digits n'.natAbs
                rw [← a1, hd] at this
                have hmn := Option.some.inj this
                have : n' = n := by
                  have : ¬ n' < 0 := fun h => hlt (a2.2 h); omega
                rw [this] at z3
                exact absurd z3 he
            have hbe : ¬ (bs (Lib.itoa n)).toList = (bs l).toList := by
              rw [Lib.toList_data, Lib.toList_data]
              simpa [bs] using he
            simp [R43_0, R43_1, R43_2, R43_3, R43_4, R43_5, R43_6, R43_7, R43_8, R43_9, R43_10, R43_11, R43_12, R43_13, R43_14, R43_15, R43_16, R43_17, Tryd.f43, lpL43_0, lpM43_0, M43_0, f0, f4, f5, bs_size, hlt, hw, hw0, hn, hl1, hbe, pV, pB, e]
        | none =>
          obtain ⟨j, mj, hj, d1, d2⟩ := dec_none hd
          obtain ⟨s1, rfl, f2, f3⟩ := loop_at (hLn j mj hj h6.2 d1 d2) hr2 ⟨by simp, by simp [hl1, h1, ht'], by simp, 0, rfl, by simp⟩
          have e : pI l = none := by
            cases h : pI l with
            | none => rfl
            | some n' =>
              obtain ⟨a1, _, _⟩ := pI_unsg h
              rw [ht] at a1
              have := dec_digits n'.natAbs
              rw [← a1, hd] at this
              cases this
          simp [R43_0, R43_1, R43_2, R43_3, R43_4, R43_5, R43_6, R43_7, R43_8, R43_9, R43_10, R43_11, R43_12, R43_13, R43_14, R43_15, R43_16, R43_17, Tryd.f43, lpL43_0, lpM43_0, f2, f3, pV, pB, e]
      · have hb1 : (decide ((1 : Int) ≤ (t.length : Int)) && decide ((t.length : Int) ≤ 6)) = false := by
          simp only [Bool.and_eq_false_iff, decide_eq_false_iff_not]; omega
        rw [hb1] at i1
        rw [ht'] at i1; try simp at i1
        have e : pI l = none := by
          cases h : pI l with
          | none => rfl
          | some n' =>
            obtain ⟨_, a2, a3⟩ := pI_unsg h
            rw [ht] at a2 a3
            exact absurd ⟨a2, a3⟩ h6
        simp [R43_0, R43_1, R43_2, R43_3, R43_4, R43_5, R43_6, R43_7, R43_8, R43_9, R43_10, R43_11, R43_12, R43_13, R43_14, R43_15, R43_16, R43_17, Tryd.f43, lpL43_0, lpM43_0, M43_0, hl1, h1, ht', i1, undef, bs_size, pV, pB, e]

end Go.Proofs.YteedcjgmgbcndaaDoor.Eng
namespace Go.Proofs.YteedcjgmgbcndaaDoor.Eng
open Go Go.Proofs
set_option maxRecDepth 100000
set_option maxHeartbeats 2000000
set_option linter.unusedSimpArgs false
set_option linter.unusedVariables false
attribute [local simp] finK fin1 hpOf xi renQ isRoot runCode runOps stepX inlOf Eng.step wantedV astep val ofO made loadV storeV find V.cells bin binT binA numT numFs eqCells un1 setAt fieldAddrV fieldV indexAddrV indexV bounds sliceV convV lenV foldV max2V min2V callO bor rdsO wrsO seen_none okD_none loops keepIds resV resultsV St.ev TK.agg refs refsL refsO V.one V.isC Value.oneCell' ren renL renO noTag noTagL noTagR noTagO nodup mapO passV frs psi refsR newD loopNext opsAt idx flatAt rootOf backR newsV appendV copyV clearV strV bytesV bldV bufV selfV bytesOf nilCmp buildV fillF chunk freeL frzW cellSame sameV
attribute [local simp] cT cF cX cWR cOW cK cBL X ints_length ints_get ints_getElem ints_drop ints_take ints_append ints_nil ints_set
attribute [local simp] ints_replicate
attribute [local simp] putV_some putV_none putH_app applyD_nil applyD_cons seen_app gc_ρ gc_H gc_tick st0_ρ st0_H st0_tick retV callRo callV_if borL_nil borL_cons ints_snoc take_self callWr cutH_app findQ afterV exportV_0 exportV_n okD_nil okD_cons sub_seq0 sub_seq1 sub_cond0 sub_cond1 sub_block sub_loop sub_nil young_far young_none hidW_nil mayW_nil keepsF_nil keepsF_cons pairs okI ok_0 ok_1 ok_2
attribute [local simp] T3 T4 T5 T9 T22 T29 T34 T35 T37 T39 T42 T43 T56
/-- A sum or a difference. -/
def smB (q : Int × Int) : Bool := decide (q.1 = 3) || decide (q.1 = 4)
/-- A field's name, or a number. -/
def atT (q : Int × Int) : List UInt8 := if q.1 = 1 then [UInt8.ofNat (97 + q.2.toNat)] else Lib.decDigits q.2.toNat
/-- above(.., n) -/
def abT (q : Int × Int) (t : List UInt8) : List UInt8 := [97, 98, 111, 118, 101, 40] ++ t ++ [44] ++ Lib.decDigits q.2.toNat ++ [41]
/-- A node of two arguments: the left one, the right one, whether that is a sum. -/
def biT (q : Int × Int) (x y : List UInt8) (s : Bool) : List UInt8 := if q.1 = 5 then [109, 105, 110, 40] ++ x ++ [44] ++ y ++ [41] else if q.1 = 6 then [109, 97, 120, 40] ++ x ++ [44] ++ y ++ [41] else x ++ [if q.1 = 3 then 43 else 45] ++ (if s then [40] ++ y ++ [41] else y)
/-- The texts behind i nodes, the last one ahead, each with whether it is a sum. -/
def tks (l : List (Int × Int)) : Nat → List (List UInt8 × Bool)
  | 0 => []
  | i + 1 => if arI (l.getD i (0, 0)) = 0 then (atT (l.getD i (0, 0)), smB (l.getD i (0, 0))) :: tks l i else if arI (l.getD i (0, 0)) = 1 then (match tks l i with
    | (t, _) :: s => (abT (l.getD i (0, 0)) t, smB (l.getD i (0, 0))) :: s
    | [] => []) else (match tks l i with
    | (y, b) :: (x, _) :: s => (biT (l.getD i (0, 0)) x y b, smB (l.getD i (0, 0))) :: s
    | s => s)
theorem tks_0 {l : List (Int × Int)} {i : Nat} (h : arI (l.getD i (0, 0)) = 0) : tks l (i + 1) = (atT (l.getD i (0, 0)), smB (l.getD i (0, 0))) :: tks l i := by rw [tks, if_pos h]
theorem tks_1 {l : List (Int × Int)} {i : Nat} {t : List UInt8} {b : Bool} {s : List (List UInt8 × Bool)} (h : arI (l.getD i (0, 0)) = 1) (hs : tks l i = (t, b) :: s) : tks l (i + 1) = (abT (l.getD i (0, 0)) t, smB (l.getD i (0, 0))) :: s := by rw [tks, if_neg (by omega), if_pos h, hs]
theorem tks_2 {l : List (Int × Int)} {i : Nat} {x y : List UInt8} {b c : Bool} {s : List (List UInt8 × Bool)} (h : arI (l.getD i (0, 0)) = 2) (hs : tks l i = (y, b) :: (x, c) :: s) : tks l (i + 1) = (biT (l.getD i (0, 0)) x y b, smB (l.getD i (0, 0))) :: s := by rw [tks, if_neg (by omega), if_neg (by omega), hs]
theorem tks_len {l : List (Int × Int)} : ∀ i, 0 ≤ runO l i → ((tks l i).length : Int) = runO l i
  | 0, _ => by simp [tks, runO]
  | i + 1, h => by
    obtain ⟨h1, h2, h3, h4⟩ := runO_back h
    have ih := tks_len i h1
    rw [h4]
    rcases ar_cases (l.getD i (0, 0)) with e | e | e | e
    · rw [tks_0 e, e]; simp only [List.length_cons]; omega
    · cases hs : tks l i with
      | nil => rw [hs] at ih; simp only [List.length_nil] at ih; omega
      | cons x s => obtain ⟨a, d⟩ := x; rw [tks_1 e hs, e]; rw [hs] at ih; simp only [List.length_cons] at ih ⊢; omega
    · cases hs : tks l i with
      | nil => rw [hs] at ih; simp only [List.length_nil] at ih; omega
      | cons x s =>
        cases s with
        | nil => rw [hs] at ih; simp only [List.length_cons, List.length_nil] at ih; omega
        | cons y s => obtain ⟨a2, d2⟩ := x; obtain ⟨a, d1⟩ := y; rw [tks_2 e hs, e]; rw [hs] at ih; simp only [List.length_cons] at ih ⊢; omega
    · omega
/-- Behind a node: its text, on what lay there where its expression begins. -/
theorem tks_top {l : List (Int × Int)} : ∀ i, 0 ≤ runO l (i + 1) → ∀ a d s, stk l (i + 1) = (a, d) :: s → ∃ t, tks l (i + 1) = (t, smB (l.getD i (0, 0))) :: tks l a := by
  intro i
  induction i using Nat.strongRecOn with
  | _ i ih =>
    intro h a d s hst
    obtain ⟨h1, h2, h3, h4⟩ := runO_back h
    rcases ar_cases (l.getD i (0, 0)) with e | e | e | e
    · rw [stk_0 e] at hst
      injection hst with e1 _
      injection e1 with e1 _
      subst e1
      exact ⟨_, tks_0 e⟩
    · obtain ⟨j, rfl⟩ : ∃ j, i = j + 1 := by
        cases i with
        | zero => rw [e] at h3; exact absurd h3 (by simp [runO])
        | succ j => exact ⟨j, rfl⟩
      obtain ⟨a1, d1, ha, hs⟩ := stk_top j h1
      rw [stk_1 e hs] at hst
      injection hst with e1 _
      injection e1 with e1 _
      subst e1
      obtain ⟨t, ht⟩ := ih j (by omega) h1 _ _ _ hs
      exact ⟨_, tks_1 e ht⟩
    · obtain ⟨j, rfl⟩ : ∃ j, i = j + 1 := by
        cases i with
        | zero => rw [e] at h3; exact absurd h3 (by simp [runO])
        | succ j => exact ⟨j, rfl⟩
      obtain ⟨a1, d1, ha, hs⟩ := stk_top j h1
      have hl := stk_len (j + 1) h1
      have ha0 : 0 ≤ runO l a1 := runO_mono h1 (j + 1 - a1) a1 (by omega)
      have hla := stk_len a1 ha0
      rw [hs] at hl
      simp only [List.length_cons] at hl
      obtain ⟨b, rfl⟩ : ∃ b, a1 = b + 1 := by
        cases a1 with
        | zero => simp only [stk, List.length_nil] at hl; omega
        | succ b => exact ⟨b, rfl⟩
      obtain ⟨a2, d2, hc, hs'⟩ := stk_top b ha0
      rw [stk_2 e (by rw [hs, hs'])] at hst
      injection hst with e1 _
      injection e1 with e1 _
      subst e1
      obtain ⟨t, ht⟩ := ih j (by omega) h1 _ _ _ hs
      obtain ⟨t2, ht2⟩ := ih b (by omega) ha0 _ _ _ hs'
      rw [ht2] at ht
      exact ⟨_, tks_2 e ht⟩
    · omega
def lenT (s : List (List UInt8 × Bool)) : Nat := (s.map fun x => x.1.length).sum
theorem dig_short {v : Int} (h0 : 0 ≤ v) (h : v ≤ 9000) : (Lib.decDigits v.toNat).length ≤ 21 := by
  have := Lib.itoa_length_le v (by omega) (by omega)
  rw [show v = ((v.toNat : Nat) : Int) by omega, Lib.itoa_nonneg] at this
  exact this
theorem ar_range {q : Int × Int} : (arI q = 0 → (q.1 = 1 ∧ 0 ≤ q.2 ∧ q.2 ≤ 3) ∨ (q.1 = 2 ∧ 0 ≤ q.2 ∧ q.2 ≤ 9000)) ∧ (arI q = 1 → q.1 = 7 ∧ 0 ≤ q.2 ∧ q.2 ≤ 9000) ∧ (arI q = 2 → 3 ≤ q.1 ∧ q.1 ≤ 6 ∧ q.2 = 0) := by
  unfold arI
  split
  · rename_i h
    refine ⟨fun _ => h, fun e => absurd e (by decide), fun e => absurd e (by decide)⟩
  · split
    · rename_i h
      exact ⟨fun e => absurd e (by decide), fun e => absurd e (by decide), fun _ => ⟨h.1.1, h.1.2, h.2⟩⟩
    · split
      · rename_i h
        exact ⟨fun e => absurd e (by decide), fun _ => ⟨h.1, h.2.1, h.2.2⟩, fun e => absurd e (by decide)⟩
      · exact ⟨fun e => absurd e (by decide), fun e => absurd e (by decide), fun e => absurd e (by decide)⟩
theorem tks_bound {l : List (Int × Int)} : ∀ i, 0 ≤ runO l i → lenT (tks l i) ≤ 40 * i
  | 0, _ => by simp [tks, lenT]
  | i + 1, h => by
    obtain ⟨h1, h2, h3, h4⟩ := runO_back h
    have ih := tks_bound i h1
    obtain ⟨r0, r1, r2⟩ := ar_range (q := l.getD i (0, 0))
    rcases ar_cases (l.getD i (0, 0)) with e | e | e | e
    · rw [tks_0 e]
      have hat : (atT (l.getD i (0, 0))).length ≤ 21 := by
        unfold atT
        split
        · simp
        · rename_i hn
          rcases r0 e with hr | hr
          · exact absurd hr.1 hn
          · exact dig_short hr.2.1 hr.2.2
      simp only [lenT, List.map_cons, List.sum_cons] at ih ⊢
      omega
    · have hl := tks_len i h1
      cases hs : tks l i with
      | nil => rw [hs] at hl; simp only [List.length_nil] at hl; omega
      | cons x s =>
        obtain ⟨t, b⟩ := x
        rw [tks_1 e hs]
        rw [hs] at ih
        have hd := dig_short (r1 e).2.1 (r1 e).2.2
        simp only [lenT, List.map_cons, List.sum_cons, abT, List.length_append, List.length_cons, List.length_nil] at ih ⊢
        omega
    · have hl := tks_len i h1
      cases hs : tks l i with
      | nil => rw [hs] at hl; simp only [List.length_nil] at hl; omega
      | cons x s =>
        cases s with
        | nil => rw [hs] at hl; simp only [List.length_cons, List.length_nil] at hl; omega
        | cons y s =>
          obtain ⟨t, b⟩ := x
          obtain ⟨u, c⟩ := y
          rw [tks_2 e hs]
          rw [hs] at ih
          have hb : (biT (l.getD i (0, 0)) u t b).length ≤ u.length + t.length + 6 := by
            unfold biT
            split
            · simp only [List.length_append, List.length_cons, List.length_nil]; omega
            · split
              · simp only [List.length_append, List.length_cons, List.length_nil]; omega
              · cases b
                · simp only [List.length_append, List.length_cons, List.length_nil, Bool.false_eq_true, if_false]; omega
                · simp only [List.length_append, List.length_cons, List.length_nil, if_true]; omega
          simp only [lenT, List.map_cons, List.sum_cons] at ih ⊢
          omega
    · omega

end Go.Proofs.YteedcjgmgbcndaaDoor.Eng
namespace Go.Proofs.YteedcjgmgbcndaaDoor.Eng
open Go Go.Proofs
set_option maxRecDepth 100000
set_option maxHeartbeats 2000000
set_option linter.unusedSimpArgs false
set_option linter.unusedVariables false
attribute [local simp] finK fin1 hpOf xi renQ isRoot runCode runOps stepX inlOf Eng.step wantedV astep val ofO made loadV storeV find V.cells bin binT binA numT numFs eqCells un1 setAt fieldAddrV fieldV indexAddrV indexV bounds sliceV convV lenV foldV max2V min2V callO bor rdsO wrsO seen_none okD_none loops keepIds resV resultsV St.ev TK.agg refs refsL refsO V.one V.isC Value.oneCell' ren renL renO noTag noTagL noTagR noTagO nodup mapO passV frs psi refsR newD loopNext opsAt idx flatAt rootOf backR newsV appendV copyV clearV strV bytesV bldV bufV selfV bytesOf nilCmp buildV fillF chunk freeL frzW cellSame sameV
attribute [local simp] cT cF cX cWR cOW cK cBL X ints_length ints_get ints_getElem ints_drop ints_take ints_append ints_nil ints_set
attribute [local simp] ints_replicate
attribute [local simp] putV_some putV_none putH_app applyD_nil applyD_cons seen_app gc_ρ gc_H gc_tick st0_ρ st0_H st0_tick retV callRo callV_if borL_nil borL_cons ints_snoc take_self callWr cutH_app findQ afterV exportV_0 exportV_n okD_nil okD_cons sub_seq0 sub_seq1 sub_cond0 sub_cond1 sub_block sub_loop sub_nil young_far young_none hidW_nil mayW_nil keepsF_nil keepsF_cons pairs okI ok_0 ok_1 ok_2
attribute [local simp] T3 T4 T5 T9 T22 T29 T34 T35 T37 T39 T42 T43 T56
attribute [local simp] young_near clo cloF Region.binds Nat.testBit hidW declW mayW List.findIdx?_cons
theorem litA : (⟨#[97, 98, 111, 118, 101, 40]⟩ : ByteArray) = bs [97, 98, 111, 118, 101, 40] := rfl
theorem litM : (⟨#[109, 105, 110, 40]⟩ : ByteArray) = bs [109, 105, 110, 40] := rfl
theorem litX : (⟨#[109, 97, 120, 40]⟩ : ByteArray) = bs [109, 97, 120, 40] := rfl
theorem ifL {α : Type} {n : Nat} {a b : α} (h : n ≤ 9223372036854775807) : (if n ≤ 9223372036854775807 then a else b) = a := if_pos h
theorem itoa_nn {v : Int} (h : 0 ≤ v) : Lib.itoa v = Lib.decDigits v.toNat := by
  conv => lhs; rw [show v = ((v.toNat : Nat) : Int) by omega]
  exact Lib.itoa_nonneg _
theorem abc_slice (v : Int) (h : 0 ≤ v ∧ v ≤ 3) : sliceV T 9 (.c (.string ⟨#[97, 98, 99, 100]⟩)) (some (.c (.int .i64 v))) (some (.c (.int .i64 (v + 1)))) none = some (.c (.string (bs [UInt8.ofNat (97 + v.toNat)]))) := by
  have : v = 0 ∨ v = 1 ∨ v = 2 ∨ v = 3 := by omega
  rcases this with rfl | rfl | rfl | rfl <;> rfl
theorem c_l5Sum (k : Nat) (q : Int × Int) (hk : 3 ≤ k) : callK C k 29 [.ag (ndE q)] [] = some (.c (.bool (smB q)), hpOf [] []) := by
  obtain ⟨k, rfl⟩ : ∃ m, k = m + 1 := ⟨k - 1, by omega⟩
  rw [callK_fn rfl F29 code29]
  by_cases h : q.1 = 3
  · simp [R29_0, R29_1, Tryd.f29, undef, ndE, smB, h]
  · have hb : (q.1 == 3) = false := by simpa using h
    by_cases h4 : q.1 = 4
    · simp [R29_0, R29_1, Tryd.f29, undef, ndE, smB, h, hb, h4]
    · have hb4 : (q.1 == 4) = false := by simpa using h4
      simp [R29_0, R29_1, Tryd.f29, undef, ndE, smB, h, hb, h4, hb4]
theorem c_isSum (k : Nat) (q : Int × Int) (hk : 3 ≤ k) : callK C k 22 [.ag (ndE q)] [] = some (.c (.bool (smB q)), hpOf [] []) := by
  obtain ⟨k, rfl⟩ : ∃ m, k = m + 1 := ⟨k - 1, by omega⟩
  rw [callK_fn rfl F22 code22]
  by_cases h : q.1 = 3
  · simp [R22_0, R22_1, Tryd.f22, undef, ndE, smB, h]
  · have hb : (q.1 == 3) = false := by simpa using h
    by_cases h4 : q.1 = 4
    · simp [R22_0, R22_1, Tryd.f22, undef, ndE, smB, h, hb, h4]
    · have hb4 : (q.1 == 4) = false := by simpa using h4
      simp [R22_0, R22_1, Tryd.f22, undef, ndE, smB, h, hb, h4, hb4]
theorem c_l5Text (b : Bool) (l : List (Int × Int)) (h15 : l.length ≤ 15) : ∀ (i : Nat), i < l.length → 0 ≤ runO l (i + 1) → ∀ k, i + 60 ≤ k → ∀ t c s, tks l (i + 1) = (t, c) :: s →
    callK C k 16 [.sq b true 2 (ndL l), .c (.int .i64 (i : Int))] [] = some (.c (.string (bs t)), hpOf [] []) := by
  intro i
  induction i using Nat.strongRecOn with
  | _ i ih =>
    intro hi h k hk t c s hs
    obtain ⟨k, rfl⟩ : ∃ m, k = m + 1 := ⟨k - 1, by omega⟩
    rw [callK_fn rfl F16 code16]
    obtain ⟨h1, h2, h3, h4⟩ := runO_back h
    obtain ⟨r0, r1, r2⟩ := ar_range (q := l.getD i (0, 0))
    have hg := getD_nd hi
    have hn := ndL_get l i hi
    rcases ar_cases (l.getD i (0, 0)) with e | e | e | e
    · rw [tks_0 e] at hs
      injection hs with hs1 hs2
      injection hs1 with hs1 hs3
      subst hs1
      have r0 := r0 e
      rw [hg] at r0 ⊢
      obtain ⟨q, hq⟩ : ∃ q, l[i] = q := ⟨_, rfl⟩
      rw [hq] at r0 hn ⊢
      obtain ⟨q1, q2⟩ := q
      simp only [] at r0
      rcases r0 with ⟨rfl, ra, rb⟩ | ⟨rfl, ra, rb⟩
      · have hd := abc_slice q2 ⟨ra, rb⟩
        have hw : IntKind.i64.wrap (q2 + 1) = q2 + 1 := wrap_small (by omega) (by omega)
        simp [-sliceV] at hd
        simp [-sliceV, R16_0, R16_1, R16_2, R16_3, R16_4, R16_5, R16_6, R16_7, R16_8, R16_9, R16_10, R16_11, R16_12, R16_13, R16_14, R16_15, R16_16, R16_17, R16_18, R16_19, R16_20, Tryd.f16, ndL_length, hi, hn, ndL_at, hq, ndE, hw, hd, atT]
      · have hd := c_l1Num k q2 (by omega) (by omega) (by omega)
        rw [itoa_nn ra] at hd
        simp [R16_0, R16_1, R16_2, R16_3, R16_4, R16_5, R16_6, R16_7, R16_8, R16_9, R16_10, R16_11, R16_12, R16_13, R16_14, R16_15, R16_16, R16_17, R16_18, R16_19, R16_20, Tryd.f16, ndL_length, hi, hn, ndL_at, hq, ndE, hd, atT]
    · obtain ⟨j, rfl⟩ : ∃ j, i = j + 1 := by
        cases i with
        | zero => rw [e] at h3; exact absurd h3 (by simp [runO])
        | succ j => exact ⟨j, rfl⟩
      have hj0 : (0 : Int) ≤ (j : Int) + 1 := by omega
      have hl := tks_len (j + 1) h1
      have hbd := tks_bound (l := l) (j + 1) h1
      cases hk2 : tks l (j + 1) with
      | nil => rw [hk2] at hl; simp only [List.length_nil] at hl; omega
      | cons x s2 =>
        obtain ⟨t2, c2⟩ := x
        rw [hk2] at hbd
        simp only [lenT, List.map_cons, List.sum_cons] at hbd
        rw [tks_1 e hk2] at hs
        injection hs with hs1 hs2
        injection hs1 with hs1 hs3
        subst hs1
        have r1 := r1 e
        rw [hg] at r1 ⊢
        obtain ⟨q, hq⟩ : ∃ q, l[j + 1] = q := ⟨_, rfl⟩
        rw [hq] at r1 hn ⊢
        obtain ⟨q1, q2⟩ := q
        simp only [] at r1
        obtain ⟨rfl, ra, rb⟩ := r1
        have hd := c_l1Num k q2 (by omega) (by omega) (by omega)
        rw [itoa_nn ra] at hd
        have hdl := dig_short ra rb
        have hrec := ih j (by omega) (by omega) h1 k (by omega) t2 c2 _ hk2
        have hw' : IntKind.i64.wrap (j : Int) = (j : Int) := wrap_small (by omega) (by omega)
        try simp at hn
        try simp at hi
        have z1 : 6 + t2.length ≤ 9223372036854775807 := by omega
        have z2 : t2.length + 6 + 1 ≤ 9223372036854775807 := by omega
        have z2b : t2.length + 7 ≤ 9223372036854775807 := by omega
        have z3 : t2.length + 1 + 1 + 1 + 1 + 1 + 1 + 1 + (Lib.decDigits q2.toNat).length ≤ 9223372036854775807 := by omega
        have z4 : t2.length + ((Lib.decDigits q2.toNat).length + 1) + 1 + 1 + 1 + 1 + 1 + 1 + 1 ≤ 9223372036854775807 := by omega
        have z4b : t2.length + ((Lib.decDigits q2.toNat).length + 1) + 7 ≤ 9223372036854775807 := by omega
        simp [R16_0, R16_1, R16_2, R16_3, R16_4, R16_5, R16_6, R16_7, R16_8, R16_9, R16_10, R16_11, R16_12, R16_13, R16_14, R16_15, R16_16, R16_17, R16_18, R16_19, R16_20, Tryd.f16, ndL_length, hi, hn, ndL_at, hq, ndE, hd, hj0, hw', hrec, litA, lit1, bs_append, bs_size, z1, z2, z2b, z3, z4, z4b, abT]
    · obtain ⟨j, rfl⟩ : ∃ j, i = j + 1 := by
        cases i with
        | zero => rw [e] at h3; exact absurd h3 (by simp [runO])
        | succ j => exact ⟨j, rfl⟩
      have hj0 : (0 : Int) ≤ (j : Int) + 1 := by omega
      obtain ⟨a2, d2, ha2, hs'⟩ := stk_top j h1
      have hl := stk_len (j + 1) h1
      have ha0 : 0 ≤ runO l a2 := runO_mono h1 (j + 1 - a2) a2 (by omega)
      have hla := stk_len a2 ha0
      rw [hs'] at hl
      simp only [List.length_cons] at hl
      obtain ⟨f, rfl⟩ : ∃ f, a2 = f + 1 := by
        cases a2 with
        | zero => simp only [stk, List.length_nil] at hl; omega
        | succ f => exact ⟨f, rfl⟩
      obtain ⟨a1, d1, ha1, hs1⟩ := stk_top f ha0
      obtain ⟨y, hy⟩ := tks_top j h1 _ _ _ hs'
      obtain ⟨x, hx⟩ := tks_top f ha0 _ _ _ hs1
      have hbd := tks_bound (l := l) (j + 1) h1
      have hst := c_l5Start b l h15 j (by omega) h1 k (by omega) (f + 1) d2 _ hs'
      have hrec1 := ih j (by omega) (by omega) h1 k (by omega) y _ _ hy
      have hrec2 := ih f (by omega) (by omega) ha0 k (by omega) x _ _ hx
      rw [hx] at hy
      rw [hy] at hbd
      simp only [lenT, List.map_cons, List.sum_cons] at hbd
      rw [tks_2 e hy] at hs
      injection hs with hs1 hs2
      injection hs1 with hs1 hs3
      subst hs1
      have r2 := r2 e
      have hjl : j < l.length := by omega
      have hgj := getD_nd hjl
      rw [hg] at r2 ⊢
      rw [hgj]
      obtain ⟨q, hq⟩ : ∃ q, l[j + 1] = q := ⟨_, rfl⟩
      have hS := c_l5Sum k l[j] (by omega)
      have hnj := ndL_get l j hjl
      obtain ⟨u, hu⟩ : ∃ u, smB l[j] = u := ⟨_, rfl⟩
      rw [hu] at hS ⊢
      rw [hq] at r2 hn ⊢
      obtain ⟨q1, q2⟩ := q
      simp only [] at r2
      obtain ⟨ra, rb, rfl⟩ := r2
      have hw' : IntKind.i64.wrap (j : Int) = (j : Int) := wrap_small (by omega) (by omega)
      have hw2 : IntKind.i64.wrap (f : Int) = (f : Int) := wrap_small (by omega) (by omega)
      simp [ndE] at hS
      try simp at hn
      try simp at hi
      try simp at hst
      have zA : 4 + x.length ≤ 9223372036854775807 := by omega
      have zB : x.length + 4 + 1 ≤ 9223372036854775807 := by omega
      have zB2 : x.length + 5 ≤ 9223372036854775807 := by omega
      have zB3 : x.length + 1 + 1 + 1 + 1 + 1 ≤ 9223372036854775807 := by omega
      have zC : x.length + 1 + 1 + 1 + 1 + 1 + y.length ≤ 9223372036854775807 := by omega
      have zD : x.length + (y.length + 1) + 1 + 1 + 1 + 1 + 1 ≤ 9223372036854775807 := by omega
      have zD2 : x.length + (y.length + 1) + 5 ≤ 9223372036854775807 := by omega
      have zE : x.length + 1 ≤ 9223372036854775807 := by omega
      have zF : x.length + 1 + y.length ≤ 9223372036854775807 := by omega
      have zG : 1 + y.length ≤ 9223372036854775807 := by omega
      have zH : y.length + 1 + 1 ≤ 9223372036854775807 := by omega
      have zH2 : y.length + 2 ≤ 9223372036854775807 := by omega
      have zI : x.length + 1 + (y.length + 1 + 1) ≤ 9223372036854775807 := by omega
      have zI2 : x.length + 1 + (y.length + 2) ≤ 9223372036854775807 := by omega
      have hcase : q1 = 3 ∨ q1 = 4 ∨ q1 = 5 ∨ q1 = 6 := by omega
      rcases hcase with rfl | rfl | rfl | rfl
      · cases u
        · simp [R16_0, R16_1, R16_2, R16_3, R16_4, R16_5, R16_6, R16_7, R16_8, R16_9, R16_10, R16_11, R16_12, R16_13, R16_14, R16_15, R16_16, R16_17, R16_18, R16_19, R16_20, Tryd.f16, ndL_length, hi, hn, hnj, hjl, ndL_at, hq, ndE, hj0, hw', hw2, hst, hrec1, hrec2, hS, lit1, bs_append, bs_size, zE, zF, biT]
        · simp [R16_0, R16_1, R16_2, R16_3, R16_4, R16_5, R16_6, R16_7, R16_8, R16_9, R16_10, R16_11, R16_12, R16_13, R16_14, R16_15, R16_16, R16_17, R16_18, R16_19, R16_20, Tryd.f16, ndL_length, hi, hn, hnj, hjl, ndL_at, hq, ndE, hj0, hw', hw2, hst, hrec1, hrec2, hS, lit1, bs_append, bs_size, zE, zF, zG, zH, zH2, zI, zI2, biT]
      · cases u
        · simp [R16_0, R16_1, R16_2, R16_3, R16_4, R16_5, R16_6, R16_7, R16_8, R16_9, R16_10, R16_11, R16_12, R16_13, R16_14, R16_15, R16_16, R16_17, R16_18, R16_19, R16_20, Tryd.f16, ndL_length, hi, hn, hnj, hjl, ndL_at, hq, ndE, hj0, hw', hw2, hst, hrec1, hrec2, hS, lit1, bs_append, bs_size, zE, zF, biT]
        · simp [R16_0, R16_1, R16_2, R16_3, R16_4, R16_5, R16_6, R16_7, R16_8, R16_9, R16_10, R16_11, R16_12, R16_13, R16_14, R16_15, R16_16, R16_17, R16_18, R16_19, R16_20, Tryd.f16, ndL_length, hi, hn, hnj, hjl, ndL_at, hq, ndE, hj0, hw', hw2, hst, hrec1, hrec2, hS, lit1, bs_append, bs_size, zE, zF, zG, zH, zH2, zI, zI2, biT]
      · simp [R16_0, R16_1, R16_2, R16_3, R16_4, R16_5, R16_6, R16_7, R16_8, R16_9, R16_10, R16_11, R16_12, R16_13, R16_14, R16_15, R16_16, R16_17, R16_18, R16_19, R16_20, Tryd.f16, ndL_length, hi, hn, hnj, hjl, ndL_at, hq, ndE, hj0, hw', hw2, hst, hrec1, hrec2, litM, lit1, bs_append, bs_size, zA, zB, zB2, zB3, zC, zD, zD2, biT]
      · simp [R16_0, R16_1, R16_2, R16_3, R16_4, R16_5, R16_6, R16_7, R16_8, R16_9, R16_10, R16_11, R16_12, R16_13, R16_14, R16_15, R16_16, R16_17, R16_18, R16_19, R16_20, Tryd.f16, ndL_length, hi, hn, hnj, hjl, ndL_at, hq, ndE, hj0, hw', hw2, hst, hrec1, hrec2, litX, lit1, bs_append, bs_size, zA, zB, zB2, zB3, zC, zD, zD2, biT]
    · omega

end Go.Proofs.YteedcjgmgbcndaaDoor.Eng
namespace Go.Proofs.YteedcjgmgbcndaaDoor.Eng
open Go Go.Proofs
set_option maxRecDepth 100000
set_option maxHeartbeats 2000000
set_option linter.unusedSimpArgs false
set_option linter.unusedVariables false
attribute [local simp] finK fin1 hpOf xi renQ isRoot runCode runOps stepX inlOf Eng.step wantedV astep val ofO made loadV storeV find V.cells bin binT binA numT numFs eqCells un1 setAt fieldAddrV fieldV indexAddrV indexV bounds sliceV convV lenV foldV max2V min2V callO bor rdsO wrsO seen_none okD_none loops keepIds resV resultsV St.ev TK.agg refs refsL refsO V.one V.isC Value.oneCell' ren renL renO noTag noTagL noTagR noTagO nodup mapO passV frs psi refsR newD loopNext opsAt idx flatAt rootOf backR newsV appendV copyV clearV strV bytesV bldV bufV selfV bytesOf nilCmp buildV fillF chunk freeL frzW cellSame sameV
attribute [local simp] cT cF cX cWR cOW cK cBL X ints_length ints_get ints_getElem ints_drop ints_take ints_append ints_nil ints_set
attribute [local simp] ints_replicate
attribute [local simp] putV_some putV_none putH_app applyD_nil applyD_cons seen_app gc_ρ gc_H gc_tick st0_ρ st0_H st0_tick retV callRo callV_if borL_nil borL_cons ints_snoc take_self callWr cutH_app findQ afterV exportV_0 exportV_n okD_nil okD_cons sub_seq0 sub_seq1 sub_cond0 sub_cond1 sub_block sub_loop sub_nil young_far young_none hidW_nil mayW_nil keepsF_nil keepsF_cons pairs okI ok_0 ok_1 ok_2
attribute [local simp] T3 T4 T5 T9 T22 T29 T34 T35 T37 T39 T42 T43 T56
attribute [local simp] young_near clo cloF Region.binds Nat.testBit hidW declW mayW List.findIdx?_cons
def bls (p : List Bool) : List (List V) := p.map fun x => [.c (.bool x)]
def blsO (p : List Bool) : Eng.Obj := ⟨4, 1, true, bls p⟩
theorem bls_snoc (p : List Bool) (x : Bool) : bls p ++ [[V.c (.bool x)]] = bls (p ++ [x]) := by simp [bls]
theorem bls_length (p : List Bool) : (bls p).length = p.length := by simp [bls]
theorem bls_take (p : List Bool) (n : Nat) : (bls p).take n = bls (p.take n) := by simp [bls]
theorem okBl (ty : TypeId) (p : List Bool) : okObj ⟨ty, 1, true, bls p⟩ = true := by simp [okObj, bls, V.one, V.isC, Value.oneCell']
theorem bls_one (x : Bool) : [[V.c (.bool x)]] = bls [x] := rfl
/-- The two stacks: nothing yet, or two objects. -/
def Ct (v w : V) (H : Hp) (R : List (List UInt8 × Bool)) : Prop := (R = [] ∧ v = .c (.slice none 0 0) ∧ w = .c (.slice none 0 0)) ∨ (R ≠ [] ∧ ∃ tk tk', v = .s 29800 tk 1 0 R.length ∧ H 29800 = some (tk, strsO (R.map (·.1))) ∧ w = .s 29912 tk' 1 0 R.length ∧ H 29912 = some (tk', blsO (R.map (·.2))))
theorem c_exprText (k : Nat) (b : Bool) (l : List (Int × Int)) (hg : goodE l = true) (hk : 400 ≤ k) : callK C k 12 [.sq b true 2 (ndL l)] [] = some (.c (.string (bs ((tks l l.length).headD ([], false)).1)), hpOf [] []) := by
  obtain ⟨k, rfl⟩ : ∃ m, k = m + 1 := ⟨k - 1, by omega⟩
  rw [callK_fn rfl F12 code12]
  have hag := fun q => c_arguments k q (by omega)
  have hsm := fun q => c_isSum k q (by omega)
  obtain ⟨h15, hr⟩ := good_run hg
  have hL := loopHas (body := fun st => runCode C (callK C (k + 0)) (k + 0) (K 12) L12_0 1 st) (keep := [3, 4, 13, 14, 15]) (.ex 0) (fun st => Ct (st.ρ 3) (st.ρ 4) st.H (tks l l.length).reverse)
    (fun i st => st.ρ 13 = .sq b true 2 (ndL l) ∧ st.ρ 14 = .c (.int .i64 (l.length : Int)) ∧ st.ρ 15 = .c (.int .i64 (i : Int)) ∧ Ct (st.ρ 3) (st.ρ 4) st.H (tks l i).reverse)
    l.length (k + 0) (by omega)
    (by
      rintro i st next hi ⟨q13, q14, q15, hc⟩ hx
      have hgi : 0 ≤ runO l (i + 1) := runO_mono (by omega : 0 ≤ runO l l.length) (l.length - (i + 1)) (i + 1) (by omega)
      obtain ⟨r1, r2, r3, r4⟩ := runO_back hgi
      obtain ⟨a0, a1, a2⟩ := ar_range (q := l.getD i (0, 0))
      have hlen := tks_len i r1
      have hbd := tks_bound (l := l) i r1
      have r5 := runO_le l i
      have nget := ndL_get l i hi
      have ha := hag l[i]
      have hs := hsm l[i]
      have hgd := getD_nd hi
      have hwn := wrap_next hi (by omega : l.length ≤ 9000000000000000000)
      rcases ar_cases (l.getD i (0, 0)) with e | e | e | e
      · -- a field or a number
        have a0 := a0 e
        rw [tks_0 e] at hx
        rw [hgd] at a0 e hx
        rw [argI_eq (by omega), e] at ha
        rw [List.reverse_cons] at hx
        obtain ⟨R, hR⟩ : ∃ R, (tks l i).reverse = R := ⟨_, rfl⟩
        rw [hR] at hx hc
        have hRl : R.length ≤ 15 := by rw [← hR, List.length_reverse]; omega
        obtain ⟨u, hu⟩ : ∃ u, smB l[i] = u := ⟨_, rfl⟩
        obtain ⟨q, hq⟩ : ∃ q, l[i] = q := ⟨_, rfl⟩
        rw [hu] at hs hx
        rw [hq] at nget ha hs a0 hx
        obtain ⟨c1, c2⟩ := q
        simp only [] at a0
        simp [ndE] at ha hs
        have hq0 : IntKind.i64.wrap (R.length : Int) = (R.length : Int) := wrap_small (by omega) (by omega)
        have n1 : (R.length + 1) * 16 ≤ 140737488355328 := by omega
        have n2 : R.length + 1 ≤ 9223372036854775807 := by omega
        have n3 : R.length + 1 ≤ 140737488355328 := by omega
        have htA : (strs (R.map (·.1))).take R.length = strs (R.map (·.1)) := List.take_of_length_le (by rw [strs_length, List.length_map]; exact Nat.le_refl _)
        have htB : (bls (R.map (·.2))).take R.length = bls (R.map (·.2)) := List.take_of_length_le (by rw [bls_length, List.length_map]; exact Nat.le_refl _)
        have hlA : (strs (R.map (·.1))).length = R.length := by rw [strs_length, List.length_map]
        have hlB : (bls (R.map (·.2))).length = R.length := by rw [bls_length, List.length_map]
        rcases a0 with ⟨rfl, ra, rb⟩ | ⟨rfl, ra, rb⟩
        · obtain ⟨n, rfl⟩ : ∃ n : Nat, c2 = n := ⟨c2.toNat, by omega⟩
          have hn3 : n < 4 := by omega
          have hw : IntKind.i64.wrap ((n : Int) + 1) = (n : Int) + 1 := wrap_small (by omega) (by omega)
          have bsz : (⟨#[97, 98, 99, 100]⟩ : ByteArray).size = 4 := rfl
          have f1 : (n : Int) + 1 ≤ 4 := by omega
          have f2 : (0 : Int) ≤ (n : Int) + 1 := by omega
          have f3 : (n : Int) ≤ (n : Int) + 1 := by omega
          have hex : (⟨#[97, 98, 99, 100]⟩ : ByteArray).extract n (n + 1) = bs [UInt8.ofNat (97 + n)] := by
            have : n = 0 ∨ n = 1 ∨ n = 2 ∨ n = 3 := by omega
            rcases this with rfl | rfl | rfl | rfl <;> rfl
          simp at hex
          rcases hc with ⟨hn, hv, hv2⟩ | ⟨hn, tk, tk', hv, hH, hv2, hH2⟩
          · subst hn
            simp at hq0
            simp [L12_0, R12_0, R12_1, R12_2, R12_3, R12_4, R12_5, R12_6, R12_7, R12_8, R12_9, R12_10, R12_11, R12_12, R12_13, R12_14, R12_15, R12_16, R12_17, R12_18, R12_19, R12_20, R12_21, R12_22, R12_23, R12_24, R12_25, R12_26, R12_27, R12_28, R12_29, R12_30, R12_31, Tryd.f12, lpL12_0, lpM12_0, M12_0, q13, q14, q15, hv, hv2, hi, nget, ndL_at, hq, ndE, ha, hs, hwn, hq0, hw, bsz, f1, f2, f3, hex, maxLen]
            refine hx _ ⟨by simp [q13], by simp [q14], by simp, .inr ⟨by simp, st.tick + 1 + 1 + 1 + 1 + 1 + 1 + 1 + 1, st.tick + 1 + 1 + 1 + 1 + 1 + 1 + 1 + 1, ?_, ?_, ?_, ?_⟩⟩
            all_goals simp [strsO, blsO, strs, bls, atT]
          · simp [strsO] at hH
            simp [blsO] at hH2
            simp [L12_0, R12_0, R12_1, R12_2, R12_3, R12_4, R12_5, R12_6, R12_7, R12_8, R12_9, R12_10, R12_11, R12_12, R12_13, R12_14, R12_15, R12_16, R12_17, R12_18, R12_19, R12_20, R12_21, R12_22, R12_23, R12_24, R12_25, R12_26, R12_27, R12_28, R12_29, R12_30, R12_31, Tryd.f12, lpL12_0, lpM12_0, M12_0, q13, q14, q15, hv, hv2, hi, nget, ndL_at, hq, ndE, ha, hs, hwn, hq0, hw, bsz, f1, f2, f3, hex, hH, hH2, htA, htB, hlA, hlB, strs_snoc, bls_snoc, okS, okBl, n1, n2, n3, maxLen]
            refine hx _ ⟨by simp [q13], by simp [q14], by simp, .inr ⟨by simp, st.tick + 1 + 1 + 1 + 1 + 1 + 1 + 1 + 1, st.tick + 1 + 1 + 1 + 1 + 1 + 1 + 1 + 1, ?_, ?_, ?_, ?_⟩⟩
            all_goals simp [strsO, blsO, atT]
        · have hd := c_Itoa k c2 (by omega) (by omega) (by omega)
          rw [itoa_nn ra] at hd
          rcases hc with ⟨hn, hv, hv2⟩ | ⟨hn, tk, tk', hv, hH, hv2, hH2⟩
          · subst hn
            simp at hq0
            simp [L12_0, R12_0, R12_1, R12_2, R12_3, R12_4, R12_5, R12_6, R12_7, R12_8, R12_9, R12_10, R12_11, R12_12, R12_13, R12_14, R12_15, R12_16, R12_17, R12_18, R12_19, R12_20, R12_21, R12_22, R12_23, R12_24, R12_25, R12_26, R12_27, R12_28, R12_29, R12_30, R12_31, Tryd.f12, lpL12_0, lpM12_0, M12_0, q13, q14, q15, hv, hv2, hi, nget, ndL_at, hq, ndE, ha, hs, hwn, hq0, hd, maxLen]
            refine hx _ ⟨by simp [q13], by simp [q14], by simp, .inr ⟨by simp, st.tick + 1 + 1 + 1 + 1 + 1 + 1 + 1 + 1 + 1, st.tick + 1 + 1 + 1 + 1 + 1 + 1 + 1 + 1 + 1, ?_, ?_, ?_, ?_⟩⟩
            all_goals simp [strsO, blsO, strs, bls, atT]
          · simp [strsO] at hH
            simp [blsO] at hH2
            simp [L12_0, R12_0, R12_1, R12_2, R12_3, R12_4, R12_5, R12_6, R12_7, R12_8, R12_9, R12_10, R12_11, R12_12, R12_13, R12_14, R12_15, R12_16, R12_17, R12_18, R12_19, R12_20, R12_21, R12_22, R12_23, R12_24, R12_25, R12_26, R12_27, R12_28, R12_29, R12_30, R12_31, Tryd.f12, lpL12_0, lpM12_0, M12_0, q13, q14, q15, hv, hv2, hi, nget, ndL_at, hq, ndE, ha, hs, hwn, hq0, hd, hH, hH2, htA, htB, hlA, hlB, strs_snoc, bls_snoc, okS, okBl, n1, n2, n3, maxLen]
            refine hx _ ⟨by simp [q13], by simp [q14], by simp, .inr ⟨by simp, st.tick + 1 + 1 + 1 + 1 + 1 + 1 + 1 + 1 + 1, st.tick + 1 + 1 + 1 + 1 + 1 + 1 + 1 + 1 + 1, ?_, ?_, ?_, ?_⟩⟩
            all_goals simp [strsO, blsO, atT]
      · -- above
        have a1 := a1 e
        cases hk2 : tks l i with
        | nil => rw [hk2] at hlen; simp only [List.length_nil] at hlen; omega
        | cons x s2 =>
          obtain ⟨t, c⟩ := x
          rw [tks_1 e hk2] at hx
          rw [hk2] at hlen hbd hc
          simp only [lenT, List.map_cons, List.sum_cons] at hbd
          rw [hgd] at a1 e hx
          rw [argI_eq (by omega), e] at ha
          rw [List.reverse_cons] at hx hc
          obtain ⟨u, hu⟩ : ∃ u, smB l[i] = u := ⟨_, rfl⟩
          obtain ⟨q, hq⟩ : ∃ q, l[i] = q := ⟨_, rfl⟩
          rw [hu] at hs hx
          rw [hq] at nget ha hs a1 hx
          obtain ⟨c1, c2⟩ := q
          simp only [] at a1
          obtain ⟨rfl, ra, rb⟩ := a1
          simp [ndE] at ha hs
          obtain ⟨P, hP⟩ : ∃ P, s2.reverse = P := ⟨_, rfl⟩
          rw [hP] at hx hc
          have hPl : P.length ≤ 15 := by
            rw [← hP, List.length_reverse]; simp only [List.length_cons] at hlen; omega
          rcases hc with ⟨hn, _⟩ | ⟨hn, tk, tk', hv, hH, hv2, hH2⟩
          · simp at hn
          · have hd := c_Itoa k c2 (by omega) (by omega) (by omega)
            rw [itoa_nn ra] at hd
            have hdl := dig_short ra rb
            obtain ⟨PA, hPA⟩ : ∃ PA, P.map (·.1) = PA := ⟨_, rfl⟩
            obtain ⟨PB, hPB⟩ : ∃ PB, P.map (·.2) = PB := ⟨_, rfl⟩
            obtain ⟨n, hnn⟩ : ∃ n, P.length = n := ⟨_, rfl⟩
            have hla : PA.length = n := by rw [← hPA, List.length_map, hnn]
            have hlb : PB.length = n := by rw [← hPB, List.length_map, hnn]
            rw [List.map_append, hPA] at hH
            rw [List.map_append, hPB] at hH2
            simp only [List.map_cons, List.map_nil] at hH hH2
            rw [List.length_append, hnn] at hv hv2
            simp only [List.length_cons, List.length_nil] at hv hv2
            have hlA : (strs (PA ++ [t])).length = n + 1 := by rw [strs_length, List.length_append, hla]; rfl
            have hlB : (bls (PB ++ [c])).length = n + 1 := by rw [bls_length, List.length_append, hlb]; rfl
            have htA : (strs (PA ++ [t])).take n = strs PA := by rw [strs_take, ← hla, List.take_left]
            have htB : (bls (PB ++ [c])).take n = bls PB := by rw [bls_take, ← hlb, List.take_left]
            have gA : (strs (PA ++ [t]))[n]? = some [.c (.string (bs t))] := by rw [← hla]; simp [strs]
            obtain ⟨A, hA⟩ : ∃ A, PA ++ [t] = A := ⟨_, rfl⟩
            obtain ⟨B, hB⟩ : ∃ B, PB ++ [c] = B := ⟨_, rfl⟩
            rw [hA] at hH hlA htA gA
            rw [hB] at hH2 hlB htB
            have wq : IntKind.i64.wrap (n : Int) = (n : Int) := wrap_small (by omega) (by omega)
            have n1 : (n + 1) * 16 ≤ 140737488355328 := by omega
            have n2 : n + 1 ≤ 9223372036854775807 := by omega
            have n3 : n + 1 ≤ 140737488355328 := by omega
            have z1 : 6 + t.length ≤ 9223372036854775807 := by omega
            have z2 : t.length + 6 + 1 ≤ 9223372036854775807 := by omega
            have z2b : t.length + 7 ≤ 9223372036854775807 := by omega
            have z3 : t.length + 1 + 1 + 1 + 1 + 1 + 1 + 1 + (Lib.decDigits c2.toNat).length ≤ 9223372036854775807 := by omega
            have z4 : t.length + ((Lib.decDigits c2.toNat).length + 1) + 1 + 1 + 1 + 1 + 1 + 1 + 1 ≤ 9223372036854775807 := by omega
            have z4b : t.length + ((Lib.decDigits c2.toNat).length + 1) + 7 ≤ 9223372036854775807 := by omega
            have n4 : (n : Int) ≤ (n : Int) + 1 := by omega
            have gA2 : ∀ h : n < (strs A).length, (strs A)[n]'h = [.c (.string (bs t))] := fun h => by
              rw [List.getElem?_eq_getElem h] at gA
              exact Option.some.inj gA
            have sa : P ++ [(abT (7, c2) t, u)] ≠ [] := by simp
            simp [strsO] at hH
            simp [blsO] at hH2
            simp [L12_0, R12_0, R12_1, R12_2, R12_3, R12_4, R12_5, R12_6, R12_7, R12_8, R12_9, R12_10, R12_11, R12_12, R12_13, R12_14, R12_15, R12_16, R12_17, R12_18, R12_19, R12_20, R12_21, R12_22, R12_23, R12_24, R12_25, R12_26, R12_27, R12_28, R12_29, R12_30, R12_31, Tryd.f12, lpL12_0, lpM12_0, M12_0, q13, q14, q15, hv, hv2, hi, nget, ndL_at, hq, ndE, ha, hs, hwn, wq, hH, hH2, hlA, hlB, htA, htB, strs_snoc, bls_snoc, okS, okBl, n1, n2, n3, maxLen, n4, gA, gA2, hd, litA, lit1, bs_append, bs_size, z1, z2, z2b, z3, z4, z4b]
            refine hx _ ⟨by simp [q13], by simp [q14], by simp, .inr ⟨sa, st.tick + 1 + 1 + 1 + 1 + 1 + 1 + 1 + 1 + 1 + 1 + 1 + 1 + 1 + 1, st.tick + 1 + 1 + 1 + 1 + 1 + 1 + 1 + 1 + 1 + 1 + 1 + 1 + 1 + 1, ?_, ?_, ?_, ?_⟩⟩
            all_goals simp [strsO, blsO, abT, hnn, hPA, hPB]
      · -- two arguments
        have a2 := a2 e
        cases hk2 : tks l i with
        | nil => rw [hk2] at hlen; simp only [List.length_nil] at hlen; omega
        | cons x0 s1 =>
          cases s1 with
          | nil => rw [hk2] at hlen; simp only [List.length_cons, List.length_nil] at hlen; omega
          | cons x1 s2 =>
            obtain ⟨y, bq⟩ := x0
            obtain ⟨x, c⟩ := x1
            rw [tks_2 e hk2] at hx
            rw [hk2] at hlen hbd hc
            simp only [lenT, List.map_cons, List.sum_cons] at hbd
            rw [hgd] at a2 e hx
            rw [argI_eq (by omega), e] at ha
            rw [List.reverse_cons] at hx hc
            rw [List.reverse_cons] at hc
            obtain ⟨u, hu⟩ : ∃ u, smB l[i] = u := ⟨_, rfl⟩
            obtain ⟨q, hq⟩ : ∃ q, l[i] = q := ⟨_, rfl⟩
            rw [hu] at hs hx
            rw [hq] at nget ha hs a2 hx
            obtain ⟨c1, c2⟩ := q
            simp only [] at a2
            obtain ⟨ra, rb, rfl⟩ := a2
            simp [ndE] at ha hs
            obtain ⟨P, hP⟩ : ∃ P, s2.reverse = P := ⟨_, rfl⟩
            rw [hP] at hx hc
            have hPl : P.length ≤ 15 := by
              rw [← hP, List.length_reverse]; simp only [List.length_cons] at hlen; omega
            rcases hc with ⟨hn, _⟩ | ⟨hn, tk, tk', hv, hH, hv2, hH2⟩
            · simp at hn
            · obtain ⟨PA, hPA⟩ : ∃ PA, P.map (·.1) = PA := ⟨_, rfl⟩
              obtain ⟨PB, hPB⟩ : ∃ PB, P.map (·.2) = PB := ⟨_, rfl⟩
              obtain ⟨n, hnn⟩ : ∃ n, P.length = n := ⟨_, rfl⟩
              have hla : PA.length = n := by rw [← hPA, List.length_map, hnn]
              have hlb : PB.length = n := by rw [← hPB, List.length_map, hnn]
              have hlR : (P ++ [(x, c)] ++ [(y, bq)]).length = n + 2 := by simp [hnn]
              rw [hlR] at hv hv2
              have hmA : (P ++ [(x, c)] ++ [(y, bq)]).map (·.1) = PA ++ [x, y] := by rw [← hPA]; simp
              have hmB : (P ++ [(x, c)] ++ [(y, bq)]).map (·.2) = PB ++ [c, bq] := by rw [← hPB]; simp
              rw [hmA] at hH
              rw [hmB] at hH2
              have hlA : (strs (PA ++ [x, y])).length = n + 2 := by rw [strs_length, List.length_append, hla]; rfl
              have hlB : (bls (PB ++ [c, bq])).length = n + 2 := by rw [bls_length, List.length_append, hlb]; rfl
              have htA : (strs (PA ++ [x, y])).take n = strs PA := by rw [strs_take, ← hla, List.take_left]
              have htB : (bls (PB ++ [c, bq])).take n = bls PB := by rw [bls_take, ← hlb, List.take_left]
              have gA : (strs (PA ++ [x, y]))[n]? = some [.c (.string (bs x))] := by rw [← hla]; simp [strs]
              have gC : (strs (PA ++ [x, y]))[n + 1]? = some [.c (.string (bs y))] := by rw [← hla]; simp [strs]
              have gB : (bls (PB ++ [c, bq]))[n + 1]? = some [.c (.bool bq)] := by rw [← hlb]; simp [bls]
              obtain ⟨A, hA⟩ : ∃ A, PA ++ [x, y] = A := ⟨_, rfl⟩
              obtain ⟨B, hB⟩ : ∃ B, PB ++ [c, bq] = B := ⟨_, rfl⟩
              rw [hA] at hH hlA htA gA gC
              rw [hB] at hH2 hlB htB gB
              have gA2 : ∀ h : n < (strs A).length, (strs A)[n]'h = [.c (.string (bs x))] := fun h => by
                rw [List.getElem?_eq_getElem h] at gA
                exact Option.some.inj gA
              have gC2 : ∀ h : n + 1 < (strs A).length, (strs A)[n + 1]'h = [.c (.string (bs y))] := fun h => by
                rw [List.getElem?_eq_getElem h] at gC
                exact Option.some.inj gC
              have gB2 : ∀ h : n + 1 < (bls B).length, (bls B)[n + 1]'h = [.c (.bool bq)] := fun h => by
                rw [List.getElem?_eq_getElem h] at gB
                exact Option.some.inj gB
              have wq : IntKind.i64.wrap (n : Int) = (n : Int) := wrap_small (by omega) (by omega)
              have n1 : (n + 1) * 16 ≤ 140737488355328 := by omega
              have n2 : n + 1 ≤ 9223372036854775807 := by omega
              have n3 : n + 1 ≤ 140737488355328 := by omega
              have n4 : (n : Int) ≤ (n : Int) + 2 := by omega
              have sa : ∀ z, P ++ [(z, u)] ≠ [] := by simp
              have zA : 4 + x.length ≤ 9223372036854775807 := by omega
              have zB : x.length + 4 + 1 ≤ 9223372036854775807 := by omega
              have zB2 : x.length + 5 ≤ 9223372036854775807 := by omega
              have zB3 : x.length + 1 + 1 + 1 + 1 + 1 ≤ 9223372036854775807 := by omega
              have zC : x.length + 1 + 1 + 1 + 1 + 1 + y.length ≤ 9223372036854775807 := by omega
              have zD : x.length + (y.length + 1) + 1 + 1 + 1 + 1 + 1 ≤ 9223372036854775807 := by omega
              have zD2 : x.length + (y.length + 1) + 5 ≤ 9223372036854775807 := by omega
              have zE : x.length + 1 ≤ 9223372036854775807 := by omega
              have zF : x.length + 1 + y.length ≤ 9223372036854775807 := by omega
              have zG : 1 + y.length ≤ 9223372036854775807 := by omega
              have zH : y.length + 1 + 1 ≤ 9223372036854775807 := by omega
              have zH2 : y.length + 2 ≤ 9223372036854775807 := by omega
              have zI : x.length + 1 + (y.length + 1 + 1) ≤ 9223372036854775807 := by omega
              have zI2 : x.length + 1 + (y.length + 2) ≤ 9223372036854775807 := by omega
              simp [strsO] at hH
              simp [blsO] at hH2
              have hcase : c1 = 3 ∨ c1 = 4 ∨ c1 = 5 ∨ c1 = 6 := by omega
              rcases hcase with rfl | rfl | rfl | rfl
              · cases bq
                · skip
                  simp [L12_0, R12_0, R12_1, R12_2, R12_3, R12_4, R12_5, R12_6, R12_7, R12_8, R12_9, R12_10, R12_11, R12_12, R12_13, R12_14, R12_15, R12_16, R12_17, R12_18, R12_19, R12_20, R12_21, R12_22, R12_23, R12_24, R12_25, R12_26, R12_27, R12_28, R12_29, R12_30, R12_31, Tryd.f12, lpL12_0, lpM12_0, M12_0, q13, q14, q15, hv, hv2, hi, nget, ndL_at, hq, ndE, ha, hs, hwn, wq, hH, hH2, hlA, hlB, htA, htB, strs_snoc, bls_snoc, okS, okBl, n1, n2, n3, maxLen, n4, gA, gA2, gC, gC2, gB, gB2, lit1, bs_append, bs_size, zE, zF]
                  refine hx _ ⟨by simp [q13], by simp [q14], by simp, .inr ⟨sa _, st.tick + 1 + 1 + 1 + 1 + 1 + 1 + 1 + 1 + 1 + 1 + 1 + 1 + 1 + 1, st.tick + 1 + 1 + 1 + 1 + 1 + 1 + 1 + 1 + 1 + 1 + 1 + 1 + 1 + 1, ?_, ?_, ?_, ?_⟩⟩
                  all_goals simp [strsO, blsO, biT, hnn, hPA, hPB]
                · skip
                  simp [L12_0, R12_0, R12_1, R12_2, R12_3, R12_4, R12_5, R12_6, R12_7, R12_8, R12_9, R12_10, R12_11, R12_12, R12_13, R12_14, R12_15, R12_16, R12_17, R12_18, R12_19, R12_20, R12_21, R12_22, R12_23, R12_24, R12_25, R12_26, R12_27, R12_28, R12_29, R12_30, R12_31, Tryd.f12, lpL12_0, lpM12_0, M12_0, q13, q14, q15, hv, hv2, hi, nget, ndL_at, hq, ndE, ha, hs, hwn, wq, hH, hH2, hlA, hlB, htA, htB, strs_snoc, bls_snoc, okS, okBl, n1, n2, n3, maxLen, n4, gA, gA2, gC, gC2, gB, gB2, lit1, bs_append, bs_size, zE, zF, zG, zH, zH2, zI, zI2]
                  refine hx _ ⟨by simp [q13], by simp [q14], by simp, .inr ⟨sa _, st.tick + 1 + 1 + 1 + 1 + 1 + 1 + 1 + 1 + 1 + 1 + 1 + 1 + 1 + 1 + 1, st.tick + 1 + 1 + 1 + 1 + 1 + 1 + 1 + 1 + 1 + 1 + 1 + 1 + 1 + 1 + 1, ?_, ?_, ?_, ?_⟩⟩
                  all_goals simp [strsO, blsO, biT, hnn, hPA, hPB]
              · cases bq
                · skip
                  simp [L12_0, R12_0, R12_1, R12_2, R12_3, R12_4, R12_5, R12_6, R12_7, R12_8, R12_9, R12_10, R12_11, R12_12, R12_13, R12_14, R12_15, R12_16, R12_17, R12_18, R12_19, R12_20, R12_21, R12_22, R12_23, R12_24, R12_25, R12_26, R12_27, R12_28, R12_29, R12_30, R12_31, Tryd.f12, lpL12_0, lpM12_0, M12_0, q13, q14, q15, hv, hv2, hi, nget, ndL_at, hq, ndE, ha, hs, hwn, wq, hH, hH2, hlA, hlB, htA, htB, strs_snoc, bls_snoc, okS, okBl, n1, n2, n3, maxLen, n4, gA, gA2, gC, gC2, gB, gB2, lit1, bs_append, bs_size, zE, zF]
                  refine hx _ ⟨by simp [q13], by simp [q14], by simp, .inr ⟨sa _, st.tick + 1 + 1 + 1 + 1 + 1 + 1 + 1 + 1 + 1 + 1 + 1 + 1 + 1 + 1 + 1 + 1, st.tick + 1 + 1 + 1 + 1 + 1 + 1 + 1 + 1 + 1 + 1 + 1 + 1 + 1 + 1 + 1 + 1, ?_, ?_, ?_, ?_⟩⟩
                  all_goals simp [strsO, blsO, biT, hnn, hPA, hPB]
                · skip
                  simp [L12_0, R12_0, R12_1, R12_2, R12_3, R12_4, R12_5, R12_6, R12_7, R12_8, R12_9, R12_10, R12_11, R12_12, R12_13, R12_14, R12_15, R12_16, R12_17, R12_18, R12_19, R12_20, R12_21, R12_22, R12_23, R12_24, R12_25, R12_26, R12_27, R12_28, R12_29, R12_30, R12_31, Tryd.f12, lpL12_0, lpM12_0, M12_0, q13, q14, q15, hv, hv2, hi, nget, ndL_at, hq, ndE, ha, hs, hwn, wq, hH, hH2, hlA, hlB, htA, htB, strs_snoc, bls_snoc, okS, okBl, n1, n2, n3, maxLen, n4, gA, gA2, gC, gC2, gB, gB2, lit1, bs_append, bs_size, zE, zF, zG, zH, zH2, zI, zI2]
                  refine hx _ ⟨by simp [q13], by simp [q14], by simp, .inr ⟨sa _, st.tick + 1 + 1 + 1 + 1 + 1 + 1 + 1 + 1 + 1 + 1 + 1 + 1 + 1 + 1 + 1 + 1 + 1, st.tick + 1 + 1 + 1 + 1 + 1 + 1 + 1 + 1 + 1 + 1 + 1 + 1 + 1 + 1 + 1 + 1 + 1, ?_, ?_, ?_, ?_⟩⟩
                  all_goals simp [strsO, blsO, biT, hnn, hPA, hPB]
              · skip
                simp [L12_0, R12_0, R12_1, R12_2, R12_3, R12_4, R12_5, R12_6, R12_7, R12_8, R12_9, R12_10, R12_11, R12_12, R12_13, R12_14, R12_15, R12_16, R12_17, R12_18, R12_19, R12_20, R12_21, R12_22, R12_23, R12_24, R12_25, R12_26, R12_27, R12_28, R12_29, R12_30, R12_31, Tryd.f12, lpL12_0, lpM12_0, M12_0, q13, q14, q15, hv, hv2, hi, nget, ndL_at, hq, ndE, ha, hs, hwn, wq, hH, hH2, hlA, hlB, htA, htB, strs_snoc, bls_snoc, okS, okBl, n1, n2, n3, maxLen, n4, gA, gA2, gC, gC2, gB, gB2, lit1, bs_append, bs_size, litM, zA, zB, zB2, zB3, zC, zD, zD2]
                refine hx _ ⟨by simp [q13], by simp [q14], by simp, .inr ⟨sa _, st.tick + 1 + 1 + 1 + 1 + 1 + 1 + 1 + 1 + 1 + 1 + 1 + 1, st.tick + 1 + 1 + 1 + 1 + 1 + 1 + 1 + 1 + 1 + 1 + 1 + 1, ?_, ?_, ?_, ?_⟩⟩
                all_goals simp [strsO, blsO, biT, hnn, hPA, hPB]
              · skip
                simp [L12_0, R12_0, R12_1, R12_2, R12_3, R12_4, R12_5, R12_6, R12_7, R12_8, R12_9, R12_10, R12_11, R12_12, R12_13, R12_14, R12_15, R12_16, R12_17, R12_18, R12_19, R12_20, R12_21, R12_22, R12_23, R12_24, R12_25, R12_26, R12_27, R12_28, R12_29, R12_30, R12_31, Tryd.f12, lpL12_0, lpM12_0, M12_0, q13, q14, q15, hv, hv2, hi, nget, ndL_at, hq, ndE, ha, hs, hwn, wq, hH, hH2, hlA, hlB, htA, htB, strs_snoc, bls_snoc, okS, okBl, n1, n2, n3, maxLen, n4, gA, gA2, gC, gC2, gB, gB2, lit1, bs_append, bs_size, litX, zA, zB, zB2, zB3, zC, zD, zD2]
                refine hx _ ⟨by simp [q13], by simp [q14], by simp, .inr ⟨sa _, st.tick + 1 + 1 + 1 + 1 + 1 + 1 + 1 + 1 + 1 + 1 + 1 + 1 + 1, st.tick + 1 + 1 + 1 + 1 + 1 + 1 + 1 + 1 + 1 + 1 + 1 + 1 + 1, ?_, ?_, ?_, ?_⟩⟩
                all_goals simp [strsO, blsO, biT, hnn, hPA, hPB]
      · omega)
    (by
      rintro st next ⟨q13, q14, q15, hc⟩
      simp [L12_0, R12_0, R12_1, R12_2, R12_3, R12_4, R12_5, R12_6, R12_7, R12_8, R12_9, R12_10, R12_11, R12_12, R12_13, R12_14, R12_15, R12_16, R12_17, R12_18, R12_19, R12_20, R12_21, R12_22, R12_23, R12_24, R12_25, R12_26, R12_27, R12_28, R12_29, R12_30, R12_31, Tryd.f12, lpL12_0, lpM12_0, M12_0, q13, q14, q15, ndL_length]
      rcases hc with ⟨hn, hv, hv2⟩ | ⟨hn, tk, tk', hv, hH, hv2, hH2⟩
      · exact .inl ⟨hn, by simp [hv], by simp [hv2]⟩
      · exact .inr ⟨hn, tk, tk', by simp [hv], by simp [hv, hv2, hH], by simp [hv2], by simp [hv, hv2, hH2]⟩)
  simp [R12_0, R12_1, R12_2, R12_3, R12_4, R12_5, R12_6, R12_7, R12_8, R12_9, R12_10, R12_11, R12_12, R12_13, R12_14, R12_15, R12_16, R12_17, R12_18, R12_19, R12_20, R12_21, R12_22, R12_23, R12_24, R12_25, R12_26, R12_27, R12_28, R12_29, R12_30, R12_31, Tryd.f12, lpL12_0, lpM12_0]
  generalize hrr : loopRun _ _ _ _ = res
  obtain ⟨s1, rfl, fc⟩ := loop_at hL hrr ⟨by simp, by simp [ndL_length], by simp, .inl ⟨by simp [tks], by simp, by simp⟩⟩
  have hlen := tks_len l.length (by omega : 0 ≤ runO l l.length)
  rw [hr] at hlen
  cases hk2 : tks l l.length with
  | nil => rw [hk2] at hlen; simp only [List.length_nil] at hlen; omega
  | cons x s2 =>
    obtain ⟨t, c⟩ := x
    rw [hk2] at hlen fc
    simp only [List.length_cons] at hlen
    obtain rfl : s2 = [] := List.length_eq_zero_iff.1 (by omega)
    rcases fc with ⟨hn, _⟩ | ⟨hn, tk, tk', hv, hH, hv2, hH2⟩
    · simp at hn
    · simp [strsO, strs] at hH hv
      simp [R12_0, R12_1, R12_2, R12_3, R12_4, R12_5, R12_6, R12_7, R12_8, R12_9, R12_10, R12_11, R12_12, R12_13, R12_14, R12_15, R12_16, R12_17, R12_18, R12_19, R12_20, R12_21, R12_22, R12_23, R12_24, R12_25, R12_26, R12_27, R12_28, R12_29, R12_30, R12_31, Tryd.f12, lpL12_0, lpM12_0, M12_0, hv, hH]

end Go.Proofs.YteedcjgmgbcndaaDoor.Eng
namespace Go.Proofs.YteedcjgmgbcndaaDoor.Eng
open Go Go.Proofs
set_option maxRecDepth 100000
set_option maxHeartbeats 2000000
set_option linter.unusedSimpArgs false
set_option linter.unusedVariables false
attribute [local simp] finK fin1 hpOf xi renQ isRoot runCode runOps stepX inlOf Eng.step wantedV astep val ofO made loadV storeV find V.cells bin binT binA numT numFs eqCells un1 setAt fieldAddrV fieldV indexAddrV indexV bounds sliceV convV lenV foldV max2V min2V callO bor rdsO wrsO seen_none okD_none loops keepIds resV resultsV St.ev TK.agg refs refsL refsO V.one V.isC Value.oneCell' ren renL renO noTag noTagL noTagR noTagO nodup mapO passV frs psi refsR newD loopNext opsAt idx flatAt rootOf backR newsV appendV copyV clearV strV bytesV bldV bufV selfV bytesOf nilCmp buildV fillF chunk freeL frzW cellSame sameV
attribute [local simp] cT cF cX cWR cOW cK cBL X ints_length ints_get ints_getElem ints_drop ints_take ints_append ints_nil ints_set
attribute [local simp] ints_replicate
attribute [local simp] putV_some putV_none putH_app applyD_nil applyD_cons seen_app gc_ρ gc_H gc_tick st0_ρ st0_H st0_tick retV callRo callV_if borL_nil borL_cons ints_snoc take_self callWr cutH_app findQ afterV exportV_0 exportV_n okD_nil okD_cons sub_seq0 sub_seq1 sub_cond0 sub_cond1 sub_block sub_loop sub_nil young_far young_none hidW_nil mayW_nil keepsF_nil keepsF_cons pairs okI ok_0 ok_1 ok_2
attribute [local simp] T3 T4 T5 T9 T22 T29 T34 T35 T37 T39 T42 T43 T56
/-- What stands behind a text's beginning. -/
def stripL : List UInt8 → List UInt8 → Option (List UInt8)
  | [], t => some t
  | _ :: _, [] => none
  | a :: p, b :: t => if a = b then stripL p t else none
theorem strip_len : ∀ (p t r : List UInt8), stripL p t = some r → t = p ++ r
  | [], t, r, h => by cases h; rfl
  | _ :: _, [], r, h => by cases h
  | a :: p, b :: t, r, h => by
    unfold stripL at h
    split at h
    · rename_i e
      rw [e, List.cons_append, ← strip_len p t r h]
    · cases h
def isD (c : UInt8) : Bool := decide (48 ≤ c.toNat) && decide (c.toNat ≤ 57)
/-- A number and what stands behind it. -/
noncomputable def numP (t : List UInt8) : Option (Int × List UInt8) := match pI (t.takeWhile isD) with
  | some v => some (v, t.dropWhile isD)
  | none => none
mutual
noncomputable def pT : Nat → List UInt8 → Option (List (Int × Int) × List UInt8)
  | 0, _ => none
  | n + 1, t => match stripL [109, 105, 110, 40] t with
    | some r => pP n 5 r
    | none => match stripL [109, 97, 120, 40] t with
      | some r => pP n 6 r
      | none => match stripL [97, 98, 111, 118, 101, 40] t with
        | some r => match pS n r with
          | none => none
          | some (l, r1) => match stripL [44] r1 with
            | none => none
            | some r2 => match numP r2 with
              | none => none
              | some (v, r3) => match stripL [41] r3 with
                | none => none
                | some r4 => some (l ++ [(7, v)], r4)
        | none => match stripL [40] t with
          | some r => match pS n r with
            | none => none
            | some (l, r1) => match stripL [41] r1 with
              | none => none
              | some r2 => some (l, r2)
          | none => match t with
            | [] => none
            | c :: r => if 97 ≤ c.toNat ∧ c.toNat ≤ 100 then some ([(1, (c.toNat : Int) - 97)], r) else match numP (c :: r) with
              | none => none
              | some (v, r') => some ([(2, v)], r')
noncomputable def pP : Nat → Int → List UInt8 → Option (List (Int × Int) × List UInt8)
  | 0, _, _ => none
  | n + 1, k, r => match pS n r with
    | none => none
    | some (l1, r1) => match stripL [44] r1 with
      | none => none
      | some r2 => match pS n r2 with
        | none => none
        | some (l2, r3) => match stripL [41] r3 with
          | none => none
          | some r4 => some (l1 ++ l2 ++ [(k, 0)], r4)
noncomputable def pS : Nat → List UInt8 → Option (List (Int × Int) × List UInt8)
  | 0, _ => none
  | n + 1, t => match pT n t with
    | none => none
    | some (l, r) => pL n l r
noncomputable def pL : Nat → List (Int × Int) → List UInt8 → Option (List (Int × Int) × List UInt8)
  | 0, _, _ => none
  | n + 1, l, r => match stripL [43] r with
    | some r1 => match pT n r1 with
      | none => none
      | some (l2, r2) => pL n (l ++ l2 ++ [(3, 0)]) r2
    | none => match stripL [45] r with
      | some r1 => match pT n r1 with
        | none => none
        | some (l2, r2) => pL n (l ++ l2 ++ [(4, 0)]) r2
      | none => some (l, r)
end
theorem strip_some {p t r : List UInt8} (h : stripL p t = some r) : t.length = p.length + r.length := by
  rw [strip_len p t r h, List.length_append]
theorem pI_ne {v : Int} (h : pI [] = some v) : False := by
  obtain ⟨_, _, h3⟩ := pI_inv h
  have := unsg_itoa v
  rw [h3] at this
  obtain ⟨b, r, hd, _⟩ := dec_head v.natAbs
  have h1 := this.1
  rw [hd] at h1
  exact absurd h1 (by simp [unsg])
theorem numP_len {t r : List UInt8} {v : Int} (h : numP t = some (v, r)) : r.length + 1 ≤ t.length := by
  unfold numP at h
  split at h
  · rename_i w hw
    cases h
    have hs : t.takeWhile isD ++ t.dropWhile isD = t := List.takeWhile_append_dropWhile
    have hl := congrArg List.length hs
    rw [List.length_append] at hl
    cases ht : t.takeWhile isD with
    | nil => rw [ht] at hw; exact (pI_ne hw).elim
    | cons a b => rw [ht] at hl; simp only [List.length_cons] at hl; omega
  · cases h
/-- What is read: every node costs a sign at least. -/
theorem p_len : ∀ n, (∀ t l r, pT n t = some (l, r) → r.length + 1 ≤ t.length ∧ l.length + r.length ≤ t.length) ∧ (∀ k t l r, pP n k t = some (l, r) → r.length + 3 ≤ t.length ∧ l.length + r.length ≤ t.length) ∧
    (∀ t l r, pS n t = some (l, r) → r.length + 1 ≤ t.length ∧ l.length + r.length ≤ t.length) ∧ (∀ l0 t l r, pL n l0 t = some (l, r) → r.length ≤ t.length ∧ l.length + r.length ≤ l0.length + t.length)
  | 0 => ⟨fun t l r h => by simp [pT] at h, fun k t l r h => by simp [pP] at h, fun t l r h => by simp [pS] at h, fun l0 t l r h => by simp [pL] at h⟩
  | n + 1 => by
    obtain ⟨iT, iP, iS, iL⟩ := p_len n
    refine ⟨fun t l r h => ?_, fun k t l r h => ?_, fun t l r h => ?_, fun l0 t l r h => ?_⟩
    · unfold pT at h
      split at h
      · rename_i r0 h0
        have := strip_some h0
        have := iP _ _ _ _ h
        simp only [List.length_cons, List.length_nil] at *
        omega
      · split at h
        · rename_i r0 h0
          have := strip_some h0
          have := iP _ _ _ _ h
          simp only [List.length_cons, List.length_nil] at *
          omega
        · split at h
          · rename_i r0 h0
            have := strip_some h0
            split at h
            · cases h
            rename_i l1 r1 h1
            have := iS _ _ _ h1
            split at h
            · cases h
            rename_i r2 h2
            have := strip_some h2
            split at h
            · cases h
            rename_i v r3 h3
            have := numP_len h3
            split at h
            · cases h
            rename_i r4 h4
            have := strip_some h4
            cases h
            simp only [List.length_cons, List.length_nil, List.length_append] at *
            omega
          · split at h
            · rename_i r0 h0
              have := strip_some h0
              split at h
              · cases h
              rename_i l1 r1 h1
              have := iS _ _ _ h1
              split at h
              · cases h
              rename_i r2 h2
              have := strip_some h2
              cases h
              simp only [List.length_cons, List.length_nil] at *
              omega
            · split at h
              · cases h
              · split at h
                · cases h
                  simp only [List.length_cons, List.length_nil]
                  omega
                · split at h
                  · cases h
                  rename_i v r' h'
                  have := numP_len h'
                  cases h
                  simp only [List.length_cons, List.length_nil] at *
                  omega
    · unfold pP at h
      split at h
      · cases h
      rename_i l1 r1 h1
      have := iS _ _ _ h1
      split at h
      · cases h
      rename_i r2 h2
      have := strip_some h2
      split at h
      · cases h
      rename_i l2 r3 h3
      have := iS _ _ _ h3
      split at h
      · cases h
      rename_i r4 h4
      have := strip_some h4
      cases h
      simp only [List.length_cons, List.length_nil, List.length_append] at *
      omega
    · unfold pS at h
      split at h
      · cases h
      rename_i l1 r1 h1
      have := iT _ _ _ h1
      have := iL _ _ _ _ h
      omega
    · unfold pL at h
      split at h
      · rename_i r1 h1
        have := strip_some h1
        split at h
        · cases h
        rename_i l2 r2 h2
        have := iT _ _ _ h2
        have := iL _ _ _ _ h
        simp only [List.length_cons, List.length_nil, List.length_append] at *
        omega
      · split at h
        · rename_i r1 h1
          have := strip_some h1
          split at h
          · cases h
          rename_i l2 r2 h2
          have := iT _ _ _ h2
          have := iL _ _ _ _ h
          simp only [List.length_cons, List.length_nil, List.length_append] at *
          omega
        · cases h
          exact ⟨Nat.le_refl _, Nat.le_refl _⟩

end Go.Proofs.YteedcjgmgbcndaaDoor.Eng
namespace Go.Proofs.YteedcjgmgbcndaaDoor.Eng
open Go Go.Proofs
set_option maxRecDepth 100000
set_option maxHeartbeats 2000000
set_option linter.unusedSimpArgs false
set_option linter.unusedVariables false
attribute [local simp] finK fin1 hpOf xi renQ isRoot runCode runOps stepX inlOf Eng.step wantedV astep val ofO made loadV storeV find V.cells bin binT binA numT numFs eqCells un1 setAt fieldAddrV fieldV indexAddrV indexV bounds sliceV convV lenV foldV max2V min2V callO bor rdsO wrsO seen_none okD_none loops keepIds resV resultsV St.ev TK.agg refs refsL refsO V.one V.isC Value.oneCell' ren renL renO noTag noTagL noTagR noTagO nodup mapO passV frs psi refsR newD loopNext opsAt idx flatAt rootOf backR newsV appendV copyV clearV strV bytesV bldV bufV selfV bytesOf nilCmp buildV fillF chunk freeL frzW cellSame sameV
attribute [local simp] cT cF cX cWR cOW cK cBL X ints_length ints_get ints_getElem ints_drop ints_take ints_append ints_nil ints_set
attribute [local simp] ints_replicate
attribute [local simp] putV_some putV_none putH_app applyD_nil applyD_cons seen_app gc_ρ gc_H gc_tick st0_ρ st0_H st0_tick retV callRo callV_if borL_nil borL_cons ints_snoc take_self callWr cutH_app findQ afterV exportV_0 exportV_n okD_nil okD_cons sub_seq0 sub_seq1 sub_cond0 sub_cond1 sub_block sub_loop sub_nil young_far young_none hidW_nil mayW_nil keepsF_nil keepsF_cons pairs okI ok_0 ok_1 ok_2
attribute [local simp] T3 T4 T5 T9 T22 T29 T34 T35 T37 T39 T42 T43 T56
attribute [local simp] young_near clo cloF Region.binds Nat.testBit hidW declW mayW List.findIdx?_cons
theorem strip_is : ∀ (p t : List UInt8), stripL p t = if p.length ≤ t.length ∧ t.take p.length = p then some (t.drop p.length) else none
  | [], t => by simp [stripL]
  | a :: p, [] => by simp [stripL]
  | a :: p, b :: t => by
    have ih := strip_is p t
    simp only [stripL, List.length_cons, List.take_succ_cons, List.drop_succ_cons, List.cons.injEq, Nat.add_le_add_iff_right]
    by_cases h : a = b
    · subst h
      rw [if_pos rfl, ih]
      by_cases h2 : p.length ≤ t.length ∧ t.take p.length = p
      · rw [if_pos h2, if_pos ⟨h2.1, rfl, h2.2⟩]
      · rw [if_neg h2, if_neg fun h3 => h2 ⟨h3.1, h3.2.2⟩]
    · rw [if_neg h, if_neg fun h3 => h h3.2.1.symm]
def hasP (p t : List UInt8) : Bool := (stripL p t).isSome
def restP (p t : List UInt8) : List UInt8 := (stripL p t).getD t
theorem hasP_is (p t : List UInt8) : hasP p t = (decide (p.length ≤ t.length) && decide (t.take p.length = p)) := by
  unfold hasP
  rw [strip_is]
  by_cases h1 : p.length ≤ t.length <;> by_cases h2 : t.take p.length = p <;> simp [h1, h2]
theorem restP_is (p t : List UInt8) : restP p t = if hasP p t = true then t.drop p.length else t := by
  unfold restP hasP
  rw [strip_is]
  by_cases h : p.length ≤ t.length ∧ t.take p.length = p
  · rw [if_pos h]; rfl
  · rw [if_neg h]; rfl
theorem restP_len (p t : List UInt8) : (restP p t).length ≤ t.length := by
  rw [restP_is]
  split
  · rw [List.length_drop]; omega
  · exact Nat.le_refl _
theorem c_HasP (k : Nat) (t p : List UInt8) (hk : 1 ≤ k) : callK C k 45 [.c (.string (bs t)), .c (.string (bs p))] [] = some (.c (.bool (hasP p t)), hpOf [] []) := by
  obtain ⟨k, rfl⟩ : ∃ m, k = m + 1 := ⟨k - 1, by omega⟩
  rw [callK_fn rfl F45 code45]
  rw [hasP_is]
  by_cases h : p.length ≤ t.length
  · have g1 : (p.length : Int) ≤ (t.length : Int) := by omega
    simp [R45_0, R45_1, Tryd.f45, bs_size, bs_extract, bs_neq, undef, g1, h]
  · have g1 : ¬ (p.length : Int) ≤ (t.length : Int) := by omega
    simp [R45_0, R45_1, Tryd.f45, bs_size, bs_extract, bs_neq, undef, g1, h]
theorem c_lCutP (k : Nat) (t p : List UInt8) (hk : 2 ≤ k) : callK C k 41 [.c (.string (bs t)), .c (.string (bs p))] [] = some (.tp [.c (.string (bs (restP p t))), .c (.bool (hasP p t))], hpOf [] []) := by
  obtain ⟨k, rfl⟩ : ∃ m, k = m + 1 := ⟨k - 1, by omega⟩
  rw [callK_fn rfl F41 code41]
  have h := c_HasP k t p (by omega)
  rw [restP_is]
  cases hn : hasP p t
  · rw [hn] at h
    simp [R41_0, R41_1, R41_2, R41_3, Tryd.f41, h, lit0]
  · rw [hn] at h
    have h2 := hn
    rw [hasP_is] at h2
    simp only [Bool.and_eq_true, decide_eq_true_eq] at h2
    have g1 : (p.length : Int) ≤ (t.length : Int) := by omega
    have g2 : p.length ≤ t.length := h2.1
    have ht : (t.drop p.length).take (t.length - p.length) = t.drop p.length := List.take_of_length_le (by simp)
    simp [R41_0, R41_1, R41_2, R41_3, Tryd.f41, h, lit0, bs_size, bs_extract, g1, g2, ht]
theorem c_CutP (k : Nat) (t p : List UInt8) (hk : 3 ≤ k) : callK C k 33 [.c (.string (bs t)), .c (.string (bs p))] [] = some (.tp [.c (.string (bs (restP p t))), .c (.bool (hasP p t))], hpOf [] []) := by
  obtain ⟨k, rfl⟩ : ∃ m, k = m + 1 := ⟨k - 1, by omega⟩
  rw [callK_fn rfl F33 code33]
  have h := c_lCutP k t p (by omega)
  simp [R33_0, R33_1, Tryd.f33, h, lit0]
/-- The program's parser: what is left of the text, its list, whether it failed. -/
def pO (t : List UInt8) (v : V) (f : Bool) : Eng.Obj := ⟨29, 3, false, [[.c (.string (bs t)), v, .c (.bool f)]]⟩
abbrev nilL : V := .c (.slice none 0 0)
/-- What a call is handed. -/
def frP (t : List UInt8) (l : List (Int × Int)) (f : Bool) : List Eng.Obj := if l = [] then [pO t nilL f] else [pO t (.s 1 0 2 0 l.length) f, ndO l]
/-- What a call ends with: a value, whether the list is another one. -/
def endV (v : V) (l l' : List (Int × Int)) (ch : Bool) (t : List UInt8) (f : Bool) : Option (V × Hp) :=
  some (v, if l = [] then (if ch then hpOf [some (pO t (.s 1 2 2 0 l'.length) f)] [ndO l'] else hpOf [some (pO t nilL f)] []) else (if ch then hpOf [some (pO t (.s 2 2 2 0 l'.length) f), none] [ndO l'] else hpOf [some (pO t (.s 1 0 2 0 l.length) f), some (ndO l)] []))
theorem c_take (k : Nat) (t p : List UInt8) (l : List (Int × Int)) (f : Bool) (hk : 10 ≤ k) : callK C k 18 [.p 0 0 3 0 0, .c (.string (bs p))] (frP t l f) = endV (.c (.bool (hasP p t))) l l false (restP p t) f := by
  obtain ⟨k, rfl⟩ : ∃ m, k = m + 1 := ⟨k - 1, by omega⟩
  rw [callK_fn rfl F18 code18]
  have h := c_CutP k t p (by omega)
  unfold frP endV
  by_cases hl : l = []
  · simp [R18_0, R18_1, R18_2, R18_3, Tryd.f18, hl, pO, h, lit0]
  · simp [R18_0, R18_1, R18_2, R18_3, Tryd.f18, hl, pO, h, lit0, ndO]
/-- A frame whose slot 0 points to the parser: what the parser holds. -/
structure PSt (l0 : List (Int × Int)) (H : Hp) (t : List UInt8) (l : List (Int × Int)) (f : Bool) (v : V) : Prop where
  h0 : H 0 = some (0, pO t v f)
  hv : (l = [] ∧ l0 = [] ∧ v = nilL ∧ H 1 = none) ∨ (l ≠ [] ∧ l = l0 ∧ v = .s 1 0 2 0 l.length ∧ H 1 = some (0, ndO l)) ∨ (l ≠ [] ∧ ∃ id vr, 16 ≤ id ∧ v = .s id vr 2 0 l.length ∧ H id = some (vr, ndO l) ∧ H 1 = none)
def chV (ch : Bool) (tick site n : Nat) (v : V) : V := if ch = true then .s (16 * site) tick 2 0 n else v
theorem roots_c (cs : List Value) : (cs.map V.c).flatMap (rootOf false) = [] := by
  induction cs with
  | nil => rfl
  | cons a r ih =>
    rw [List.map_cons, List.flatMap_cons, ih]
    rfl
theorem pass_c (Hx : Hp) (φ : Nat → Nat → Option (Nat × Nat)) (cs : List Value) : mapO (passV true false Hx φ) (cs.map V.c) = some (cs.map V.c) := by
  induction cs with
  | nil => rfl
  | cons a r ih =>
    simp only [List.map_cons, mapO]
    rw [ih]
    rfl
/-- A value without names. -/
structure Pl (w : V) : Prop where
  rf : refs w = []
  nt : noTag w = true
  rn : ∀ φ, ren φ w = some w
theorem Pl.c (v : Value) : Pl (.c v) := ⟨rfl, rfl, fun _ => rfl⟩
theorem Pl.tp : Pl (.tp []) := ⟨rfl, rfl, fun _ => rfl⟩
theorem callP (k : Nat) (f : FuncId) (cs : List Value) (hw : WR f = true) (ho : OW f = false) {l0 : List (Int × Int)} {H : Hp} {t : List UInt8} {l : List (Int × Int)} {fl : Bool} {v : V} (P : PSt l0 H t l fl v) {w : V} (hpl : Pl w) {l' : List (Int × Int)} {ch : Bool} {t' : List UInt8} {f' : Bool}
    (hc : callK C k f (.p 0 0 3 0 0 :: cs.map V.c) (frP t l fl) = endV w l l' ch t' f') (hch : ch = false → l' = l) (hne : ch = true → l' ≠ []) (tick site : Nat) (hs : 1 ≤ site) :
    ∃ δ, callV C (callK C k) H tick site f (.p 0 0 3 0 0 :: cs.map V.c) = some (some w, δ) ∧ PSt l0 (applyD H δ) t' l' f' (chV ch tick site l'.length v) ∧ ∀ x, H x = none → x ≠ 16 * site → applyD H δ x = none := by
  obtain ⟨w1, w2, w3⟩ := hpl
  have hroots : (V.p 0 0 3 0 0 :: cs.map V.c).flatMap (rootOf false) = [(0, 0)] := by
    rw [List.flatMap_cons, roots_c]
    rfl
  have hcw : C.wr f = true := by rw [cWR]; exact hw
  have hco : C.own f = false := by rw [cOW]; exact ho
  rw [callV_wr hcw, hco, hroots]
  have s0 : ¬ 0 = 16 * site := by omega
  have s1 : ¬ 1 = 16 * site := by omega
  obtain ⟨h0, hv⟩ := P
  simp [pO] at h0
  rcases hv with ⟨rfl, rfl, rfl, h1⟩ | ⟨hl, rfl, rfl, h1⟩ | ⟨hl, id, vr, hid, rfl, hi, h1⟩
  · simp [frP, pO] at hc
    cases ch
    · have := hch rfl
      subst this
      simp [endV, pO] at hc
      simp [hco, h0, pass_c, hc, w1, w2, w3]
      refine ⟨⟨by simp [putH_app, pO, chV], .inl ⟨rfl, rfl, rfl, by simp [putH_app, h1]⟩⟩, ?_⟩
      · intro x hx hxs
        have x0 : ¬ x = 0 := by rintro rfl; rw [h0] at hx; cases hx
        simp [x0, hxs, hx]
    · simp [endV, pO] at hc
      simp [hco, h0, pass_c, hc, w1, w2, w3, ndO]
      refine ⟨⟨by simp [putH_app, pO, chV, s0], .inr (.inr ⟨hne rfl, 16 * site, tick, by omega, by simp [chV], by simp [putH_app, ndO], by simp [putH_app, s1, h1]⟩)⟩, ?_⟩
      · intro x hx hxs
        have x0 : ¬ x = 0 := by rintro rfl; rw [h0] at hx; cases hx
        simp [x0, hxs, hx]
  · simp [frP, pO, hl, ndO] at hc h1
    cases ch
    · have := hch rfl
      subst this
      simp [endV, pO, hl, ndO] at hc
      simp [hco, h0, h1, pass_c, hc, w1, w2, w3, ndO]
      refine ⟨⟨by simp [putH_app, pO, chV], .inr (.inl ⟨hl, rfl, rfl, by simp [putH_app, ndO]⟩)⟩, ?_⟩
      · intro x hx hxs
        have x0 : ¬ x = 0 := by rintro rfl; rw [h0] at hx; cases hx
        have x1 : ¬ x = 1 := by rintro rfl; rw [h1] at hx; cases hx
        simp [x0, hxs, x1, hx]
    · simp [endV, pO, hl, ndO] at hc
      simp [hco, h0, h1, pass_c, hc, w1, w2, w3, ndO]
      refine ⟨⟨by simp [putH_app, pO, chV, s0], .inr (.inr ⟨hne rfl, 16 * site, tick, by omega, by simp [chV], by simp [putH_app, ndO], by simp [putH_app, s1]⟩)⟩, ?_⟩
      · intro x hx hxs
        have x0 : ¬ x = 0 := by rintro rfl; rw [h0] at hx; cases hx
        have x1 : ¬ x = 1 := by rintro rfl; rw [h1] at hx; cases hx
        simp [x0, hxs, x1, hx]
  · simp [frP, pO, hl, ndO] at hc hi
    have i0 : ¬ id = 0 := by omega
    have i0' : ¬ 0 = id := by omega
    have i1 : ¬ 1 = id := by omega
    cases ch
    · have := hch rfl
      subst this
      simp [endV, pO, hl, ndO] at hc
      simp [hco, h0, hi, i0, i0', pass_c, hc, w1, w2, w3, ndO]
      refine ⟨⟨by simp [putH_app, pO, chV, i0'], .inr (.inr ⟨hl, id, vr, hid, by simp [chV], by simp [putH_app, ndO], by simp [putH_app, i1, h1]⟩)⟩, ?_⟩
      · intro x hx hxs
        have x0 : ¬ x = 0 := by rintro rfl; rw [h0] at hx; cases hx
        have xi : ¬ x = id := by rintro rfl; rw [hi] at hx; cases hx
        simp [x0, hxs, xi, hx]
    · simp [endV, pO, hl, ndO] at hc
      simp [hco, h0, hi, i0, i0', pass_c, hc, w1, w2, w3, ndO]
      refine ⟨⟨by simp [putH_app, pO, chV, s0, i0'], .inr (.inr ⟨hne rfl, 16 * site, tick, by omega, by simp [chV], by simp [putH_app, ndO], by simp [putH_app, s1, i1, h1]⟩)⟩, ?_⟩
      · intro x hx hxs
        have x0 : ¬ x = 0 := by rintro rfl; rw [h0] at hx; cases hx
        have xi : ¬ x = id := by rintro rfl; rw [hi] at hx; cases hx
        simp [x0, hxs, xi, hx]
/-- A frame's end. -/
theorem finP {l0 : List (Int × Int)} {H : Hp} {t : List UInt8} {l : List (Int × Int)} {f : Bool} {v : V} (P : PSt l0 H t l f v) {w : V} (hpl : Pl w) : ∃ ch, exportV (if l0 = [] then 1 else 2) w H = endV w l0 l ch t f ∧ (ch = false → l = l0) ∧ (ch = true → l ≠ []) := by
  obtain ⟨w1, w2, w3⟩ := hpl
  obtain ⟨h0, hv⟩ := P
  simp [pO] at h0
  rcases hv with ⟨rfl, rfl, rfl, h1⟩ | ⟨hl, rfl, rfl, h1⟩ | ⟨hl, id, vr, hid, rfl, hi, h1⟩
  · refine ⟨false, ?_, fun _ => rfl, fun h => by cases h⟩
    simp [endV, h0, w1, w3, pO]
  · refine ⟨false, ?_, fun _ => rfl, fun h => by cases h⟩
    simp [ndO] at h1
    simp [endV, h0, h1, w1, w3, pO, hl, ndO]
  · refine ⟨true, ?_, (fun h => by cases h), fun _ => hl⟩
    simp [ndO] at hi
    have i0 : ¬ id = 0 := by omega
    have i1 : ¬ id = 1 := by omega
    have i2 : ¬ id < 2 := by omega
    by_cases hl0 : l0 = []
    · simp [endV, h0, hi, i0, i1, i2, w1, w3, pO, hl0, ndO]
    · simp [endV, h0, h1, hi, i0, i1, i2, w1, w3, pO, hl0, ndO]
/-- The list as it was handed over. -/
def oldV (l0 : List (Int × Int)) : V := if l0 = [] then nilL else .s 1 0 2 0 l0.length
theorem finP0 {l0 : List (Int × Int)} {H : Hp} {t : List UInt8} {l : List (Int × Int)} {f : Bool} (P : PSt l0 H t l f (oldV l0)) {w : V} (hpl : Pl w) : l = l0 ∧ exportV (if l0 = [] then 1 else 2) w H = endV w l0 l0 false t f := by
  obtain ⟨w1, w2, w3⟩ := hpl
  obtain ⟨h0, hv⟩ := P
  rcases hv with ⟨rfl, rfl, e, h1⟩ | ⟨hl, rfl, e, h1⟩ | ⟨hl, id, vr, hid, e, hi, h1⟩
  · simp [pO, oldV] at h0
    refine ⟨rfl, ?_⟩
    simp [endV, h0, w1, w3, pO]
  · simp [pO, oldV, hl] at h0
    refine ⟨rfl, ?_⟩
    simp [ndO] at h1
    simp [endV, h0, h1, w1, w3, pO, hl, ndO]
  · exfalso
    unfold oldV at e
    split at e
    · cases e
    · simp only [V.s.injEq] at e
      omega
/-- What a round of a loop keeps. -/
theorem PSt.gc {l0 : List (Int × Int)} {t : List UInt8} {l : List (Int × Int)} {f : Bool} {v : V} {st : St} (keep : List Nat) (hk : 0 ∈ keep) (q0 : st.ρ 0 = .p 0 0 3 0 0) (P : PSt l0 st.H t l f v) : PSt l0 (Eng.gc keep st).H t l f v := by
  obtain ⟨h0, hv⟩ := P
  have hl : ∀ x, x < 16 → (Eng.gc keep st).H x = st.H x := by
    intro x hx
    rw [gc_H, show decide (x < 16) = true by simpa using hx]
    rfl
  refine ⟨by rw [hl 0 (by omega)]; exact h0, ?_⟩
  rcases hv with ⟨rfl, rfl, e, h1⟩ | ⟨hl', rfl, e, h1⟩ | ⟨hl', id, vr, hid, e, hi, h1⟩
  · exact .inl ⟨rfl, rfl, e, by rw [hl 1 (by omega)]; exact h1⟩
  · exact .inr (.inl ⟨hl', rfl, e, by rw [hl 1 (by omega)]; exact h1⟩)
  · refine .inr (.inr ⟨hl', id, vr, hid, e, ?_, by rw [hl 1 (by omega)]; exact h1⟩)
    have hA : ((0, 0) : Nat × Nat) ∈ keep.flatMap fun t => refs (st.ρ t) := List.mem_flatMap.2 ⟨0, hk, by rw [q0]; simp⟩
    have hB : ((id, vr) : Nat × Nat) ∈ (keep.flatMap fun t => refs (st.ρ t)).flatMap fun x => match find st.H x.1 x.2 with
      | some o => refsO o
      | none => [] := List.mem_flatMap.2 ⟨(0, 0), hA, by simp [h0, pO, e]⟩
    have hC : (keepIds keep st).contains id = true := by
      rw [List.contains_iff_mem]
      unfold keepIds
      exact List.mem_map.2 ⟨(id, vr), List.mem_append.2 (.inr hB), rfl⟩
    rw [gc_H, hC]
    simpa using hi
theorem PSt.same {l0 : List (Int × Int)} {H H' : Hp} {t t' : List UInt8} {l : List (Int × Int)} {f f' : Bool} {v : V} (P : PSt l0 H t l f v) (h0 : H' 0 = some (0, pO t' v f')) (hs : ∀ x, x ≠ 0 → H' x = H x) : PSt l0 H' t' l f' v := by
  obtain ⟨_, hv⟩ := P
  refine ⟨h0, ?_⟩
  rcases hv with ⟨rfl, rfl, e, h1⟩ | ⟨hl', rfl, e, h1⟩ | ⟨hl', id, vr, hid, e, hi, h1⟩
  · exact .inl ⟨rfl, rfl, e, by rw [hs 1 (by omega)]; exact h1⟩
  · exact .inr (.inl ⟨hl', rfl, e, by rw [hs 1 (by omega)]; exact h1⟩)
  · exact .inr (.inr ⟨hl', id, vr, hid, e, by rw [hs id (by omega)]; exact hi, by rw [hs 1 (by omega)]; exact h1⟩)
theorem frP_len (t : List UInt8) (l : List (Int × Int)) (f : Bool) : (frP t l f).length = if l = [] then 1 else 2 := by
  unfold frP
  split <;> rfl
/-- A frame's begin. -/
theorem PSt.st0 (t : List UInt8) (l : List (Int × Int)) (f : Bool) (args : List V) : PSt l (Eng.st0 args (frP t l f)).H t l f (oldV l) ∧ ∀ x, 2 ≤ x → (Eng.st0 args (frP t l f)).H x = none := by
  by_cases hl : l = []
  · subst hl
    refine ⟨⟨by simp [frP, oldV], .inl ⟨rfl, rfl, rfl, by simp [frP]⟩⟩, ?_⟩
    intro x hx
    simp [frP, show ¬ x = 0 by omega]
  · refine ⟨⟨by simp [frP, hl, oldV], .inr (.inl ⟨hl, rfl, by simp [oldV, hl], by simp [frP, hl]⟩)⟩, ?_⟩
    intro x hx
    obtain ⟨y, rfl⟩ : ∃ y, x = y + 2 := ⟨x - 2, by omega⟩
    simp [frP, hl]
theorem c_need (k : Nat) (t p : List UInt8) (l : List (Int × Int)) (f : Bool) (hk : 20 ≤ k) : callK C k 31 [.p 0 0 3 0 0, .c (.string (bs p))] (frP t l f) = endV (.tp []) l l false (restP p t) (f || !hasP p t) := by
  obtain ⟨k, rfl⟩ : ∃ m, k = m + 1 := ⟨k - 1, by omega⟩
  rw [callK_fn rfl F31 code31]
  have h := c_take k t p l f (by omega)
  unfold frP endV at h ⊢
  by_cases hl : l = []
  · simp [hl, pO] at h
    cases hh : hasP p t <;> (rw [hh] at h; simp [R31_0, R31_1, Tryd.f31, hl, pO, h])
  · simp [hl, pO, ndO] at h
    cases hh : hasP p t <;> (rw [hh] at h; simp [R31_0, R31_1, Tryd.f31, hl, pO, h, ndO])

end Go.Proofs.YteedcjgmgbcndaaDoor.Eng
namespace Go.Proofs.YteedcjgmgbcndaaDoor.Eng
open Go Go.Proofs
set_option maxRecDepth 100000
set_option maxHeartbeats 2000000
set_option linter.unusedSimpArgs false
set_option linter.unusedVariables false
attribute [local simp] finK fin1 hpOf xi renQ isRoot runCode runOps stepX inlOf Eng.step wantedV astep val ofO made loadV storeV find V.cells bin binT binA numT numFs eqCells un1 setAt fieldAddrV fieldV indexAddrV indexV bounds sliceV convV lenV foldV max2V min2V callO bor rdsO wrsO seen_none okD_none loops keepIds resV resultsV St.ev TK.agg refs refsL refsO V.one V.isC Value.oneCell' ren renL renO noTag noTagL noTagR noTagO nodup mapO passV frs psi refsR newD loopNext opsAt idx flatAt rootOf backR newsV appendV copyV clearV strV bytesV bldV bufV selfV bytesOf nilCmp buildV fillF chunk freeL frzW cellSame sameV
attribute [local simp] cT cF cX cWR cOW cK cBL X ints_length ints_get ints_getElem ints_drop ints_take ints_append ints_nil ints_set
attribute [local simp] ints_replicate
attribute [local simp] putV_some putV_none putH_app applyD_nil applyD_cons seen_app gc_ρ gc_H gc_tick st0_ρ st0_H st0_tick retV callRo callV_if borL_nil borL_cons ints_snoc take_self callWr cutH_app findQ afterV exportV_0 exportV_n okD_nil okD_cons sub_seq0 sub_seq1 sub_cond0 sub_cond1 sub_block sub_loop sub_nil young_far young_none hidW_nil mayW_nil keepsF_nil keepsF_cons pairs okI ok_0 ok_1 ok_2
attribute [local simp] T3 T4 T5 T9 T22 T29 T34 T35 T37 T39 T42 T43 T56
attribute [local simp] young_near clo cloF Region.binds Nat.testBit hidW declW mayW List.findIdx?_cons
/-- The digits ahead. -/
theorem dig_facts (t : List UInt8) : ∃ m, m ≤ t.length ∧ t.takeWhile isD = t.take m ∧ t.dropWhile isD = t.drop m ∧ (∀ i (h : i < t.length), i < m → 48 ≤ t[i].toNat ∧ t[i].toNat ≤ 57) ∧ (∀ h : m < t.length, t[m].toNat < 48 ∨ 57 < t[m].toNat) := by
  induction t with
  | nil => exact ⟨0, by simp, by simp, by simp, by simp, by simp⟩
  | cons a t ih =>
    by_cases ha : isD a = true
    · obtain ⟨m, h1, h2, h3, h4, h5⟩ := ih
      refine ⟨m + 1, by simpa using h1, by simp [List.takeWhile, ha, h2], by simp [List.dropWhile, ha, h3], ?_, ?_⟩
      · intro i hi hm
        cases i with
        | zero => simpa [isD] using ha
        | succ i => simpa using h4 i (by simpa using hi) (by omega)
      · intro h
        simpa using h5 (by simpa using h)
    · refine ⟨0, by simp, by simp [List.takeWhile, ha], by simp [List.dropWhile, ha], by simp, ?_⟩
      intro _
      simp [isD] at ha
      simp only [List.getElem_cons_zero]
      omega
theorem c_number (k : Nat) (t : List UInt8) (l : List (Int × Int)) (f : Bool) (h20 : t.length ≤ 1048576) (hk : t.length + 30 ≤ k) : callK C k 32 [.p 0 0 3 0 0] (frP t l f) = endV (.c (.int .i64 (pV (t.takeWhile isD)))) l l false (t.dropWhile isD) (f || !pB (t.takeWhile isD)) := by
  obtain ⟨k, rfl⟩ : ∃ m, k = m + 9 := ⟨k - 9, by omega⟩
  rw [callK_fn rfl F32 code32]
  obtain ⟨m, m1, m2, m3, m4, m5⟩ := dig_facts t
  have hp := c_implParse (k + 8) (t.take m) (by simp; omega) (by omega)
  rw [m2, m3]
  obtain ⟨P, _⟩ := PSt.st0 t l f [.p 0 0 3 0 0]
  have hL := loopHas (body := fun st => runCode C (callK C (k + 8)) (k + 8) (K 32) L32_0 1 st) (keep := [0, 3]) (.ex 0) (fun st => st.ρ 0 = .p 0 0 3 0 0 ∧ st.ρ 3 = .c (.int .i64 (m : Int)) ∧ PSt l st.H t l f (oldV l))
    (fun i st => st.ρ 0 = .p 0 0 3 0 0 ∧ st.ρ 3 = .c (.int .i64 (i : Int)) ∧ PSt l st.H t l f (oldV l))
    m (k + 8) (by omega)
    (by
      rintro i st next hi ⟨q0, q3, P⟩ hx
      have hit : i < t.length := by omega
      obtain ⟨g1, g2⟩ := m4 i hit hi
      have hb := byteAt_bs hit
      have hwn := wrap_next hit (by omega)
      have c1 : (48 : Int) ≤ ((t[i].toNat : Nat) : Int) := by omega
      have c2 : ((t[i].toNat : Nat) : Int) ≤ 57 := by omega
      have P' := P.gc [0, 3] (by simp) q0
      have h0 := P.h0
      simp [pO] at h0
      simp [L32_0, R32_0, R32_1, R32_2, R32_3, R32_4, R32_5, R32_6, R32_7, Tryd.f32, lpL32_0, lpM32_0, undef, q0, q3, h0, bs_size, hit, hb, c1, c2, hwn]
      exact hx _ ⟨by simp [q0], by simp, P'⟩)
    (by
      rintro st next ⟨q0, q3, P⟩
      have P' := P.gc [0, 3] (by simp) q0
      have h0 := P.h0
      simp [pO] at h0
      by_cases hm : m < t.length
      · have hb := byteAt_bs hm
        rcases m5 hm with g | g
        · have c1 : ¬ (48 : Int) ≤ ((t[m].toNat : Nat) : Int) := by omega
          simp [L32_0, R32_0, R32_1, R32_2, R32_3, R32_4, R32_5, R32_6, R32_7, Tryd.f32, lpL32_0, lpM32_0, undef, q0, q3, h0, bs_size, hm, hb, c1]
          exact P'
        · have c1 : (48 : Int) ≤ ((t[m].toNat : Nat) : Int) := by omega
          have c2 : ¬ ((t[m].toNat : Nat) : Int) ≤ 57 := by omega
          simp [L32_0, R32_0, R32_1, R32_2, R32_3, R32_4, R32_5, R32_6, R32_7, Tryd.f32, lpL32_0, lpM32_0, undef, q0, q3, h0, bs_size, hm, hb, c1, c2]
          exact P'
      · simp [L32_0, R32_0, R32_1, R32_2, R32_3, R32_4, R32_5, R32_6, R32_7, Tryd.f32, lpL32_0, lpM32_0, undef, q0, q3, h0, bs_size, hm]
        exact P')
  rw [frP_len]
  simp [R32_0, R32_1, R32_2, R32_3, R32_4, R32_5, R32_6, R32_7, Tryd.f32, lpL32_0, lpM32_0]
  generalize hr : loopRun _ _ _ _ = res
  obtain ⟨s1, rfl, q0, q3, P1⟩ := loop_at hL hr ⟨by simp, by simp, P⟩
  have h0 := P1.h0
  simp [pO] at h0
  have hmi : (m : Int) ≤ (t.length : Int) := by omega
  have htk : (t.drop m).take (t.length - m) = t.drop m := List.take_of_length_le (by simp)
  cases hf : f <;> cases hb : pB (t.take m) <;> (subst hf; rw [hb] at hp; simp [R32_0, R32_1, R32_2, R32_3, R32_4, R32_5, R32_6, R32_7, Tryd.f32, lpL32_0, lpM32_0, M32_0, q0, q3, h0, bs_size, bs_extract, m1, hmi, hp, htk]; exact (finP0 (P1.same (by simp [putH_app, pO]) (fun x hx => by simp [putH_app, hx])) (Pl.c _)).2)

end Go.Proofs.YteedcjgmgbcndaaDoor.Eng
namespace Go.Proofs.YteedcjgmgbcndaaDoor.Eng
open Go Go.Proofs
set_option maxRecDepth 100000
set_option maxHeartbeats 2000000
set_option linter.unusedSimpArgs false
set_option linter.unusedVariables false
attribute [local simp] finK fin1 hpOf xi renQ isRoot runCode runOps stepX inlOf Eng.step wantedV astep val ofO made loadV storeV find V.cells bin binT binA numT numFs eqCells un1 setAt fieldAddrV fieldV indexAddrV indexV bounds sliceV convV lenV foldV max2V min2V callO bor rdsO wrsO seen_none okD_none loops keepIds resV resultsV St.ev TK.agg refs refsL refsO V.one V.isC Value.oneCell' ren renL renO noTag noTagL noTagR noTagO nodup mapO passV frs psi refsR newD loopNext opsAt idx flatAt rootOf backR newsV appendV copyV clearV strV bytesV bldV bufV selfV bytesOf nilCmp buildV fillF chunk freeL frzW cellSame sameV
attribute [local simp] cT cF cX cWR cOW cK cBL X ints_length ints_get ints_getElem ints_drop ints_take ints_append ints_nil ints_set
attribute [local simp] ints_replicate
attribute [local simp] putV_some putV_none putH_app applyD_nil applyD_cons seen_app gc_ρ gc_H gc_tick st0_ρ st0_H st0_tick retV callRo callV_if borL_nil borL_cons ints_snoc take_self callWr cutH_app findQ afterV exportV_0 exportV_n okD_nil okD_cons sub_seq0 sub_seq1 sub_cond0 sub_cond1 sub_block sub_loop sub_nil young_far young_none hidW_nil mayW_nil keepsF_nil keepsF_cons pairs okI ok_0 ok_1 ok_2
attribute [local simp] T3 T4 T5 T9 T22 T29 T34 T35 T37 T39 T42 T43 T56
attribute [local simp] young_near clo cloF Region.binds Nat.testBit hidW declW mayW List.findIdx?_cons
/-- What a part of the parser does, as the model says. -/
structure OutP (e : Nat) (r : Option (List (Int × Int) × List UInt8)) (t : List UInt8) (l : List (Int × Int)) (t' : List UInt8) (l' : List (Int × Int)) (f' : Bool) : Prop where
  ok : ∀ q u, r = some (q, u) → f' = false ∧ t' = u ∧ l' = l ++ q
  no : r = none → f' = true
  len : t'.length ≤ t.length
  sz : l'.length + t'.length ≤ l.length + t.length + e + (if f' = true then 1 else 0)
/-- A call's end. -/
def EndOk (e : Nat) (r : Option (List (Int × Int) × List UInt8)) (t : List UInt8) (l : List (Int × Int)) (res : Option (V × Hp)) : Prop := ∃ t' l' f' ch, res = endV (.tp []) l l' ch t' f' ∧ (ch = false → l' = l) ∧ (ch = true → l' ≠ []) ∧ OutP e r t l t' l' f'
def CtrT (f : FuncId) (a : List Value) (e n : Nat) (p : List UInt8 → Option (List (Int × Int) × List UInt8)) (need : Nat) : Prop := ∀ k t l, 30 * n + 1000 ≤ k → 3 * t.length + need ≤ n → t.length ≤ 450 → l.length + t.length ≤ 1000 → EndOk e (p t) t l (callK C k f (.p 0 0 3 0 0 :: a.map V.c) (frP t l false))
theorem EndOk.of {e : Nat} {r : Option (List (Int × Int) × List UInt8)} {t : List UInt8} {l : List (Int × Int)} {H : Hp} {t' : List UInt8} {l' : List (Int × Int)} {f' : Bool} {v : V} (P : PSt l H t' l' f' v) (o : OutP e r t l t' l' f') : EndOk e r t l (exportV (if l = [] then 1 else 2) (.tp []) H) := by
  obtain ⟨ch, q1, q2, q3⟩ := finP P Pl.tp
  exact ⟨_, _, _, ch, q1, q2, q3, o⟩
/-- .. from a state that may have failed. -/
def AnyS (f : FuncId) (e n : Nat) (p : List UInt8 → Option (List (Int × Int) × List UInt8)) (need : Nat) : Prop := ∀ k t l b, 30 * n + 1000 ≤ k → 3 * t.length + need ≤ n → t.length ≤ 450 → (b = false → l.length + t.length ≤ 1000) →
  ∃ t' l' f' ch, callK C k f [.p 0 0 3 0 0] (frP t l b) = endV (.tp []) l l' ch t' f' ∧ (ch = false → l' = l) ∧ (ch = true → l' ≠ []) ∧ (b = true → t' = t ∧ l' = l ∧ f' = true) ∧ (b = false → OutP e (p t) t l t' l' f')
theorem failT (k : Nat) (t : List UInt8) (l : List (Int × Int)) (hk : 50 ≤ k) : callK C k 17 [.p 0 0 3 0 0] (frP t l true) = endV (.tp []) l l false t true := by
  obtain ⟨k, rfl⟩ : ∃ m, k = m + 9 := ⟨k - 9, by omega⟩
  rw [callK_fn rfl F17 code17]
  obtain ⟨P, _⟩ := PSt.st0 t l true [.p 0 0 3 0 0]
  rw [frP_len]
  have hst : (Eng.st0 [.p 0 0 3 0 0] (frP t l true)).ρ 0 = .p 0 0 3 0 0 := rfl
  generalize Eng.st0 [.p 0 0 3 0 0] (frP t l true) = st at P hst ⊢
  have h0 := P.h0
  simp [pO] at h0
  simp [R17_0, R17_1, R17_2, R17_3, R17_4, R17_5, R17_6, R17_7, R17_8, R17_9, R17_10, R17_11, R17_12, R17_13, R17_14, R17_15, R17_16, R17_17, Tryd.f17, hst, h0]
  exact (finP0 (P.same (by simp [putH_app, pO]) (fun x hx => by simp [putH_app, hx])) Pl.tp).2
/-- The loop of a sum that has failed. -/
theorem loopF (k kk : Nat) {l0 : List (Int × Int)} {t : List UInt8} {l : List (Int × Int)} {v : V} (st : St) (q0 : st.ρ 0 = .p 0 0 3 0 0) (P : PSt l0 st.H t l true v) :
    ∃ s, loopRun (fun st => runCode C (callK C k) k (K 10) L10_0 1 st) [0] (kk + 1) st = some (.ex 0, s) ∧ PSt l0 s.H t l true v := by
  have P' := P.gc [0] (by simp) q0
  have q0' : (Eng.gc [0] st).ρ 0 = .p 0 0 3 0 0 := by simp [q0]
  have h0 := P'.h0
  simp only [loopRun_succ]
  generalize Eng.gc [0] st = s1 at P' q0' h0 ⊢
  simp [pO] at h0
  simp [L10_0, R10_0, R10_1, R10_2, R10_3, R10_4, R10_5, R10_6, R10_7, R10_8, Tryd.f10, lpL10_0, q0', h0]
  exact P'
theorem failS (k : Nat) (t : List UInt8) (l : List (Int × Int)) (hk : 80 ≤ k) : callK C k 10 [.p 0 0 3 0 0] (frP t l true) = endV (.tp []) l l false t true := by
  obtain ⟨k, rfl⟩ : ∃ m, k = m + 9 := ⟨k - 9, by omega⟩
  rw [callK_fn rfl F10 code10]
  obtain ⟨P, _⟩ := PSt.st0 t l true [.p 0 0 3 0 0]
  rw [frP_len]
  have hst : (Eng.st0 [.p 0 0 3 0 0] (frP t l true)).ρ 0 = .p 0 0 3 0 0 := rfl
  generalize Eng.st0 [.p 0 0 3 0 0] (frP t l true) = st at P hst ⊢
  obtain ⟨δ, e1, P1, _⟩ := callP (k + 8) 17 [] rfl rfl P Pl.tp (failT (k + 8) t l (by omega)) (fun _ => rfl) (fun h => by cases h) st.tick 2 (by omega)
  have P1' : PSt l (applyD st.H δ) t l true (oldV l) := P1
  simp only [List.map_nil] at e1
  simp [-callV_if, R10_0, R10_1, R10_2, R10_3, R10_4, R10_5, R10_6, R10_7, R10_8, Tryd.f10, lpL10_0, hst, e1]
  generalize hr : loopRun _ _ _ _ = res
  have hL : ∀ st : St, (st.ρ 0 = .p 0 0 3 0 0 ∧ PSt l st.H t l true (oldV l)) → ∃ s, loopRun (fun st => runCode C (callK C (k + 8)) (k + 8) (K 10) L10_0 1 st) [0] (k + 7 + 1) st = some (.ex 0, s) ∧ PSt l s.H t l true (oldV l) := fun st h => loopF (k + 8) (k + 7) st h.1 h.2
  obtain ⟨s1, rfl, P2⟩ := loop_at hL hr ⟨by simp [hst], by simpa using P1'⟩
  simp
  exact (finP0 P2 Pl.tp).2
theorem anyS_of {n : Nat} (h : CtrT 10 [] 0 n (pS n) 2) : AnyS 10 0 n (pS n) 2 := by
  intro k t l b hk hn ht hl
  cases b
  · obtain ⟨t', l', f', ch, e, a, c, o⟩ := h k t l hk hn ht (hl rfl)
    exact ⟨t', l', f', ch, e, a, c, (fun h => by cases h), fun _ => o⟩
  · exact ⟨t, l, true, false, failS k t l (by omega), fun _ => rfl, (fun h => by cases h), fun _ => ⟨rfl, rfl, rfl⟩, fun h => by cases h⟩
theorem anyT_of {n : Nat} (h : CtrT 17 [] 0 n (pT n) 1) : AnyS 17 0 n (pT n) 1 := by
  intro k t l b hk hn ht hl
  cases b
  · obtain ⟨t', l', f', ch, e, a, c, o⟩ := h k t l hk hn ht (hl rfl)
    exact ⟨t', l', f', ch, e, a, c, (fun h => by cases h), fun _ => o⟩
  · exact ⟨t, l, true, false, failT k t l (by omega), fun _ => rfl, (fun h => by cases h), fun _ => ⟨rfl, rfl, rfl⟩, fun h => by cases h⟩
theorem lt44 : (⟨#[44]⟩ : ByteArray) = bs [44] := rfl
theorem lt41 : (⟨#[41]⟩ : ByteArray) = bs [41] := rfl
theorem lt40 : (⟨#[40]⟩ : ByteArray) = bs [40] := rfl
theorem lt43 : (⟨#[43]⟩ : ByteArray) = bs [43] := rfl
theorem lt45 : (⟨#[45]⟩ : ByteArray) = bs [45] := rfl
theorem ltM : (⟨#[109, 105, 110, 40]⟩ : ByteArray) = bs [109, 105, 110, 40] := rfl
theorem ltX : (⟨#[109, 97, 120, 40]⟩ : ByteArray) = bs [109, 97, 120, 40] := rfl
theorem ltA : (⟨#[97, 98, 111, 118, 101, 40]⟩ : ByteArray) = bs [97, 98, 111, 118, 101, 40] := rfl
theorem hasP_some {p t r : List UInt8} (h : stripL p t = some r) : hasP p t = true ∧ restP p t = r := by simp [hasP, restP, h]
theorem hasP_none {p t : List UInt8} (h : stripL p t = none) : hasP p t = false ∧ restP p t = t := by simp [hasP, restP, h]
theorem ndE_pair (a b : Int) : [V.c (.int .i64 a), V.c (.int .i64 b)] = ndE (a, b) := rfl
theorem ndL_one (q : Int × Int) : [ndE q] = ndL [q] := rfl
theorem ndL_app (l m : List (Int × Int)) : ndL l ++ ndL m = ndL (l ++ m) := by simp [ndL]
theorem okN1 (ty : TypeId) (a b : Int) : okObj ⟨ty, 2, true, [[V.c (.int .i64 a), V.c (.int .i64 b)]]⟩ = true := by simp [okObj, V.one, V.isC, Value.oneCell']
theorem okN2 (ty : TypeId) (l : List (Int × Int)) (a b : Int) : okObj ⟨ty, 2, true, ndL l ++ [[V.c (.int .i64 a), V.c (.int .i64 b)]]⟩ = true := by
  rw [ndE_pair, ndL_one, ndL_app]
  exact okN ty _
theorem or_f {a b : Bool} (h : (a || b) = false) : a = false := by
  cases a with
  | false => rfl
  | true => cases h
theorem pair_step (n : Nat) (hS : AnyS 10 0 n (pS n) 2) (kind : Int) : CtrT 30 [.int .i64 kind] 1 (n + 1) (pP (n + 1) kind) 3 := by
  intro k t l hk hn ht hl
  obtain ⟨k, rfl⟩ : ∃ m, k = m + 9 := ⟨k - 9, by omega⟩
  rw [callK_fn rfl F30 code30]
  obtain ⟨P, _⟩ := PSt.st0 t l false (.p 0 0 3 0 0 :: List.map V.c [.int .i64 kind])
  rw [frP_len]
  have hst : (Eng.st0 (.p 0 0 3 0 0 :: List.map V.c [.int .i64 kind]) (frP t l false)).ρ 0 = .p 0 0 3 0 0 := rfl
  have hst1 : (Eng.st0 (.p 0 0 3 0 0 :: List.map V.c [.int .i64 kind]) (frP t l false)).ρ 1 = .c (.int .i64 kind) := rfl
  generalize Eng.st0 (.p 0 0 3 0 0 :: List.map V.c [.int .i64 kind]) (frP t l false) = st at P hst hst1 ⊢
  obtain ⟨t1, l1, f1, c1, e1, a1, b1, _, o1⟩ := hS (k + 8) t l false (by omega) (by omega) ht (fun _ => hl)
  have o1 := o1 rfl
  obtain ⟨δ1, d1, P1, _⟩ := callP (k + 8) 10 [] rfl rfl P Pl.tp e1 a1 b1 st.tick 2 (by omega)
  obtain ⟨δ2, d2, P2, _⟩ := callP (k + 8) 31 [.string (bs [44])] rfl rfl P1 Pl.tp (c_need (k + 8) t1 [44] l1 f1 (by omega)) (fun _ => rfl) (fun h => by cases h) (st.tick + 1) 66 (by omega)
  obtain ⟨t2, ht2⟩ : ∃ t2, restP [44] t1 = t2 := ⟨_, rfl⟩
  obtain ⟨f2, hf2⟩ : ∃ f2, (f1 || !hasP [44] t1) = f2 := ⟨_, rfl⟩
  have hlen2 : t2.length ≤ t1.length := by rw [← ht2]; exact restP_len _ _
  rw [ht2, hf2] at P2
  have hl1 := o1.len
  have hsz1 := o1.sz
  obtain ⟨t3, l3, f3, c3, e3, a3, b3, x3, o3⟩ := hS (k + 8) t2 l1 f2 (by omega) (by omega) (by omega) (fun h => by
    rw [or_f (hf2.trans h)] at hsz1
    simp at hsz1
    omega)
  obtain ⟨δ3, d3, P3, _⟩ := callP (k + 8) 10 [] rfl rfl P2 Pl.tp e3 a3 b3 (st.tick + 1 + 1) 130 (by omega)
  obtain ⟨δ4, d4, P4, _⟩ := callP (k + 8) 31 [.string (bs [41])] rfl rfl P3 Pl.tp (c_need (k + 8) t3 [41] l3 f3 (by omega)) (fun _ => rfl) (fun h => by cases h) (st.tick + 1 + 1 + 1) 194 (by omega)
  obtain ⟨t4, ht4⟩ : ∃ t4, restP [41] t3 = t4 := ⟨_, rfl⟩
  obtain ⟨f4, hf4⟩ : ∃ f4, (f3 || !hasP [41] t3) = f4 := ⟨_, rfl⟩
  have hlen4 : t4.length ≤ t3.length := by rw [← ht4]; exact restP_len _ _
  rw [ht4, hf4] at P4
  simp only [List.map_nil, List.map_cons] at d1 d2 d3 d4
  generalize hv4 : chV false (st.tick + 1 + 1 + 1) 194 l3.length (chV c3 (st.tick + 1 + 1) 130 l3.length (chV false (st.tick + 1) 66 l1.length (chV c1 st.tick 2 l1.length (oldV l)))) = v4 at P4
  have hszall : l3.length + t3.length ≤ l.length + t.length + (if f3 = true then 1 else 0) := by
    cases f2
    · have o3 := o3 rfl
      have := o3.sz
      rw [or_f hf2] at hsz1
      simp at hsz1
      omega
    · obtain ⟨y1, y2, y3⟩ := x3 rfl
      rw [y1, y2, y3]
      have : (if f1 = true then 1 else 0) ≤ 1 := by split <;> omega
      simp
      omega
  have hb : l3.length ≤ 1001 := by
    have : (if f3 = true then 1 else 0) ≤ 1 := by split <;> omega
    omega
  have hbb1 : (l3.length + 1) * 16 ≤ 140737488355328 := by omega
  have hbb2 : l3.length + 1 ≤ maxLen := by unfold maxLen; omega
  have hout : OutP 1 (pP (n + 1) kind t) t l t4 (l3 ++ [(kind, 0)]) f4 := by
    have hlen3 : t3.length ≤ t2.length := by
      cases f2
      · exact (o3 rfl).len
      · rw [(x3 rfl).1]
        exact Nat.le_refl _
    have f34 : f3 = true → f4 = true := by
      intro h
      rw [h] at hf4
      exact hf4.symm
    have f23 : f2 = true → f3 = true := fun h => (x3 h).2.2
    have f12 : f1 = true → f2 = true := by
      intro h
      rw [h] at hf2
      exact hf2.symm
    have key : (∀ q u, pP (n + 1) kind t = some (q, u) → f4 = false ∧ t4 = u ∧ l3 ++ [(kind, 0)] = l ++ q) ∧ (pP (n + 1) kind t = none → f4 = true) := by
      unfold pP
      cases h1 : pS n t with
      | none =>
        refine ⟨(fun q u h => by cases h), fun _ => f34 (f23 (f12 (o1.no h1)))⟩
      | some r1 =>
        obtain ⟨m1, u1⟩ := r1
        obtain ⟨y1, y2, y3⟩ := o1.ok m1 u1 h1
        subst y1 y2
        simp only []
        cases h2 : stripL [44] t1 with
        | none =>
          have := (hasP_none h2).1
          rw [this] at hf2
          exact ⟨(fun q u h => by cases h), fun _ => f34 (f23 hf2.symm)⟩
        | some u2 =>
          obtain ⟨z1, z2⟩ := hasP_some h2
          rw [z2] at ht2
          rw [z1] at hf2
          subst ht2
          have hf2' : f2 = false := hf2.symm
          subst hf2'
          have o3' := o3 rfl
          simp only []
          cases h3 : pS n u2 with
          | none => exact ⟨(fun q u h => by cases h), fun _ => f34 (o3'.no h3)⟩
          | some r3 =>
            obtain ⟨m3, u3⟩ := r3
            obtain ⟨y4, y5, y6⟩ := o3'.ok m3 u3 h3
            subst y4 y5
            simp only []
            cases h4 : stripL [41] t3 with
            | none =>
              have := (hasP_none h4).1
              rw [this] at hf4
              exact ⟨(fun q u h => by cases h), fun _ => hf4.symm⟩
            | some u4 =>
              obtain ⟨z3, z4⟩ := hasP_some h4
              rw [z4] at ht4
              rw [z3] at hf4
              refine ⟨fun q u h => ?_, fun h => by cases h⟩
              cases h
              exact ⟨hf4.symm, ht4.symm, by rw [y6, y3]; simp⟩
    refine ⟨key.1, key.2, by omega, ?_⟩
    have : (if f3 = true then 1 else 0) ≤ (if f4 = true then 1 else 0) := by
      cases f3
      · simp
      · rw [f34 rfl]
        simp
    simp only [List.length_append, List.length_cons, List.length_nil]
    omega
  have h0 := P4.h0
  simp [pO] at h0
  rcases P4.hv with ⟨g1, g2, g3, g4⟩ | ⟨g1, g2, g3, g4⟩ | ⟨g1, id, vr, g2, g3, g4, g5⟩
  · rw [g3] at h0
    simp [-callV_if, R30_0, R30_1, R30_2, R30_3, R30_4, Tryd.f30, hst, hst1, lt44, lt41, d1, d2, d3, d4, h0, okN1, maxLen]
    subst g1
    exact EndOk.of (v := .s 4248 (st.tick + 1 + 1 + 1 + 1) 2 0 1) ⟨by simp [putH_app, pO], .inr (.inr ⟨by simp, 4248, st.tick + 1 + 1 + 1 + 1, by omega, by simp, by simp [putH_app, ndO, ndL, ndE], by simp [putH_app, g4]⟩)⟩ hout
  · rw [g3] at h0
    simp [ndO] at g4
    simp [-callV_if, R30_0, R30_1, R30_2, R30_3, R30_4, Tryd.f30, hst, hst1, lt44, lt41, d1, d2, d3, d4, h0, g4, okN1, okN2, hbb1, hbb2, ndL_length, ndL_take]
    exact EndOk.of (v := .s 4248 (st.tick + 1 + 1 + 1 + 1) 2 0 (l3.length + 1)) ⟨by simp [putH_app, pO], .inr (.inr ⟨by simp, 4248, st.tick + 1 + 1 + 1 + 1, by omega, by simp, by simp [putH_app, ndO, ndL, ndE], by simp [putH_app]⟩)⟩ hout
  · rw [g3] at h0 hv4
    have hid : id = 2080 ∨ id = 32 := by
      cases c3 <;> cases c1 <;> simp [chV] at hv4
      · exfalso
        unfold oldV at hv4
        split at hv4
        · cases hv4
        · simp only [V.s.injEq] at hv4
          omega
      · omega
      · omega
      · omega
    have n1 : ¬ id = 4224 := by omega
    have n2 : ¬ 4248 = id := by omega
    have n3 : ¬ 0 = id := by omega
    have n4 : ¬ 1 = id := by omega
    have n5 : ¬ id = 4248 := by omega
    simp [ndO] at g4
    simp [-callV_if, R30_0, R30_1, R30_2, R30_3, R30_4, Tryd.f30, hst, hst1, lt44, lt41, d1, d2, d3, d4, h0, g4, n1, n2, n3, okN1, okN2, hbb1, hbb2, ndL_length, ndL_take]
    exact EndOk.of (v := .s 4248 (st.tick + 1 + 1 + 1 + 1) 2 0 (l3.length + 1)) ⟨by simp [putH_app, pO, n3], .inr (.inr ⟨by simp, 4248, st.tick + 1 + 1 + 1 + 1, by omega, by simp, by simp [putH_app, ndO, ndL, ndE], by simp [putH_app, n4, g5]⟩)⟩ hout

end Go.Proofs.YteedcjgmgbcndaaDoor.Eng
