/- A deterministic reading of Go code over plain data: what functions of the program compute, and what its laws come to. No conditions. -/
import Derived.Test.YtfcnlfjenialdaaEngT
import Derived.IntWalk
namespace Go.Proofs.Ytfcnlfjenialdaa.Eng
open Go Go.Proofs
set_option maxRecDepth 100000
set_option maxHeartbeats 2000000
set_option linter.unusedSimpArgs false
set_option linter.unusedVariables false
attribute [local simp] finK fin1 hpOf xi renQ isRoot runCode runOps stepX inlOf Eng.step wantedV astep val ofO made loadV storeV find V.cells bin binT binA numT numFs eqCells un1 setAt fieldAddrV fieldV indexAddrV indexV bounds sliceV convV lenV foldV max2V min2V callO bor rdsO wrsO seen_none okD_none loops keepIds resV resultsV St.ev TK.agg refs refsL refsO V.one V.isC Value.oneCell' ren renL renO noTag noTagL noTagR noTagO nodup mapO passV frs psi refsR newD loopNext opsAt idx flatAt rootOf backR newsV appendV copyV clearV strV bytesV bldV bufV selfV bytesOf nilCmp buildV fillF chunk freeL frzW cellSame sameV
attribute [local simp] cT cF cX cWR cOW cK cBL X ints_length ints_get ints_getElem ints_drop ints_take ints_append ints_nil ints_set
attribute [local simp] T3 T4 T22 T23 T26 T28 T31 T33 T43 T48 T50 T70 T73 T75 T78 T82 T85
theorem wrap_small {n : Int} (h : -9223372036854775808 ≤ n) (h' : n ≤ 9223372036854775807) : IntKind.i64.wrap n = n := IntWalk.i64_in _ ⟨h, h'⟩
def cellB (n : Int) : Bool := n == -9999 || (decide (-9000 ≤ n) && decide (n ≤ 9000))
def shapeB (x y : Int) : Bool := (decide (1 ≤ x) && decide (x ≤ 8)) && (decide (1 ≤ y) && decide (y ≤ 8))
def goodB (w h : Int) (l : List Int) : Bool := shapeB w h && (((l.length : Int) == w * h) && l.all cellB)
def fldV (b : Bool) (w h : Int) (l : List Int) : V := .ag [.c (.int .i64 w), .c (.int .i64 h), .sq b true 1 (ints l)]
def intV (n : Int) : V := .c (.int .i64 n)
def boolV (b : Bool) : V := .c (.bool b)
theorem shape_area {w h : Int} (hs : shapeB w h = true) : 0 ≤ w * h ∧ w * h ≤ 64 ∧ 1 ≤ w ∧ w ≤ 8 ∧ 1 ≤ h ∧ h ≤ 8 := by
  unfold shapeB at hs
  simp only [Bool.and_eq_true, decide_eq_true_eq] at hs
  obtain ⟨⟨hw1, hw2⟩, hh1, hh2⟩ := hs
  exact ⟨Int.mul_nonneg (by omega) (by omega), by have := Int.mul_le_mul hw2 hh2 (by omega) (by omega); omega, hw1, hw2, hh1, hh2⟩
theorem good_length {w h : Int} {l : List Int} (hg : goodB w h l = true) : shapeB w h = true ∧ (l.length : Int) = w * h ∧ l.all cellB = true ∧ l.length ≤ 64 := by
  unfold goodB at hg
  simp only [Bool.and_eq_true, beq_iff_eq] at hg
  have := shape_area hg.1
  exact ⟨hg.1, hg.2.1, hg.2.2, by omega⟩
/-- A loop, by what holds at its head before round i. -/
theorem loopInd {body : St → Option (Ex × St)} {keep : List Nat} {P : Option (Ex × St) → Prop} (I : Nat → St → Prop) (n : Nat)
    (hs : ∀ i st next, i < n → I i st → (∀ st', I (i + 1) st' → P (next st')) → P (loopNext (body (gc keep st)) next))
    (hf : ∀ st next, I n st → P (loopNext (body (gc keep st)) next)) : ∀ (d i k : Nat) (st : St), i + d = n → d < k → I i st → P (loopRun body keep k st) := by
  intro d
  induction d with
  | zero =>
    intro i k st hi hk h
    obtain ⟨k, rfl⟩ : ∃ m, k = m + 1 := ⟨k - 1, by omega⟩
    obtain rfl : i = n := by omega
    rw [loopRun_succ]
    exact hf st _ h
  | succ d ih =>
    intro i k st hi hk h
    obtain ⟨k, rfl⟩ : ∃ m, k = m + 1 := ⟨k - 1, by omega⟩
    rw [loopRun_succ]
    exact hs i st _ (by omega) h fun st' h' => ih (i + 1) k st' (by omega) (by omega) h'
/-- The same, with a word for the state behind it. -/
theorem loopOut {body : St → Option (Ex × St)} {keep : List Nat} (e : Ex) (R : St → Prop) (I : Nat → St → Prop) (n k : Nat) (hk : n < k)
    (hs : ∀ i st next, i < n → I i st → (∀ st', I (i + 1) st' → ∃ s, next st' = some (e, s) ∧ R s) → ∃ s, loopNext (body (gc keep st)) next = some (e, s) ∧ R s)
    (hf : ∀ st next, I n st → ∃ s, loopNext (body (gc keep st)) next = some (e, s) ∧ R s) :
    ∃ out : St → St, ∀ st, I 0 st → loopRun body keep k st = some (e, out st) ∧ R (out st) := by
  obtain ⟨out, h1, h2⟩ := outOf (D := I 0) (LP := loopRun body keep k) (e := e) (R := fun _ s => R s) (fun st h0 => loopInd (P := fun r => ∃ s, r = some (e, s) ∧ R s) I n hs hf n 0 k st (by omega) hk h0)
  exact ⟨out, fun st h => ⟨h1 st h, h2 st h⟩⟩
/-- A list being written over by another, from the left. -/
def fillL (l m : List Int) (i : Nat) : List Int := l.take i ++ m.drop i
theorem fillL_zero (l m : List Int) : fillL l m 0 = m := by simp [fillL]
theorem fillL_all (l m : List Int) (h : m.length ≤ l.length) : fillL l m l.length = l := by simp [fillL, List.drop_eq_nil_of_le h]
theorem fillL_length (l m : List Int) (i : Nat) (h : m.length = l.length) : (fillL l m i).length = l.length := by simp [fillL]; omega
theorem fillL_get (l m : List Int) (i : Nat) (h : m.length = l.length) (hi : i < l.length) : (fillL l m i)[i]? = some (m[i]'(by omega)) := by
  unfold fillL
  rw [List.getElem?_append_right (by simp; omega)]
  have : i - (l.take i).length = 0 := by simp; omega
  rw [this, List.getElem?_drop, List.getElem?_eq_getElem (by omega)]
  rfl
theorem fillL_set (l m : List Int) (i : Nat) (h : m.length = l.length) (hi : i < l.length) : (fillL l m i).set i l[i] = fillL l m (i + 1) := by
  unfold fillL
  rw [List.set_append, if_neg (by simp; omega)]
  have : i - (l.take i).length = 0 := by simp; omega
  rw [this, List.drop_eq_getElem_cons (by omega : i < m.length), List.set_cons_zero, List.take_succ_eq_append_getElem hi, List.append_assoc]
  rfl
theorem wrap_next {i n : Nat} (h : i < n) (hn : n ≤ 9000000000000000000) : IntKind.i64.wrap ((i : Int) + 1) = (i : Int) + 1 := wrap_small (by omega) (by omega)
theorem ints_replicate (n : Nat) (a : Int) : List.replicate n [V.c (.int .i64 a)] = ints (List.replicate n a) := by simp [ints]
theorem okI (ty : TypeId) (l : List Int) : okObj ⟨ty, 1, true, ints l⟩ = true := by simp [okObj, ints, V.one, V.isC, Value.oneCell']
theorem ok_1 (ty : TypeId) (sz : Nat) (fl : Bool) (e : List V) : okObj ⟨ty, sz, fl, [e]⟩ = (e.length == sz && e.all fun x => x.one && (!fl || x.isC)) := by simp [okObj]
theorem ok_2 (ty : TypeId) (sz : Nat) (fl : Bool) (e e' : List V) : okObj ⟨ty, sz, fl, [e, e']⟩ = ((e.length == sz && e.all fun x => x.one && (!fl || x.isC)) && (e'.length == sz && e'.all fun x => x.one && (!fl || x.isC))) := by simp [okObj]
theorem ok_0 (ty : TypeId) (sz : Nat) (fl : Bool) : okObj ⟨ty, sz, fl, []⟩ = true := rfl
theorem wrap_1 : IntKind.i64.wrap 1 = 1 := rfl
theorem wrap_2 : IntKind.i64.wrap 2 = 2 := rfl
/-- A field that is only read: its slice's mark, its shape, its cells. -/
structure Fd where
  b : Bool
  w : Int
  h : Int
  l : List Int
def Fd.cells (q : Fd) : List V := [.c (.int .i64 q.w), .c (.int .i64 q.h), .sq q.b true 1 (ints q.l)]
def Fd.good (q : Fd) : Bool := goodB q.w q.h q.l
theorem young_far {rid j id : Nat} {W : List (Nat × Nat)} {ops : List Oper} (h : (decide (rid * 64 < id / 16) && decide (id / 16 ≤ rid * 64 + 64)) = false) : youngOf (some (rid, W)) ops j id = hidW W ops j id := by simp [youngOf, h]
theorem hidW_nil (ops : List Oper) (j id : Nat) : hidW [] ops j id = false := rfl
theorem mayW_nil (j id : Nat) : mayW [] j id = true := rfl
theorem keepsF_nil (j id : Nat) (old new : Option (Nat × Eng.Obj)) : keepsF [] j id old new = true := rfl
theorem keepsF_cons (z : Nat × Nat) (W : List (Nat × Nat)) (j id : Nat) (old new : Option (Nat × Eng.Obj)) : keepsF (z :: W) j id old new = ((!(z.1 == 1000 + j && z.2 / 8 == 12500 + id) || cellSame (z.2 % 8) old new) && keepsF W j id old new) := rfl
theorem young_none {j id : Nat} {ops : List Oper} : youngOf none ops j id = false := rfl
/-! Slots and objects are looked up one by one; a state is never opened under a binder. -/
theorem putV_some (ρ : Nat → V) (d x : Nat) (v : V) : putV ρ (some d) v x = if x = d then v else ρ x := rfl
theorem putV_none (ρ : Nat → V) (v : V) : putV ρ none v = ρ := rfl
def putH (H : Hp) (i : Nat) (o : Option (Nat × Eng.Obj)) : Hp := fun id => if id = i then o else H id
theorem putH_app (H : Hp) (i id : Nat) (o : Option (Nat × Eng.Obj)) : putH H i o id = if id = i then o else H id := rfl
theorem applyD_nil (H : Hp) : applyD H [] = H := rfl
theorem applyD_cons (H : Hp) (i : Nat) (o : Option (Nat × Eng.Obj)) (δ : List (Nat × Option (Nat × Eng.Obj))) : applyD H ((i, o) :: δ) = applyD (putH H i o) δ := rfl
theorem seen_app (rid j id : Nat) (W : List (Nat × Nat)) (ops : List Oper) (fr : Nat → Bool) (H : Hp) : Eng.seen (some (rid, W)) ops j fr H id = if youngOf (some (rid, W)) ops j id then (if fr id then H id else none) else H id := rfl
theorem gc_ρ (l : List Nat) (st : St) (x : Nat) : (gc l st).ρ x = if l.contains x then st.ρ x else .un := rfl
theorem gc_H (l : List Nat) (st : St) (id : Nat) : (gc l st).H id = if decide (id < 16) || (keepIds l st).contains id || l.contains 999 then st.H id else none := rfl
theorem gc_tick (l : List Nat) (st : St) : (gc l st).tick = st.tick := rfl
theorem st0_ρ (args : List V) (frag : List Eng.Obj) (x : Nat) : (st0 args frag).ρ x = args.getD x (.c undef) := rfl
theorem st0_H (args : List V) (frag : List Eng.Obj) (id : Nat) : (st0 args frag).H id = (frag[id]?).map fun o => (0, o) := rfl
theorem st0_tick (args : List V) (frag : List Eng.Obj) : (st0 args frag).tick = 1 := rfl
/-! Calls and ends, said without a state under a binder. -/
def retV (tick site : Nat) (v : V) (Hc : Hp) : Out :=
  if nodup ((refs v).map (·.1)) && noTag v && decide ((refs v).length ≤ 16) then
    match mapO (flatAt Hc) (refs v), ren (psi [] (refs v) site tick) v with
    | some objs, some v' => some (some v', newD tick (16 * site) objs)
    | _, _ => none
  else none
def callRo (call : CallF) (tick site : Nat) (f : FuncId) (al : Option (List V)) : Out :=
  match al with
  | none => none
  | some al => match call f al [] with
    | none => none
    | some (v, Hc) => retV tick site v Hc
theorem isRoot_0 (q : Nat × Nat) : isRoot 0 q = false := rfl
theorem filter_0 (l : List (Nat × Nat)) : l.filter (fun q => !isRoot 0 q) = l := by
  rw [List.filter_eq_self]; intro q _; rfl
def borL (H : Hp) (l : List V) : Option (List V) := mapO (bor H 4) l
theorem borL_nil (H : Hp) : borL H [] = some [] := by unfold borL; rw [mapO]
theorem borL_cons (H : Hp) (x : V) (l : List V) : borL H (x :: l) = (match bor H 4 x with
    | none => none
    | some y => match borL H l with
      | none => none
      | some l' => some (y :: l')) := by
  unfold borL
  rw [mapO]
  cases bor H 4 x <;> simp only [] <;> cases mapO (bor H 4) l <;> rfl
theorem callV_ro {C : Cfg} {call : CallF} {H : Hp} {tick site : Nat} {f : FuncId} {args : List V} (h : C.wr f = false) : callV C call H tick site f args = callRo call tick site f (borL H args) := by
  show _ = callRo call tick site f (mapO (bor H 4) args)
  have hp : passV false (C.own f) (fun id => if List.contains (List.map (·.1) ([] : List (Nat × Nat))) id = true then none else H id) (frs []) = bor H 4 := by
    funext x
    have hh : (fun id => if List.contains (List.map (·.1) ([] : List (Nat × Nat))) id = true then none else H id) = H := by funext id; rfl
    rw [hh]
    cases x <;> rfl
  unfold callV callRo
  simp only [h, Bool.false_eq_true, if_false, mapO, List.flatMap_nil, List.append_nil, List.map_nil, List.nil_append]
  simp only [List.map_nil] at hp
  rw [hp, if_pos (show nodup [] = true from rfl)]
  cases mapO (bor H 4) args with
  | none => rfl
  | some al =>
    simp only []
    cases call f al [] with
    | none => rfl
    | some r =>
      obtain ⟨v, Hc⟩ := r
      simp only [retV, List.length_nil, List.range_zero, List.map_nil, refsR, List.append_nil, noTagR, Bool.and_true, List.zip_nil_left, mapO, filter_0, List.nil_append]
      cases nodup ((refs v).map (·.1)) && noTag v && decide ((refs v).length ≤ 16) with
      | false => rfl
      | true =>
        simp only [if_true]
        cases mapO (flatAt Hc) (refs v) <;> cases ren (psi [] (refs v) site tick) v <;> rfl
def cutH (H : Hp) (ids : List Nat) : Hp := fun id => if ids.contains id then none else H id
theorem cutH_app (H : Hp) (ids : List Nat) (id : Nat) : cutH H ids id = if ids.contains id then none else H id := rfl
def findQ (H : Hp) (q : Nat × Nat) : Option Eng.Obj := find H q.1 q.2
def afterV (Hc : Hp) : Nat → List (Option Eng.Obj)
  | 0 => []
  | n + 1 => afterV Hc n ++ [find Hc n 0]
theorem afterV_is (Hc : Hp) (n : Nat) : (List.range n).map (fun i => find Hc i 0) = afterV Hc n := by
  induction n with
  | zero => rfl
  | succ n ih => rw [List.range_succ, List.map_append, ih]; rfl
def callWr (C : Cfg) (call : CallF) (H : Hp) (tick site : Nat) (f : FuncId) (args : List V) (roots : List (Nat × Nat)) : Out :=
  match mapO (findQ H) roots with
  | none => none
  | some robjs =>
    match mapO (flatAt H) (robjs.flatMap refsO) with
    | none => none
    | some sobjs =>
      if nodup ((roots ++ robjs.flatMap refsO).map (·.1)) then
        match mapO (passV true (C.own f) (cutH H ((roots ++ robjs.flatMap refsO).map (·.1))) (frs (roots ++ robjs.flatMap refsO))) args, mapO (renO (frs (roots ++ robjs.flatMap refsO))) robjs with
        | some al, some fr =>
          match call f al (fr ++ sobjs) with
          | none => none
          | some (v, Hc) =>
            let after := afterV Hc (roots ++ robjs.flatMap refsO).length
            let pulled := (refs v ++ refsR after).filter (fun q => !isRoot (roots ++ robjs.flatMap refsO).length q)
            if nodup (pulled.map (·.1)) && noTag v && decide (pulled.length ≤ 16) && noTagR after then
              match mapO (flatAt Hc) pulled, ren (psi (roots ++ robjs.flatMap refsO) pulled site tick) v, mapO (backR (psi (roots ++ robjs.flatMap refsO) pulled site tick)) ((roots ++ robjs.flatMap refsO).zip after) with
              | some objs, some v', some rs => some (some v', rs ++ newD tick (16 * site) objs)
              | _, _, _ => none
            else none
        | _, _ => none
      else none
theorem callV_wr {C : Cfg} {call : CallF} {H : Hp} {tick site : Nat} {f : FuncId} {args : List V} (h : C.wr f = true) : callV C call H tick site f args = callWr C call H tick site f args (args.flatMap (rootOf (C.own f))) := by
  unfold callV callWr
  simp only [h, if_true, ← afterV_is]
  rfl
theorem exportV_0 (v : V) (H : Hp) : exportV 0 v H = if nodup ((refs v).map (·.1)) then (match mapO (flatAt H) (refs v), ren (xi 0 (refs v)) v with
    | some objs, some v' => some (v', hpOf [] objs)
    | _, _ => none) else none := by
  simp only [exportV, List.range_zero, List.map_nil, refsR, List.append_nil, filter_0, mapO]
  cases nodup ((refs v).map (·.1)) with
  | false => rfl
  | true =>
    simp only [if_true]
    cases mapO (flatAt H) (refs v) <;> cases ren (xi 0 (refs v)) v <;> rfl
theorem exportV_n (n : Nat) (v : V) (H : Hp) : exportV (n + 1) v H =
    (if nodup (((refs v ++ refsR (afterV H (n + 1))).filter (fun q => !isRoot (n + 1) q)).map (·.1)) then
      match mapO (flatAt H) ((refs v ++ refsR (afterV H (n + 1))).filter (fun q => !isRoot (n + 1) q)), ren (xi (n + 1) ((refs v ++ refsR (afterV H (n + 1))).filter (fun q => !isRoot (n + 1) q))) v, mapO (renQ (xi (n + 1) ((refs v ++ refsR (afterV H (n + 1))).filter (fun q => !isRoot (n + 1) q)))) (afterV H (n + 1)) with
      | some objs, some v', some after' => some (v', hpOf after' objs)
      | _, _, _ => none
    else none) := by
  simp only [exportV, afterV_is]
  rfl
theorem okD_nil (dr : Dr) (yg : Nat → Bool) (H : Hp) (site : Nat) (wr : Bool) : okD dr yg H site wr [] = true := by cases dr <;> rfl
theorem okD_cons (rid : Nat) (W : List (Nat × Nat)) (yg : Nat → Bool) (H : Hp) (site i : Nat) (wr : Bool) (o : Option (Nat × Eng.Obj)) (δ : List (Nat × Option (Nat × Eng.Obj))) : okD (some (rid, W)) yg H site wr ((i, o) :: δ) =
    ((if i / 16 = site ∧ i % 16 < 8 then (H i).isNone && o.isSome else wr && !yg i && mayW W (site - rid * 64 - 1) i && keepsF W (site - rid * 64 - 1) i (H i) o) && okD (some (rid, W)) yg H site wr δ) := rfl
theorem sub_seq0 (p : List Nat) (a b : Code) : subC (0 :: p) (.seq a b) = subC p a := rfl
theorem sub_seq1 (p : List Nat) (a b : Code) : subC (1 :: p) (.seq a b) = subC p b := rfl
theorem sub_cond0 (p : List Nat) (t : Operand) (a b : Code) : subC (0 :: p) (.cond t a b) = subC p a := rfl
theorem sub_cond1 (p : List Nat) (t : Operand) (a b : Code) : subC (1 :: p) (.cond t a b) = subC p b := rfl
theorem sub_block (p : List Nat) (i : Nat) (a : Code) : subC (0 :: p) (.block i a) = subC p a := rfl
theorem sub_loop (p : List Nat) (a : Code) : subC (0 :: p) (.loop a) = subC p a := rfl
theorem sub_nil (c : Code) : subC [] c = c := by cases c <;> rfl
theorem fillL_keep (l m : List Int) (i : Nat) (h : m.length = l.length) (hi : i < l.length) (he : m[i]'(by omega) = l[i]) : fillL l m (i + 1) = fillL l m i := by
  rw [← fillL_set l m i h hi, ← he]
  have hg := fillL_get l m i h hi
  obtain ⟨hl, hg'⟩ := List.getElem?_eq_some_iff.1 hg
  rw [← hg', List.set_getElem_self]
def intsO (l : List Int) : Eng.Obj := ⟨3, 1, true, ints l⟩
theorem young_near {rid j id : Nat} {W : List (Nat × Nat)} {ops : List Oper} (h : (decide (rid * 64 < id / 16) && decide (id / 16 ≤ rid * 64 + 64)) = true) : youngOf (some (rid, W)) ops j id = ((decide (id % 16 < 8) && !((clo ops).getD j 0).testBit (id / 16 - rid * 64 - 1)) || hidW W ops j id) := by simp [youngOf, h]
theorem ints_snoc (l : List Int) (a : Int) : ints l ++ [[V.c (.int .i64 a)]] = ints (l ++ [a]) := by simp only [ints, List.map_append, List.map_cons, List.map_nil]
theorem take_self (l : List Int) (n : Nat) : (l.take n).take n = l.take n := by rw [List.take_take, Nat.min_self]
/-- A loop, asked of one state: what it leaves. -/
theorem loopHas {body : St → Option (Ex × St)} {keep : List Nat} (e : Ex) (R : St → Prop) (I : Nat → St → Prop) (n k : Nat) (hk : n < k)
    (hs : ∀ i st next, i < n → I i st → (∀ st', I (i + 1) st' → ∃ s, next st' = some (e, s) ∧ R s) → ∃ s, loopNext (body (gc keep st)) next = some (e, s) ∧ R s)
    (hf : ∀ st next, I n st → ∃ s, loopNext (body (gc keep st)) next = some (e, s) ∧ R s) :
    ∀ st, I 0 st → ∃ s, loopRun body keep k st = some (e, s) ∧ R s :=
  fun st h0 => loopInd (P := fun r => ∃ s, r = some (e, s) ∧ R s) I n hs hf n 0 k st (by omega) hk h0
theorem loop_at {LP : St → Option (Ex × St)} {e : Ex} {D R : St → Prop} (h : ∀ st, D st → ∃ s, LP st = some (e, s) ∧ R s) {st : St} {res : Option (Ex × St)} (hr : LP st = res) (hD : D st) : ∃ s, res = some (e, s) ∧ R s := by
  obtain ⟨s, h1, h2⟩ := h st hD
  exact ⟨s, hr ▸ h1, h2⟩
theorem run_at {e : Option (V × Hp)} {x : Option (V × Hp)} (h : x = e) : x = e := h
theorem callV_if {C : Cfg} {call : CallF} {H : Hp} {tick site : Nat} {f : FuncId} {args : List V} : callV C call H tick site f args = if C.wr f = true then callWr C call H tick site f args (args.flatMap (rootOf (C.own f))) else callRo call tick site f (borL H args) := by
  cases h : C.wr f
  · rw [callV_ro h, if_neg (by decide)]
  · rw [callV_wr h, if_pos rfl]

end Go.Proofs.Ytfcnlfjenialdaa.Eng
namespace Go.Proofs.Ytfcnlfjenialdaa.Eng
open Go Go.Proofs
set_option maxRecDepth 100000
set_option maxHeartbeats 2000000
set_option linter.unusedSimpArgs false
set_option linter.unusedVariables false
attribute [local simp] finK fin1 hpOf xi renQ isRoot runCode runOps stepX inlOf Eng.step wantedV astep val ofO made loadV storeV find V.cells bin binT binA numT numFs eqCells un1 setAt fieldAddrV fieldV indexAddrV indexV bounds sliceV convV lenV foldV max2V min2V callO bor rdsO wrsO seen_none okD_none loops keepIds resV resultsV St.ev TK.agg refs refsL refsO V.one V.isC Value.oneCell' ren renL renO noTag noTagL noTagR noTagO nodup mapO passV frs psi refsR newD loopNext opsAt idx flatAt rootOf backR newsV appendV copyV clearV strV bytesV bldV bufV selfV bytesOf nilCmp buildV fillF chunk freeL frzW cellSame sameV
attribute [local simp] cT cF cX cWR cOW cK cBL X ints_length ints_get ints_getElem ints_drop ints_take ints_append ints_nil ints_set
attribute [local simp] ints_replicate
attribute [local simp] putV_some putV_none putH_app applyD_nil applyD_cons seen_app gc_ρ gc_H gc_tick st0_ρ st0_H st0_tick retV callRo callV_if borL_nil borL_cons ints_snoc take_self callWr cutH_app findQ afterV exportV_0 exportV_n okD_nil okD_cons sub_seq0 sub_seq1 sub_cond0 sub_cond1 sub_block sub_loop sub_nil young_far young_none hidW_nil mayW_nil keepsF_nil keepsF_cons pairs okI ok_0 ok_1 ok_2
attribute [local simp] T3 T4 T22 T23 T26 T28 T31 T33 T43 T48 T50 T70 T73 T75 T78 T82 T85
theorem c_within (k : Nat) (x a b : Int) (hk : 1 ≤ k) : callK C k 24 [.c (.int .i64 x), .c (.int .i64 a), .c (.int .i64 b)] [] = some (.c (.bool (decide (a ≤ x) && decide (x ≤ b))), hpOf [] []) := by
  obtain ⟨k, rfl⟩ : ∃ m, k = m + 1 := ⟨k - 1, by omega⟩
  rw [callK_fn rfl F24 code24]
  by_cases h : a ≤ x <;> simp [R24_0, R24_1, Try.f24, h]
theorem c_isCell (k : Nat) (x : Int) (hk : 2 ≤ k) : callK C k 55 [.c (.int .i64 x)] [] = some (.c (.bool (cellB x)), hpOf [] []) := by
  obtain ⟨k, rfl⟩ : ∃ m, k = m + 2 := ⟨k - 2, by omega⟩
  rw [callK_fn rfl F55 code55]
  cases h : x == -9999 <;> simp [R55_0, R55_1, Try.f55, h, cellB, c_within]
theorem c_isCell1 (k : Nat) (x : Int) (hk : 3 ≤ k) : callK C k 54 [.c (.int .i64 x)] [] = some (.c (.bool (!cellB x)), hpOf [] []) := by
  obtain ⟨k, rfl⟩ : ∃ m, k = m + 3 := ⟨k - 3, by omega⟩
  rw [callK_fn rfl F54 code54]
  simp [R54_0, R54_1, Try.f54, c_isCell]
theorem c_IndexCell (k : Nat) (b : Bool) (l : List Int) (hl : l.length ≤ 1048576) (hk : l.length + 20 ≤ k) : ∃ r : Int, (0 ≤ r ↔ l.all cellB = false) ∧ callK C k 67 [.sq b true 1 (ints l), .fn 54 []] [] = some (.c (.int .i64 r), hpOf [] []) := by
  obtain ⟨k, rfl⟩ : ∃ m, k = m + 4 := ⟨k - 4, by omega⟩
  rw [callK_fn rfl F67 code67]
  have hc := fun x => c_isCell1 (k + 3) x (by omega)
  cases hall : l.all cellB
  · obtain ⟨i0, hi0, hc0, hlt⟩ : ∃ (i : Nat) (hi : i < l.length), cellB l[i] = false ∧ ∀ (j : Nat) (hj : j < i), cellB (l[j]'(by omega)) = true := by
      have hx : ∃ i, ∃ hi : i < l.length, cellB l[i] = false := by
        have : ¬ (l.all cellB = true) := by simp [hall]
        rw [List.all_eq_true] at this
        obtain ⟨x, hx, hx'⟩ := Classical.not_forall.1 this |>.imp fun x hx => Classical.not_imp.1 hx
        obtain ⟨i, hi, rfl⟩ := List.getElem_of_mem hx
        exact ⟨i, hi, by simpa using hx'⟩
      obtain ⟨i, hi, h1⟩ : ∃ i, (∃ hi : i < l.length, cellB l[i] = false) ∧ ∀ j, j < i → ¬ ∃ hi : j < l.length, cellB l[j] = false := by
        obtain ⟨i, hi⟩ := hx
        induction i using Nat.strongRecOn with
        | ind i ih =>
          by_cases hj : ∃ j, j < i ∧ ∃ hi : j < l.length, cellB l[j] = false
          · obtain ⟨j, hj1, hj2⟩ := hj; exact ih j hj1 hj2
          · exact ⟨i, hi, fun j hj' hj'' => hj ⟨j, hj', hj''⟩⟩
      exact ⟨i, hi.1, hi.2, fun j hj => by
        have hj2 : j < l.length := Nat.lt_trans hj hi.1
        cases hc : cellB (l[j]'hj2)
        · exact absurd ⟨hj2, hc⟩ (h1 j hj)
        · rfl⟩
    obtain ⟨out, ho⟩ := loopOut (body := fun st => runCode C (callK C (k + 3)) (k + 3) (K 67) L67_0 1 st) (keep := [0, 1, 7, 8]) .ret (fun st => st.ρ 4 = .c (.int .i64 (i0 : Int)))
      (fun i st => st.ρ 0 = .sq b true 1 (ints l) ∧ st.ρ 1 = .fn 54 [] ∧ st.ρ 7 = .c (.int .i64 (l.length : Int)) ∧ st.ρ 8 = .c (.int .i64 (i : Int)) ∧ i ≤ i0)
      i0 (k + 3) (by omega)
      (by
        rintro i st next hi ⟨h0, h1, h7, h8, hle⟩ hn
        have hil : i < l.length := by omega
        simp [L67_0, R67_0, R67_1, R67_2, R67_3, R67_4, R67_5, R67_6, R67_7, Try.f67, lpL67_0, lpM67_0, M67_0, h0, h1, h7, h8, hil, hc, hlt i hi, wrap_next hil (by omega)] at hn ⊢
        exact hn _ (by simp [h0]) (by simp [h1]) (by simp [h7]) (by simp) (by omega))
      (by
        rintro st next ⟨h0, h1, h7, h8, hle⟩
        simp [L67_0, R67_0, R67_1, R67_2, R67_3, R67_4, R67_5, R67_6, R67_7, Try.f67, lpL67_0, lpM67_0, M67_0, h0, h1, h7, h8, hi0, hc, hc0])
    simp at ho
    refine ⟨(i0 : Int), by simp, ?_⟩
    simp [R67_0, R67_1, R67_2, R67_3, R67_4, R67_5, R67_6, R67_7, Try.f67, lpL67_0, lpM67_0, M67_0, ho]
  · obtain ⟨out, ho⟩ := loopOut (body := fun st => runCode C (callK C (k + 3)) (k + 3) (K 67) L67_0 1 st) (keep := [0, 1, 7, 8]) (.ex 0) (fun st => True)
      (fun i st => st.ρ 0 = .sq b true 1 (ints l) ∧ st.ρ 1 = .fn 54 [] ∧ st.ρ 7 = .c (.int .i64 (l.length : Int)) ∧ st.ρ 8 = .c (.int .i64 (i : Int)))
      l.length (k + 3) (by omega)
      (by
        rintro i st next hi ⟨h0, h1, h7, h8⟩ hn
        have hci : cellB l[i] = true := List.all_eq_true.1 hall _ (List.getElem_mem hi)
        simp [L67_0, R67_0, R67_1, R67_2, R67_3, R67_4, R67_5, R67_6, R67_7, Try.f67, lpL67_0, lpM67_0, M67_0, h0, h1, h7, h8, hi, hc, hci, wrap_next hi (by omega)] at hn ⊢
        exact hn _ (by simp [h0]) (by simp [h1]) (by simp [h7]) (by simp))
      (by
        rintro st next ⟨h0, h1, h7, h8⟩
        simp [L67_0, R67_0, R67_1, R67_2, R67_3, R67_4, R67_5, R67_6, R67_7, Try.f67, lpL67_0, lpM67_0, M67_0, h0, h1, h7, h8])
    simp at ho
    refine ⟨-1, by simp, ?_⟩
    simp [R67_0, R67_1, R67_2, R67_3, R67_4, R67_5, R67_6, R67_7, Try.f67, lpL67_0, lpM67_0, M67_0, ho]
theorem c_ContainsCell (k : Nat) (b : Bool) (l : List Int) (hl : l.length ≤ 1048576) (hk : l.length + 30 ≤ k) : callK C k 53 [.sq b true 1 (ints l), .fn 54 []] [] = some (.c (.bool (!l.all cellB)), hpOf [] []) := by
  obtain ⟨k, rfl⟩ : ∃ m, k = m + 5 := ⟨k - 5, by omega⟩
  rw [callK_fn rfl F53 code53]
  obtain ⟨r, hr, hc⟩ := c_IndexCell (k + 4) b l hl (by omega)
  cases hall : l.all cellB
  · have : (0 : Int) ≤ r := hr.2 hall
    simp [R53_0, R53_1, Try.f53, hc, this]
  · have : ¬ (0 : Int) ≤ r := fun h => by rw [hr.1 h] at hall; cases hall
    simp [R53_0, R53_1, Try.f53, hc, this]
theorem c_IsValidField (k : Nat) (b : Bool) (w h : Int) (l : List Int) (hk : 200 ≤ k) : callK C k 43 [fldV b w h l] [] = some (.c (.bool (goodB w h l)), hpOf [] []) := by
  obtain ⟨k, rfl⟩ : ∃ m, k = m + 6 := ⟨k - 6, by omega⟩
  rw [callK_fn rfl F43 code43]
  have e1 : goodB w h l = (((decide (1 ≤ w) && decide (w ≤ 8)) && (decide (1 ≤ h) && decide (h ≤ 8))) && (((l.length : Int) == w * h) && l.all cellB)) := rfl
  cases h1 : (decide (1 ≤ w) && decide (w ≤ 8))
  · rw [e1, h1]
    simp [R43_0, R43_1, Try.f43, fldV, c_within, h1]
  cases h2 : (decide (1 ≤ h) && decide (h ≤ 8))
  · rw [e1, h1, h2]
    simp [R43_0, R43_1, Try.f43, fldV, c_within, h1, h2]
  have hs : shapeB w h = true := by simp only [shapeB, h1, h2]; rfl
  obtain ⟨hp0, hp, _⟩ := shape_area hs
  have hw : IntKind.i64.wrap (w * h) = w * h := wrap_small (by omega) (by omega)
  rw [e1, h1, h2]
  by_cases h3 : (l.length : Int) = w * h
  · have hc := c_ContainsCell (k + 5) true l (by omega) (by omega)
    have hc' := c_ContainsCell (k + 5) b l (by omega) (by omega)
    cases hall : l.all cellB <;> simp [R43_0, R43_1, Try.f43, fldV, c_within, h1, h2, h3, hw, hc, hc', hall]
  · have h3' : ((l.length : Int) == w * h) = false := by simpa using h3
    simp [R43_0, R43_1, Try.f43, fldV, c_within, h1, h2, h3', hw]
def ownV (w h : Int) (id vr n : Nat) : V := .ag [.c (.int .i64 w), .c (.int .i64 h), .s id vr 1 0 n]
def nilV : V := .ag [.c (.int .i64 0), .c (.int .i64 0), .c (.slice none 0 0)]

end Go.Proofs.Ytfcnlfjenialdaa.Eng
namespace Go.Proofs.Ytfcnlfjenialdaa.Eng
open Go Go.Proofs
set_option maxRecDepth 100000
set_option maxHeartbeats 2000000
set_option linter.unusedSimpArgs false
set_option linter.unusedVariables false
attribute [local simp] finK fin1 hpOf xi renQ isRoot runCode runOps stepX inlOf Eng.step wantedV astep val ofO made loadV storeV find V.cells bin binT binA numT numFs eqCells un1 setAt fieldAddrV fieldV indexAddrV indexV bounds sliceV convV lenV foldV max2V min2V callO bor rdsO wrsO seen_none okD_none loops keepIds resV resultsV St.ev TK.agg refs refsL refsO V.one V.isC Value.oneCell' ren renL renO noTag noTagL noTagR noTagO nodup mapO passV frs psi refsR newD loopNext opsAt idx flatAt rootOf backR newsV appendV copyV clearV strV bytesV bldV bufV selfV bytesOf nilCmp buildV fillF chunk freeL frzW cellSame sameV
attribute [local simp] cT cF cX cWR cOW cK cBL X ints_length ints_get ints_getElem ints_drop ints_take ints_append ints_nil ints_set
attribute [local simp] ints_replicate
attribute [local simp] putV_some putV_none putH_app applyD_nil applyD_cons seen_app gc_ρ gc_H gc_tick st0_ρ st0_H st0_tick retV callRo callV_if borL_nil borL_cons ints_snoc take_self callWr cutH_app findQ afterV exportV_0 exportV_n okD_nil okD_cons sub_seq0 sub_seq1 sub_cond0 sub_cond1 sub_block sub_loop sub_nil young_far young_none hidW_nil mayW_nil keepsF_nil keepsF_cons pairs okI ok_0 ok_1 ok_2
attribute [local simp] T3 T4 T22 T23 T26 T28 T31 T33 T43 T48 T50 T70 T73 T75 T78 T82 T85
theorem c_sameShape (k : Nat) (b c : Bool) (w h w' h' : Int) (l m : List Int) (hk : 1 ≤ k) : callK C k 44 [fldV b w h l, fldV c w' h' m] [] = some (.c (.bool (w == w' && h == h')), hpOf [] []) := by
  obtain ⟨k, rfl⟩ : ∃ m, k = m + 1 := ⟨k - 1, by omega⟩
  rw [callK_fn rfl F44 code44]
  cases hw : w == w' <;> simp [R44_0, R44_1, Try.f44, fldV, hw]
theorem c_Clone (k : Nat) (b : Bool) (l : List Int) (hl : l.length ≤ 1048576) (h0 : l ≠ []) (hk : 1 ≤ k) : callK C k 56 [.sq b true 1 (ints l)] [] = some (.s 0 2 1 0 l.length, hpOf [] [intsO l]) := by
  obtain ⟨k, rfl⟩ : ∃ m, k = m + 1 := ⟨k - 1, by omega⟩
  rw [callK_fn rfl F56 code56]
  have b2 : l.length * 8 ≤ 140737488355328 := by omega
  have b3 : l.length ≤ maxLen := by unfold maxLen; omega
  simp [R56_0, R56_1, R56_2, R56_3, Try.f56, h0, intsO, b2, b3]
theorem c_cloneField (k : Nat) (b : Bool) (w h : Int) (l : List Int) (hl : l.length ≤ 1048576) (h0 : l ≠ []) (hk : 2 ≤ k) : callK C k 45 [fldV b w h l] [] = some (.ag [.c (.int .i64 w), .c (.int .i64 h), .s 0 2 1 0 l.length], hpOf [] [intsO l]) := by
  obtain ⟨k, rfl⟩ : ∃ m, k = m + 2 := ⟨k - 2, by omega⟩
  rw [callK_fn rfl F45 code45]
  have hc := c_Clone (k + 1) b l hl h0 (by omega)
  have hc' := c_Clone (k + 1) true l hl h0 (by omega)
  simp [R45_0, R45_1, Try.f45, fldV, hc, hc', intsO]
theorem c_checkedField (k : Nat) (w h : Int) (l : List Int) (hk : 210 ≤ k) : callK C k 69 [ownV w h 0 0 l.length] [intsO l] = some (.tp [if goodB w h l then ownV w h 0 0 l.length else nilV, .c (.bool (goodB w h l))], hpOf [some (intsO l)] []) := by
  obtain ⟨k, rfl⟩ : ∃ m, k = m + 7 := ⟨k - 7, by omega⟩
  rw [callK_fn rfl F69 code69]
  have hv := c_IsValidField (k + 6) true w h l (by omega)
  simp [fldV] at hv
  cases hg : goodB w h l
  · simp [R69_0, R69_1, R69_2, R69_3, Try.f69, ownV, nilV, intsO, hv, hg]
  · simp [R69_0, R69_1, R69_2, R69_3, Try.f69, ownV, nilV, intsO, hv, hg]

end Go.Proofs.Ytfcnlfjenialdaa.Eng
namespace Go.Proofs.Ytfcnlfjenialdaa.Eng
open Go Go.Proofs
set_option maxRecDepth 100000
set_option maxHeartbeats 2000000
set_option linter.unusedSimpArgs false
set_option linter.unusedVariables false
attribute [local simp] finK fin1 hpOf xi renQ isRoot runCode runOps stepX inlOf Eng.step wantedV astep val ofO made loadV storeV find V.cells bin binT binA numT numFs eqCells un1 setAt fieldAddrV fieldV indexAddrV indexV bounds sliceV convV lenV foldV max2V min2V callO bor rdsO wrsO seen_none okD_none loops keepIds resV resultsV St.ev TK.agg refs refsL refsO V.one V.isC Value.oneCell' ren renL renO noTag noTagL noTagR noTagO nodup mapO passV frs psi refsR newD loopNext opsAt idx flatAt rootOf backR newsV appendV copyV clearV strV bytesV bldV bufV selfV bytesOf nilCmp buildV fillF chunk freeL frzW cellSame sameV
attribute [local simp] cT cF cX cWR cOW cK cBL X ints_length ints_get ints_getElem ints_drop ints_take ints_append ints_nil ints_set
attribute [local simp] ints_replicate
attribute [local simp] putV_some putV_none putH_app applyD_nil applyD_cons seen_app gc_ρ gc_H gc_tick st0_ρ st0_H st0_tick retV callRo callV_if borL_nil borL_cons ints_snoc take_self callWr cutH_app findQ afterV exportV_0 exportV_n okD_nil okD_cons sub_seq0 sub_seq1 sub_cond0 sub_cond1 sub_block sub_loop sub_nil young_far young_none hidW_nil mayW_nil keepsF_nil keepsF_cons pairs okI ok_0 ok_1 ok_2
attribute [local simp] T3 T4 T22 T23 T26 T28 T31 T33 T43 T48 T50 T70 T73 T75 T78 T82 T85
theorem c_l1In (k : Nat) (x a b : Int) (hk : 1 ≤ k) : callK C k 35 [.c (.int .i64 x), .c (.int .i64 a), .c (.int .i64 b)] [] = some (.c (.bool (decide (a ≤ x) && decide (x ≤ b))), hpOf [] []) := by
  obtain ⟨k, rfl⟩ : ∃ m, k = m + 1 := ⟨k - 1, by omega⟩
  rw [callK_fn rfl F35 code35]
  by_cases h : a ≤ x <;> simp [R35_0, R35_1, Try.f35, h]
theorem c_l2Value (k : Nat) (x : Int) (hk : 2 ≤ k) : callK C k 64 [.c (.int .i64 x)] [] = some (.c (.bool (cellB x)), hpOf [] []) := by
  obtain ⟨k, rfl⟩ : ∃ m, k = m + 2 := ⟨k - 2, by omega⟩
  rw [callK_fn rfl F64 code64]
  cases h : x == -9999 <;> simp [R64_0, R64_1, Try.f64, h, cellB, c_l1In]
theorem c_l2Shape (k : Nat) (x y : Int) (hk : 2 ≤ k) : callK C k 63 [.c (.int .i64 x), .c (.int .i64 y)] [] = some (.c (.bool (shapeB x y)), hpOf [] []) := by
  obtain ⟨k, rfl⟩ : ∃ m, k = m + 2 := ⟨k - 2, by omega⟩
  rw [callK_fn rfl F63 code63]
  unfold shapeB
  cases h : (decide (1 ≤ x) && decide (x ≤ 8)) <;> simp [R63_0, R63_1, Try.f63, h, c_l1In]
theorem c_l2Good (k : Nat) (b : Bool) (w h : Int) (l : List Int) (hk : 100 ≤ k) : callK C k 49 [fldV b w h l] [] = some (.c (.bool (goodB w h l)), hpOf [] []) := by
  obtain ⟨k, rfl⟩ : ∃ m, k = m + 3 := ⟨k - 3, by omega⟩
  rw [callK_fn rfl F49 code49]
  cases h1 : shapeB w h
  · simp [R49_0, R49_1, R49_2, R49_3, R49_4, R49_5, R49_6, R49_7, R49_8, Try.f49, lpL49_0, lpM49_0, M49_0, c_l2Shape, fldV, goodB, h1]
  obtain ⟨hp0, hp, _⟩ := shape_area h1
  have hw : IntKind.i64.wrap (w * h) = w * h := wrap_small (by omega) (by omega)
  by_cases h2 : (l.length : Int) = w * h
  · simp only [fldV, goodB, h1, h2]
    have hc := fun x => c_l2Value (k + 2) x (by omega)
    cases hall : l.all cellB
    · obtain ⟨out, ho⟩ := loopOut (body := fun st => runCode C (callK C (k + 2)) (k + 2) (K 49) L49_0 1 st) (keep := [1, 3]) .ret (fun st => st.ρ 2 = .c (.bool false))
        (fun i st => st.ρ 1 = .p 16 1 3 0 0 ∧ st.H 16 = some (1, ⟨28, 3, false, [[.c (.int .i64 w), .c (.int .i64 h), .sq b true 1 (ints l)]]⟩) ∧ st.ρ 3 = .c (.int .i64 (i : Int)) ∧ (l.take i).all cellB = true)
        l.length (k + 2) (by omega)
        (by
          rintro i st next hi ⟨h1, hH, h3, ht⟩ hn
          cases hx : cellB l[i]
          · simp [L49_0, R49_0, R49_1, R49_2, R49_3, R49_4, R49_5, R49_6, R49_7, R49_8, Try.f49, lpL49_0, lpM49_0, M49_0, h1, hH, h3, hi, hc, hx]
          · have ht' : (l.take (i + 1)).all cellB = true := by rw [List.take_succ_eq_append_getElem hi, List.all_append, ht]; simp [hx]
            simp [L49_0, R49_0, R49_1, R49_2, R49_3, R49_4, R49_5, R49_6, R49_7, R49_8, Try.f49, lpL49_0, lpM49_0, M49_0, h1, hH, h3, hi, hc, hx, wrap_next hi (by omega : l.length ≤ 9000000000000000000)]
            exact hn _ (by simp [h1, hH]; simpa using ht'))
        (by
          rintro st next ⟨h1, hH, h3, ht⟩
          rw [List.take_of_length_le (Nat.le_refl _), hall] at ht
          cases ht)
      simp at ho
      simp [R49_0, R49_1, R49_2, R49_3, R49_4, R49_5, R49_6, R49_7, R49_8, Try.f49, lpL49_0, lpM49_0, M49_0, c_l2Shape, h1, hw, h2, ho]
    · obtain ⟨out, ho⟩ := loopOut (body := fun st => runCode C (callK C (k + 2)) (k + 2) (K 49) L49_0 1 st) (keep := [1, 3]) (.ex 0) (fun st => st.tick = st.tick)
        (fun i st => st.ρ 1 = .p 16 1 3 0 0 ∧ st.H 16 = some (1, ⟨28, 3, false, [[.c (.int .i64 w), .c (.int .i64 h), .sq b true 1 (ints l)]]⟩) ∧ st.ρ 3 = .c (.int .i64 (i : Int)))
        l.length (k + 2) (by omega)
        (by
          rintro i st next hi ⟨h1, hH, h3⟩ hn
          have hx : cellB l[i] = true := List.all_eq_true.1 hall _ (List.getElem_mem hi)
          simp [L49_0, R49_0, R49_1, R49_2, R49_3, R49_4, R49_5, R49_6, R49_7, R49_8, Try.f49, lpL49_0, lpM49_0, M49_0, h1, hH, h3, hi, hc, hx, wrap_next hi (by omega : l.length ≤ 9000000000000000000)]
          simp only [and_true] at hn
          exact hn _ (by simp [h1, hH]))
        (by
          rintro st next ⟨h1, hH, h3⟩
          simp [L49_0, R49_0, R49_1, R49_2, R49_3, R49_4, R49_5, R49_6, R49_7, R49_8, Try.f49, lpL49_0, lpM49_0, M49_0, h1, hH, h3])
      simp at ho
      simp [R49_0, R49_1, R49_2, R49_3, R49_4, R49_5, R49_6, R49_7, R49_8, Try.f49, lpL49_0, lpM49_0, M49_0, c_l2Shape, h1, hw, h2, ho]
  · have h2' : ((l.length : Int) == w * h) = false := by simpa using h2
    simp [R49_0, R49_1, R49_2, R49_3, R49_4, R49_5, R49_6, R49_7, R49_8, Try.f49, lpL49_0, lpM49_0, M49_0, c_l2Shape, fldV, goodB, h1, hw, h2, h2']

end Go.Proofs.Ytfcnlfjenialdaa.Eng
namespace Go.Proofs.Ytfcnlfjenialdaa.Eng
open Go Go.Proofs
set_option maxRecDepth 100000
set_option maxHeartbeats 2000000
set_option linter.unusedSimpArgs false
set_option linter.unusedVariables false
attribute [local simp] finK fin1 hpOf xi renQ isRoot runCode runOps stepX inlOf Eng.step wantedV astep val ofO made loadV storeV find V.cells bin binT binA numT numFs eqCells un1 setAt fieldAddrV fieldV indexAddrV indexV bounds sliceV convV lenV foldV max2V min2V callO bor rdsO wrsO seen_none okD_none loops keepIds resV resultsV St.ev TK.agg refs refsL refsO V.one V.isC Value.oneCell' ren renL renO noTag noTagL noTagR noTagO nodup mapO passV frs psi refsR newD loopNext opsAt idx flatAt rootOf backR newsV appendV copyV clearV strV bytesV bldV bufV selfV bytesOf nilCmp buildV fillF chunk freeL frzW cellSame sameV
attribute [local simp] cT cF cX cWR cOW cK cBL X ints_length ints_get ints_getElem ints_drop ints_take ints_append ints_nil ints_set
attribute [local simp] ints_replicate
attribute [local simp] putV_some putV_none putH_app applyD_nil applyD_cons seen_app gc_ρ gc_H gc_tick st0_ρ st0_H st0_tick retV callRo callV_if borL_nil borL_cons ints_snoc take_self callWr cutH_app findQ afterV exportV_0 exportV_n okD_nil okD_cons sub_seq0 sub_seq1 sub_cond0 sub_cond1 sub_block sub_loop sub_nil young_far young_none hidW_nil mayW_nil keepsF_nil keepsF_cons pairs okI ok_0 ok_1 ok_2
attribute [local simp] T3 T4 T22 T23 T26 T28 T31 T33 T43 T48 T50 T70 T73 T75 T78 T82 T85
theorem c_l1Own (k : Nat) (b : Bool) (l : List Int) (hl : l.length ≤ 1048576) (hk : 1 ≤ k) : callK C k 50 [.sq b true 1 (ints l)] [] = some (.s 0 2 1 0 l.length, hpOf [] [intsO l]) := by
  obtain ⟨k, rfl⟩ : ∃ m, k = m + 1 := ⟨k - 1, by omega⟩
  rw [callK_fn rfl F50 code50]
  have b2 : l.length * 8 ≤ 140737488355328 := by omega
  have b3 : l.length ≤ maxLen := by unfold maxLen; omega
  by_cases h0 : l = []
  · subst h0
    simp [R50_0, R50_1, Try.f50, intsO, ints]
  · simp [R50_0, R50_1, Try.f50, h0, intsO, b2, b3]
theorem c_l2Own (k : Nat) (b : Bool) (w h : Int) (l : List Int) (hl : l.length ≤ 1048576) (hk : 2 ≤ k) : callK C k 36 [fldV b w h l] [] = some (ownV w h 0 2 l.length, hpOf [] [intsO l]) := by
  obtain ⟨k, rfl⟩ : ∃ m, k = m + 2 := ⟨k - 2, by omega⟩
  rw [callK_fn rfl F36 code36]
  have hc := c_l1Own (k + 1) b l hl (by omega)
  simp [R36_0, R36_1, Try.f36, fldV, hc, intsO, ownV]
theorem c_l2Same (k : Nat) (b c : Bool) (w h w' h' : Int) (l m : List Int) (hk : 110 ≤ k) : callK C k 34 [fldV b w h l, fldV c w' h' m] [] = some (.c (.bool (goodB w h l && (goodB w' h' m && (w == w' && h == h')))), hpOf [] []) := by
  obtain ⟨k, rfl⟩ : ∃ m, k = m + 2 := ⟨k - 2, by omega⟩
  rw [callK_fn rfl F34 code34]
  have g1 := c_l2Good (k + 1) b w h l (by omega)
  have g2 := c_l2Good (k + 1) c w' h' m (by omega)
  simp only [fldV] at g1 g2
  cases e1 : goodB w h l
  · simp [R34_0, R34_1, Try.f34, fldV, g1, e1]
  cases e2 : goodB w' h' m
  · simp [R34_0, R34_1, Try.f34, fldV, g1, e1, g2, e2]
  cases e3 : w == w'
  · simp [R34_0, R34_1, Try.f34, fldV, g1, e1, g2, e2, e3]
  · simp [R34_0, R34_1, Try.f34, fldV, g1, e1, g2, e2, e3]

end Go.Proofs.Ytfcnlfjenialdaa.Eng
namespace Go.Proofs.Ytfcnlfjenialdaa.Eng
open Go Go.Proofs
set_option maxRecDepth 100000
set_option maxHeartbeats 2000000
set_option linter.unusedSimpArgs false
set_option linter.unusedVariables false
attribute [local simp] finK fin1 hpOf xi renQ isRoot runCode runOps stepX inlOf Eng.step wantedV astep val ofO made loadV storeV find V.cells bin binT binA numT numFs eqCells un1 setAt fieldAddrV fieldV indexAddrV indexV bounds sliceV convV lenV foldV max2V min2V callO bor rdsO wrsO seen_none okD_none loops keepIds resV resultsV St.ev TK.agg refs refsL refsO V.one V.isC Value.oneCell' ren renL renO noTag noTagL noTagR noTagO nodup mapO passV frs psi refsR newD loopNext opsAt idx flatAt rootOf backR newsV appendV copyV clearV strV bytesV bldV bufV selfV bytesOf nilCmp buildV fillF chunk freeL frzW cellSame sameV
attribute [local simp] cT cF cX cWR cOW cK cBL X ints_length ints_get ints_getElem ints_drop ints_take ints_append ints_nil ints_set
attribute [local simp] ints_replicate
attribute [local simp] putV_some putV_none putH_app applyD_nil applyD_cons seen_app gc_ρ gc_H gc_tick st0_ρ st0_H st0_tick retV callRo callV_if borL_nil borL_cons ints_snoc take_self callWr cutH_app findQ afterV exportV_0 exportV_n okD_nil okD_cons sub_seq0 sub_seq1 sub_cond0 sub_cond1 sub_block sub_loop sub_nil young_far young_none hidW_nil mayW_nil keepsF_nil keepsF_cons pairs okI ok_0 ok_1 ok_2
attribute [local simp] T3 T4 T22 T23 T26 T28 T31 T33 T43 T48 T50 T70 T73 T75 T78 T82 T85
def lfldV (b : Bool) (w h : Int) (l : List Int) : V := .ag [.c (.int .i64 w), .c (.int .i64 h), .sq b true 1 (ints l)]
theorem c_szIntS (k : Nat) (b : Bool) (l : List Int) (n : Int) (hk : 1 ≤ k) (hn : -9223372036854775807 ≤ n - l.length) (hn' : n ≤ 9000000000000000000) : callK C k 32 [.sq b true 1 (ints l), .c (.int .i64 n)] [] = some (.c (.int .i64 (if n - l.length < 0 then -1 else n - l.length)), hpOf [] []) := by
  obtain ⟨k, rfl⟩ : ∃ m, k = m + 1 := ⟨k - 1, by omega⟩
  rw [callK_fn rfl F32 code32]
  have hw : IntKind.i64.wrap (n - l.length) = n - l.length := wrap_small (by omega) (by omega)
  by_cases h : n - (l.length : Int) < 0 <;> simp [R32_0, R32_1, R32_2, R32_3, R32_4, Try.f32, hw, h]
theorem c_szField (k : Nat) (b : Bool) (w h : Int) (l : List Int) (n : Int) (hk : 2 ≤ k) (hn : -9223372036854775807 ≤ n - l.length) (hn' : n ≤ 9000000000000000000) : callK C k 17 [lfldV b w h l, .c (.int .i64 n)] [] = some (.c (.int .i64 (if n - l.length < 0 then -1 else n - l.length)), hpOf [] []) := by
  obtain ⟨k, rfl⟩ : ∃ m, k = m + 2 := ⟨k - 2, by omega⟩
  rw [callK_fn rfl F17 code17]
  by_cases h : n - (l.length : Int) < 0 <;> simp [R17_0, R17_1, R17_2, R17_3, R17_4, Try.f17, lfldV, c_szIntS, hn, hn', h]
theorem c_toIntS (k : Nat) (b : Bool) (l : List Int) (hl : l.length ≤ 1048576) (hk : l.length + 10 ≤ k) : callK C k 41 [.sq b true 1 (ints l)] [] = some (.s 0 2 1 0 l.length, hpOf [] [intsO l]) := by
  obtain ⟨k, rfl⟩ : ∃ m, k = m + 3 := ⟨k - 3, by omega⟩
  rw [callK_fn rfl F41 code41]
  obtain ⟨out, ho⟩ := loopOut (body := fun st => runCode C (callK C (k + 2)) (k + 2) (K 41) L41_0 1 st) (keep := [0, 3, 4]) (.ex 0) (fun st => st.ρ 3 = .s 1072 2 1 0 l.length ∧ st.H 1072 = some (2, intsO l))
    (fun i st => st.ρ 0 = .sq b true 1 (ints l) ∧ st.ρ 3 = .s 1072 2 1 0 l.length ∧ st.H 1072 = some (2, intsO (fillL l (List.replicate l.length 0) i)) ∧ st.ρ 4 = .c (.int .i64 (i : Int)))
    l.length (k + 2) (by omega)
    (by
      rintro i st next hi ⟨h0, h3, hH, h4⟩ hn
      have hg := fillL_get l (List.replicate l.length 0) i (by simp) hi
      have hs := fillL_set l (List.replicate l.length 0) i (by simp) hi
      simp [L41_0, R41_0, R41_1, R41_2, R41_3, R41_4, R41_5, R41_6, Try.f41, lpL41_0, lpM41_0, M41_0, h0, h3, h4, hH, hi, intsO, wrap_next hi (by omega : l.length ≤ 9000000000000000000), hg, hs]
      exact hn _ (by simp [h0, h3, intsO]))
    (by
      rintro st next ⟨h0, h3, hH, h4⟩
      simp [L41_0, R41_0, R41_1, R41_2, R41_3, R41_4, R41_5, R41_6, Try.f41, lpL41_0, lpM41_0, M41_0, h0, h3, h4, hH, intsO, fillL_all])
  simp [fillL_zero, intsO] at ho
  have b1 : (l.length : Int) ≤ 17592186044416 := by omega
  have b2 : 8 * (l.length : Int) ≤ 140737488355328 := by omega
  simp [R41_0, R41_1, R41_2, R41_3, R41_4, R41_5, R41_6, Try.f41, lpL41_0, lpM41_0, M41_0, ho, intsO, b1, b2]
theorem c_toField (k : Nat) (b : Bool) (w h : Int) (l : List Int) (hl : l.length ≤ 1048576) (hk : l.length + 20 ≤ k) : callK C k 22 [lfldV b w h l] [] = some (.ag [.c (.int .i64 w), .c (.int .i64 h), .s 0 2 1 0 l.length], hpOf [] [intsO l]) := by
  obtain ⟨k, rfl⟩ : ∃ m, k = m + 4 := ⟨k - 4, by omega⟩
  rw [callK_fn rfl F22 code22]
  have h58 := c_toIntS (k + 3) b l hl (by omega)
  simp [R22_0, R22_1, R22_2, R22_3, R22_4, R22_5, Try.f22, lfldV, h58, intsO]
theorem c_eqIntS (k : Nat) (b c : Bool) (l m : List Int) (hl : l.length ≤ 1048576) (hk : l.length + 10 ≤ k) : callK C k 28 [.sq b true 1 (ints l), .sq c true 1 (ints m)] [] = some (.c (.bool (decide (l = m))), hpOf [] []) := by
  obtain ⟨k, rfl⟩ : ∃ m, k = m + 3 := ⟨k - 3, by omega⟩
  rw [callK_fn rfl F28 code28]
  by_cases hlm : l = m
  · subst hlm
    obtain ⟨out, ho⟩ := loopOut (body := fun st => runCode C (callK C (k + 2)) (k + 2) (K 28) L28_0 1 st) (keep := [0, 1, 5]) (.ex 0) (fun st => True)
      (fun i st => st.ρ 0 = .sq b true 1 (ints l) ∧ st.ρ 1 = .sq c true 1 (ints l) ∧ st.ρ 5 = .c (.int .i64 (i : Int)))
      l.length (k + 2) (by omega)
      (by
        rintro i st next hi ⟨h0, h1, h5⟩ hn
        simp [L28_0, R28_0, R28_1, R28_2, R28_3, R28_4, R28_5, R28_6, R28_7, R28_8, Try.f28, lpL28_0, lpM28_0, M28_0, h0, h1, h5, hi, wrap_next hi (by omega : l.length ≤ 9000000000000000000)] at hn ⊢
        exact hn _ (by simp [h0]) (by simp [h1]) (by simp))
      (by
        rintro st next ⟨h0, h1, h5⟩
        simp [L28_0, R28_0, R28_1, R28_2, R28_3, R28_4, R28_5, R28_6, R28_7, R28_8, Try.f28, lpL28_0, lpM28_0, M28_0, h0, h1, h5])
    simp at ho
    simp [R28_0, R28_1, R28_2, R28_3, R28_4, R28_5, R28_6, R28_7, R28_8, Try.f28, lpL28_0, lpM28_0, M28_0, ho]
  · by_cases hll : l.length = m.length
    · obtain ⟨out, ho⟩ := loopOut (body := fun st => runCode C (callK C (k + 2)) (k + 2) (K 28) L28_0 1 st) (keep := [0, 1, 5]) .ret (fun st => st.ρ 4 = .c (.bool false))
        (fun i st => st.ρ 0 = .sq b true 1 (ints l) ∧ st.ρ 1 = .sq c true 1 (ints m) ∧ st.ρ 5 = .c (.int .i64 (i : Int)) ∧ l.take i = m.take i)
        l.length (k + 2) (by omega)
        (by
          rintro i st next hi ⟨h0, h1, h5, ht⟩ hn
          have hi' : i < m.length := by omega
          by_cases hx : l[i] = m[i]
          · have ht' : l.take (i + 1) = m.take (i + 1) := by rw [List.take_succ_eq_append_getElem hi, List.take_succ_eq_append_getElem hi', ht, hx]
            simp [L28_0, R28_0, R28_1, R28_2, R28_3, R28_4, R28_5, R28_6, R28_7, R28_8, Try.f28, lpL28_0, lpM28_0, M28_0, h0, h1, h5, hi, hi', hx, wrap_next hi (by omega : l.length ≤ 9000000000000000000)] at hn ⊢
            exact hn _ (by simp [h0]) (by simp [h1]) (by simp) ht'
          · simp [L28_0, R28_0, R28_1, R28_2, R28_3, R28_4, R28_5, R28_6, R28_7, R28_8, Try.f28, lpL28_0, lpM28_0, M28_0, h0, h1, h5, hi, hi', hx])
        (by
          rintro st next ⟨h0, h1, h5, ht⟩
          rw [List.take_of_length_le (by omega), List.take_of_length_le (by omega)] at ht
          exact absurd ht hlm)
      simp at ho
      have hll' : (l.length : Int) = m.length := by omega
      simp [R28_0, R28_1, R28_2, R28_3, R28_4, R28_5, R28_6, R28_7, R28_8, Try.f28, lpL28_0, lpM28_0, M28_0, ho, hlm, hll]
    · have hll' : ¬ (l.length : Int) = m.length := by omega
      simp [R28_0, R28_1, R28_2, R28_3, R28_4, R28_5, R28_6, R28_7, R28_8, Try.f28, lpL28_0, lpM28_0, M28_0, hlm, hll']
theorem c_eqField (k : Nat) (b c : Bool) (w h w' h' : Int) (l m : List Int) (hl : l.length ≤ 1048576) (hk : l.length + 20 ≤ k) : callK C k 10 [fldV b w h l, fldV c w' h' m] [] = some (.c (.bool (decide (w = w' ∧ h = h' ∧ l = m))), hpOf [] []) := by
  obtain ⟨k, rfl⟩ : ∃ m, k = m + 3 := ⟨k - 3, by omega⟩
  rw [callK_fn rfl F10 code10]
  have h62 := c_eqIntS (k + 2) true true l m hl (by omega)
  have h62' := c_eqIntS (k + 2) b c l m hl (by omega)
  by_cases hw : w = w'
  · by_cases hh : h = h'
    · by_cases hlm : l = m
      · subst hlm; simp [R10_0, R10_1, R10_2, R10_3, R10_4, R10_5, R10_6, R10_7, Try.f10, fldV, h62, h62', hw, hh]
      · simp [R10_0, R10_1, R10_2, R10_3, R10_4, R10_5, R10_6, R10_7, Try.f10, fldV, h62, h62', hw, hh, hlm]
    · simp [R10_0, R10_1, R10_2, R10_3, R10_4, R10_5, R10_6, R10_7, Try.f10, fldV, hw, hh]
  · simp [R10_0, R10_1, R10_2, R10_3, R10_4, R10_5, R10_6, R10_7, Try.f10, fldV, hw]
def marks (n : Int) (len : Nat) : List Int := (List.range len).map fun i => n + ((i : Nat) : Int)
theorem marks_length (n : Int) (len : Nat) : (marks n len).length = len := by simp [marks]
theorem marks_get (n : Int) (len i : Nat) (h : i < len) : (marks n len)[i]'(by simpa [marks] using h) = n + i := by simp [marks]
theorem c_markIntS (k : Nat) (l : List Int) (n : Int) (hl : l.length ≤ 1048576) (hn0 : -1000000 ≤ n) (hn1 : n ≤ 100000000000) (hk : l.length + 10 ≤ k) : callK C k 30 [.s 0 0 1 0 l.length, .c (.int .i64 n)] [intsO l] = some (.c (.int .i64 (n + l.length)), hpOf [some (intsO (marks n l.length))] []) := by
  obtain ⟨k, rfl⟩ : ∃ m, k = m + 3 := ⟨k - 3, by omega⟩
  rw [callK_fn rfl F30 code30]
  obtain ⟨out, ho⟩ := loopOut (body := fun st => runCode C (callK C (k + 2)) (k + 2) (K 30) L30_0 1 st) (keep := [0, 1, 5]) (.ex 0) (fun st => st.ρ 1 = .c (.int .i64 (n + l.length)) ∧ st.H 0 = some (0, intsO (marks n l.length)))
    (fun i st => st.ρ 0 = .s 0 0 1 0 l.length ∧ st.ρ 1 = .c (.int .i64 (n + i)) ∧ st.H 0 = some (0, intsO (fillL (marks n l.length) l i)) ∧ st.ρ 5 = .c (.int .i64 (i : Int)))
    l.length (k + 2) (by omega)
    (by
      rintro i st next hi ⟨h0, h1, hH, h5⟩ hn
      have hm : (marks n l.length).length = l.length := marks_length _ _
      have hg := fillL_get (marks n l.length) l i hm.symm (by omega)
      have hs := fillL_set (marks n l.length) l i hm.symm (by omega)
      rw [marks_get n l.length i hi] at hs
      have hw : IntKind.i64.wrap (n + i + 1) = n + (i + 1) := by rw [wrap_small (by omega) (by omega)]; omega
      simp [L30_0, R30_0, R30_1, R30_2, R30_3, R30_4, R30_5, R30_6, Try.f30, lpL30_0, lpM30_0, M30_0, h0, h1, h5, hH, hi, intsO, wrap_next hi (by omega : l.length ≤ 9000000000000000000), hg, hs, hw] at hn ⊢
      exact hn _ (by simp [h0]) (by simp) (by simp) (by simp))
    (by
      rintro st next ⟨h0, h1, hH, h5⟩
      have hf := fillL_all (marks n l.length) l (by rw [marks_length]; exact Nat.le_refl _)
      rw [marks_length] at hf
      simp [L30_0, R30_0, R30_1, R30_2, R30_3, R30_4, R30_5, R30_6, Try.f30, lpL30_0, lpM30_0, M30_0, h0, h1, h5, hH, intsO, hf])
  simp [fillL_zero, intsO] at ho
  simp [R30_0, R30_1, R30_2, R30_3, R30_4, R30_5, R30_6, Try.f30, lpL30_0, lpM30_0, M30_0, ho, intsO]
theorem c_heldIntS (k : Nat) (b : Bool) (l : List Int) (n : Int) (hl : l.length ≤ 1048576) (hn0 : -1000000 ≤ n) (hn1 : n ≤ 100000000000) (hk : l.length + 10 ≤ k) : callK C k 31 [.sq b true 1 (ints l), .c (.int .i64 n)] [] = some (.c (.int .i64 (if l = marks n l.length then n + l.length else -1)), hpOf [] []) := by
  obtain ⟨k, rfl⟩ : ∃ m, k = m + 3 := ⟨k - 3, by omega⟩
  rw [callK_fn rfl F31 code31]
  have hm : (marks n l.length).length = l.length := marks_length _ _
  by_cases hlm : l = marks n l.length
  · obtain ⟨out, ho⟩ := loopOut (body := fun st => runCode C (callK C (k + 2)) (k + 2) (K 31) L31_0 1 st) (keep := [0, 1, 5]) (.ex 0) (fun st => st.ρ 1 = .c (.int .i64 (n + l.length)))
      (fun i st => st.ρ 0 = .sq b true 1 (ints l) ∧ st.ρ 1 = .c (.int .i64 (n + i)) ∧ st.ρ 5 = .c (.int .i64 (i : Int)))
      l.length (k + 2) (by omega)
      (by
        rintro i st next hi ⟨h0, h1, h5⟩ hn
        have hx : l[i] = n + i := by rw [← marks_get n l.length i hi]; congr 1
        have hw : IntKind.i64.wrap (n + i + 1) = n + (i + 1) := by rw [wrap_small (by omega) (by omega)]; omega
        simp [L31_0, R31_0, R31_1, R31_2, R31_3, R31_4, R31_5, R31_6, R31_7, Try.f31, lpL31_0, lpM31_0, M31_0, h0, h1, h5, hi, hx, hw, wrap_next hi (by omega : l.length ≤ 9000000000000000000)] at hn ⊢
        exact hn _ (by simp [h0]) (by simp) (by simp))
      (by
        rintro st next ⟨h0, h1, h5⟩
        simp [L31_0, R31_0, R31_1, R31_2, R31_3, R31_4, R31_5, R31_6, R31_7, Try.f31, lpL31_0, lpM31_0, M31_0, h0, h1, h5])
    simp at ho
    rw [if_pos hlm]
    simp [R31_0, R31_1, R31_2, R31_3, R31_4, R31_5, R31_6, R31_7, Try.f31, lpL31_0, lpM31_0, M31_0, ho]
  · obtain ⟨out, ho⟩ := loopOut (body := fun st => runCode C (callK C (k + 2)) (k + 2) (K 31) L31_0 1 st) (keep := [0, 1, 5]) .ret (fun st => st.ρ 4 = .c (.int .i64 (-1)))
      (fun i st => st.ρ 0 = .sq b true 1 (ints l) ∧ st.ρ 1 = .c (.int .i64 (n + i)) ∧ st.ρ 5 = .c (.int .i64 (i : Int)) ∧ l.take i = (marks n l.length).take i)
      l.length (k + 2) (by omega)
      (by
        rintro i st next hi ⟨h0, h1, h5, ht⟩ hn
        have hw : IntKind.i64.wrap (n + i + 1) = n + (i + 1) := by rw [wrap_small (by omega) (by omega)]; omega
        by_cases hx : l[i] = n + i
        · have ht' : l.take (i + 1) = (marks n l.length).take (i + 1) := by rw [List.take_succ_eq_append_getElem hi, List.take_succ_eq_append_getElem (by omega : i < (marks n l.length).length), ht, marks_get n l.length i hi, hx]
          simp [L31_0, R31_0, R31_1, R31_2, R31_3, R31_4, R31_5, R31_6, R31_7, Try.f31, lpL31_0, lpM31_0, M31_0, h0, h1, h5, hi, hx, hw, wrap_next hi (by omega : l.length ≤ 9000000000000000000)] at hn ⊢
          exact hn _ (by simp [h0]) (by simp) (by simp) ht'
        · simp [L31_0, R31_0, R31_1, R31_2, R31_3, R31_4, R31_5, R31_6, R31_7, Try.f31, lpL31_0, lpM31_0, M31_0, h0, h1, h5, hi, hx])
      (by
        rintro st next ⟨h0, h1, h5, ht⟩
        rw [List.take_of_length_le (by omega), List.take_of_length_le (by omega)] at ht
        exact absurd ht hlm)
    simp at ho
    rw [if_neg hlm]
    simp [R31_0, R31_1, R31_2, R31_3, R31_4, R31_5, R31_6, R31_7, Try.f31, lpL31_0, lpM31_0, M31_0, ho]
theorem c_heldField (k : Nat) (b : Bool) (w h : Int) (l : List Int) (n : Int) (hl : l.length ≤ 1048576) (hn0 : 0 ≤ n) (hn1 : n ≤ 100000000000) (hk : l.length + 20 ≤ k) : callK C k 16 [fldV b w h l, .c (.int .i64 n)] [] = some (.c (.int .i64 (if l = marks n l.length then n + l.length else -1)), hpOf [] []) := by
  obtain ⟨k, rfl⟩ : ∃ m, k = m + 4 := ⟨k - 4, by omega⟩
  rw [callK_fn rfl F16 code16]
  have h1 := c_heldIntS (k + 3) b l n hl (by omega) hn1 (by omega)
  by_cases hlm : l = marks n l.length
  · rw [if_pos hlm] at h1 ⊢
    have : ¬ (n + l.length < 0) := by omega
    simp [R16_0, R16_1, R16_2, R16_3, R16_4, Try.f16, fldV, h1, this]
  · rw [if_neg hlm] at h1 ⊢
    simp [R16_0, R16_1, R16_2, R16_3, R16_4, Try.f16, fldV, h1]
theorem c_markField (k : Nat) (w h : Int) (l : List Int) (n : Int) (hl : l.length ≤ 1048576) (hn0 : 0 ≤ n) (hn1 : n ≤ 100000000000) (hk : l.length + 20 ≤ k) : callK C k 15 [.ag [.c (.int .i64 w), .c (.int .i64 h), .s 0 0 1 0 l.length], .c (.int .i64 n)] [intsO l] = some (.c (.int .i64 (n + l.length)), hpOf [some (intsO (marks n l.length))] []) := by
  obtain ⟨k, rfl⟩ : ∃ m, k = m + 4 := ⟨k - 4, by omega⟩
  rw [callK_fn rfl F15 code15]
  have h1 := c_markIntS (k + 3) l n hl (by omega) hn1 (by omega)
  simp [intsO] at h1
  simp [R15_0, R15_1, R15_2, Try.f15, h1, intsO]

end Go.Proofs.Ytfcnlfjenialdaa.Eng
namespace Go.Proofs.Ytfcnlfjenialdaa.Eng
open Go Go.Proofs
set_option maxRecDepth 100000
set_option maxHeartbeats 2000000
set_option linter.unusedSimpArgs false
set_option linter.unusedVariables false
attribute [local simp] finK fin1 hpOf xi renQ isRoot runCode runOps stepX inlOf Eng.step wantedV astep val ofO made loadV storeV find V.cells bin binT binA numT numFs eqCells un1 setAt fieldAddrV fieldV indexAddrV indexV bounds sliceV convV lenV foldV max2V min2V callO bor rdsO wrsO seen_none okD_none loops keepIds resV resultsV St.ev TK.agg refs refsL refsO V.one V.isC Value.oneCell' ren renL renO noTag noTagL noTagR noTagO nodup mapO passV frs psi refsR newD loopNext opsAt idx flatAt rootOf backR newsV appendV copyV clearV strV bytesV bldV bufV selfV bytesOf nilCmp buildV fillF chunk freeL frzW cellSame sameV
attribute [local simp] cT cF cX cWR cOW cK cBL X ints_length ints_get ints_getElem ints_drop ints_take ints_append ints_nil ints_set
attribute [local simp] ints_replicate
attribute [local simp] putV_some putV_none putH_app applyD_nil applyD_cons seen_app gc_ρ gc_H gc_tick st0_ρ st0_H st0_tick retV callRo callV_if borL_nil borL_cons ints_snoc take_self callWr cutH_app findQ afterV exportV_0 exportV_n okD_nil okD_cons sub_seq0 sub_seq1 sub_cond0 sub_cond1 sub_block sub_loop sub_nil young_far young_none hidW_nil mayW_nil keepsF_nil keepsF_cons pairs okI ok_0 ok_1 ok_2
attribute [local simp] T3 T4 T22 T23 T26 T28 T31 T33 T43 T48 T50 T70 T73 T75 T78 T82 T85
theorem c_eqIntSNil (k : Nat) (hk : 10 ≤ k) : callK C k 28 [.c (.slice none 0 0), .c (.slice none 0 0)] [] = some (.c (.bool true), hpOf [] []) := by
  obtain ⟨k, rfl⟩ : ∃ m, k = m + 10 := ⟨k - 10, by omega⟩
  rw [callK_fn rfl F28 code28]
  simp [R28_0, R28_1, R28_2, R28_3, R28_4, R28_5, R28_6, R28_7, R28_8, Try.f28, lpL28_0, lpM28_0, M28_0, L28_0, loopRun_succ]
theorem c_eqFieldNil (k : Nat) (hk : 20 ≤ k) : callK C k 10 [nilV, nilV] [] = some (.c (.bool true), hpOf [] []) := by
  obtain ⟨k, rfl⟩ : ∃ m, k = m + 20 := ⟨k - 20, by omega⟩
  rw [callK_fn rfl F10 code10]
  have h1 := c_eqIntSNil (k + 19) (by omega)
  simp [R10_0, R10_1, R10_2, R10_3, R10_4, R10_5, R10_6, R10_7, Try.f10, nilV, h1]
theorem c_markIntSNil (k : Nat) (n : Int) (hk : 10 ≤ k) : callK C k 30 [.c (.slice none 0 0), .c (.int .i64 n)] [] = some (.c (.int .i64 n), hpOf [] []) := by
  obtain ⟨k, rfl⟩ : ∃ m, k = m + 10 := ⟨k - 10, by omega⟩
  rw [callK_fn rfl F30 code30]
  simp [R30_0, R30_1, R30_2, R30_3, R30_4, R30_5, R30_6, Try.f30, lpL30_0, lpM30_0, M30_0, L30_0, loopRun_succ]
theorem c_markFieldNil (k : Nat) (n : Int) (hk : 20 ≤ k) : callK C k 15 [nilV, .c (.int .i64 n)] [] = some (.c (.int .i64 n), hpOf [] []) := by
  obtain ⟨k, rfl⟩ : ∃ m, k = m + 20 := ⟨k - 20, by omega⟩
  rw [callK_fn rfl F15 code15]
  have h1 := c_markIntSNil (k + 19) n (by omega)
  simp [R15_0, R15_1, R15_2, Try.f15, nilV, h1]
theorem c_heldIntSNil (k : Nat) (n : Int) (hk : 10 ≤ k) : callK C k 31 [.c (.slice none 0 0), .c (.int .i64 n)] [] = some (.c (.int .i64 n), hpOf [] []) := by
  obtain ⟨k, rfl⟩ : ∃ m, k = m + 10 := ⟨k - 10, by omega⟩
  rw [callK_fn rfl F31 code31]
  simp [R31_0, R31_1, R31_2, R31_3, R31_4, R31_5, R31_6, R31_7, Try.f31, lpL31_0, lpM31_0, M31_0, L31_0, loopRun_succ]
theorem c_heldFieldNil (k : Nat) (n : Int) (hn : 0 ≤ n) (hk : 20 ≤ k) : callK C k 16 [nilV, .c (.int .i64 n)] [] = some (.c (.int .i64 n), hpOf [] []) := by
  obtain ⟨k, rfl⟩ : ∃ m, k = m + 20 := ⟨k - 20, by omega⟩
  rw [callK_fn rfl F16 code16]
  have h1 := c_heldIntSNil (k + 19) n (by omega)
  have : ¬ n < 0 := by omega
  simp [R16_0, R16_1, R16_2, R16_3, R16_4, Try.f16, nilV, h1, this]

end Go.Proofs.Ytfcnlfjenialdaa.Eng
namespace Go.Proofs.Ytfcnlfjenialdaa.Eng
open Go Go.Proofs
set_option maxRecDepth 100000
set_option maxHeartbeats 2000000
set_option linter.unusedSimpArgs false
set_option linter.unusedVariables false
/-- Nodes: kind and value; how many arguments a node takes, -1: it is no node. -/
def arI (q : Int × Int) : Int := if (q.1 = 1 ∧ (0 ≤ q.2 ∧ q.2 ≤ 3)) ∨ (q.1 = 2 ∧ (0 ≤ q.2 ∧ q.2 ≤ 9000)) then 0 else if (3 ≤ q.1 ∧ q.1 ≤ 6) ∧ q.2 = 0 then 2 else if q.1 = 7 ∧ (0 ≤ q.2 ∧ q.2 ≤ 9000) then 1 else -1
theorem ar_cases (q : Int × Int) : arI q = 0 ∨ arI q = 1 ∨ arI q = 2 ∨ arI q = -1 := by
  unfold arI
  split
  · exact .inl rfl
  split
  · exact .inr (.inr (.inl rfl))
  split
  · exact .inr (.inl rfl)
  · exact .inr (.inr (.inr rfl))
/-- How many expressions lie on the stack behind i nodes; -1: it fell. -/
def runO (l : List (Int × Int)) : Nat → Int
  | 0 => 0
  | i + 1 => if runO l i < 0 ∨ arI (l.getD i (0, 0)) < 0 ∨ runO l i < arI (l.getD i (0, 0)) then -1 else runO l i - arI (l.getD i (0, 0)) + 1
theorem runO_succ (l : List (Int × Int)) (i : Nat) : runO l (i + 1) = if runO l i < 0 ∨ arI (l.getD i (0, 0)) < 0 ∨ runO l i < arI (l.getD i (0, 0)) then -1 else runO l i - arI (l.getD i (0, 0)) + 1 := rfl
def goodE (l : List (Int × Int)) : Bool := decide (l.length ≤ 15) && decide (runO l l.length = 1)
theorem runO_ge (l : List (Int × Int)) (i : Nat) : -1 ≤ runO l i := by
  induction i with
  | zero => simp [runO]
  | succ i ih =>
    rw [runO_succ]
    split
    · omega
    · rcases ar_cases (l.getD i (0, 0)) with h | h | h | h <;> omega
theorem runO_le (l : List (Int × Int)) (i : Nat) : runO l i ≤ i := by
  induction i with
  | zero => simp [runO]
  | succ i ih =>
    rw [runO_succ]
    split
    · omega
    · rcases ar_cases (l.getD i (0, 0)) with h | h | h | h <;> omega
theorem runO_back {l : List (Int × Int)} {i : Nat} (h : 0 ≤ runO l (i + 1)) : 0 ≤ runO l i ∧ 0 ≤ arI (l.getD i (0, 0)) ∧ arI (l.getD i (0, 0)) ≤ runO l i ∧ runO l (i + 1) = runO l i - arI (l.getD i (0, 0)) + 1 := by
  rw [runO_succ] at h ⊢
  split at h
  · omega
  · rename_i hn
    rw [if_neg hn]
    omega
theorem runO_mono {l : List (Int × Int)} {n : Nat} (h : 0 ≤ runO l n) : ∀ d i, i + d = n → 0 ≤ runO l i
  | 0, i, e => by obtain rfl : i = n := by omega
                  exact h
  | d + 1, i, e => (runO_back (runO_mono h d (i + 1) (by omega))).1
theorem runO_pos {l : List (Int × Int)} {i : Nat} (h : 0 ≤ runO l (i + 1)) : 1 ≤ runO l (i + 1) := by
  have := runO_back h
  omega
/-- The stack behind i nodes, the last one ahead: where each expression begins, how deep it is. -/
def stk (l : List (Int × Int)) : Nat → List (Nat × Int)
  | 0 => []
  | i + 1 => if arI (l.getD i (0, 0)) = 0 then (i, 1) :: stk l i else if arI (l.getD i (0, 0)) = 1 then (match stk l i with
    | (a, d) :: s => (a, d + 1) :: s
    | [] => []) else (match stk l i with
    | (_, d2) :: (a, d1) :: s => (a, (if d1 > d2 then d1 else d2) + 1) :: s
    | s => s)
theorem stk_0 {l : List (Int × Int)} {i : Nat} (h : arI (l.getD i (0, 0)) = 0) : stk l (i + 1) = (i, 1) :: stk l i := by rw [stk, if_pos h]
theorem stk_1 {l : List (Int × Int)} {i : Nat} {a : Nat} {d : Int} {s : List (Nat × Int)} (h : arI (l.getD i (0, 0)) = 1) (hs : stk l i = (a, d) :: s) : stk l (i + 1) = (a, d + 1) :: s := by rw [stk, if_neg (by omega), if_pos h, hs]
theorem stk_2 {l : List (Int × Int)} {i : Nat} {a a2 : Nat} {d1 d2 : Int} {s : List (Nat × Int)} (h : arI (l.getD i (0, 0)) = 2) (hs : stk l i = (a2, d2) :: (a, d1) :: s) : stk l (i + 1) = (a, (if d1 > d2 then d1 else d2) + 1) :: s := by rw [stk, if_neg (by omega), if_neg (by omega), hs]
theorem stk_len {l : List (Int × Int)} : ∀ i, 0 ≤ runO l i → ((stk l i).length : Int) = runO l i
  | 0, _ => by simp [stk, runO]
  | i + 1, h => by
    obtain ⟨h1, h2, h3, h4⟩ := runO_back h
    have ih := stk_len i h1
    rw [h4]
    rcases ar_cases (l.getD i (0, 0)) with e | e | e | e
    · rw [stk_0 e, e]; simp only [List.length_cons]; omega
    · cases hs : stk l i with
      | nil => rw [hs] at ih; simp only [List.length_nil] at ih; omega
      | cons x s => obtain ⟨a, d⟩ := x; rw [stk_1 e hs, e]; rw [hs] at ih; simp only [List.length_cons] at ih ⊢; omega
    · cases hs : stk l i with
      | nil => rw [hs] at ih; simp only [List.length_nil] at ih; omega
      | cons x s =>
        cases s with
        | nil => rw [hs] at ih; simp only [List.length_cons, List.length_nil] at ih; omega
        | cons y s => obtain ⟨a2, d2⟩ := x; obtain ⟨a, d1⟩ := y; rw [stk_2 e hs, e]; rw [hs] at ih; simp only [List.length_cons] at ih ⊢; omega
    · omega
/-- Behind a node: an expression that begins at some place, on what lay there then. -/
theorem stk_top {l : List (Int × Int)} : ∀ i, 0 ≤ runO l (i + 1) → ∃ a d, a ≤ i ∧ stk l (i + 1) = (a, d) :: stk l a := by
  intro i
  induction i using Nat.strongRecOn with
  | _ i ih =>
    intro h
    obtain ⟨h1, h2, h3, h4⟩ := runO_back h
    rcases ar_cases (l.getD i (0, 0)) with e | e | e | e
    · exact ⟨i, 1, Nat.le_refl _, stk_0 e⟩
    · obtain ⟨j, rfl⟩ : ∃ j, i = j + 1 := by
        cases i with
        | zero => rw [e] at h3; exact absurd h3 (by simp [runO])
        | succ j => exact ⟨j, rfl⟩
      obtain ⟨a, d, ha, hs⟩ := ih j (by omega) h1
      exact ⟨a, d + 1, by omega, stk_1 e hs⟩
    · obtain ⟨j, rfl⟩ : ∃ j, i = j + 1 := by
        cases i with
        | zero => rw [e] at h3; exact absurd h3 (by simp [runO])
        | succ j => exact ⟨j, rfl⟩
      obtain ⟨a, d, ha, hs⟩ := ih j (by omega) h1
      have hl := stk_len (j + 1) h1
      have ha0 : 0 ≤ runO l a := runO_mono h1 (j + 1 - a) a (by omega)
      have hla := stk_len a ha0
      rw [hs] at hl
      simp only [List.length_cons] at hl
      obtain ⟨b, rfl⟩ : ∃ b, a = b + 1 := by
        cases a with
        | zero => simp only [stk, List.length_nil] at hl; omega
        | succ b => exact ⟨b, rfl⟩
      obtain ⟨c, d', hc, hs'⟩ := ih b (by omega) ha0
      exact ⟨c, (if d' > d then d' else d) + 1, by omega, stk_2 e (by rw [hs, hs'])⟩
    · omega

end Go.Proofs.Ytfcnlfjenialdaa.Eng
namespace Go.Proofs.Ytfcnlfjenialdaa.Eng
open Go Go.Proofs
set_option maxRecDepth 100000
set_option maxHeartbeats 2000000
set_option linter.unusedSimpArgs false
set_option linter.unusedVariables false
/-- The depths on the stack, the lowest one ahead. -/
def depL (l : List (Int × Int)) (i : Nat) : List Int := ((stk l i).map (·.2)).reverse
def mxf (L : List Int) : Int := L.foldl (fun m d => max m (d + 1)) 1
theorem mxf_snoc (L : List Int) (d : Int) : mxf (L ++ [d]) = max (mxf L) (d + 1) := by simp [mxf, List.foldl_append]
theorem mxf_pos (L : List Int) : 1 ≤ mxf L := by
  unfold mxf
  suffices h : ∀ (L : List Int) (m : Int), 1 ≤ m → 1 ≤ L.foldl (fun m d => max m (d + 1)) m from h L 1 (by omega)
  intro L
  induction L with
  | nil => intro m h; exact h
  | cons a L ih => intro m h; exact ih _ (Int.le_trans h (Int.le_max_left _ _))
theorem stk_pos {l : List (Int × Int)} : ∀ i, ∀ x ∈ stk l i, 1 ≤ x.2 ∧ x.2 ≤ i
  | 0, x, h => by simp [stk] at h
  | i + 1, x, h => by
    have ih := stk_pos (l := l) i
    unfold stk at h
    split at h
    · rcases List.mem_cons.1 h with e | e
      · subst e; simp only []; omega
      · have := ih x e; omega
    split at h
    · split at h
      · rename_i a d s hs
        rw [hs] at ih
        rcases List.mem_cons.1 h with e | e
        · subst e
          have := ih (a, d) (by simp)
          simp only [] at this ⊢
          omega
        · have := ih x (by simp [e]); omega
      · simp at h
    · split at h
      · rename_i a2 d2 a d1 s hs
        rw [hs] at ih
        rcases List.mem_cons.1 h with e | e
        · subst e
          have h1 := ih (a2, d2) (by simp)
          have h2 := ih (a, d1) (by simp)
          simp only [] at h1 h2 ⊢
          split <;> omega
        · have := ih x (by simp [e]); omega
      · have := ih x h; omega
theorem depL_len {l : List (Int × Int)} {i : Nat} (h : 0 ≤ runO l i) : ((depL l i).length : Int) = runO l i := by
  rw [← stk_len i h]; simp [depL]
theorem depL_bound {l : List (Int × Int)} {i : Nat} {x : Int} (h : x ∈ depL l i) : 1 ≤ x ∧ x ≤ i := by
  simp only [depL, List.mem_reverse, List.mem_map] at h
  obtain ⟨q, hq, rfl⟩ := h
  exact stk_pos i q hq
theorem mxf_bound {l : List (Int × Int)} {i : Nat} {L : List Int} (h : ∀ x ∈ L, x ∈ depL l i) : mxf L ≤ i + 1 := by
  unfold mxf
  suffices hs : ∀ (L : List Int) (m : Int), (∀ x ∈ L, x ≤ (i : Int)) → m ≤ i + 1 → L.foldl (fun m d => max m (d + 1)) m ≤ i + 1 from hs L 1 (fun x hx => (depL_bound (h x hx)).2) (by omega)
  intro L
  induction L with
  | nil => intro m _ h; exact h
  | cons a L ih => intro m hl h; exact ih _ (fun x hx => hl x (by simp [hx])) (by have := hl a (by simp); exact Int.max_le.2 ⟨h, by omega⟩)
theorem dep_step {l : List (Int × Int)} {i : Nat} (h : 0 ≤ runO l (i + 1)) : depL l (i + 1) = (depL l i).take ((depL l i).length - (arI (l.getD i (0, 0))).toNat) ++ [mxf ((depL l i).drop ((depL l i).length - (arI (l.getD i (0, 0))).toNat))] := by
  obtain ⟨h1, h2, h3, h4⟩ := runO_back h
  have hl := stk_len i h1
  have hp := stk_pos (l := l) i
  unfold depL
  rcases ar_cases (l.getD i (0, 0)) with e | e | e | e
  · rw [stk_0 e, e]
    have hn : (List.map (·.2) (stk l i)).reverse.length = (stk l i).length := by simp
    simp only [List.map_cons, List.reverse_cons, hn, Int.toNat_zero, Nat.sub_zero]
    rw [List.take_of_length_le (by omega), List.drop_eq_nil_of_le (by omega)]
    simp [mxf]
  · cases hs : stk l i with
    | nil => rw [hs] at hl; simp only [List.length_nil] at hl; omega
    | cons x s =>
      obtain ⟨a, d⟩ := x
      have := hp (a, d) (by rw [hs]; simp)
      simp only [] at this
      rw [stk_1 e hs, e]
      simp [mxf]
      omega
  · cases hs : stk l i with
    | nil => rw [hs] at hl; simp only [List.length_nil] at hl; omega
    | cons x s =>
      cases s with
      | nil => rw [hs] at hl; simp only [List.length_cons, List.length_nil] at hl; omega
      | cons y s =>
        obtain ⟨a2, d2⟩ := x
        obtain ⟨a, d1⟩ := y
        have p1 := hp (a2, d2) (by rw [hs]; simp)
        have p2 := hp (a, d1) (by rw [hs]; simp)
        simp only [] at p1 p2
        rw [stk_2 e hs, e]
        simp [mxf]
        split <;> omega
  · omega
/-- How deep an expression is. -/
def depthI (l : List (Int × Int)) : Int := if goodE l then (depL l l.length).headD 0 else 0
theorem good_run {l : List (Int × Int)} (h : goodE l = true) : l.length ≤ 15 ∧ runO l l.length = 1 := by simpa [goodE] using h
theorem depth_top {l : List (Int × Int)} {a : Nat} {d : Int} {s : List (Nat × Int)} (h : goodE l = true) (hs : stk l l.length = (a, d) :: s) : depthI l = d ∧ depL l l.length = [d] := by
  obtain ⟨h1, h2⟩ := good_run h
  have hl := stk_len (l := l) l.length (by omega)
  rw [hs] at hl
  have : s = [] := by
    cases s with
    | nil => rfl
    | cons x s => simp at hl; omega
  subst this
  simp [depthI, h, depL, hs]

end Go.Proofs.Ytfcnlfjenialdaa.Eng
namespace Go.Proofs.Ytfcnlfjenialdaa.Eng
open Go Go.Proofs
set_option maxRecDepth 100000
set_option maxHeartbeats 2000000
set_option linter.unusedSimpArgs false
set_option linter.unusedVariables false
attribute [local simp] finK fin1 hpOf xi renQ isRoot runCode runOps stepX inlOf Eng.step wantedV astep val ofO made loadV storeV find V.cells bin binT binA numT numFs eqCells un1 setAt fieldAddrV fieldV indexAddrV indexV bounds sliceV convV lenV foldV max2V min2V callO bor rdsO wrsO seen_none okD_none loops keepIds resV resultsV St.ev TK.agg refs refsL refsO V.one V.isC Value.oneCell' ren renL renO noTag noTagL noTagR noTagO nodup mapO passV frs psi refsR newD loopNext opsAt idx flatAt rootOf backR newsV appendV copyV clearV strV bytesV bldV bufV selfV bytesOf nilCmp buildV fillF chunk freeL frzW cellSame sameV
attribute [local simp] cT cF cX cWR cOW cK cBL X ints_length ints_get ints_getElem ints_drop ints_take ints_append ints_nil ints_set
attribute [local simp] ints_replicate
attribute [local simp] putV_some putV_none putH_app applyD_nil applyD_cons seen_app gc_ρ gc_H gc_tick st0_ρ st0_H st0_tick retV callRo callV_if borL_nil borL_cons ints_snoc take_self callWr cutH_app findQ afterV exportV_0 exportV_n okD_nil okD_cons sub_seq0 sub_seq1 sub_cond0 sub_cond1 sub_block sub_loop sub_nil young_far young_none hidW_nil mayW_nil keepsF_nil keepsF_cons pairs okI ok_0 ok_1 ok_2
attribute [local simp] T3 T4 T22 T23 T26 T28 T31 T33 T43 T48 T50 T70 T73 T75 T78 T82 T85
theorem c_l1Most (k : Nat) (x y : Int) (hk : 1 ≤ k) : callK C k 66 [.c (.int .i64 x), .c (.int .i64 y)] [] = some (.c (.int .i64 (if x > y then x else y)), hpOf [] []) := by
  obtain ⟨k, rfl⟩ : ∃ m, k = m + 1 := ⟨k - 1, by omega⟩
  rw [callK_fn rfl F66 code66]
  by_cases h : y < x <;> simp [R66_0, R66_1, R66_2, R66_3, Try.f66, h]
theorem c_l1Least (k : Nat) (x y : Int) (hk : 1 ≤ k) : callK C k 65 [.c (.int .i64 x), .c (.int .i64 y)] [] = some (.c (.int .i64 (if x < y then x else y)), hpOf [] []) := by
  obtain ⟨k, rfl⟩ : ∃ m, k = m + 1 := ⟨k - 1, by omega⟩
  rw [callK_fn rfl F65 code65]
  by_cases h : x < y <;> simp [R65_0, R65_1, R65_2, R65_3, Try.f65, h]

end Go.Proofs.Ytfcnlfjenialdaa.Eng
namespace Go.Proofs.Ytfcnlfjenialdaa.Eng
open Go Go.Proofs
set_option maxRecDepth 100000
set_option maxHeartbeats 2000000
set_option linter.unusedSimpArgs false
set_option linter.unusedVariables false
attribute [local simp] finK fin1 hpOf xi renQ isRoot runCode runOps stepX inlOf Eng.step wantedV astep val ofO made loadV storeV find V.cells bin binT binA numT numFs eqCells un1 setAt fieldAddrV fieldV indexAddrV indexV bounds sliceV convV lenV foldV max2V min2V callO bor rdsO wrsO seen_none okD_none loops keepIds resV resultsV St.ev TK.agg refs refsL refsO V.one V.isC Value.oneCell' ren renL renO noTag noTagL noTagR noTagO nodup mapO passV frs psi refsR newD loopNext opsAt idx flatAt rootOf backR newsV appendV copyV clearV strV bytesV bldV bufV selfV bytesOf nilCmp buildV fillF chunk freeL frzW cellSame sameV
attribute [local simp] cT cF cX cWR cOW cK cBL X ints_length ints_get ints_getElem ints_drop ints_take ints_append ints_nil ints_set
attribute [local simp] ints_replicate
attribute [local simp] putV_some putV_none putH_app applyD_nil applyD_cons seen_app gc_ρ gc_H gc_tick st0_ρ st0_H st0_tick retV callRo callV_if borL_nil borL_cons ints_snoc take_self callWr cutH_app findQ afterV exportV_0 exportV_n okD_nil okD_cons sub_seq0 sub_seq1 sub_cond0 sub_cond1 sub_block sub_loop sub_nil young_far young_none hidW_nil mayW_nil keepsF_nil keepsF_cons pairs okI ok_0 ok_1 ok_2
attribute [local simp] T3 T4 T22 T23 T26 T28 T31 T33 T43 T48 T50 T70 T73 T75 T78 T82 T85
def ndE (q : Int × Int) : List V := [.c (.int .i64 q.1), .c (.int .i64 q.2)]
def ndL (l : List (Int × Int)) : List (List V) := l.map ndE
theorem ndL_length (l : List (Int × Int)) : (ndL l).length = l.length := by simp [ndL]
theorem ndL_get (l : List (Int × Int)) (i : Nat) (h : i < l.length) : (ndL l)[i]? = some (ndE l[i]) := by simp [ndL, List.getElem?_eq_getElem h]
theorem ndL_take (l : List (Int × Int)) : (ndL l).take l.length = ndL l := List.take_of_length_le (by simp [ndL])
theorem ndL_at (l : List (Int × Int)) (i : Nat) (h : i < (ndL l).length) : (ndL l)[i] = ndE (l[i]'(by simpa [ndL] using h)) := by simp [ndL]
theorem getD_nd {l : List (Int × Int)} {i : Nat} (h : i < l.length) : l.getD i (0, 0) = l[i] := by simp [List.getD, List.getElem?_eq_getElem h]
theorem c_l5Arity (k : Nat) (q : Int × Int) (hk : 3 ≤ k) : callK C k 33 [.ag (ndE q)] [] = some (.c (.int .i64 (arI q)), hpOf [] []) := by
  obtain ⟨k, rfl⟩ : ∃ m, k = m + 1 := ⟨k - 1, by omega⟩
  rw [callK_fn rfl F33 code33]
  obtain ⟨a, b⟩ := q
  have i1 := c_l1In k b 0 3 (by omega)
  have i2 := c_l1In k b 0 9000 (by omega)
  have i3 := c_l1In k a 3 6 (by omega)
  unfold arI
  simp only []
  by_cases a1 : a = 1
  · subst a1
    cases e1 : (decide (0 ≤ b) && decide (b ≤ 3))
    · rw [e1] at i1
      have e1' : ¬ (0 ≤ b ∧ b ≤ 3) := by simpa using e1
      simp [R33_0, R33_1, R33_2, R33_3, R33_4, R33_5, R33_6, R33_7, R33_8, Try.f33, ndE, i1, i3, e1']
    · rw [e1] at i1
      have e1' : 0 ≤ b ∧ b ≤ 3 := by simpa using e1
      simp [R33_0, R33_1, R33_2, R33_3, R33_4, R33_5, R33_6, R33_7, R33_8, Try.f33, ndE, i1, i3, e1']
  have a1' : (a == 1) = false := by simpa using a1
  by_cases a2 : a = 2
  · subst a2
    cases e1 : (decide (0 ≤ b) && decide (b ≤ 9000))
    · rw [e1] at i2
      have e1' : ¬ (0 ≤ b ∧ b ≤ 9000) := by simpa using e1
      simp [R33_0, R33_1, R33_2, R33_3, R33_4, R33_5, R33_6, R33_7, R33_8, Try.f33, ndE, i2, i3, e1']
    · rw [e1] at i2
      have e1' : 0 ≤ b ∧ b ≤ 9000 := by simpa using e1
      simp [R33_0, R33_1, R33_2, R33_3, R33_4, R33_5, R33_6, R33_7, R33_8, Try.f33, ndE, i2, i3, e1']
  have a2' : (a == 2) = false := by simpa using a2
  cases e3 : (decide (3 ≤ a) && decide (a ≤ 6))
  · rw [e3] at i3
    have e3' : ¬ (3 ≤ a ∧ a ≤ 6) := by simpa using e3
    by_cases a7 : a = 7
    · subst a7
      cases e1 : (decide (0 ≤ b) && decide (b ≤ 9000))
      · rw [e1] at i2
        have e1' : ¬ (0 ≤ b ∧ b ≤ 9000) := by simpa using e1
        simp [R33_0, R33_1, R33_2, R33_3, R33_4, R33_5, R33_6, R33_7, R33_8, Try.f33, ndE, i2, i3, e1']
      · rw [e1] at i2
        have e1' : 0 ≤ b ∧ b ≤ 9000 := by simpa using e1
        simp [R33_0, R33_1, R33_2, R33_3, R33_4, R33_5, R33_6, R33_7, R33_8, Try.f33, ndE, i2, i3, e1']
    · have a7' : (a == 7) = false := by simpa using a7
      simp [R33_0, R33_1, R33_2, R33_3, R33_4, R33_5, R33_6, R33_7, R33_8, Try.f33, ndE, i3, a1, a1', a2, a2', a7, a7', e3']
  · rw [e3] at i3
    have e3' : 3 ≤ a ∧ a ≤ 6 := by simpa using e3
    have a7 : ¬ a = 7 := by omega
    have a7' : (a == 7) = false := by simpa using a7
    by_cases b0 : b = 0
    · simp [R33_0, R33_1, R33_2, R33_3, R33_4, R33_5, R33_6, R33_7, R33_8, Try.f33, ndE, i3, a1, a1', a2, a2', e3', b0]
    · have b0' : (b == 0) = false := by simpa using b0
      simp [R33_0, R33_1, R33_2, R33_3, R33_4, R33_5, R33_6, R33_7, R33_8, Try.f33, ndE, i3, a1, a1', a2, a2', a7, a7', e3', b0, b0']
def argI (q : Int × Int) : Int := if 3 ≤ q.1 ∧ q.1 ≤ 6 then 2 else if q.1 = 7 then 1 else 0
theorem argI_eq {q : Int × Int} (h : 0 ≤ arI q) : argI q = arI q := by
  unfold argI arI at *
  split at h
  · rename_i h1
    rw [if_pos h1, if_neg (by omega), if_neg (by omega)]
  · rename_i h1
    rw [if_neg h1]
    split at h
    · rename_i h2
      rw [if_pos h2, if_pos h2.1]
    · rename_i h2
      rw [if_neg h2]
      split at h
      · rename_i h3
        rw [if_pos h3, if_neg (by omega), if_pos h3.1]
      · omega
theorem arg_bound (q : Int × Int) : 0 ≤ argI q ∧ argI q ≤ 2 := by
  unfold argI
  split
  · omega
  · split <;> omega
theorem c_arguments (k : Nat) (q : Int × Int) (hk : 3 ≤ k) : callK C k 27 [.ag (ndE q)] [] = some (.c (.int .i64 (argI q)), hpOf [] []) := by
  obtain ⟨k, rfl⟩ : ∃ m, k = m + 1 := ⟨k - 1, by omega⟩
  rw [callK_fn rfl F27 code27]
  obtain ⟨a, b⟩ := q
  have i3 := c_within k a 3 6 (by omega)
  unfold argI
  simp only []
  cases e3 : (decide (3 ≤ a) && decide (a ≤ 6))
  · rw [e3] at i3
    have e3' : ¬ (3 ≤ a ∧ a ≤ 6) := by simpa using e3
    by_cases a7 : a = 7
    · subst a7
      simp [R27_0, R27_1, R27_2, R27_3, R27_4, R27_5, Try.f27, ndE, i3]
    · have a7' : (a == 7) = false := by simpa using a7
      simp [R27_0, R27_1, R27_2, R27_3, R27_4, R27_5, Try.f27, ndE, i3, a7, a7', e3']
  · rw [e3] at i3
    have e3' : 3 ≤ a ∧ a ≤ 6 := by simpa using e3
    simp [R27_0, R27_1, R27_2, R27_3, R27_4, R27_5, Try.f27, ndE, i3, e3']
theorem c_isNode (k : Nat) (q : Int × Int) (hk : 3 ≤ k) : callK C k 42 [.ag (ndE q)] [] = some (.c (.bool (decide (0 ≤ arI q))), hpOf [] []) := by
  obtain ⟨k, rfl⟩ : ∃ m, k = m + 1 := ⟨k - 1, by omega⟩
  rw [callK_fn rfl F42 code42]
  obtain ⟨a, b⟩ := q
  have i1 := c_within k b 0 3 (by omega)
  have i2 := c_within k b 0 9000 (by omega)
  have i3 := c_within k a 3 6 (by omega)
  unfold arI
  simp only []
  by_cases a1 : a = 1
  · subst a1
    cases e1 : (decide (0 ≤ b) && decide (b ≤ 3))
    · rw [e1] at i1
      have e1' : ¬ (0 ≤ b ∧ b ≤ 3) := by simpa using e1
      simp [R42_0, R42_1, R42_2, R42_3, R42_4, R42_5, Try.f42, ndE, i1, i3, e1']
    · rw [e1] at i1
      have e1' : 0 ≤ b ∧ b ≤ 3 := by simpa using e1
      simp [R42_0, R42_1, R42_2, R42_3, R42_4, R42_5, Try.f42, ndE, i1, i3, e1']
  have a1' : (a == 1) = false := by simpa using a1
  by_cases a2 : a = 2
  · subst a2
    cases e1 : (decide (0 ≤ b) && decide (b ≤ 9000))
    · rw [e1] at i2
      have e1' : ¬ (0 ≤ b ∧ b ≤ 9000) := by simpa using e1
      simp [R42_0, R42_1, R42_2, R42_3, R42_4, R42_5, Try.f42, ndE, i2, i3, e1']
    · rw [e1] at i2
      have e1' : 0 ≤ b ∧ b ≤ 9000 := by simpa using e1
      simp [R42_0, R42_1, R42_2, R42_3, R42_4, R42_5, Try.f42, ndE, i2, i3, e1']
  have a2' : (a == 2) = false := by simpa using a2
  by_cases a7 : a = 7
  · subst a7
    cases e1 : (decide (0 ≤ b) && decide (b ≤ 9000))
    · rw [e1] at i2
      have e1' : ¬ (0 ≤ b ∧ b ≤ 9000) := by simpa using e1
      simp [R42_0, R42_1, R42_2, R42_3, R42_4, R42_5, Try.f42, ndE, i2, i3, e1']
    · rw [e1] at i2
      have e1' : 0 ≤ b ∧ b ≤ 9000 := by simpa using e1
      simp [R42_0, R42_1, R42_2, R42_3, R42_4, R42_5, Try.f42, ndE, i2, i3, e1']
  have a7' : (a == 7) = false := by simpa using a7
  cases e3 : (decide (3 ≤ a) && decide (a ≤ 6))
  · rw [e3] at i3
    have e3' : ¬ (3 ≤ a ∧ a ≤ 6) := by simpa using e3
    simp [R42_0, R42_1, R42_2, R42_3, R42_4, R42_5, Try.f42, ndE, i3, a1, a1', a2, a2', a7, a7', e3']
  · rw [e3] at i3
    have e3' : 3 ≤ a ∧ a ≤ 6 := by simpa using e3
    by_cases b0 : b = 0
    · simp [R42_0, R42_1, R42_2, R42_3, R42_4, R42_5, Try.f42, ndE, i3, a1, a1', a2, a2', a7, a7', e3', b0]
    · have b0' : (b == 0) = false := by simpa using b0
      simp [R42_0, R42_1, R42_2, R42_3, R42_4, R42_5, Try.f42, ndE, i3, a1, a1', a2, a2', a7, a7', e3', b0, b0']

theorem c_l5Good (k : Nat) (b : Bool) (l : List (Int × Int)) (hk : 100 ≤ k) : callK C k 18 [.sq b true 2 (ndL l)] [] = some (.c (.bool (goodE l)), hpOf [] []) := by
  obtain ⟨k, rfl⟩ : ∃ m, k = m + 1 := ⟨k - 1, by omega⟩
  rw [callK_fn rfl F18 code18]
  by_cases h15 : l.length ≤ 15
  · have h15' : ¬ (15 : Int) < (l.length : Int) := by omega
    have har := fun q => c_l5Arity k q (by omega)
    by_cases hg : 0 ≤ runO l l.length
    · have hL := loopHas (body := fun st => runCode C (callK C (k + 0)) (k + 0) (K 18) L18_0 1 st) (keep := [0, 3, 4]) (.ex 0) (fun st => st.ρ 3 = .c (.int .i64 (runO l l.length)))
        (fun i st => st.ρ 0 = .sq b true 2 (ndL l) ∧ st.ρ 3 = .c (.int .i64 (runO l i)) ∧ st.ρ 4 = .c (.int .i64 (i : Int)))
        l.length (k + 0) (by omega)
        (by
          rintro i st next hi ⟨q0, q3, q4⟩ hn
          have hgi : 0 ≤ runO l (i + 1) := runO_mono hg (l.length - (i + 1)) (i + 1) (by omega)
          obtain ⟨r1, r2, r3, r4⟩ := runO_back hgi
          rw [getD_nd hi] at r2 r3 r4
          have r5 := runO_le l i
          have nget := ndL_get l i hi
          have haq := har l[i]
          simp [ndE] at haq
          have g1 : ¬ arI l[i] < 0 := by omega
          have g2 : ¬ runO l i < arI l[i] := by omega
          have w1 : IntKind.i64.wrap (runO l i - arI l[i]) = runO l i - arI l[i] := wrap_small (by omega) (by omega)
          have w2 : IntKind.i64.wrap (runO l i - arI l[i] + 1) = runO l (i + 1) := by rw [r4]; exact wrap_small (by omega) (by omega)
          simp [L18_0, R18_0, R18_1, R18_2, R18_3, R18_4, R18_5, R18_6, R18_7, R18_8, R18_9, R18_10, R18_11, Try.f18, lpL18_0, lpM18_0, M18_0, q0, q3, q4, hi, ndL_length, ndL_at, ndE, haq, g1, g2, w1, w2, wrap_next hi (by omega : l.length ≤ 9000000000000000000)]
          exact hn _ (by simp [q0]))
        (by
          rintro st next ⟨q0, q3, q4⟩
          simp [L18_0, R18_0, R18_1, R18_2, R18_3, R18_4, R18_5, R18_6, R18_7, R18_8, R18_9, R18_10, R18_11, Try.f18, lpL18_0, lpM18_0, M18_0, q0, q3, q4, ndL_length])
      simp [R18_0, R18_1, R18_2, R18_3, R18_4, R18_5, R18_6, R18_7, R18_8, R18_9, R18_10, R18_11, Try.f18, lpL18_0, lpM18_0, ndL_length, h15']
      generalize hr : loopRun _ _ _ _ = res
      obtain ⟨s1, rfl, f3⟩ := loop_at hL hr (by simp [runO])
      simp [R18_0, R18_1, R18_2, R18_3, R18_4, R18_5, R18_6, R18_7, R18_8, R18_9, R18_10, R18_11, Try.f18, lpL18_0, lpM18_0, M18_0, f3, goodE, h15]
      try (by_cases h1 : runO l l.length = 1 <;> simp [h1])
    · have hL := loopHas (body := fun st => runCode C (callK C (k + 0)) (k + 0) (K 18) L18_0 1 st) (keep := [0, 3, 4]) .ret (fun st => st.ρ 2 = .c (.bool false))
        (fun i st => st.ρ 0 = .sq b true 2 (ndL l) ∧ st.ρ 3 = .c (.int .i64 (runO l i)) ∧ st.ρ 4 = .c (.int .i64 (i : Int)) ∧ 0 ≤ runO l i)
        l.length (k + 0) (by omega)
        (by
          rintro i st next hi ⟨q0, q3, q4, r1⟩ hn
          have r5 := runO_le l i
          have nget := ndL_get l i hi
          have haq := har l[i]
          simp [ndE] at haq
          have hs := runO_succ l i
          rw [getD_nd hi] at hs
          have hca := ar_cases l[i]
          by_cases g1 : arI l[i] < 0
          · simp [L18_0, R18_0, R18_1, R18_2, R18_3, R18_4, R18_5, R18_6, R18_7, R18_8, R18_9, R18_10, R18_11, Try.f18, lpL18_0, lpM18_0, M18_0, q0, q3, q4, hi, ndL_length, ndL_at, ndE, haq, g1]
          · by_cases g2 : runO l i < arI l[i]
            · simp [L18_0, R18_0, R18_1, R18_2, R18_3, R18_4, R18_5, R18_6, R18_7, R18_8, R18_9, R18_10, R18_11, Try.f18, lpL18_0, lpM18_0, M18_0, q0, q3, q4, hi, ndL_length, ndL_at, ndE, haq, g1, g2]
            · rw [if_neg (by omega)] at hs
              have w1 : IntKind.i64.wrap (runO l i - arI l[i]) = runO l i - arI l[i] := wrap_small (by omega) (by omega)
              have w2 : IntKind.i64.wrap (runO l i - arI l[i] + 1) = runO l (i + 1) := by rw [hs]; exact wrap_small (by omega) (by omega)
              simp [L18_0, R18_0, R18_1, R18_2, R18_3, R18_4, R18_5, R18_6, R18_7, R18_8, R18_9, R18_10, R18_11, Try.f18, lpL18_0, lpM18_0, M18_0, q0, q3, q4, hi, ndL_length, ndL_at, ndE, haq, g1, g2, w1, w2, wrap_next hi (by omega : l.length ≤ 9000000000000000000)]
              exact hn _ ⟨by simp [q0], by simp, by simp, by omega⟩)
        (by
          rintro st next ⟨q0, q3, q4, r1⟩
          omega)
      have hg1 : goodE l = false := by
        have : ¬ runO l l.length = 1 := by omega
        simp [goodE, this]
      simp [R18_0, R18_1, R18_2, R18_3, R18_4, R18_5, R18_6, R18_7, R18_8, R18_9, R18_10, R18_11, Try.f18, lpL18_0, lpM18_0, ndL_length, h15']
      generalize hr : loopRun _ _ _ _ = res
      obtain ⟨s1, rfl, f2⟩ := loop_at hL hr (by simp [runO])
      simp [R18_0, R18_1, R18_2, R18_3, R18_4, R18_5, R18_6, R18_7, R18_8, R18_9, R18_10, R18_11, Try.f18, lpL18_0, lpM18_0, M18_0, f2, hg1]
  · have h15' : (15 : Int) < (l.length : Int) := by omega
    simp [R18_0, R18_1, R18_2, R18_3, R18_4, R18_5, R18_6, R18_7, R18_8, R18_9, R18_10, R18_11, Try.f18, lpL18_0, lpM18_0, M18_0, ndL_length, h15', goodE, h15]

end Go.Proofs.Ytfcnlfjenialdaa.Eng
namespace Go.Proofs.Ytfcnlfjenialdaa.Eng
open Go Go.Proofs
set_option maxRecDepth 100000
set_option maxHeartbeats 2000000
set_option linter.unusedSimpArgs false
set_option linter.unusedVariables false
attribute [local simp] finK fin1 hpOf xi renQ isRoot runCode runOps stepX inlOf Eng.step wantedV astep val ofO made loadV storeV find V.cells bin binT binA numT numFs eqCells un1 setAt fieldAddrV fieldV indexAddrV indexV bounds sliceV convV lenV foldV max2V min2V callO bor rdsO wrsO seen_none okD_none loops keepIds resV resultsV St.ev TK.agg refs refsL refsO V.one V.isC Value.oneCell' ren renL renO noTag noTagL noTagR noTagO nodup mapO passV frs psi refsR newD loopNext opsAt idx flatAt rootOf backR newsV appendV copyV clearV strV bytesV bldV bufV selfV bytesOf nilCmp buildV fillF chunk freeL frzW cellSame sameV
attribute [local simp] cT cF cX cWR cOW cK cBL X ints_length ints_get ints_getElem ints_drop ints_take ints_append ints_nil ints_set
attribute [local simp] ints_replicate
attribute [local simp] putV_some putV_none putH_app applyD_nil applyD_cons seen_app gc_ρ gc_H gc_tick st0_ρ st0_H st0_tick retV callRo callV_if borL_nil borL_cons ints_snoc take_self callWr cutH_app findQ afterV exportV_0 exportV_n okD_nil okD_cons sub_seq0 sub_seq1 sub_cond0 sub_cond1 sub_block sub_loop sub_nil young_far young_none hidW_nil mayW_nil keepsF_nil keepsF_cons pairs okI ok_0 ok_1 ok_2
attribute [local simp] T3 T4 T22 T23 T26 T28 T31 T33 T43 T48 T50 T70 T73 T75 T78 T82 T85
def fillG {α : Type} (l m : List α) (i : Nat) : List α := l.take i ++ m.drop i
theorem fillG_zero {α : Type} (l m : List α) : fillG l m 0 = m := by simp [fillG]
theorem fillG_all {α : Type} (l m : List α) (h : m.length ≤ l.length) : fillG l m l.length = l := by simp [fillG, List.drop_eq_nil_of_le h]
theorem fillG_length {α : Type} (l m : List α) (i : Nat) (h : m.length = l.length) : (fillG l m i).length = l.length := by simp [fillG]; omega
theorem fillG_get {α : Type} (l m : List α) (i : Nat) (h : m.length = l.length) (hi : i < l.length) : (fillG l m i)[i]? = some (m[i]'(by omega)) := by
  unfold fillG
  rw [List.getElem?_append_right (by simp; omega)]
  have : i - (l.take i).length = 0 := by simp; omega
  rw [this, List.getElem?_drop, List.getElem?_eq_getElem (by omega)]
  rfl
theorem fillG_set {α : Type} (l m : List α) (i : Nat) (h : m.length = l.length) (hi : i < l.length) : (fillG l m i).set i l[i] = fillG l m (i + 1) := by
  unfold fillG
  rw [List.set_append, if_neg (by simp; omega)]
  have : i - (l.take i).length = 0 := by simp; omega
  rw [this, List.drop_eq_getElem_cons (by omega : i < m.length), List.set_cons_zero, List.take_succ_eq_append_getElem hi, List.append_assoc]
  rfl
def ndO (l : List (Int × Int)) : Eng.Obj := ⟨48, 2, true, ndL l⟩
theorem ndL_set (l : List (Int × Int)) (i : Nat) (a : Int × Int) : (ndL l).set i (ndE a) = ndL (l.set i a) := by simp [ndL, List.map_set]
theorem ndL_fill_get {l m : List (Int × Int)} {i : Nat} (h : m.length = l.length) (hi : i < l.length) : (ndL (fillG l m i))[i]? = some (ndE (m[i]'(by omega))) := by
  unfold ndL
  rw [List.getElem?_map, fillG_get l m i h hi]
  rfl
theorem ndL_fill_set {l m : List (Int × Int)} {i : Nat} (h : m.length = l.length) (hi : i < l.length) : (ndL (fillG l m i)).set i (ndE l[i]) = ndL (fillG l m (i + 1)) := by rw [ndL_set, fillG_set l m i h hi]
theorem ndL_replicate (n : Nat) : List.replicate n [V.c (.int .i64 0), V.c (.int .i64 0)] = ndL (List.replicate n (0, 0)) := by simp [ndL, ndE]
theorem okN (ty : TypeId) (l : List (Int × Int)) : okObj ⟨ty, 2, true, ndL l⟩ = true := by simp [okObj, ndL, ndE, V.one, V.isC, Value.oneCell']
theorem c_szNodeS (k : Nat) (b : Bool) (l : List (Int × Int)) (n : Int) (hk : 1 ≤ k) (hn : -9223372036854775807 ≤ n - l.length) (hn' : n ≤ 9000000000000000000) : callK C k 4 [.sq b true 2 (ndL l), .c (.int .i64 n)] [] = some (.c (.int .i64 (if n - l.length < 0 then -1 else n - l.length)), hpOf [] []) := by
  obtain ⟨k, rfl⟩ : ∃ m, k = m + 1 := ⟨k - 1, by omega⟩
  rw [callK_fn rfl F4 code4]
  have hw : IntKind.i64.wrap (n - l.length) = n - l.length := wrap_small (by omega) (by omega)
  by_cases h : n - (l.length : Int) < 0 <;> simp [R4_0, R4_1, R4_2, R4_3, R4_4, Try.f4, ndL_length, hw, h]
theorem c_toNode (k : Nat) (q : Int × Int) (hk : 1 ≤ k) : callK C k 21 [.ag (ndE q)] [] = some (.ag (ndE q), hpOf [] []) := by
  obtain ⟨k, rfl⟩ : ∃ m, k = m + 1 := ⟨k - 1, by omega⟩
  rw [callK_fn rfl F21 code21]
  simp [R21_0, R21_1, R21_2, R21_3, R21_4, Try.f21, ndE]
theorem c_toNodeS (k : Nat) (b : Bool) (l : List (Int × Int)) (hl : l.length ≤ 1048576) (hk : l.length + 10 ≤ k) : callK C k 7 [.sq b true 2 (ndL l)] [] = some (.s 0 2 2 0 l.length, hpOf [] [ndO l]) := by
  obtain ⟨k, rfl⟩ : ∃ m, k = m + 3 := ⟨k - 3, by omega⟩
  rw [callK_fn rfl F7 code7]
  have hrl : (List.replicate l.length ((0 : Int), (0 : Int))).length = l.length := by simp
  have hL := loopHas (body := fun st => runCode C (callK C (k + 2)) (k + 2) (K 7) L7_0 1 st) (keep := [0, 3, 4]) (.ex 0) (fun st => st.ρ 3 = .s 1072 2 2 0 l.length ∧ st.H 1072 = some (2, ndO l))
    (fun i st => st.ρ 0 = .sq b true 2 (ndL l) ∧ st.ρ 3 = .s 1072 2 2 0 l.length ∧ st.H 1072 = some (2, ndO (fillG l (List.replicate l.length (0, 0)) i)) ∧ st.ρ 4 = .c (.int .i64 (i : Int)))
    l.length (k + 2) (by omega)
    (by
      rintro i st next hi ⟨h0, h3, hH, h4⟩ hn
      have hg := ndL_fill_get (l := l) hrl hi
      have hs := ndL_fill_set (l := l) hrl hi
      have hfl := fillG_length l (List.replicate l.length ((0 : Int), (0 : Int))) i hrl
      have hto := c_toNode (k + 2) l[i] (by omega)
      have nget := ndL_get l i hi
      simp [ndE] at hto hs hg
      simp [L7_0, R7_0, R7_1, R7_2, R7_3, R7_4, R7_5, R7_6, Try.f7, lpL7_0, lpM7_0, M7_0, h0, h3, h4, hH, hi, ndO, ndL_length, nget, ndL_at, ndE, hto, wrap_next hi (by omega : l.length ≤ 9000000000000000000), hg, hs, hfl]
      exact hn _ (by simp [h0, h3, ndO]))
    (by
      rintro st next ⟨h0, h3, hH, h4⟩
      simp [L7_0, R7_0, R7_1, R7_2, R7_3, R7_4, R7_5, R7_6, Try.f7, lpL7_0, lpM7_0, M7_0, h0, h3, h4, hH, ndO, ndL_length, fillG_all])
  have b1 : (l.length : Int) ≤ 17592186044416 := by omega
  have b2 : 16 * (l.length : Int) ≤ 140737488355328 := by omega
  simp [R7_0, R7_1, R7_2, R7_3, R7_4, R7_5, R7_6, Try.f7, lpL7_0, lpM7_0, ndL_length, b1, b2, ndL_replicate, okN]
  generalize hr : loopRun _ _ _ _ = res
  obtain ⟨s1, rfl, f3, fH⟩ := loop_at hL hr ⟨by simp, by simp, by simp [ndO, fillG_zero], by simp⟩
  simp [R7_0, R7_1, R7_2, R7_3, R7_4, R7_5, R7_6, Try.f7, lpL7_0, lpM7_0, M7_0, f3, fH, ndO]
theorem c_eqNode (k : Nat) (q r : Int × Int) (hk : 1 ≤ k) : callK C k 29 [.ag (ndE q), .ag (ndE r)] [] = some (.c (.bool (decide (q = r))), hpOf [] []) := by
  obtain ⟨k, rfl⟩ : ∃ m, k = m + 1 := ⟨k - 1, by omega⟩
  rw [callK_fn rfl F29 code29]
  obtain ⟨a, b⟩ := q
  obtain ⟨c, d⟩ := r
  by_cases h1 : a = c
  · subst h1
    by_cases h2 : b = d
    · subst h2; simp [R29_0, R29_1, R29_2, R29_3, R29_4, R29_5, Try.f29, ndE]
    · simp [R29_0, R29_1, R29_2, R29_3, R29_4, R29_5, Try.f29, ndE, h2]
  · simp [R29_0, R29_1, R29_2, R29_3, R29_4, R29_5, Try.f29, ndE, h1]
theorem c_eqNodeS (k : Nat) (b c : Bool) (l m : List (Int × Int)) (hl : l.length ≤ 1048576) (hk : l.length + 10 ≤ k) : callK C k 11 [.sq b true 2 (ndL l), .sq c true 2 (ndL m)] [] = some (.c (.bool (decide (l = m))), hpOf [] []) := by
  obtain ⟨k, rfl⟩ : ∃ m, k = m + 3 := ⟨k - 3, by omega⟩
  rw [callK_fn rfl F11 code11]
  have heq := fun q r => c_eqNode (k + 2) q r (by omega)
  simp [ndE] at heq
  by_cases hlm : l = m
  · subst hlm
    have hL := loopHas (body := fun st => runCode C (callK C (k + 2)) (k + 2) (K 11) L11_0 1 st) (keep := [0, 1, 5]) (.ex 0) (fun st => True)
      (fun i st => st.ρ 0 = .sq b true 2 (ndL l) ∧ st.ρ 1 = .sq c true 2 (ndL l) ∧ st.ρ 5 = .c (.int .i64 (i : Int)))
      l.length (k + 2) (by omega)
      (by
        rintro i st next hi ⟨h0, h1, h5⟩ hn
        have nget := ndL_get l i hi
        simp [L11_0, R11_0, R11_1, R11_2, R11_3, R11_4, R11_5, R11_6, R11_7, R11_8, Try.f11, lpL11_0, lpM11_0, M11_0, h0, h1, h5, hi, ndL_length, nget, ndL_at, ndE, heq, wrap_next hi (by omega : l.length ≤ 9000000000000000000)]
        simp only [and_true] at hn
        refine hn _ ⟨?_, ?_, ?_⟩ <;> simp [h0, h1])
      (by
        rintro st next ⟨h0, h1, h5⟩
        simp [L11_0, R11_0, R11_1, R11_2, R11_3, R11_4, R11_5, R11_6, R11_7, R11_8, Try.f11, lpL11_0, lpM11_0, M11_0, h0, h1, h5, ndL_length])
    simp [R11_0, R11_1, R11_2, R11_3, R11_4, R11_5, R11_6, R11_7, R11_8, Try.f11, lpL11_0, lpM11_0, ndL_length]
    generalize hr : loopRun _ _ _ _ = res
    obtain ⟨s1, rfl, _⟩ := loop_at hL hr (by simp)
    simp [R11_0, R11_1, R11_2, R11_3, R11_4, R11_5, R11_6, R11_7, R11_8, Try.f11, lpL11_0, lpM11_0, M11_0]
  · by_cases hll : l.length = m.length
    · have hL := loopHas (body := fun st => runCode C (callK C (k + 2)) (k + 2) (K 11) L11_0 1 st) (keep := [0, 1, 5]) .ret (fun st => st.ρ 4 = .c (.bool false))
        (fun i st => st.ρ 0 = .sq b true 2 (ndL l) ∧ st.ρ 1 = .sq c true 2 (ndL m) ∧ st.ρ 5 = .c (.int .i64 (i : Int)) ∧ l.take i = m.take i)
        l.length (k + 2) (by omega)
        (by
          rintro i st next hi ⟨h0, h1, h5, ht⟩ hn
          have hi' : i < m.length := by omega
          have nget := ndL_get l i hi
          have nget' := ndL_get m i hi'
          by_cases hx : l[i] = m[i]
          · have ht' : l.take (i + 1) = m.take (i + 1) := by rw [List.take_succ_eq_append_getElem hi, List.take_succ_eq_append_getElem hi', ht, hx]
            simp [L11_0, R11_0, R11_1, R11_2, R11_3, R11_4, R11_5, R11_6, R11_7, R11_8, Try.f11, lpL11_0, lpM11_0, M11_0, h0, h1, h5, hi, hi', ndL_length, nget, nget', ndL_at, ndE, heq, hx, wrap_next hi (by omega : l.length ≤ 9000000000000000000)]
            exact hn _ ⟨by simp [h0], by simp [h1], by simp, ht'⟩
          · have hx' : (l[i].1 = m[i].1 → ¬ l[i].2 = m[i].2) := fun e1 e2 => hx (Prod.ext e1 e2)
            have hx3 : ¬ l[i].1 = m[i].1 ∨ ¬ l[i].2 = m[i].2 := by
              by_cases e1 : l[i].1 = m[i].1
              · exact .inr (hx' e1)
              · exact .inl e1
            simp [L11_0, R11_0, R11_1, R11_2, R11_3, R11_4, R11_5, R11_6, R11_7, R11_8, Try.f11, lpL11_0, lpM11_0, M11_0, h0, h1, h5, hi, hi', ndL_length, nget, nget', ndL_at, ndE, heq, hx3])
        (by
          rintro st next ⟨h0, h1, h5, ht⟩
          rw [List.take_of_length_le (by omega), List.take_of_length_le (by omega)] at ht
          exact absurd ht hlm)
      have hll' : (l.length : Int) = m.length := by omega
      simp [R11_0, R11_1, R11_2, R11_3, R11_4, R11_5, R11_6, R11_7, R11_8, Try.f11, lpL11_0, lpM11_0, ndL_length, hll]
      generalize hr : loopRun _ _ _ _ = res
      obtain ⟨s1, rfl, f4⟩ := loop_at hL hr ⟨by simp, by simp, by simp, by simp⟩
      simp [R11_0, R11_1, R11_2, R11_3, R11_4, R11_5, R11_6, R11_7, R11_8, Try.f11, lpL11_0, lpM11_0, M11_0, f4, hlm]
    · have hll' : ¬ (l.length : Int) = m.length := by omega
      simp [R11_0, R11_1, R11_2, R11_3, R11_4, R11_5, R11_6, R11_7, R11_8, Try.f11, lpL11_0, lpM11_0, M11_0, ndL_length, hlm, hll']

end Go.Proofs.Ytfcnlfjenialdaa.Eng
namespace Go.Proofs.Ytfcnlfjenialdaa.Eng
open Go Go.Proofs
set_option maxRecDepth 100000
set_option maxHeartbeats 2000000
set_option linter.unusedSimpArgs false
set_option linter.unusedVariables false
attribute [local simp] finK fin1 hpOf xi renQ isRoot runCode runOps stepX inlOf Eng.step wantedV astep val ofO made loadV storeV find V.cells bin binT binA numT numFs eqCells un1 setAt fieldAddrV fieldV indexAddrV indexV bounds sliceV convV lenV foldV max2V min2V callO bor rdsO wrsO seen_none okD_none loops keepIds resV resultsV St.ev TK.agg refs refsL refsO V.one V.isC Value.oneCell' ren renL renO noTag noTagL noTagR noTagO nodup mapO passV frs psi refsR newD loopNext opsAt idx flatAt rootOf backR newsV appendV copyV clearV strV bytesV bldV bufV selfV bytesOf nilCmp buildV fillF chunk freeL frzW cellSame sameV
attribute [local simp] cT cF cX cWR cOW cK cBL X ints_length ints_get ints_getElem ints_drop ints_take ints_append ints_nil ints_set
attribute [local simp] ints_replicate
attribute [local simp] putV_some putV_none putH_app applyD_nil applyD_cons seen_app gc_ρ gc_H gc_tick st0_ρ st0_H st0_tick retV callRo callV_if borL_nil borL_cons ints_snoc take_self callWr cutH_app findQ afterV exportV_0 exportV_n okD_nil okD_cons sub_seq0 sub_seq1 sub_cond0 sub_cond1 sub_block sub_loop sub_nil young_far young_none hidW_nil mayW_nil keepsF_nil keepsF_cons pairs okI ok_0 ok_1 ok_2
attribute [local simp] T3 T4 T22 T23 T26 T28 T31 T33 T43 T48 T50 T70 T73 T75 T78 T82 T85
def mkN (n : Int) (len : Nat) : List (Int × Int) := (List.range len).map fun i => (n + 2 * ((i : Nat) : Int), n + 2 * ((i : Nat) : Int) + 1)
theorem mkN_len (n : Int) (len : Nat) : (mkN n len).length = len := by simp [mkN]
def fillN (n : Int) (A : List (Int × Int)) (i : Nat) : List (Int × Int) := mkN n i ++ A.drop i
theorem fillN_get (n : Int) (A : List (Int × Int)) (i : Nat) (h : i < A.length) : (ndL (fillN n A i))[i]? = some (ndE A[i]) := by
  have : (fillN n A i)[i]? = some A[i] := by
    unfold fillN
    rw [List.getElem?_append_right (by rw [mkN_len]; exact Nat.le_refl _), mkN_len, Nat.sub_self, List.getElem?_drop, Nat.add_zero, List.getElem?_eq_getElem h]
  simp [ndL, this]
theorem fillN_set (n : Int) (A : List (Int × Int)) (i : Nat) (h : i < A.length) : (ndL (fillN n A i)).set i [.c (.int .i64 (n + 2 * (i : Int))), .c (.int .i64 (n + 2 * (i : Int) + 1))] = ndL (fillN n A (i + 1)) := by
  have e : (fillN n A i).set i (n + 2 * (i : Int), n + 2 * (i : Int) + 1) = fillN n A (i + 1) := by
    unfold fillN
    rw [List.set_append, if_neg (by rw [mkN_len]; omega), mkN_len, Nat.sub_self, List.drop_eq_getElem_cons h, List.set_cons_zero]
    have : mkN n (i + 1) = mkN n i ++ [(n + 2 * (i : Int), n + 2 * (i : Int) + 1)] := by simp [mkN, List.range_succ]
    rw [this, List.append_assoc]
    rfl
  rw [← e, ← ndL_set]
  rfl
theorem c_markNodeS (k : Nat) (A : List (Int × Int)) (n : Int) (hl : A.length ≤ 1048576) (hn0 : -1000000 ≤ n) (hn1 : n ≤ 100000000000) (hk : A.length + 10 ≤ k) : callK C k 13 [.s 0 0 2 0 A.length, .c (.int .i64 n)] [ndO A] = some (.c (.int .i64 (n + 2 * A.length)), hpOf [some (ndO (fillN n A A.length))] []) := by
  obtain ⟨k, rfl⟩ : ∃ m, k = m + 3 := ⟨k - 3, by omega⟩
  rw [callK_fn rfl F13 code13]
  have hL := loopHas (body := fun st => runCode C (callK C (k + 2)) (k + 2) (K 13) L13_0 1 st) (keep := [0, 1, 5]) (.ex 0) (fun st => st.ρ 1 = .c (.int .i64 (n + 2 * A.length)) ∧ st.H 0 = some (0, ndO (fillN n A A.length)))
    (fun i st => st.ρ 0 = .s 0 0 2 0 A.length ∧ st.ρ 1 = .c (.int .i64 (n + 2 * (i : Int))) ∧ st.H 0 = some (0, ndO (fillN n A i)) ∧ st.ρ 5 = .c (.int .i64 (i : Int)))
    A.length (k + 2) (by omega)
    (by
      rintro i st next hi ⟨h0, h1, hH, h5⟩ hn
      have hg := fillN_get n A i hi
      have hs := fillN_set n A i hi
      obtain ⟨_, hg2⟩ := List.getElem?_eq_some_iff.1 hg
      simp [ndE] at hg2
      have w1 : IntKind.i64.wrap (n + 2 * (i : Int) + 1) = n + 2 * (i : Int) + 1 := wrap_small (by omega) (by omega)
      have w2 : IntKind.i64.wrap (n + 2 * (i : Int) + 1 + 1) = n + 2 * ((i : Int) + 1) := by rw [wrap_small (by omega) (by omega)]; omega
      have hlen : i < (ndL (fillN n A i)).length := by rw [ndL_length]; unfold fillN; rw [List.length_append, mkN_len, List.length_drop]; omega
      simp [ndE] at hg
      simp [L13_0, R13_0, R13_1, R13_2, R13_3, R13_4, R13_5, R13_6, R13_7, R13_8, Try.f13, lpL13_0, lpM13_0, M13_0, h0, h1, h5, hH, hi, ndO, wrap_next hi (by omega : A.length ≤ 9000000000000000000), hg2, hs, hlen, w1, w2]
      refine hn _ ⟨?_, ?_, ?_, ?_⟩ <;> simp [h0, ndO])
    (by
      rintro st next ⟨h0, h1, hH, h5⟩
      simp [L13_0, R13_0, R13_1, R13_2, R13_3, R13_4, R13_5, R13_6, R13_7, R13_8, Try.f13, lpL13_0, lpM13_0, M13_0, h0, h1, h5, hH, ndO])
  simp [R13_0, R13_1, R13_2, R13_3, R13_4, R13_5, R13_6, R13_7, R13_8, Try.f13, lpL13_0, lpM13_0]
  generalize hr2 : loopRun _ _ _ _ = res
  obtain ⟨s1, rfl, f1, F0⟩ := loop_at hL hr2 ⟨by simp, by simp, by simp [fillN, mkN], by simp⟩
  simp [R13_0, R13_1, R13_2, R13_3, R13_4, R13_5, R13_6, R13_7, R13_8, Try.f13, lpL13_0, lpM13_0, M13_0, f1, F0, ndO]

end Go.Proofs.Ytfcnlfjenialdaa.Eng
namespace Go.Proofs.Ytfcnlfjenialdaa.Eng
open Go Go.Proofs
set_option maxRecDepth 100000
set_option maxHeartbeats 2000000
set_option linter.unusedSimpArgs false
set_option linter.unusedVariables false
attribute [local simp] finK fin1 hpOf xi renQ isRoot runCode runOps stepX inlOf Eng.step wantedV astep val ofO made loadV storeV find V.cells bin binT binA numT numFs eqCells un1 setAt fieldAddrV fieldV indexAddrV indexV bounds sliceV convV lenV foldV max2V min2V callO bor rdsO wrsO seen_none okD_none loops keepIds resV resultsV St.ev TK.agg refs refsL refsO V.one V.isC Value.oneCell' ren renL renO noTag noTagL noTagR noTagO nodup mapO passV frs psi refsR newD loopNext opsAt idx flatAt rootOf backR newsV appendV copyV clearV strV bytesV bldV bufV selfV bytesOf nilCmp buildV fillF chunk freeL frzW cellSame sameV
attribute [local simp] cT cF cX cWR cOW cK cBL X ints_length ints_get ints_getElem ints_drop ints_take ints_append ints_nil ints_set
attribute [local simp] ints_replicate
attribute [local simp] putV_some putV_none putH_app applyD_nil applyD_cons seen_app gc_ρ gc_H gc_tick st0_ρ st0_H st0_tick retV callRo callV_if borL_nil borL_cons ints_snoc take_self callWr cutH_app findQ afterV exportV_0 exportV_n okD_nil okD_cons sub_seq0 sub_seq1 sub_cond0 sub_cond1 sub_block sub_loop sub_nil young_far young_none hidW_nil mayW_nil keepsF_nil keepsF_cons pairs okI ok_0 ok_1 ok_2
attribute [local simp] T3 T4 T22 T23 T26 T28 T31 T33 T43 T48 T50 T70 T73 T75 T78 T82 T85
def likeB (q0 q : Fd) : Bool := goodB q.w q.h q.l && (q.w == q0.w && q.h == q0.h)
theorem c_areAlike (k : Nat) (c : Bool) (q0 : Fd) (fs : List Fd) (hl : fs.length ≤ 1000) (hk : fs.length + 300 ≤ k) : callK C k 25 [.sq c false 3 ((q0 :: fs).map Fd.cells)] [] = some (.c (.bool ((q0 :: fs).all (likeB q0))), hpOf [] []) := by
  obtain ⟨k, rfl⟩ : ∃ m, k = m + 7 := ⟨k - 7, by omega⟩
  rw [callK_fn rfl F25 code25]
  have v := fun q : Fd => c_IsValidField (k + 6) q.b q.w q.h q.l (by omega)
  have s := fun q : Fd => c_sameShape (k + 6) q.b q0.b q.w q.h q0.w q0.h q.l q0.l (by omega)
  simp only [fldV] at v s
  generalize hfs : q0 :: fs = gs
  have hg0 : (gs.map Fd.cells)[0]? = some q0.cells := by subst hfs; rfl
  have hgl : gs.length ≤ 1001 := by subst hfs; simp; omega
  have hgk : gs.length < k + 6 := by subst hfs; simp; omega
  obtain ⟨b0, w0, h0', l0⟩ := q0
  simp only at s
  cases hall : gs.all (likeB ⟨b0, w0, h0', l0⟩)
  · obtain ⟨out, ho⟩ := loopOut (body := fun st => runCode C (callK C (k + 6)) (k + 6) (K 25) L25_0 1 st) (keep := [0, 5, 6, 7]) .ret (fun st => st.ρ 2 = .c (.bool false))
      (fun i st => st.ρ 0 = .sq c false 3 (gs.map Fd.cells) ∧ st.ρ 5 = .sq c false 3 (gs.map Fd.cells) ∧ st.ρ 6 = .c (.int .i64 (gs.length : Int)) ∧ st.ρ 7 = .c (.int .i64 (i : Int)) ∧ (gs.take i).all (likeB ⟨b0, w0, h0', l0⟩) = true)
      gs.length (k + 6) hgk
      (by
        rintro i st next hi ⟨h0, h5, h6, h7, ht⟩ hn
        have ht' := fun hx : likeB ⟨b0, w0, h0', l0⟩ gs[i] = true => (show (gs.take (i + 1)).all (likeB ⟨b0, w0, h0', l0⟩) = true by rw [List.take_succ_eq_append_getElem hi, List.all_append, ht]; simp [hx])
        obtain ⟨q, hq⟩ : ∃ q, gs[i] = q := ⟨_, rfl⟩
        rw [hq] at ht'
        have v1 := v q
        have s1 := s q
        obtain ⟨b1, w1, h1, l1⟩ := q
        simp only at v1 s1
        cases hgd : goodB w1 h1 l1
        · simp [L25_0, R25_0, R25_1, R25_2, R25_3, R25_4, R25_5, R25_6, R25_7, Try.f25, lpL25_0, lpM25_0, M25_0, h0, h5, h6, h7, hi, hq, Fd.cells, v1, hgd]
        by_cases hw : w1 = w0
        · subst hw
          by_cases hh : h1 = h0'
          · subst hh
            simp [L25_0, R25_0, R25_1, R25_2, R25_3, R25_4, R25_5, R25_6, R25_7, Try.f25, lpL25_0, lpM25_0, M25_0, h0, h5, h6, h7, hi, hq, hg0, Fd.cells, v1, s1, hgd, wrap_next hi (by omega : gs.length ≤ 9000000000000000000)]
            exact hn _ (by simp [h0, h5, h6]; simpa using ht' (by simp [likeB, hgd]))
          · simp [L25_0, R25_0, R25_1, R25_2, R25_3, R25_4, R25_5, R25_6, R25_7, Try.f25, lpL25_0, lpM25_0, M25_0, h0, h5, h6, h7, hi, hq, hg0, Fd.cells, v1, s1, hgd, hh]
        · simp [L25_0, R25_0, R25_1, R25_2, R25_3, R25_4, R25_5, R25_6, R25_7, Try.f25, lpL25_0, lpM25_0, M25_0, h0, h5, h6, h7, hi, hq, hg0, Fd.cells, v1, s1, hgd, hw])
      (by
        rintro st next ⟨h0, h5, h6, h7, ht⟩
        rw [List.take_of_length_le (Nat.le_refl _), hall] at ht
        cases ht)
    simp at ho
    simp [R25_0, R25_1, R25_2, R25_3, R25_4, R25_5, R25_6, R25_7, Try.f25, lpL25_0, lpM25_0, M25_0, ho]
  · obtain ⟨out, ho⟩ := loopOut (body := fun st => runCode C (callK C (k + 6)) (k + 6) (K 25) L25_0 1 st) (keep := [0, 5, 6, 7]) (.ex 0) (fun st => True)
      (fun i st => st.ρ 0 = .sq c false 3 (gs.map Fd.cells) ∧ st.ρ 5 = .sq c false 3 (gs.map Fd.cells) ∧ st.ρ 6 = .c (.int .i64 (gs.length : Int)) ∧ st.ρ 7 = .c (.int .i64 (i : Int)))
      gs.length (k + 6) hgk
      (by
        rintro i st next hi ⟨h0, h5, h6, h7⟩ hn
        have hp := List.all_eq_true.1 hall _ (List.getElem_mem hi)
        obtain ⟨q, hq⟩ : ∃ q, gs[i] = q := ⟨_, rfl⟩
        rw [hq] at hp
        have v1 := v q
        have s1 := s q
        obtain ⟨b1, w1, h1, l1⟩ := q
        simp only [likeB, Bool.and_eq_true, beq_iff_eq] at v1 s1 hp
        obtain ⟨hgd, hw, hh⟩ := hp
        subst hw hh
        simp [L25_0, R25_0, R25_1, R25_2, R25_3, R25_4, R25_5, R25_6, R25_7, Try.f25, lpL25_0, lpM25_0, M25_0, h0, h5, h6, h7, hi, hq, hg0, Fd.cells, v1, s1, hgd, wrap_next hi (by omega : gs.length ≤ 9000000000000000000)]
        simp only [and_true] at hn
        exact hn _ (by simp [h0, h5, h6]))
      (by
        rintro st next ⟨h0, h5, h6, h7⟩
        simp [L25_0, R25_0, R25_1, R25_2, R25_3, R25_4, R25_5, R25_6, R25_7, Try.f25, lpL25_0, lpM25_0, M25_0, h0, h5, h6, h7])
    simp at ho
    simp [R25_0, R25_1, R25_2, R25_3, R25_4, R25_5, R25_6, R25_7, Try.f25, lpL25_0, lpM25_0, M25_0, ho]

end Go.Proofs.Ytfcnlfjenialdaa.Eng
namespace Go.Proofs.Ytfcnlfjenialdaa.Eng
open Go Go.Proofs
set_option maxRecDepth 100000
set_option maxHeartbeats 2000000
set_option linter.unusedSimpArgs false
set_option linter.unusedVariables false
attribute [local simp] finK fin1 hpOf xi renQ isRoot runCode runOps stepX inlOf Eng.step wantedV astep val ofO made loadV storeV find V.cells bin binT binA numT numFs eqCells un1 setAt fieldAddrV fieldV indexAddrV indexV bounds sliceV convV lenV foldV max2V min2V callO bor rdsO wrsO seen_none okD_none loops keepIds resV resultsV St.ev TK.agg refs refsL refsO V.one V.isC Value.oneCell' ren renL renO noTag noTagL noTagR noTagO nodup mapO passV frs psi refsR newD loopNext opsAt idx flatAt rootOf backR newsV appendV copyV clearV strV bytesV bldV bufV selfV bytesOf nilCmp buildV fillF chunk freeL frzW cellSame sameV
attribute [local simp] cT cF cX cWR cOW cK cBL X ints_length ints_get ints_getElem ints_drop ints_take ints_append ints_nil ints_set
attribute [local simp] ints_replicate
attribute [local simp] putV_some putV_none putH_app applyD_nil applyD_cons seen_app gc_ρ gc_H gc_tick st0_ρ st0_H st0_tick retV callRo callV_if borL_nil borL_cons ints_snoc take_self callWr cutH_app findQ afterV exportV_0 exportV_n okD_nil okD_cons sub_seq0 sub_seq1 sub_cond0 sub_cond1 sub_block sub_loop sub_nil young_far young_none hidW_nil mayW_nil keepsF_nil keepsF_cons pairs okI ok_0 ok_1 ok_2
attribute [local simp] T3 T4 T22 T23 T26 T28 T31 T33 T43 T48 T50 T70 T73 T75 T78 T82 T85
def ckI (v : Int) : Int := if -9000 ≤ v ∧ v ≤ 9000 then v else 9001
def combG (op x y : Int) : Int := if x = -9999 ∨ y = -9999 then -9999 else if op = 1 then ckI (x + y) else if op = 2 then ckI (x - y) else if op = 3 then (if y < x then y else x) else (if y > x then y else x)
theorem cell_bound {x : Int} (h : cellB x = true) : -9999 ≤ x ∧ x ≤ 9000 := by
  simp only [cellB, Bool.or_eq_true, beq_iff_eq, Bool.and_eq_true, decide_eq_true_eq] at h
  omega
theorem c_checkedCell (k : Nat) (v : Int) (hk : 2 ≤ k) : callK C k 62 [.c (.int .i64 v)] [] = some (.c (.int .i64 (ckI v)), hpOf [] []) := by
  obtain ⟨k, rfl⟩ : ∃ m, k = m + 2 := ⟨k - 2, by omega⟩
  rw [callK_fn rfl F62 code62]
  unfold ckI
  by_cases h1 : -9000 ≤ v
  · by_cases h2 : v ≤ 9000 <;> simp [R62_0, R62_1, R62_2, R62_3, Try.f62, c_within, h1, h2]
  · simp [R62_0, R62_1, R62_2, R62_3, Try.f62, c_within, h1]
theorem c_Combine1 (op : Int) (k : Nat) (x y : Int) (hk : 3 ≤ k) (hx : cellB x = true) (hy : cellB y = true) : callK C k 61 [.c (.int .i64 x), .c (.int .i64 y), .bx true [.c (.int .i64 op)]] [] = some (.c (.int .i64 (combG op x y)), hpOf [] []) := by
  obtain ⟨k, rfl⟩ : ∃ m, k = m + 3 := ⟨k - 3, by omega⟩
  rw [callK_fn rfl F61 code61]
  have bx := cell_bound hx
  have by' := cell_bound hy
  have w1 : IntKind.i64.wrap (x + y) = x + y := wrap_small (by omega) (by omega)
  have w2 : IntKind.i64.wrap (x - y) = x - y := wrap_small (by omega) (by omega)
  have c1 := c_checkedCell (k + 2) (x + y) (by omega)
  have c2 := c_checkedCell (k + 2) (x - y) (by omega)
  unfold combG
  by_cases h : x = -9999
  · simp [R61_0, R61_1, R61_2, R61_3, R61_4, R61_5, R61_6, R61_7, R61_8, R61_9, Try.f61, h]
  have h' : (x == -9999) = false := by simpa using h
  by_cases h2 : y = -9999
  · simp [R61_0, R61_1, R61_2, R61_3, R61_4, R61_5, R61_6, R61_7, R61_8, R61_9, Try.f61, h, h', h2]
  have h2' : (y == -9999) = false := by simpa using h2
  by_cases o1 : op = 1
  · simp [R61_0, R61_1, R61_2, R61_3, R61_4, R61_5, R61_6, R61_7, R61_8, R61_9, Try.f61, h, h', h2, h2', o1, w1, c1]
  have o1' : (op == 1) = false := by simpa using o1
  by_cases o2 : op = 2
  · simp [R61_0, R61_1, R61_2, R61_3, R61_4, R61_5, R61_6, R61_7, R61_8, R61_9, Try.f61, h, h', h2, h2', o1, o1', o2, w2, c2]
  have o2' : (op == 2) = false := by simpa using o2
  by_cases o3 : op = 3
  · simp [R61_0, R61_1, R61_2, R61_3, R61_4, R61_5, R61_6, R61_7, R61_8, R61_9, Try.f61, h, h', h2, h2', o1, o1', o2, o2', o3]
  have o3' : (op == 3) = false := by simpa using o3
  simp [R61_0, R61_1, R61_2, R61_3, R61_4, R61_5, R61_6, R61_7, R61_8, R61_9, Try.f61, h, h', h2, h2', o1, o1', o2, o2', o3, o3']
theorem c_combinedComb (op : Int) (k : Nat) (b c : Bool) (w h w' h' : Int) (l m : List Int) (hk : 500 ≤ k) (ha : (goodB w h l && (goodB w' h' m && (w' == w && h' == h))) = true) :
    callK C k 60 [fldV b w h l, fldV c w' h' m, .fn 61 [.bx true [.c (.int .i64 op)]]] [] = some (if goodB w h (List.zipWith (combG op) l m) then (.tp [ownV w h 0 2 l.length, .c (.bool true)], hpOf [] [intsO (List.zipWith (combG op) l m)]) else (.tp [nilV, .c (.bool false)], hpOf [] [])) := by
  obtain ⟨k, rfl⟩ : ∃ m, k = m + 9 := ⟨k - 9, by omega⟩
  rw [callK_fn rfl F60 code60]
  simp only [Bool.and_eq_true, beq_iff_eq] at ha
  obtain ⟨g1, g2, rfl, rfl⟩ := ha
  obtain ⟨s1, n1, cl1, k1⟩ := good_length g1
  obtain ⟨s2, n2, cl2, k2⟩ := good_length g2
  have hlm : m.length = l.length := by omega
  have hz : (List.zipWith (combG op) l m).length = l.length := by simp [hlm]
  obtain ⟨hp0, hp, hs⟩ := shape_area s1
  have hl0 : l ≠ [] := by
    intro e; subst e
    have := Int.mul_pos (by omega : 0 < w') (by omega : 0 < h')
    simp at n1; omega
  have hal := c_areAlike (k + 8) true ⟨true, w', h', l⟩ [⟨true, w', h', m⟩] (by simp) (by simp; omega)
  simp [Fd.cells, likeB, g1, g2] at hal
  have hal' := c_areAlike (k + 8) true ⟨b, w', h', l⟩ [⟨c, w', h', m⟩] (by simp) (by simp; omega)
  simp [Fd.cells, likeB, g1, g2] at hal'
  have hcl := c_cloneField (k + 8) b w' h' l (by omega) hl0 (by omega)
  simp [fldV, intsO] at hcl
  have hck := c_checkedField (k + 8) w' h' (List.zipWith (combG op) l m) (by omega)
  rw [hz] at hck
  simp [ownV, intsO] at hck
  have hc1 := fun (x y : Int) (hx : cellB x = true) (hy : cellB y = true) => c_Combine1 op (k + 8) x y (by omega) hx hy
  obtain ⟨out, ho⟩ := loopOut (body := fun st => runCode C (callK C (k + 8)) (k + 8) (K 60) L60_0 1 st) (keep := [2, 3, 6, 8, 20, 21, 22]) (.ex 0) (fun st => st.ρ 6 = .p 48 1 3 0 0 ∧ st.ρ 8 = .p 3120 3 3 0 0 ∧
      st.H 48 = some (1, ⟨28, 3, false, [[.c (.int .i64 0), .c (.int .i64 0), .c (.slice none 0 0)]]⟩) ∧
      st.H 3120 = some (3, ⟨28, 3, false, [[.c (.int .i64 w'), .c (.int .i64 h'), .s 3104 3 1 0 l.length]]⟩) ∧
      st.H 3104 = some (3, intsO (List.zipWith (combG op) l m)))
    (fun i st => st.ρ 2 = .fn 61 [.bx true [.c (.int .i64 op)]] ∧ st.ρ 3 = .p 16 1 3 0 0 ∧ st.ρ 6 = .p 48 1 3 0 0 ∧ st.ρ 8 = .p 3120 3 3 0 0 ∧
      st.ρ 20 = .sq c true 1 (ints m) ∧ st.ρ 21 = .c (.int .i64 (m.length : Int)) ∧ st.ρ 22 = .c (.int .i64 (i : Int)) ∧
      st.H 16 = some (1, ⟨28, 3, false, [[.c (.int .i64 w'), .c (.int .i64 h'), .sq b true 1 (ints l)]]⟩) ∧
      st.H 48 = some (1, ⟨28, 3, false, [[.c (.int .i64 0), .c (.int .i64 0), .c (.slice none 0 0)]]⟩) ∧
      st.H 3120 = some (3, ⟨28, 3, false, [[.c (.int .i64 w'), .c (.int .i64 h'), .s 3104 3 1 0 l.length]]⟩) ∧
      st.H 3104 = some (3, intsO (fillL (List.zipWith (combG op) l m) l i)))
    m.length (k + 8) (by omega)
    (by
      rintro i st next hi ⟨h2, h3, h6, h8, h20, h21, h22, H16, H48, H3120, H3104⟩ hn
      have hil : i < l.length := by omega
      have hget := fillL_get (List.zipWith (combG op) l m) l i hz.symm (by omega)
      have hset := fillL_set (List.zipWith (combG op) l m) l i hz.symm (by omega)
      rw [List.getElem_zipWith] at hset
      have hcc := hc1 l[i] m[i] (List.all_eq_true.1 cl1 _ (List.getElem_mem hil)) (List.all_eq_true.1 cl2 _ (List.getElem_mem hi))
      simp [L60_0, R60_0, R60_1, R60_2, R60_3, R60_4, R60_5, R60_6, R60_7, R60_8, R60_9, Try.f60, lpL60_0, lpM60_0, M60_0, h2, h3, h6, h8, h20, h21, h22, H16, H48, H3120, H3104, hi, hil, intsO, hcc, hget, hset, wrap_next hi (by omega)]
      exact hn _ (by simp [h2, h3, h6, h8, h20, h21, H16, H48, H3120, intsO]))
    (by
      rintro st next ⟨h2, h3, h6, h8, h20, h21, h22, H16, H48, H3120, H3104⟩
      have hf := fillL_all (List.zipWith (combG op) l m) l (by omega)
      rw [hz, ← hlm] at hf
      simp [L60_0, R60_0, R60_1, R60_2, R60_3, R60_4, R60_5, R60_6, R60_7, R60_8, R60_9, Try.f60, lpL60_0, lpM60_0, M60_0, h2, h3, h6, h8, h20, h21, h22, H16, H48, H3120, H3104, intsO, hf])
  simp [fillL_zero, intsO] at ho
  cases hg : goodB w' h' (List.zipWith (combG op) l m)
  · rw [hg] at hck
    simp [nilV] at hck
    simp [R60_0, R60_1, R60_2, R60_3, R60_4, R60_5, R60_6, R60_7, R60_8, R60_9, Try.f60, lpL60_0, lpM60_0, M60_0, fldV, hal, hal', hcl, hck, ho, ownV, nilV, intsO]
  · rw [hg] at hck
    simp at hck
    simp [R60_0, R60_1, R60_2, R60_3, R60_4, R60_5, R60_6, R60_7, R60_8, R60_9, Try.f60, lpL60_0, lpM60_0, M60_0, fldV, hal, hal', hcl, hck, ho, ownV, intsO]
theorem c_combinedNoC (op : Int) (k : Nat) (b c : Bool) (w h w' h' : Int) (l m : List Int) (hk : 500 ≤ k) (ha : (goodB w h l && (goodB w' h' m && (w' == w && h' == h))) = false) :
    callK C k 60 [fldV b w h l, fldV c w' h' m, .fn 61 [.bx true [.c (.int .i64 op)]]] [] = some (.tp [nilV, .c (.bool false)], hpOf [] []) := by
  obtain ⟨k, rfl⟩ : ∃ m, k = m + 9 := ⟨k - 9, by omega⟩
  rw [callK_fn rfl F60 code60]
  have hal := c_areAlike (k + 8) true ⟨true, w, h, l⟩ [⟨true, w', h', m⟩] (by simp) (by simp; omega)
  have hal' := c_areAlike (k + 8) true ⟨b, w, h, l⟩ [⟨c, w', h', m⟩] (by simp) (by simp; omega)
  have e1 : ∀ b c : Bool, ([(⟨b, w, h, l⟩ : Fd), ⟨c, w', h', m⟩].all (likeB ⟨b, w, h, l⟩)) = false := by
    intro b c
    simp only [List.all_cons, List.all_nil, likeB, beq_self_eq_true, Bool.and_true]
    exact ha
  rw [e1] at hal hal'
  simp [Fd.cells] at hal hal'
  simp [R60_0, R60_1, R60_2, R60_3, R60_4, R60_5, R60_6, R60_7, R60_8, R60_9, Try.f60, lpL60_0, lpM60_0, M60_0, fldV, hal, hal', nilV]

end Go.Proofs.Ytfcnlfjenialdaa.Eng
namespace Go.Proofs.Ytfcnlfjenialdaa.Eng
open Go Go.Proofs
set_option maxRecDepth 100000
set_option maxHeartbeats 2000000
set_option linter.unusedSimpArgs false
set_option linter.unusedVariables false
attribute [local simp] finK fin1 hpOf xi renQ isRoot runCode runOps stepX inlOf Eng.step wantedV astep val ofO made loadV storeV find V.cells bin binT binA numT numFs eqCells un1 setAt fieldAddrV fieldV indexAddrV indexV bounds sliceV convV lenV foldV max2V min2V callO bor rdsO wrsO seen_none okD_none loops keepIds resV resultsV St.ev TK.agg refs refsL refsO V.one V.isC Value.oneCell' ren renL renO noTag noTagL noTagR noTagO nodup mapO passV frs psi refsR newD loopNext opsAt idx flatAt rootOf backR newsV appendV copyV clearV strV bytesV bldV bufV selfV bytesOf nilCmp buildV fillF chunk freeL frzW cellSame sameV
attribute [local simp] cT cF cX cWR cOW cK cBL X ints_length ints_get ints_getElem ints_drop ints_take ints_append ints_nil ints_set
attribute [local simp] ints_replicate
attribute [local simp] putV_some putV_none putH_app applyD_nil applyD_cons seen_app gc_ρ gc_H gc_tick st0_ρ st0_H st0_tick retV callRo callV_if borL_nil borL_cons ints_snoc take_self callWr cutH_app findQ afterV exportV_0 exportV_n okD_nil okD_cons sub_seq0 sub_seq1 sub_cond0 sub_cond1 sub_block sub_loop sub_nil young_far young_none hidW_nil mayW_nil keepsF_nil keepsF_cons pairs okI ok_0 ok_1 ok_2
attribute [local simp] T3 T4 T22 T23 T26 T28 T31 T33 T43 T48 T50 T70 T73 T75 T78 T82 T85
attribute [local simp] young_near clo cloF Region.binds Nat.testBit hidW declW mayW
/-- The values changed, what is missing kept. -/
def chgM (g : Int → Int) (l : List Int) : List Int := l.map fun x => if x = -9999 then x else g x
theorem chgM_length (g : Int → Int) (l : List Int) : (chgM g l).length = l.length := by simp [chgM]
theorem chgM_get (g : Int → Int) (l : List Int) (i : Nat) (h : i < (chgM g l).length) : (chgM g l)[i] = (if l[i]'(by simpa [chgM] using h) = -9999 then l[i]'(by simpa [chgM] using h) else g (l[i]'(by simpa [chgM] using h))) := by simp [chgM]
/-- A field, or none, and whether. -/
def optV (ok : Bool) (w h : Int) (l : List Int) : Option (V × Hp) := if ok = true then some (.tp [ownV w h 0 2 l.length, .c (.bool true)], hpOf [] [intsO l]) else some (.tp [nilV, .c (.bool false)], hpOf [] [])
theorem c_changedNo (k : Nat) (b : Bool) (f : FuncId) (caps : List V) (w h : Int) (l : List Int) (hf : WR f = false ∧ BL f = none) (hcaps : ∀ H, borL H caps = some caps) (hg : goodB w h l = false) (hk : 500 ≤ k) :
    callK C k 58 [fldV b w h l, .fn f caps] [] = some (.tp [nilV, .c (.bool false)], hpOf [] []) := by
  obtain ⟨k, rfl⟩ : ∃ m, k = m + 9 := ⟨k - 9, by omega⟩
  rw [callK_fn rfl F58 code58]
  have hv := c_IsValidField (k + 8) b w h l (by omega)
  rw [hg] at hv
  simp [fldV] at hv
  simp [R58_0, R58_1, R58_2, R58_3, R58_4, R58_5, R58_6, R58_7, R58_8, R58_9, R58_10, Try.f58, lpL58_0, lpM58_0, M58_0, fldV, hv, nilV]
theorem c_changed (k : Nat) (b : Bool) (f : FuncId) (caps : List V) (w h : Int) (l : List Int) (g : Int → Int) (hf : WR f = false ∧ BL f = none) (hcaps : ∀ H, borL H caps = some caps)
    (hc : ∀ x : Int, cellB x = true → x ≠ -9999 → callK C (k + 8) f ([.c (.int .i64 x)] ++ caps) [] = some (.c (.int .i64 (g x)), hpOf [] [])) (hg : goodB w h l = true) (hk : 500 ≤ k) :
    callK C (k + 9) 58 [fldV b w h l, .fn f caps] [] = optV (goodB w h (chgM g l)) w h (chgM g l) := by
  obtain ⟨hf, hb⟩ := hf
  rw [callK_fn rfl F58 code58]
  have hv := c_IsValidField (k + 8) b w h l (by omega)
  rw [hg] at hv
  obtain ⟨s1, n1, cl1, k1⟩ := good_length hg
  obtain ⟨hp0, hp, hs⟩ := shape_area s1
  have hl0 : l ≠ [] := by
    intro e; subst e
    have := Int.mul_pos (by omega : 0 < w) (by omega : 0 < h)
    simp at n1; omega
  have hz := chgM_length g l
  have hcl := c_cloneField (k + 8) b w h l (by omega) hl0 (by omega)
  simp [fldV, intsO] at hcl
  have hck := c_checkedField (k + 8) w h (chgM g l) (by omega)
  rw [hz] at hck
  simp [ownV, intsO] at hck
  simp [fldV] at hv
  have hL := loopHas (body := fun st => runCode C (callK C (k + 8)) (k + 8) (K 58) L58_0 1 st) (keep := [1, 4, 6, 16, 17, 18]) (.ex 0) (fun st => st.ρ 4 = .p 32 1 3 0 0 ∧ st.ρ 6 = .p 3120 3 3 0 0 ∧
      st.H 32 = some (1, ⟨28, 3, false, [[.c (.int .i64 0), .c (.int .i64 0), .c (.slice none 0 0)]]⟩) ∧
      st.H 3120 = some (3, ⟨28, 3, false, [[.c (.int .i64 w), .c (.int .i64 h), .s 3104 3 1 0 l.length]]⟩) ∧
      st.H 3104 = some (3, intsO (chgM g l)))
    (fun i st => st.ρ 1 = .fn f caps ∧ st.ρ 4 = .p 32 1 3 0 0 ∧ st.ρ 6 = .p 3120 3 3 0 0 ∧
      st.ρ 16 = .sq b true 1 (ints l) ∧ st.ρ 17 = .c (.int .i64 (l.length : Int)) ∧ st.ρ 18 = .c (.int .i64 (i : Int)) ∧
      st.H 32 = some (1, ⟨28, 3, false, [[.c (.int .i64 0), .c (.int .i64 0), .c (.slice none 0 0)]]⟩) ∧
      st.H 3120 = some (3, ⟨28, 3, false, [[.c (.int .i64 w), .c (.int .i64 h), .s 3104 3 1 0 l.length]]⟩) ∧
      st.H 3104 = some (3, intsO (fillL (chgM g l) l i)))
    l.length (k + 8) (by omega)
    (by
      rintro i st next hi ⟨h1, h4, h6, h16, h17, h18, H32, H3120, H3104⟩ hn
      have hget := fillL_get (chgM g l) l i hz.symm (by omega)
      have hset := fillL_set (chgM g l) l i hz.symm (by omega)
      rw [chgM_get] at hset
      have hwn := wrap_next hi (by omega)
      by_cases hm : l[i] = -9999
      · have hkp := fillL_keep (chgM g l) l i hz.symm (by omega) (by rw [chgM_get, if_pos hm])
        simp [L58_0, R58_0, R58_1, R58_2, R58_3, R58_4, R58_5, R58_6, R58_7, R58_8, R58_9, R58_10, Try.f58, lpL58_0, lpM58_0, M58_0, h1, h4, h6, h16, h17, h18, H32, H3120, H3104, hi, intsO, hm, hwn]
        exact hn _ (by simp [h1, h4, h6, h16, h17, H32, H3120, H3104, intsO, hkp])
      · have hmb : (l[i] != -9999) = true := by simpa using hm
        rw [if_neg hm] at hset
        have hcc := hc l[i] (List.all_eq_true.1 cl1 _ (List.getElem_mem hi)) hm
        simp only [List.cons_append, List.nil_append] at hcc
        simp [L58_0, R58_0, R58_1, R58_2, R58_3, R58_4, R58_5, R58_6, R58_7, R58_8, R58_9, R58_10, Try.f58, lpL58_0, lpM58_0, M58_0, h1, h4, h6, h16, h17, h18, H32, H3120, H3104, hi, intsO, hm, hmb, hwn, hf, hb, hcaps, hcc, hget, hset]
        exact hn _ (by simp [h1, h4, h6, h16, h17, H32, H3120, intsO]))
    (by
      rintro st next ⟨h1, h4, h6, h16, h17, h18, H32, H3120, H3104⟩
      have hfa := fillL_all (chgM g l) l (by omega)
      rw [hz] at hfa
      simp [L58_0, R58_0, R58_1, R58_2, R58_3, R58_4, R58_5, R58_6, R58_7, R58_8, R58_9, R58_10, Try.f58, lpL58_0, lpM58_0, M58_0, h1, h4, h6, h16, h17, h18, H32, H3120, H3104, intsO, hfa])
  simp [R58_0, R58_1, R58_2, R58_3, R58_4, R58_5, R58_6, R58_7, R58_8, R58_9, R58_10, Try.f58, lpL58_0, lpM58_0, fldV, hv, hcl, hcaps]
  generalize hr2 : loopRun _ _ _ _ = res
  obtain ⟨s1, rfl, f4, f6, H32, H1, Hl⟩ := loop_at hL hr2 ⟨by simp, by simp, by simp, by simp, by simp, by simp, by simp, by simp, by simp [fillL_zero, intsO]⟩
  simp [intsO] at Hl
  unfold optV
  cases hg2 : goodB w h (chgM g l)
  · rw [hg2] at hck
    simp [nilV] at hck
    simp [R58_0, R58_1, R58_2, R58_3, R58_4, R58_5, R58_6, R58_7, R58_8, R58_9, R58_10, Try.f58, lpL58_0, lpM58_0, M58_0, f4, f6, H32, H1, Hl, hck, nilV]
  · rw [hg2] at hck
    simp at hck
    simp [R58_0, R58_1, R58_2, R58_3, R58_4, R58_5, R58_6, R58_7, R58_8, R58_9, R58_10, Try.f58, lpL58_0, lpM58_0, M58_0, f4, f6, H32, H1, Hl, hck, hz, ownV, intsO]

end Go.Proofs.Ytfcnlfjenialdaa.Eng
namespace Go.Proofs.Ytfcnlfjenialdaa.Eng
open Go Go.Proofs
set_option maxRecDepth 100000
set_option maxHeartbeats 2000000
set_option linter.unusedSimpArgs false
set_option linter.unusedVariables false
attribute [local simp] finK fin1 hpOf xi renQ isRoot runCode runOps stepX inlOf Eng.step wantedV astep val ofO made loadV storeV find V.cells bin binT binA numT numFs eqCells un1 setAt fieldAddrV fieldV indexAddrV indexV bounds sliceV convV lenV foldV max2V min2V callO bor rdsO wrsO seen_none okD_none loops keepIds resV resultsV St.ev TK.agg refs refsL refsO V.one V.isC Value.oneCell' ren renL renO noTag noTagL noTagR noTagO nodup mapO passV frs psi refsR newD loopNext opsAt idx flatAt rootOf backR newsV appendV copyV clearV strV bytesV bldV bufV selfV bytesOf nilCmp buildV fillF chunk freeL frzW cellSame sameV
attribute [local simp] cT cF cX cWR cOW cK cBL X ints_length ints_get ints_getElem ints_drop ints_take ints_append ints_nil ints_set
attribute [local simp] ints_replicate
attribute [local simp] putV_some putV_none putH_app applyD_nil applyD_cons seen_app gc_ρ gc_H gc_tick st0_ρ st0_H st0_tick retV callRo callV_if borL_nil borL_cons ints_snoc take_self callWr cutH_app findQ afterV exportV_0 exportV_n okD_nil okD_cons sub_seq0 sub_seq1 sub_cond0 sub_cond1 sub_block sub_loop sub_nil young_far young_none hidW_nil mayW_nil keepsF_nil keepsF_cons pairs okI ok_0 ok_1 ok_2
attribute [local simp] T3 T4 T22 T23 T26 T28 T31 T33 T43 T48 T50 T70 T73 T75 T78 T82 T85
attribute [local simp] young_near clo cloF Region.binds Nat.testBit hidW declW mayW
def exG (lim x : Int) : Int := if x > lim then 1 else 0
theorem c_l4Exceeds (k : Nat) (b : Bool) (w h : Int) (l : List Int) (lim : Int) (h64 : l.length ≤ 64) (hk : 300 ≤ k) : callK C k 38 [fldV b w h l, .c (.int .i64 lim)] [] = some (ownV w h 0 2 l.length, hpOf [] [intsO (chgM (exG lim) l)]) := by
  obtain ⟨k, rfl⟩ : ∃ m, k = m + 9 := ⟨k - 9, by omega⟩
  rw [callK_fn rfl F38 code38]
  have hz := chgM_length (exG lim) l
  have o1 := c_l2Own (k + 8) b w h l (by omega) (by omega)
  simp [fldV, ownV, intsO] at o1
  have hL := loopHas (body := fun st => runCode C (callK C (k + 8)) (k + 8) (K 38) L38_0 1 st) (keep := [1, 2, 4, 5, 6]) (.ex 0) (fun st => st.ρ 4 = .p 32 1 3 0 0 ∧ st.ρ 5 = .p 1072 2 3 0 0 ∧ st.H 32 = some (1, ⟨28, 3, false, [[.c (.int .i64 0), .c (.int .i64 0), .c (.slice none 0 0)]]⟩) ∧ st.H 1072 = some (2, ⟨28, 3, false, [[.c (.int .i64 w), .c (.int .i64 h), .s 1056 2 1 0 l.length]]⟩) ∧ st.H 1056 = some (2, intsO (chgM (exG lim) l)))
    (fun i st => st.ρ 2 = .p 16 1 3 0 0 ∧ st.ρ 4 = .p 32 1 3 0 0 ∧ st.ρ 5 = .p 1072 2 3 0 0 ∧ st.ρ 6 = .c (.int .i64 (i : Int)) ∧ st.ρ 1 = .c (.int .i64 lim) ∧ st.H 16 = some (1, ⟨28, 3, false, [[.c (.int .i64 w), .c (.int .i64 h), .sq b true 1 (ints l)]]⟩) ∧ st.H 32 = some (1, ⟨28, 3, false, [[.c (.int .i64 0), .c (.int .i64 0), .c (.slice none 0 0)]]⟩) ∧ st.H 1072 = some (2, ⟨28, 3, false, [[.c (.int .i64 w), .c (.int .i64 h), .s 1056 2 1 0 l.length]]⟩) ∧ st.H 1056 = some (2, intsO (fillL (chgM (exG lim) l) l i)))
    l.length (k + 8) (by omega)
    (by
      rintro i st next hi ⟨qb, qr, qo, qi, p1, Hi, Hr, Ho, Hw⟩ hn
      have hget := fillL_get (chgM (exG lim) l) l i hz.symm (by omega)
      have hset := fillL_set (chgM (exG lim) l) l i hz.symm (by omega)
      rw [chgM_get] at hset
      have hwn := wrap_next hi (by omega)
      simp [intsO] at Hw
      by_cases hm : l[i] = -9999
      · have hkp := fillL_keep (chgM (exG lim) l) l i hz.symm (by omega) (by rw [chgM_get, if_pos hm])
        simp [L38_0, R38_0, R38_1, R38_2, R38_3, R38_4, R38_5, R38_6, R38_7, R38_8, R38_9, Try.f38, lpL38_0, lpM38_0, M38_0, qb, qr, qo, qi, p1, Hi, Hr, Ho, Hw, hi, hm, hwn]
        exact hn _ (by simp [qb, qr, qo, qi, p1, Hi, Hr, Ho, Hw, intsO, hkp])
      · have hmb : (l[i] != -9999) = true := by simpa using hm
        have hmc : (l[i] == -9999) = false := by simpa using hm
        rw [if_neg hm] at hset
        by_cases hg : l[i] > lim
        · have he : exG lim l[i] = 1 := if_pos hg
          rw [he] at hset
          simp [L38_0, R38_0, R38_1, R38_2, R38_3, R38_4, R38_5, R38_6, R38_7, R38_8, R38_9, Try.f38, lpL38_0, lpM38_0, M38_0, qb, qr, qo, qi, p1, Hi, Hr, Ho, Hw, hi, hm, hmb, hmc, hwn, hg, hget, hset]
          exact hn _ (by simp [qb, qr, qo, qi, p1, Hi, Hr, Ho, Hw, intsO])
        · have he : exG lim l[i] = 0 := if_neg hg
          rw [he] at hset
          simp [L38_0, R38_0, R38_1, R38_2, R38_3, R38_4, R38_5, R38_6, R38_7, R38_8, R38_9, Try.f38, lpL38_0, lpM38_0, M38_0, qb, qr, qo, qi, p1, Hi, Hr, Ho, Hw, hi, hm, hmb, hmc, hwn, hg, hget, hset]
          exact hn _ (by simp [qb, qr, qo, qi, p1, Hi, Hr, Ho, Hw, intsO]))
    (by
      rintro st next ⟨qb, qr, qo, qi, p1, Hi, Hr, Ho, Hw⟩
      have hfa := fillL_all (chgM (exG lim) l) l (by omega)
      rw [hz] at hfa
      simp [intsO] at Hw
      simp [L38_0, R38_0, R38_1, R38_2, R38_3, R38_4, R38_5, R38_6, R38_7, R38_8, R38_9, Try.f38, lpL38_0, lpM38_0, M38_0, qb, qr, qo, qi, p1, Hi, Hr, Ho, Hw, intsO, hfa])
  simp [R38_0, R38_1, R38_2, R38_3, R38_4, R38_5, R38_6, R38_7, R38_8, R38_9, Try.f38, lpL38_0, lpM38_0, fldV, o1]
  generalize hr2 : loopRun _ _ _ _ = res
  obtain ⟨s1, rfl, fr, fo, Hr, Ho, Hw⟩ := loop_at hL hr2 ⟨by simp, by simp, by simp, by simp, by simp, by simp, by simp, by simp, by simp [fillL_zero, intsO]⟩
  simp [intsO] at Hw
  simp [R38_0, R38_1, R38_2, R38_3, R38_4, R38_5, R38_6, R38_7, R38_8, R38_9, Try.f38, lpL38_0, lpM38_0, M38_0, fr, fo, Hr, Ho, Hw, hz, ownV, intsO]
def clG (lo hi x : Int) : Int := if lo > (if hi < x then hi else x) then lo else (if hi < x then hi else x)
def clB (lo hi : Int) : Bool := decide (lo ≤ hi) && ((decide (-9000 ≤ lo) && decide (lo ≤ 9000)) && (decide (-9000 ≤ hi) && decide (hi ≤ 9000)))
def abG (x : Int) : Int := if x > -x then x else -x

end Go.Proofs.Ytfcnlfjenialdaa.Eng
namespace Go.Proofs.Ytfcnlfjenialdaa.Eng
open Go Go.Proofs
set_option maxRecDepth 100000
set_option maxHeartbeats 2000000
set_option linter.unusedSimpArgs false
set_option linter.unusedVariables false
attribute [local simp] finK fin1 hpOf xi renQ isRoot runCode runOps stepX inlOf Eng.step wantedV astep val ofO made loadV storeV find V.cells bin binT binA numT numFs eqCells un1 setAt fieldAddrV fieldV indexAddrV indexV bounds sliceV convV lenV foldV max2V min2V callO bor rdsO wrsO seen_none okD_none loops keepIds resV resultsV St.ev TK.agg refs refsL refsO V.one V.isC Value.oneCell' ren renL renO noTag noTagL noTagR noTagO nodup mapO passV frs psi refsR newD loopNext opsAt idx flatAt rootOf backR newsV appendV copyV clearV strV bytesV bldV bufV selfV bytesOf nilCmp buildV fillF chunk freeL frzW cellSame sameV
attribute [local simp] cT cF cX cWR cOW cK cBL X ints_length ints_get ints_getElem ints_drop ints_take ints_append ints_nil ints_set
attribute [local simp] ints_replicate
attribute [local simp] putV_some putV_none putH_app applyD_nil applyD_cons seen_app gc_ρ gc_H gc_tick st0_ρ st0_H st0_tick retV callRo callV_if borL_nil borL_cons ints_snoc take_self callWr cutH_app findQ afterV exportV_0 exportV_n okD_nil okD_cons sub_seq0 sub_seq1 sub_cond0 sub_cond1 sub_block sub_loop sub_nil young_far young_none hidW_nil mayW_nil keepsF_nil keepsF_cons pairs okI ok_0 ok_1 ok_2
attribute [local simp] T3 T4 T22 T23 T26 T28 T31 T33 T43 T48 T50 T70 T73 T75 T78 T82 T85
attribute [local simp] young_near clo cloF Region.binds Nat.testBit hidW declW mayW
theorem borB (H : Hp) (l : List V) (h : mapO (bor H 3) l = some l) : bor H 4 (.bx true l) = some (.bx true l) := rfl
theorem c_Exceeds1 (k : Nat) (x lim : Int) (hk : 1 ≤ k) : callK C k 59 [.c (.int .i64 x), .bx true [.c (.int .i64 lim)]] [] = some (.c (.int .i64 (exG lim x)), hpOf [] []) := by
  obtain ⟨k, rfl⟩ : ∃ m, k = m + 1 := ⟨k - 1, by omega⟩
  rw [callK_fn rfl F59 code59]
  unfold exG
  by_cases h : lim < x <;> simp [R59_0, R59_1, R59_2, R59_3, Try.f59, h]
theorem good_chg {g : Int → Int} {w h : Int} {l : List Int} (hg : goodB w h l = true) (hc : ∀ x, cellB x = true → x ≠ -9999 → cellB (g x) = true) : goodB w h (chgM g l) = true := by
  obtain ⟨s1, n1, cl1, k1⟩ := good_length hg
  unfold goodB
  rw [s1, chgM_length]
  simp only [Bool.true_and, Bool.and_eq_true, beq_iff_eq]
  refine ⟨n1, ?_⟩
  rw [List.all_eq_true] at cl1 ⊢
  intro x hx
  obtain ⟨y, hy, rfl⟩ := List.mem_map.1 hx
  by_cases e : y = -9999
  · rw [if_pos e]; exact cl1 y hy
  · rw [if_neg e]; exact hc y (cl1 y hy) e
theorem cellB_iff (x : Int) : cellB x = true ↔ x = -9999 ∨ (-9000 ≤ x ∧ x ≤ 9000) := by
  simp [cellB]
theorem ex_cell (lim x : Int) (_ : cellB x = true) (_ : x ≠ -9999) : cellB (exG lim x) = true := by
  rw [cellB_iff]
  unfold exG
  split <;> omega
theorem c_implExceeds (k : Nat) (b : Bool) (w h : Int) (l : List Int) (lim : Int) (hk : 700 ≤ k) : callK C k 47 [fldV b w h l, .c (.int .i64 lim)] [] = optV (goodB w h l) w h (chgM (exG lim) l) := by
  obtain ⟨k, rfl⟩ : ∃ m, k = m + 20 := ⟨k - 20, by omega⟩
  rw [callK_fn rfl F47 code47]
  cases hg : goodB w h l
  · have hc := c_changedNo (k + 19) b 59 [.bx true [.c (.int .i64 lim)]] w h l ⟨rfl, rfl⟩ (fun H => rfl) hg (by omega)
    simp [fldV, nilV] at hc
    simp [R47_0, R47_1, Try.f47, fldV, hc, optV, nilV]
  · have hc := c_changed (k + 10) b 59 [.bx true [.c (.int .i64 lim)]] w h l (exG lim) ⟨rfl, rfl⟩ (fun H => rfl) (fun x hx hm => c_Exceeds1 (k + 18) x lim (by omega)) hg (by omega)
    rw [good_chg hg (ex_cell lim)] at hc
    have hz := chgM_length (exG lim) l
    simp [fldV, optV, ownV, intsO] at hc
    simp [R47_0, R47_1, Try.f47, fldV, hc, optV, ownV, intsO, hz]
theorem cl_cell (lo hi x : Int) (hc : clB lo hi = true) (_ : cellB x = true) (_ : x ≠ -9999) : cellB (clG lo hi x) = true := by
  simp only [clB, Bool.and_eq_true, decide_eq_true_eq] at hc
  rw [cellB_iff]
  unfold clG
  split <;> split <;> omega
theorem ab_cell (x : Int) (hx : cellB x = true) (hm : x ≠ -9999) : cellB (abG x) = true := by
  rw [cellB_iff] at hx ⊢
  unfold abG
  split <;> omega

end Go.Proofs.Ytfcnlfjenialdaa.Eng
namespace Go.Proofs.Ytfcnlfjenialdaa.Eng
open Go Go.Proofs
set_option maxRecDepth 100000
set_option maxHeartbeats 2000000
set_option linter.unusedSimpArgs false
set_option linter.unusedVariables false
/-- What a node comes to, given the values on the stack (the lowest one ahead). -/
def valN (w h : Int) (Fs : List Fd) (p : Int × Int) (A : List (List Int)) : Option (List Int) :=
  if p.1 = 1 then (Fs[p.2.toNat]?).map Fd.l
  else if p.1 = 2 then some (List.replicate (w * h).toNat p.2)
  else if p.1 = 7 then some (chgM (exG p.2) (A.getD (A.length - 1) []))
  else if goodB w h (List.zipWith (combG (p.1 - 2)) (A.getD (A.length - 2) []) (A.getD (A.length - 1) [])) then some (List.zipWith (combG (p.1 - 2)) (A.getD (A.length - 2) []) (A.getD (A.length - 1) [])) else none
/-- The values on the stack behind n nodes. -/
def evA (w h : Int) (Fs : List Fd) (l : List (Int × Int)) : Nat → Option (List (List Int))
  | 0 => some []
  | n + 1 => (evA w h Fs l n).bind fun A => (valN w h Fs (l.getD n (0, 0)) A).map fun z => A.take (A.length - (arI (l.getD n (0, 0))).toNat) ++ [z]
theorem evA_succ (w h : Int) (Fs : List Fd) (l : List (Int × Int)) (n : Nat) : evA w h Fs l (n + 1) = (evA w h Fs l n).bind fun A => (valN w h Fs (l.getD n (0, 0)) A).map fun z => A.take (A.length - (arI (l.getD n (0, 0))).toNat) ++ [z] := rfl
theorem arI_0 {p : Int × Int} (h : arI p = 0) : (p.1 = 1 ∧ 0 ≤ p.2 ∧ p.2 ≤ 3) ∨ (p.1 = 2 ∧ 0 ≤ p.2 ∧ p.2 ≤ 9000) := by
  unfold arI at h
  split at h
  · assumption
  · split at h
    · omega
    · split at h <;> omega
theorem arI_1 {p : Int × Int} (h : arI p = 1) : p.1 = 7 ∧ 0 ≤ p.2 ∧ p.2 ≤ 9000 := by
  unfold arI at h
  split at h
  · omega
  · split at h
    · omega
    · split at h
      · assumption
      · omega
theorem arI_2 {p : Int × Int} (h : arI p = 2) : 3 ≤ p.1 ∧ p.1 ≤ 6 ∧ p.2 = 0 := by
  unfold arI at h
  split at h
  · omega
  · split at h
    · rename_i h1; exact ⟨h1.1.1, h1.1.2, h1.2⟩
    · split at h <;> omega
theorem good_repl {w h v : Int} (hs : shapeB w h = true) (h0 : 0 ≤ v) (h1 : v ≤ 9000) : goodB w h (List.replicate (w * h).toNat v) = true := by
  have := shape_area hs
  unfold goodB
  rw [hs]
  simp only [Bool.true_and, Bool.and_eq_true, beq_iff_eq, List.length_replicate, List.all_eq_true]
  refine ⟨by omega, fun x hx => ?_⟩
  rw [List.eq_of_mem_replicate hx]
  simp [cellB]
  omega
theorem good_shape {w h : Int} {l : List Int} (h' : goodB w h l = true) : shapeB w h = true := by
  unfold goodB at h'
  simp only [Bool.and_eq_true] at h'
  exact h'.1
theorem getD_mem {A : List (List Int)} {i : Nat} (h : i < A.length) : A.getD i [] ∈ A := by
  rw [List.getD_eq_getElem?_getD, List.getElem?_eq_getElem h]
  exact List.getElem_mem h
theorem valN_good {w h : Int} {Fs : List Fd} {p : Int × Int} {A : List (List Int)} {z : List Int} (hs : shapeB w h = true) (hF : ∀ q ∈ Fs, goodB w h q.l = true) (hA : ∀ x ∈ A, goodB w h x = true) (ha : 0 ≤ arI p) (hl : (arI p).toNat ≤ A.length) (hz : valN w h Fs p A = some z) : goodB w h z = true := by
  unfold valN at hz
  split at hz
  · obtain ⟨q, hq, rfl⟩ := Option.map_eq_some_iff.1 hz
    exact hF q (List.mem_of_getElem? hq)
  rename_i n1
  split at hz
  · rename_i e2
    cases hz
    rcases ar_cases p with e | e | e | e
    · have := arI_0 e; exact good_repl hs (by omega) (by omega)
    · have := arI_1 e; omega
    · have := arI_2 e; omega
    · omega
  rename_i n2
  split at hz
  · rename_i e7
    cases hz
    rcases ar_cases p with e | e | e | e
    · have := arI_0 e; omega
    · rw [e] at hl
      exact good_chg (hA _ (getD_mem (by simp at hl; omega))) (ex_cell p.2)
    · have := arI_2 e; omega
    · omega
  · split at hz
    · rename_i hg; cases hz; exact hg
    · cases hz
theorem evA_ok {w h : Int} {Fs : List Fd} {l : List (Int × Int)} (hs : shapeB w h = true) (hF : ∀ q ∈ Fs, goodB w h q.l = true) : ∀ (n : Nat) (A : List (List Int)), 0 ≤ runO l n → evA w h Fs l n = some A → (A.length : Int) = runO l n ∧ ∀ x ∈ A, goodB w h x = true
  | 0, A, _, h => by cases h; simp [runO]
  | n + 1, A, hr, h => by
    obtain ⟨h1, h2, h3, h4⟩ := runO_back hr
    unfold evA at h
    obtain ⟨B, hB, h⟩ := Option.bind_eq_some_iff.1 h
    obtain ⟨z, hz, rfl⟩ := Option.map_eq_some_iff.1 h
    obtain ⟨i1, i2⟩ := evA_ok hs hF n B h1 hB
    refine ⟨?_, fun x hx => ?_⟩
    · rw [h4]
      simp only [List.length_append, List.length_take, List.length_cons, List.length_nil]
      omega
    · rcases List.mem_append.1 hx with hx | hx
      · exact i2 x (List.mem_of_mem_take hx)
      · rw [List.mem_singleton.1 hx]
        exact valN_good hs hF i2 h2 (by omega) hz
/-- What a whole expression comes to. -/
def evV (w h : Int) (Fs : List Fd) (l : List (Int × Int)) : Option (List Int) := (evA w h Fs l l.length).map fun A => A.headD []
def resF (w h : Int) (r : Option (List Int)) : Option (V × Hp) := match r with
  | some z => some (.tp [ownV w h 0 2 z.length, .c (.bool true)], hpOf [] [intsO z])
  | none => some (.tp [nilV, .c (.bool false)], hpOf [] [])

end Go.Proofs.Ytfcnlfjenialdaa.Eng
namespace Go.Proofs.Ytfcnlfjenialdaa.Eng
open Go Go.Proofs
set_option maxRecDepth 100000
set_option maxHeartbeats 2000000
set_option linter.unusedSimpArgs false
set_option linter.unusedVariables false
attribute [local simp] finK fin1 hpOf xi renQ isRoot runCode runOps stepX inlOf Eng.step wantedV astep val ofO made loadV storeV find V.cells bin binT binA numT numFs eqCells un1 setAt fieldAddrV fieldV indexAddrV indexV bounds sliceV convV lenV foldV max2V min2V callO bor rdsO wrsO seen_none okD_none loops keepIds resV resultsV St.ev TK.agg refs refsL refsO V.one V.isC Value.oneCell' ren renL renO noTag noTagL noTagR noTagO nodup mapO passV frs psi refsR newD loopNext opsAt idx flatAt rootOf backR newsV appendV copyV clearV strV bytesV bldV bufV selfV bytesOf nilCmp buildV fillF chunk freeL frzW cellSame sameV
attribute [local simp] cT cF cX cWR cOW cK cBL X ints_length ints_get ints_getElem ints_drop ints_take ints_append ints_nil ints_set
attribute [local simp] ints_replicate
attribute [local simp] putV_some putV_none putH_app applyD_nil applyD_cons seen_app gc_ρ gc_H gc_tick st0_ρ st0_H st0_tick retV callRo callV_if borL_nil borL_cons ints_snoc take_self callWr cutH_app findQ afterV exportV_0 exportV_n okD_nil okD_cons sub_seq0 sub_seq1 sub_cond0 sub_cond1 sub_block sub_loop sub_nil young_far young_none hidW_nil mayW_nil keepsF_nil keepsF_cons pairs okI ok_0 ok_1 ok_2
attribute [local simp] T3 T4 T22 T23 T26 T28 T31 T33 T43 T48 T50 T70 T73 T75 T78 T82 T85
attribute [local simp] young_near clo cloF Region.binds Nat.testBit hidW declW mayW List.findIdx?_cons
def lenF (Fs : List Fd) : Nat := (Fs.map fun q => q.l.length).sum
theorem lenF_take (p : List Fd) (i : Nat) (h : i < p.length) : lenF (p.take (i + 1)) = lenF (p.take i) + p[i].l.length := by
  unfold lenF
  rw [List.take_succ_eq_append_getElem h, List.map_append, List.sum_append]
  simp
theorem lenF_take_le (p : List Fd) (i : Nat) : lenF (p.take i) ≤ lenF p := by
  have h : lenF p = lenF (p.take i) + lenF (p.drop i) := by
    unfold lenF
    rw [← List.sum_append, ← List.map_append, List.take_append_drop]
  omega
theorem lenF_mem {p : List Fd} {q : Fd} (h : q ∈ p) : q.l.length ≤ lenF p := by
  obtain ⟨i, hi, rfl⟩ := List.getElem_of_mem h
  have h1 := lenF_take p i hi
  have h2 := lenF_take_le p (i + 1)
  omega
theorem fd_get (p : List Fd) (i : Nat) (h : i < p.length) : (p.map Fd.cells)[i]? = some p[i].cells := by simp [h]
theorem c_szFieldS (k : Nat) (b : Bool) (p : List Fd) (n : Int) (hn0 : 0 ≤ n) (hn1 : n ≤ 1048576) (hp : p.length ≤ 9223372036854775807) (hs : ∀ q ∈ p, q.l.length ≤ 9223372036854775807) (hk : p.length + 10 ≤ k) :
    callK C k 5 [.sq b false 3 (p.map Fd.cells), .c (.int .i64 n)] [] = some (.c (.int .i64 (if ((p.length + lenF p : Nat) : Int) ≤ n then n - (p.length : Int) - (lenF p : Int) else -1)), hpOf [] []) := by
  obtain ⟨k, rfl⟩ : ∃ m, k = m + 4 := ⟨k - 4, by omega⟩
  rw [callK_fn rfl F5 code5]
  have w0 : IntKind.i64.wrap (n - (p.length : Int)) = n - (p.length : Int) := wrap_small (by omega) (by omega)
  by_cases h0 : n - (p.length : Int) < 0
  · have h0' : ¬ ((p.length + lenF p : Nat) : Int) ≤ n := by omega
    rw [if_neg h0']
    simp [R5_0, R5_1, R5_2, R5_3, R5_4, R5_5, R5_6, R5_7, R5_8, R5_9, R5_10, Try.f5, lpL5_0, lpM5_0, M5_0, w0, h0]
  · by_cases hg : ((p.length + lenF p : Nat) : Int) ≤ n
    · have hL := loopHas (body := fun st => runCode C (callK C (k + 3)) (k + 3) (K 5) L5_0 1 st) (keep := [0, 1, 5]) (.ex 0) (fun st => st.ρ 1 = .c (.int .i64 (n - (p.length : Int) - (lenF p : Int))))
        (fun i st => st.ρ 0 = .sq b false 3 (p.map Fd.cells) ∧ st.ρ 1 = .c (.int .i64 (n - (p.length : Int) - (lenF (p.take i) : Int))) ∧ st.ρ 5 = .c (.int .i64 (i : Int)))
        p.length (k + 3) (by omega)
        (by
          rintro i st next hi ⟨q0, q1, q5⟩ hx
          have h1 := lenF_take p i hi
          have h2 := lenF_take_le p (i + 1)
          have z := c_szField (k + 3) p[i].b p[i].w p[i].h p[i].l (n - (p.length : Int) - (lenF (p.take i) : Int)) (by omega) (by omega) (by omega)
          have g1 : ¬ n - (p.length : Int) - (lenF (p.take i) : Int) - (p[i].l.length : Int) < 0 := by omega
          rw [if_neg g1] at z
          have e1 : n - (p.length : Int) - (lenF (p.take i) : Int) - (p[i].l.length : Int) = n - (p.length : Int) - (lenF (p.take (i + 1)) : Int) := by omega
          rw [e1] at z g1
          simp [lfldV] at z
          have hgi := fd_get p i hi
          simp [L5_0, R5_0, R5_1, R5_2, R5_3, R5_4, R5_5, R5_6, R5_7, R5_8, R5_9, R5_10, Try.f5, lpL5_0, lpM5_0, M5_0, q0, q1, q5, hi, hgi, Fd.cells, z, g1, wrap_next hi (by omega : p.length ≤ 9000000000000000000)]
          exact hx _ ⟨by simp [q0, Fd.cells], by simp, by simp⟩)
        (by
          rintro st next ⟨q0, q1, q5⟩
          rw [List.take_length] at q1
          simp [L5_0, R5_0, R5_1, R5_2, R5_3, R5_4, R5_5, R5_6, R5_7, R5_8, R5_9, R5_10, Try.f5, lpL5_0, lpM5_0, M5_0, q0, q1, q5])
      rw [if_pos hg]
      simp [R5_0, R5_1, R5_2, R5_3, R5_4, R5_5, R5_6, R5_7, R5_8, R5_9, R5_10, Try.f5, lpL5_0, lpM5_0, w0, h0]
      generalize hr : loopRun _ _ _ _ = res
      obtain ⟨s1, rfl, f1⟩ := loop_at hL hr ⟨by simp, by simp [lenF], by simp⟩
      simp [R5_0, R5_1, R5_2, R5_3, R5_4, R5_5, R5_6, R5_7, R5_8, R5_9, R5_10, Try.f5, lpL5_0, lpM5_0, M5_0, f1]
    · have hL := loopHas (body := fun st => runCode C (callK C (k + 3)) (k + 3) (K 5) L5_0 1 st) (keep := [0, 1, 5]) .ret (fun st => st.ρ 4 = .c (.int .i64 (-1)))
        (fun i st => st.ρ 0 = .sq b false 3 (p.map Fd.cells) ∧ st.ρ 1 = .c (.int .i64 (n - (p.length : Int) - (lenF (p.take i) : Int))) ∧ st.ρ 5 = .c (.int .i64 (i : Int)) ∧ ((p.length + lenF (p.take i) : Nat) : Int) ≤ n)
        p.length (k + 3) (by omega)
        (by
          rintro i st next hi ⟨q0, q1, q5, hle⟩ hx
          have h1 := lenF_take p i hi
          have h3 := hs _ (List.getElem_mem hi)
          have z := c_szField (k + 3) p[i].b p[i].w p[i].h p[i].l (n - (p.length : Int) - (lenF (p.take i) : Int)) (by omega) (by omega) (by omega)
          have e1 : n - (p.length : Int) - (lenF (p.take i) : Int) - (p[i].l.length : Int) = n - (p.length : Int) - (lenF (p.take (i + 1)) : Int) := by omega
          rw [e1] at z
          have hgi := fd_get p i hi
          by_cases g1 : n - (p.length : Int) - (lenF (p.take (i + 1)) : Int) < 0
          · rw [if_pos g1] at z
            simp [lfldV] at z
            simp [L5_0, R5_0, R5_1, R5_2, R5_3, R5_4, R5_5, R5_6, R5_7, R5_8, R5_9, R5_10, Try.f5, lpL5_0, lpM5_0, M5_0, q0, q1, q5, hi, hgi, Fd.cells, z]
          · rw [if_neg g1] at z
            simp [lfldV] at z
            simp [L5_0, R5_0, R5_1, R5_2, R5_3, R5_4, R5_5, R5_6, R5_7, R5_8, R5_9, R5_10, Try.f5, lpL5_0, lpM5_0, M5_0, q0, q1, q5, hi, hgi, Fd.cells, z, g1, wrap_next hi (by omega : p.length ≤ 9000000000000000000)]
            exact hx _ ⟨by simp [q0, Fd.cells], by simp, by simp, by omega⟩)
        (by
          rintro st next ⟨q0, q1, q5, hle⟩
          rw [List.take_length] at hle
          exact absurd hle hg)
      rw [if_neg hg]
      simp [R5_0, R5_1, R5_2, R5_3, R5_4, R5_5, R5_6, R5_7, R5_8, R5_9, R5_10, Try.f5, lpL5_0, lpM5_0, w0, h0]
      generalize hr : loopRun _ _ _ _ = res
      obtain ⟨s1, rfl, f4⟩ := loop_at hL hr ⟨by simp, by simp [lenF], by simp, by simp [lenF]; omega⟩
      simp [R5_0, R5_1, R5_2, R5_3, R5_4, R5_5, R5_6, R5_7, R5_8, R5_9, R5_10, Try.f5, lpL5_0, lpM5_0, M5_0, f4]
theorem c_eqFieldS (k : Nat) (b c : Bool) (p : List Fd) (hp : p.length ≤ 1048576) (hs : ∀ q ∈ p, q.b = true ∧ q.l.length ≤ 1048576) (hk : p.length + 1048676 ≤ k) :
    callK C k 12 [.sq b false 3 (p.map Fd.cells), .sq c false 3 (p.map Fd.cells)] [] = some (.c (.bool true), hpOf [] []) := by
  obtain ⟨k, rfl⟩ : ∃ m, k = m + 9 := ⟨k - 9, by omega⟩
  rw [callK_fn rfl F12 code12]
  have hL := loopHas (body := fun st => runCode C (callK C (k + 8)) (k + 8) (K 12) L12_0 1 st) (keep := [0, 1, 5]) (.ex 0) (fun st => st.ρ 0 = .sq b false 3 (p.map Fd.cells))
    (fun i st => st.ρ 0 = .sq b false 3 (p.map Fd.cells) ∧ st.ρ 1 = .sq c false 3 (p.map Fd.cells) ∧ st.ρ 5 = .c (.int .i64 (i : Int)))
    p.length (k + 8) (by omega)
    (by
      rintro i st next hi ⟨q0, q1, q5⟩ hx
      obtain ⟨b1, b2⟩ := hs _ (List.getElem_mem hi)
      have e := c_eqField (k + 8) true true p[i].w p[i].h p[i].w p[i].h p[i].l p[i].l b2 (by omega)
      simp [fldV] at e
      have hgi := fd_get p i hi
      simp [L12_0, R12_0, R12_1, R12_2, R12_3, R12_4, R12_5, R12_6, R12_7, R12_8, Try.f12, lpL12_0, lpM12_0, M12_0, q0, q1, q5, hi, hgi, Fd.cells, b1, e, wrap_next hi (by omega : p.length ≤ 9000000000000000000)]
      exact hx _ ⟨by simp [q0, Fd.cells], by simp [q1, Fd.cells], by simp⟩)
    (by
      rintro st next ⟨q0, q1, q5⟩
      simp [L12_0, R12_0, R12_1, R12_2, R12_3, R12_4, R12_5, R12_6, R12_7, R12_8, Try.f12, lpL12_0, lpM12_0, M12_0, q0, q1, q5])
  simp [R12_0, R12_1, R12_2, R12_3, R12_4, R12_5, R12_6, R12_7, R12_8, Try.f12, lpL12_0, lpM12_0]
  generalize hr : loopRun _ _ _ _ = res
  obtain ⟨s1, rfl, _⟩ := loop_at hL hr ⟨by simp, by simp, by simp⟩
  simp [R12_0, R12_1, R12_2, R12_3, R12_4, R12_5, R12_6, R12_7, R12_8, Try.f12, lpL12_0, lpM12_0, M12_0]
/-- Fields of one shape, one to four. -/
def alikeF (p : List Fd) : Bool := match p with
  | [] => false
  | q0 :: r => (q0 :: r).all (likeB q0) && decide (r.length ≤ 3)
theorem c_l5Fields (k : Nat) (b : Bool) (p : List Fd) (hp : p.length ≤ 1048576) (hk : p.length + 200 ≤ k) : callK C k 19 [.sq b false 3 (p.map Fd.cells)] [] = some (.c (.bool (alikeF p)), hpOf [] []) := by
  obtain ⟨k, rfl⟩ : ∃ m, k = m + 9 := ⟨k - 9, by omega⟩
  rw [callK_fn rfl F19 code19]
  cases p with
  | nil =>
    have hi := c_l1In (k + 8) 0 1 4 (by omega)
    simp [R19_0, R19_1, R19_2, R19_3, R19_4, R19_5, R19_6, Try.f19, lpL19_0, lpM19_0, M19_0, L19_0, loopRun_succ, hi, alikeF]
  | cons q0 r =>
    obtain ⟨p, hpe⟩ : ∃ p, q0 :: r = p := ⟨_, rfl⟩
    have h0 : (p.map Fd.cells)[0]? = some q0.cells := by rw [← hpe]; rfl
    have hl0 : 0 < p.length := by rw [← hpe]; simp
    have hp0 : p[0] = q0 := by subst hpe; rfl
    have hlr : p.length = r.length + 1 := by rw [← hpe]; simp
    rw [show alikeF (q0 :: r) = (p.all (likeB q0) && decide (r.length ≤ 3)) by rw [← hpe]; rfl]
    rw [hpe] at hk hp ⊢
    have hq0 : q0 ∈ p := by rw [← hpe]; simp
    have hall : p.all (likeB q0) = p.all (fun q => goodB q.w q.h q.l && (goodB q0.w q0.h q0.l && (q.w == q0.w && q.h == q0.h))) := by
      rw [Bool.eq_iff_iff]
      simp only [List.all_eq_true, likeB, Bool.and_eq_true]
      constructor
      · intro h q hq
        exact ⟨(h q hq).1, (h q0 hq0).1, (h q hq).2⟩
      · intro h q hq
        exact ⟨(h q hq).1, (h q hq).2.2⟩
    have hS := fun q : Fd => c_l2Same (k + 8) q.b q0.b q.w q.h q0.w q0.h q.l q0.l (by omega)
    simp only [fldV] at hS
    rw [hall]
    cases ha : p.all (fun q => goodB q.w q.h q.l && (goodB q0.w q0.h q0.l && (q.w == q0.w && q.h == q0.h)))
    · have hL := loopHas (body := fun st => runCode C (callK C (k + 8)) (k + 8) (K 19) L19_0 1 st) (keep := [0, 3]) .ret (fun st => st.ρ 2 = .c (.bool false))
        (fun i st => st.ρ 0 = .sq b false 3 (p.map Fd.cells) ∧ st.ρ 3 = .c (.int .i64 (i : Int)) ∧ (p.take i).all (fun q => goodB q.w q.h q.l && (goodB q0.w q0.h q0.l && (q.w == q0.w && q.h == q0.h))) = true)
        p.length (k + 8) (by omega)
        (by
          rintro i st next hi ⟨q00, q3, ht⟩ hx
          have ht' : (p.take (i + 1)).all (fun q => goodB q.w q.h q.l && (goodB q0.w q0.h q0.l && (q.w == q0.w && q.h == q0.h))) = (goodB p[i].w p[i].h p[i].l && (goodB q0.w q0.h q0.l && (p[i].w == q0.w && p[i].h == q0.h))) := by
            rw [List.take_succ_eq_append_getElem hi, List.all_append, ht]
            simp
          have hSi := hS p[i]
          have hgi := fd_get p i hi
          have hwn := wrap_next hi (by omega : p.length ≤ 9000000000000000000)
          cases hv : (goodB p[i].w p[i].h p[i].l && (goodB q0.w q0.h q0.l && (p[i].w == q0.w && p[i].h == q0.h)))
          · rw [hv] at hSi
            simp [L19_0, R19_0, R19_1, R19_2, R19_3, R19_4, R19_5, R19_6, Try.f19, lpL19_0, lpM19_0, M19_0, q00, q3, hi, hgi, h0, hl0, hp0, Fd.cells, hSi]
          · rw [hv] at hSi ht'
            simp [L19_0, R19_0, R19_1, R19_2, R19_3, R19_4, R19_5, R19_6, Try.f19, lpL19_0, lpM19_0, M19_0, q00, q3, hi, hgi, h0, hl0, hp0, Fd.cells, hSi, hwn]
            exact hx _ ⟨by simp [q00, Fd.cells], by simp, ht'⟩)
        (by
          rintro st next ⟨q00, q3, ht⟩
          rw [List.take_length, ha] at ht
          cases ht)
      simp [R19_0, R19_1, R19_2, R19_3, R19_4, R19_5, R19_6, Try.f19, lpL19_0, lpM19_0]
      generalize hr : loopRun _ _ _ _ = res
      obtain ⟨s1, rfl, f2⟩ := loop_at hL hr ⟨by simp, by simp, by simp⟩
      simp [R19_0, R19_1, R19_2, R19_3, R19_4, R19_5, R19_6, Try.f19, lpL19_0, lpM19_0, M19_0, f2]
    · have hL := loopHas (body := fun st => runCode C (callK C (k + 8)) (k + 8) (K 19) L19_0 1 st) (keep := [0, 3]) (.ex 0) (fun st => st.ρ 0 = .sq b false 3 (p.map Fd.cells))
        (fun i st => st.ρ 0 = .sq b false 3 (p.map Fd.cells) ∧ st.ρ 3 = .c (.int .i64 (i : Int)))
        p.length (k + 8) (by omega)
        (by
          rintro i st next hi ⟨q00, q3⟩ hx
          have hSi := hS p[i]
          rw [List.all_eq_true.1 ha _ (List.getElem_mem hi)] at hSi
          have hgi := fd_get p i hi
          have hwn := wrap_next hi (by omega : p.length ≤ 9000000000000000000)
          simp [L19_0, R19_0, R19_1, R19_2, R19_3, R19_4, R19_5, R19_6, Try.f19, lpL19_0, lpM19_0, M19_0, q00, q3, hi, hgi, h0, hl0, hp0, Fd.cells, hSi, hwn]
          exact hx _ ⟨by simp [q00, Fd.cells], by simp⟩)
        (by
          rintro st next ⟨q00, q3⟩
          simp [L19_0, R19_0, R19_1, R19_2, R19_3, R19_4, R19_5, R19_6, Try.f19, lpL19_0, lpM19_0, M19_0, q00, q3])
      have hi := c_l1In (k + 8) (p.length : Int) 1 4 (by omega)
      have hle : (decide (1 ≤ (p.length : Int)) && decide ((p.length : Int) ≤ 4)) = decide (r.length ≤ 3) := by
        rw [Bool.eq_iff_iff]
        simp only [Bool.and_eq_true, decide_eq_true_eq]
        omega
      rw [hle] at hi
      simp [R19_0, R19_1, R19_2, R19_3, R19_4, R19_5, R19_6, Try.f19, lpL19_0, lpM19_0]
      generalize hr : loopRun _ _ _ _ = res
      obtain ⟨s1, rfl, f0⟩ := loop_at hL hr ⟨by simp, by simp⟩
      simp [R19_0, R19_1, R19_2, R19_3, R19_4, R19_5, R19_6, Try.f19, lpL19_0, lpM19_0, M19_0, f0, hi]

end Go.Proofs.Ytfcnlfjenialdaa.Eng
namespace Go.Proofs.Ytfcnlfjenialdaa.Eng
open Go Go.Proofs
set_option maxRecDepth 100000
set_option maxHeartbeats 2000000
set_option linter.unusedSimpArgs false
set_option linter.unusedVariables false
attribute [local simp] finK fin1 hpOf xi renQ isRoot runCode runOps stepX inlOf Eng.step wantedV astep val ofO made loadV storeV find V.cells bin binT binA numT numFs eqCells un1 setAt fieldAddrV fieldV indexAddrV indexV bounds sliceV convV lenV foldV max2V min2V callO bor rdsO wrsO seen_none okD_none loops keepIds resV resultsV St.ev TK.agg refs refsL refsO V.one V.isC Value.oneCell' ren renL renO noTag noTagL noTagR noTagO nodup mapO passV frs psi refsR newD loopNext opsAt idx flatAt rootOf backR newsV appendV copyV clearV strV bytesV bldV bufV selfV bytesOf nilCmp buildV fillF chunk freeL frzW cellSame sameV
attribute [local simp] cT cF cX cWR cOW cK cBL X ints_length ints_get ints_getElem ints_drop ints_take ints_append ints_nil ints_set
attribute [local simp] ints_replicate
attribute [local simp] putV_some putV_none putH_app applyD_nil applyD_cons seen_app gc_ρ gc_H gc_tick st0_ρ st0_H st0_tick retV callRo callV_if borL_nil borL_cons ints_snoc take_self callWr cutH_app findQ afterV exportV_0 exportV_n okD_nil okD_cons sub_seq0 sub_seq1 sub_cond0 sub_cond1 sub_block sub_loop sub_nil young_far young_none hidW_nil mayW_nil keepsF_nil keepsF_cons pairs okI ok_0 ok_1 ok_2
attribute [local simp] T3 T4 T22 T23 T26 T28 T31 T33 T43 T48 T50 T70 T73 T75 T78 T82 T85
attribute [local simp] young_near clo cloF Region.binds Nat.testBit hidW declW mayW List.findIdx?_cons
/-- All that is made before a tick has a number below this one. -/
def Bt (t : Nat) : Nat := 4294967296 * t
theorem gc_all (l : List Nat) (st : St) (h : l.contains 999 = true) : (gc l st).H = st.H := by
  funext id
  simp only [Eng.gc, h, Bool.or_true, if_true]
theorem FR_lo (r t c : Nat) : Bt t ≤ 16 * (FR r t * 64 + c) := by
  rw [FR_eq]
  unfold Bt
  omega
theorem FR_hi (r t c : Nat) (h : r * 64 + c < 1000000) : 16 * (FR r t * 64 + c) + 8 < Bt (t + 1) := by
  rw [FR_eq]
  unfold Bt
  omega
theorem Bt_mono {a b : Nat} (h : a ≤ b) : Bt a ≤ Bt b := by
  unfold Bt
  omega
theorem Bt_big : 100000 ≤ Bt 1 := by decide
theorem young_big (rid : Nat) (ops : List Oper) (j id : Nat) (hr : rid < 1000) (h : Bt 1 ≤ id) : youngOf (some (rid, [])) ops j id = false := by
  have h1 : ¬ id / 16 ≤ rid * 64 + 64 := by
    unfold Bt at h
    omega
  simp [youngOf, h1, hidW]
theorem callI_fn {C : Cfg} {k : Nat} {f : FuncId} {args : List V} {H : Hp} {tick : Nat} {fn : Func} {code : Code} (hf : C.fn f = some fn) (hb : fn.body = some code) :
    (callK C (k + 1)).inl f args H tick = finI C.T fn.results.toList (runCode C (callK C k) k (C.keep f) code 0 { ρ := fun x => args.getD x (.c undef), H := H, tick := tick }) := by
  simp only [callK, hf, hb]
theorem loop_at2 {LP : St → Option (Ex × St)} {I : St → Prop} {Q : St → St → Prop} {e : Ex} {st1 : St} {res : Option (Ex × St)} (hL : ∀ st, I st → ∃ s, LP st = some (e, s) ∧ Q st s) (hr : LP st1 = res) (h : I st1) : ∃ s, res = some (e, s) ∧ Q st1 s := by
  obtain ⟨s, h1, h2⟩ := hL st1 h
  exact ⟨s, by rw [← hr, h1], h2⟩
theorem bor_c (H : Hp) (n : Nat) (v : Value) : Eng.bor H (n + 1) (.c v) = some (.c v) := by simp [Eng.bor]
theorem bor_sq (H : Hp) (n : Nat) (b fl : Bool) (sz : Nat) (l : List (List V)) : Eng.bor H (n + 1) (.sq b fl sz l) = some (.sq b fl sz l) := by simp [Eng.bor]
/-- Fields of one's own: width, height, where the cells lie, the cells. -/
structure Fo where
  w : Int
  h : Int
  id : Nat
  vr : Nat
  l : List Int
def Fo.row (q : Fo) : List V := [.c (.int .i64 q.w), .c (.int .i64 q.h), .s q.id q.vr 1 0 q.l.length]
def Fo.fd (q : Fo) : Fd := ⟨true, q.w, q.h, q.l⟩
def flO (P : List Fo) : Eng.Obj := ⟨28, 3, false, P.map Fo.row⟩
def Has (H : Hp) (P : List Fo) (lo hi : Nat) : Prop := ∀ q ∈ P, H q.id = some (q.vr, intsO q.l) ∧ lo ≤ q.id ∧ q.id < hi
theorem Has.keep {H H' : Hp} {P : List Fo} {lo hi lo' hi' : Nat} (h : Has H P lo hi) (hk : ∀ id, lo ≤ id → id < hi → id ∈ P.map Fo.id → H' id = H id) (h1 : lo' ≤ lo) (h2 : hi ≤ hi') : Has H' P lo' hi' := by
  intro q hq
  obtain ⟨a, b, c⟩ := h q hq
  exact ⟨by rw [hk _ b c (List.mem_map_of_mem hq)]; exact a, by omega, by omega⟩
theorem Has.borE {H : Hp} {P : List Fo} {lo hi : Nat} (h : Has H P lo hi) (n : Nat) : mapO (mapO (Eng.bor H (n + 1))) (P.map Fo.row) = some ((P.map Fo.fd).map Fd.cells) := by
  induction P with
  | nil => rfl
  | cons q r ih =>
    have hq := (h q (by simp)).1
    have e : Eng.bor H (n + 1) (.s q.id q.vr 1 0 q.l.length) = some (.sq true true 1 (ints q.l)) := by
      simp [Eng.bor, find, hq, intsO, ints_take]
    have ih' := ih fun x hx => h x (List.mem_cons_of_mem _ hx)
    simp only [List.map_cons, mapO, Fo.row, bor_c, e] at ih' ⊢
    rw [ih']
    rfl
theorem bor_fl {H : Hp} {P : List Fo} {lo hi : Nat} (h : Has H P lo hi) {id vr : Nat} (hH : H id = some (vr, flO P)) (n : Nat) : Eng.bor H (n + 2) (.s id vr 3 0 P.length) = some (.sq true false 3 ((P.map Fo.fd).map Fd.cells)) := by
  have hm := h.borE n
  have hl : (P.map Fo.row).length = P.length := by simp
  have ht : (P.map Fo.row).take P.length = P.map Fo.row := by rw [← hl]; exact List.take_length
  have hf : find H id vr = some (flO P) := by simp [find, hH]
  unfold Eng.bor
  simp only [hf, flO, hl, ht, List.drop_zero, Nat.zero_add, Nat.le_refl, and_self, if_true, Bool.false_eq_true, if_false, hm]
theorem refs_rows (P : List Fo) : (P.map Fo.row).flatMap refsL = P.map fun q => (q.id, q.vr) := by
  induction P with
  | nil => rfl
  | cons q r ih => simp [Fo.row, refsL, refs, ih]
theorem okF (ty : TypeId) (P : List Fo) : okObj ⟨ty, 3, false, P.map Fo.row⟩ = true := by
  simp [okObj, Fo.row, V.one, Value.oneCell']

end Go.Proofs.Ytfcnlfjenialdaa.Eng
namespace Go.Proofs.Ytfcnlfjenialdaa.Eng
open Go Go.Proofs
set_option maxRecDepth 100000
set_option maxHeartbeats 2000000
set_option linter.unusedSimpArgs false
set_option linter.unusedVariables false
attribute [local simp] finK fin1 hpOf xi renQ isRoot runCode runOps stepX inlOf Eng.step wantedV astep val ofO made loadV storeV find V.cells bin binT binA numT numFs eqCells un1 setAt fieldAddrV fieldV indexAddrV indexV bounds sliceV convV lenV foldV max2V min2V callO bor rdsO wrsO seen_none okD_none loops keepIds resV resultsV St.ev TK.agg refs refsL refsO V.one V.isC Value.oneCell' ren renL renO noTag noTagL noTagR noTagO nodup mapO passV frs psi refsR newD loopNext opsAt idx flatAt rootOf backR newsV appendV copyV clearV strV bytesV bldV bufV selfV bytesOf nilCmp buildV fillF chunk freeL frzW cellSame sameV
attribute [local simp] cT cF cX cWR cOW cK cBL X ints_length ints_get ints_getElem ints_drop ints_take ints_append ints_nil ints_set
attribute [local simp] ints_replicate
attribute [local simp] putV_some putV_none putH_app applyD_nil applyD_cons seen_app gc_ρ gc_H gc_tick st0_ρ st0_H st0_tick retV callRo callV_if borL_nil borL_cons ints_snoc take_self callWr cutH_app findQ afterV exportV_0 exportV_n okD_nil okD_cons sub_seq0 sub_seq1 sub_cond0 sub_cond1 sub_block sub_loop sub_nil young_far young_none hidW_nil mayW_nil keepsF_nil keepsF_cons pairs okI ok_0 ok_1 ok_2
attribute [local simp] T3 T4 T22 T23 T26 T28 T31 T33 T43 T48 T50 T70 T73 T75 T78 T82 T85
def opG (op x y : Int) : Int := if op = 1 then x + y else if op = 2 then x - y else if op = 3 then (if x < y then x else y) else (if x > y then x else y)
def missB (x y : Int) : Bool := x == -9999 || y == -9999
def specG (op x y : Int) : Int := if missB x y then -9999 else opG op x y
def okE (op x y : Int) : Bool := missB x y || (decide (-9000 ≤ opG op x y) && decide (opG op x y ≤ 9000))
theorem opG_bound {op x y : Int} (hx : cellB x = true) (hy : cellB y = true) : -20000 ≤ opG op x y ∧ opG op x y ≤ 20000 := by
  have := cell_bound hx
  have := cell_bound hy
  unfold opG
  split <;> try split <;> try split <;> try split
  all_goals omega
theorem comb_ok {op x y : Int} (hx : cellB x = true) (hy : cellB y = true) : cellB (combG op x y) = okE op x y ∧ (okE op x y = true → combG op x y = specG op x y) := by
  have bx := hx
  have by' := hy
  simp only [cellB, Bool.or_eq_true, beq_iff_eq, Bool.and_eq_true, decide_eq_true_eq] at bx by'
  by_cases h : x = -9999
  · simp [combG, okE, specG, missB, h, cellB]
  by_cases h' : y = -9999
  · simp [combG, okE, specG, missB, h, h', cellB]
  have key : cellB (combG op x y) = (decide (-9000 ≤ opG op x y) && decide (opG op x y ≤ 9000)) ∧ ((decide (-9000 ≤ opG op x y) && decide (opG op x y ≤ 9000)) = true → combG op x y = opG op x y) := by
    rw [Bool.eq_iff_iff]
    simp only [cellB, Bool.or_eq_true, beq_iff_eq, Bool.and_eq_true, decide_eq_true_eq]
    simp only [combG, h, h', or_self, if_false, opG, ckI]
    split
    · split <;> omega
    split
    · split <;> omega
    split
    · split <;> split <;> omega
    · split <;> split <;> omega
  have e0 : okE op x y = (decide (-9000 ≤ opG op x y) && decide (opG op x y ≤ 9000)) := by
    have e1 : missB x y = false := by simp [missB, h, h']
    simp [okE, e1]
  refine ⟨by rw [e0]; exact key.1, fun ho => ?_⟩
  rw [key.2 (by rw [← e0]; exact ho)]
  simp [specG, missB, h, h']
def okL (op : Int) : List Int → List Int → Bool
  | x :: l, y :: m => okE op x y && okL op l m
  | _, _ => true
theorem okL_snoc (op : Int) : ∀ (l m : List Int) (x y : Int), l.length = m.length → okL op (l ++ [x]) (m ++ [y]) = (okL op l m && okE op x y)
  | [], [], x, y, _ => by simp [okL]
  | a :: l, b :: m, x, y, h => by
    simp only [List.cons_append, okL, okL_snoc op l m x y (by simpa using h), Bool.and_assoc]
theorem comb_all (op : Int) : ∀ (l m : List Int), l.length = m.length → l.all cellB = true → m.all cellB = true → (List.zipWith (combG op) l m).all cellB = okL op l m ∧ (okL op l m = true → List.zipWith (combG op) l m = List.zipWith (specG op) l m)
  | [], [], _, _, _ => by simp [okL]
  | x :: l, y :: m, h, hl, hm => by
    simp only [List.all_cons, Bool.and_eq_true] at hl hm
    obtain ⟨i1, i2⟩ := comb_all op l m (by simpa using h) hl.2 hm.2
    obtain ⟨c1, c2⟩ := comb_ok (op := op) hl.1 hm.1
    simp only [List.zipWith_cons_cons, List.all_cons, okL, i1, c1, true_and, Bool.and_eq_true]
    intro ⟨h1, h2⟩
    rw [c2 h1, i2 h2]
theorem c_l4Op (k : Nat) (op x y : Int) (hk : 2 ≤ k) (hx : cellB x = true) (hy : cellB y = true) : callK C k 51 [.c (.int .i64 op), .c (.int .i64 x), .c (.int .i64 y)] [] = some (.c (.int .i64 (opG op x y)), hpOf [] []) := by
  obtain ⟨k, rfl⟩ : ∃ m, k = m + 2 := ⟨k - 2, by omega⟩
  rw [callK_fn rfl F51 code51]
  have bx := cell_bound hx
  have by' := cell_bound hy
  have w1 : IntKind.i64.wrap (x + y) = x + y := wrap_small (by omega) (by omega)
  have w2 : IntKind.i64.wrap (x - y) = x - y := wrap_small (by omega) (by omega)
  have c1 := c_l1Most (k + 1) x y (by omega)
  have c2 := c_l1Least (k + 1) x y (by omega)
  unfold opG
  by_cases o1 : op = 1
  · simp [R51_0, R51_1, R51_2, R51_3, R51_4, R51_5, R51_6, R51_7, R51_8, Try.f51, o1, w1]
  have o1' : (op == 1) = false := by simpa using o1
  by_cases o2 : op = 2
  · simp [R51_0, R51_1, R51_2, R51_3, R51_4, R51_5, R51_6, R51_7, R51_8, Try.f51, o1, o1', o2, w2]
  have o2' : (op == 2) = false := by simpa using o2
  by_cases o3 : op = 3
  · simp [R51_0, R51_1, R51_2, R51_3, R51_4, R51_5, R51_6, R51_7, R51_8, Try.f51, o1, o1', o2, o2', o3, c2]
  have o3' : (op == 3) = false := by simpa using o3
  simp [R51_0, R51_1, R51_2, R51_3, R51_4, R51_5, R51_6, R51_7, R51_8, Try.f51, o1, o1', o2, o2', o3, o3', c1]
theorem c_l4Checked (k : Nat) (w h : Int) (l : List Int) (q : Bool) (hk : 210 ≤ k) : callK C k 52 [ownV w h 0 0 l.length, .c (.bool q)] [intsO l] = some (.tp [if (q && goodB w h l) = true then ownV w h 0 0 l.length else nilV, .c (.bool (q && goodB w h l))], hpOf [some (intsO l)] []) := by
  obtain ⟨k, rfl⟩ : ∃ m, k = m + 7 := ⟨k - 7, by omega⟩
  rw [callK_fn rfl F52 code52]
  have hv := c_l2Good (k + 6) true w h l (by omega)
  simp [fldV] at hv
  cases q
  · simp [R52_0, R52_1, R52_2, R52_3, Try.f52, ownV, nilV, intsO]
  cases hg : goodB w h l
  · simp [R52_0, R52_1, R52_2, R52_3, Try.f52, ownV, nilV, intsO, hv, hg]
  · simp [R52_0, R52_1, R52_2, R52_3, Try.f52, ownV, nilV, intsO, hv, hg]
theorem c_l4Combine (op : Int) (k : Nat) (b c : Bool) (w h : Int) (l m : List Int) (hk : 600 ≤ k) (g1 : goodB w h l = true) (g2 : goodB w h m = true) :
    callK C k 40 [.c (.int .i64 op), fldV b w h l, fldV c w h m] [] = some (if goodB w h (List.zipWith (combG op) l m) then (.tp [ownV w h 0 2 l.length, .c (.bool true)], hpOf [] [intsO (List.zipWith (combG op) l m)]) else (.tp [nilV, .c (.bool false)], hpOf [] [])) := by
  obtain ⟨k, rfl⟩ : ∃ m, k = m + 9 := ⟨k - 9, by omega⟩
  rw [callK_fn rfl F40 code40]
  obtain ⟨s1, n1, cl1, k1⟩ := good_length g1
  obtain ⟨s2, n2, cl2, k2⟩ := good_length g2
  have hlm : m.length = l.length := by omega
  have hz : (List.zipWith (specG op) l m).length = l.length := by simp [hlm]
  have h2 := c_l2Own (k + 8) b w h l (by omega) (by omega)
  simp [fldV, ownV, intsO] at h2
  have hck := c_l4Checked (k + 8) w h (List.zipWith (specG op) l m) (okL op l m) (by omega)
  rw [hz] at hck
  have hc := fun (x y : Int) (hx : cellB x = true) (hy : cellB y = true) => c_l4Op (k + 8) op x y (by omega) hx hy
  have hc1 := fun (x : Int) => c_l1In (k + 8) x (-9000) 9000 (by omega)
  obtain ⟨a1, a2⟩ := comb_all op l m hlm.symm cl1 cl2
  obtain ⟨out, ho⟩ := loopOut (body := fun st => runCode C (callK C (k + 8)) (k + 8) (K 40) L40_0 1 st) (keep := [0, 4, 5, 6, 8, 9, 10]) (.ex 0) (fun st => st.ρ 6 = .p 48 1 3 0 0 ∧ st.ρ 8 = .p 1072 2 3 0 0 ∧ st.ρ 9 = .c (.bool (okL op l m)) ∧
      st.H 48 = some (1, ⟨28, 3, false, [[.c (.int .i64 0), .c (.int .i64 0), .c (.slice none 0 0)]]⟩) ∧
      st.H 1072 = some (2, ⟨28, 3, false, [[.c (.int .i64 w), .c (.int .i64 h), .s 1056 2 1 0 l.length]]⟩) ∧
      st.H 1056 = some (2, intsO (List.zipWith (specG op) l m)))
    (fun i st => st.ρ 0 = .c (.int .i64 op) ∧ st.ρ 4 = .p 16 1 3 0 0 ∧ st.ρ 5 = .p 32 1 3 0 0 ∧ st.ρ 6 = .p 48 1 3 0 0 ∧ st.ρ 8 = .p 1072 2 3 0 0 ∧ st.ρ 9 = .c (.bool (okL op (l.take i) (m.take i))) ∧ st.ρ 10 = .c (.int .i64 (i : Int)) ∧
      st.H 16 = some (1, ⟨28, 3, false, [[.c (.int .i64 w), .c (.int .i64 h), .sq b true 1 (ints l)]]⟩) ∧
      st.H 32 = some (1, ⟨28, 3, false, [[.c (.int .i64 w), .c (.int .i64 h), .sq c true 1 (ints m)]]⟩) ∧
      st.H 48 = some (1, ⟨28, 3, false, [[.c (.int .i64 0), .c (.int .i64 0), .c (.slice none 0 0)]]⟩) ∧
      st.H 1072 = some (2, ⟨28, 3, false, [[.c (.int .i64 w), .c (.int .i64 h), .s 1056 2 1 0 l.length]]⟩) ∧
      st.H 1056 = some (2, intsO (fillL (List.zipWith (specG op) l m) l i)))
    l.length (k + 8) (by omega)
    (by
      rintro i st next hi ⟨h0, h4, h5, h6, h8, h9, h10, H16, H32, H48, H1072, H1056⟩ hn
      have him : i < m.length := by omega
      have hget := fillL_get (List.zipWith (specG op) l m) l i hz.symm (by omega)
      have hget' := fillL_get (List.zipWith (specG op) l m) l i hz.symm (by omega)
      have hset := fillL_set (List.zipWith (specG op) l m) l i hz.symm (by omega)
      have hlen := fillL_length (List.zipWith (specG op) l m) l (i + 1) hz.symm
      have hok : okL op (l.take (i + 1)) (m.take (i + 1)) = (okL op (l.take i) (m.take i) && okE op l[i] m[i]) := by
        rw [List.take_succ_eq_append_getElem hi, List.take_succ_eq_append_getElem him, okL_snoc]
        simp; omega
      rw [List.getElem_zipWith] at hset
      have q1 := List.all_eq_true.1 cl1 _ (List.getElem_mem hi)
      have q2 := List.all_eq_true.1 cl2 _ (List.getElem_mem him)
      have hcc := hc l[i] m[i] q1 q2
      by_cases hx : l[i] = -9999
      · have hm : specG op l[i] m[i] = -9999 := by simp [specG, missB, hx]
        have hm' : okE op l[i] m[i] = true := by simp [okE, missB, hx]
        rw [hm] at hset
        rw [hm', Bool.and_true] at hok
        simp [L40_0, R40_0, R40_1, R40_2, R40_3, R40_4, R40_5, R40_6, R40_7, R40_8, R40_9, R40_10, Try.f40, lpL40_0, lpM40_0, M40_0, h0, h4, h5, h6, h8, h9, h10, H16, H32, H48, H1072, H1056, hi, him, intsO, hx, hget, hset, wrap_next hi (by omega : l.length ≤ 9000000000000000000)]
        exact hn _ (by simp [h0, h4, h5, h6, h8, h9, H16, H32, H48, H1072, intsO, hok])
      · have hx' : (l[i] == -9999) = false := by simpa using hx
        by_cases hy : m[i] = -9999
        · have hm : specG op l[i] m[i] = -9999 := by simp [specG, missB, hy]
          have hm' : okE op l[i] m[i] = true := by simp [okE, missB, hy]
          rw [hm] at hset
          rw [hm', Bool.and_true] at hok
          simp [L40_0, R40_0, R40_1, R40_2, R40_3, R40_4, R40_5, R40_6, R40_7, R40_8, R40_9, R40_10, Try.f40, lpL40_0, lpM40_0, M40_0, h0, h4, h5, h6, h8, h9, h10, H16, H32, H48, H1072, H1056, hi, him, intsO, hx, hx', hy, hget, hset, wrap_next hi (by omega : l.length ≤ 9000000000000000000)]
          exact hn _ (by simp [h0, h4, h5, h6, h8, h9, H16, H32, H48, H1072, intsO, hok])
        · have hy' : (m[i] == -9999) = false := by simpa using hy
          have hm : specG op l[i] m[i] = opG op l[i] m[i] := by simp [specG, missB, hx, hy]
          have hm' : okE op l[i] m[i] = (decide (-9000 ≤ opG op l[i] m[i]) && decide (opG op l[i] m[i] ≤ 9000)) := by simp [okE, missB, hx, hy]
          rw [hm] at hset
          rw [hm'] at hok
          have hgn : (fillL (List.zipWith (specG op) l m) l (i + 1))[i]? = some (opG op l[i] m[i]) := by
            rw [← hset, List.getElem?_set_self (by rw [fillL_length _ _ _ hz.symm]; omega)]
          cases hq : okL op (l.take i) (m.take i)
          · rw [hq] at h9 hok
            simp [L40_0, R40_0, R40_1, R40_2, R40_3, R40_4, R40_5, R40_6, R40_7, R40_8, R40_9, R40_10, Try.f40, lpL40_0, lpM40_0, M40_0, h0, h4, h5, h6, h8, h9, h10, H16, H32, H48, H1072, H1056, hi, him, intsO, hx, hx', hy, hy', hcc, hget, hset, wrap_next hi (by omega : l.length ≤ 9000000000000000000)]
            exact hn _ (by simp [h0, h4, h5, h6, h8, H16, H32, H48, H1072, intsO, hok])
          · rw [hq] at h9 hok
            simp [L40_0, R40_0, R40_1, R40_2, R40_3, R40_4, R40_5, R40_6, R40_7, R40_8, R40_9, R40_10, Try.f40, lpL40_0, lpM40_0, M40_0, h0, h4, h5, h6, h8, h9, h10, H16, H32, H48, H1072, H1056, hi, him, intsO, hx, hx', hy, hy', hcc, hc1, hget, hgn, hset, wrap_next hi (by omega : l.length ≤ 9000000000000000000)]
            exact hn _ (by simp [h0, h4, h5, h6, h8, H16, H32, H48, H1072, intsO, hok]))
    (by
      rintro st next ⟨h0, h4, h5, h6, h8, h9, h10, H16, H32, H48, H1072, H1056⟩
      have hf := fillL_all (List.zipWith (specG op) l m) l (by omega)
      rw [hz] at hf
      rw [List.take_length, ← hlm, List.take_length] at h9
      simp [L40_0, R40_0, R40_1, R40_2, R40_3, R40_4, R40_5, R40_6, R40_7, R40_8, R40_9, R40_10, Try.f40, lpL40_0, lpM40_0, M40_0, h0, h4, h5, h6, h8, h9, h10, H16, H32, H48, H1072, H1056, intsO, hf])
  simp [fillL_zero, intsO, okL] at ho
  have hzc : (List.zipWith (combG op) l m).length = l.length := by simp [hlm]
  have hgc : goodB w h (List.zipWith (combG op) l m) = okL op l m := by
    unfold goodB
    rw [s1, hzc, a1]
    simp [n1]
  rw [hgc]
  cases hq : okL op l m
  · rw [hq] at hck ho
    simp [ownV, intsO, nilV] at hck
    simp [R40_0, R40_1, R40_2, R40_3, R40_4, R40_5, R40_6, R40_7, R40_8, R40_9, R40_10, Try.f40, lpL40_0, lpM40_0, M40_0, fldV, h2, ho, hck, ownV, intsO, nilV]
  · have he := a2 hq
    rw [he] at hgc
    rw [hq] at hck ho hgc
    simp [ownV, intsO, nilV, hgc] at hck
    simp [R40_0, R40_1, R40_2, R40_3, R40_4, R40_5, R40_6, R40_7, R40_8, R40_9, R40_10, Try.f40, lpL40_0, lpM40_0, M40_0, fldV, h2, ho, hck, ownV, intsO, he]
theorem opIn (op : Int) : (decide (1 ≤ op) && decide (op ≤ 4)) = true ∨ (decide (1 ≤ op) && decide (op ≤ 4)) = false := by cases (decide (1 ≤ op) && decide (op ≤ 4)) <;> simp

end Go.Proofs.Ytfcnlfjenialdaa.Eng
namespace Go.Proofs.Ytfcnlfjenialdaa.Eng
open Go Go.Proofs
set_option maxRecDepth 100000
set_option maxHeartbeats 2000000
set_option linter.unusedSimpArgs false
set_option linter.unusedVariables false
attribute [local simp] finK fin1 hpOf xi renQ isRoot runCode runOps stepX inlOf Eng.step wantedV astep val ofO made loadV storeV find V.cells bin binT binA numT numFs eqCells un1 setAt fieldAddrV fieldV indexAddrV indexV bounds sliceV convV lenV foldV max2V min2V callO bor rdsO wrsO seen_none okD_none loops keepIds resV resultsV St.ev TK.agg refs refsL refsO V.one V.isC Value.oneCell' ren renL renO noTag noTagL noTagR noTagO nodup mapO passV frs psi refsR newD loopNext opsAt idx flatAt rootOf backR newsV appendV copyV clearV strV bytesV bldV bufV selfV bytesOf nilCmp buildV fillF chunk freeL frzW cellSame sameV
attribute [local simp] cT cF cX cWR cOW cK cBL X ints_length ints_get ints_getElem ints_drop ints_take ints_append ints_nil ints_set
attribute [local simp] ints_replicate
attribute [local simp] putV_some putV_none putH_app applyD_nil applyD_cons seen_app gc_ρ gc_H gc_tick st0_ρ st0_H st0_tick retV callRo callV_if borL_nil borL_cons ints_snoc take_self callWr cutH_app findQ afterV exportV_0 exportV_n okD_nil okD_cons sub_seq0 sub_seq1 sub_cond0 sub_cond1 sub_block sub_loop sub_nil young_far young_none hidW_nil mayW_nil keepsF_nil keepsF_cons pairs okI ok_0 ok_1 ok_2
attribute [local simp] T3 T4 T22 T23 T26 T28 T31 T33 T43 T48 T50 T70 T73 T75 T78 T82 T85
theorem mul64_facts : ∀ n : Fin 65, IntKind.u64.wrap ((BitVec.ofNat IntKind.u64.bits n.val &&& BitVec.ofNat IntKind.u64.bits 4294967295).toNat : Int) = (n.val : Int) ∧ (n.val : Int).fdiv 4294967296 = 0 ∧ IntKind.u64.wrap (n.val : Int) = (n.val : Int) ∧ IntKind.i64.wrap (n.val : Int) = (n.val : Int) := by decide
theorem c_Mul64 (k n : Nat) (hn : n ≤ 64) (hk : 1 ≤ k) : callK C k 71 [.c (.int .u64 1), .c (.int .u64 (n : Int))] [] = some (.tp [.c (.int .u64 0), .c (.int .u64 (n : Int))], hpOf [] []) := by
  obtain ⟨k, rfl⟩ : ∃ m, k = m + 1 := ⟨k - 1, by omega⟩
  rw [callK_fn rfl F71 code71]
  obtain ⟨e1, e2, e3, _⟩ := mul64_facts ⟨n, by omega⟩
  simp only [] at e1 e2 e3
  have f1 : IntKind.u64.wrap 1 = 1 := by decide
  have f2 : (1 : Int).fdiv 4294967296 = 0 := by decide
  have f3 : IntKind.u64.wrap 0 = 0 := by decide
  have f5 : (0 : Int).fdiv 4294967296 = 0 := by decide
  have hb : min 32 IntKind.u64.bits = 32 := by decide
  have f4 : IntKind.u64.wrap ((BitVec.ofNat IntKind.u64.bits 1 &&& BitVec.ofNat IntKind.u64.bits 4294967295).toNat : Int) = 1 := by decide
  have f6 : IntKind.u64.wrap ((BitVec.ofNat IntKind.u64.bits 0 &&& BitVec.ofNat IntKind.u64.bits 4294967295).toNat : Int) = 0 := by decide
  have o1 : BitVec.ofInt IntKind.u64.bits 1 = BitVec.ofNat IntKind.u64.bits 1 := by decide
  have o2 : BitVec.ofInt IntKind.u64.bits 4294967295 = BitVec.ofNat IntKind.u64.bits 4294967295 := by decide
  have o3 : BitVec.ofInt IntKind.u64.bits 0 = BitVec.ofNat IntKind.u64.bits 0 := by decide
  have o4 : BitVec.ofInt IntKind.u64.bits (n : Int) = BitVec.ofNat IntKind.u64.bits n := BitVec.ofInt_natCast _ _
  simp [R71_0, R71_1, R71_2, R71_3, R71_4, R71_5, R71_6, R71_7, R71_8, R71_9, R71_10, R71_11, Try.f71, hb, o1, o2, o3, o4, e1, e2, e3, f1, f2, f3, f4, f5, f6, -BitVec.toNat_and]
theorem c_Mul (k n : Nat) (hn : n ≤ 64) (hk : 2 ≤ k) : callK C k 68 [.c (.int .u64 1), .c (.int .u64 (n : Int))] [] = some (.tp [.c (.int .u64 0), .c (.int .u64 (n : Int))], hpOf [] []) := by
  obtain ⟨k, rfl⟩ : ∃ m, k = m + 2 := ⟨k - 2, by omega⟩
  rw [callK_fn rfl F68 code68]
  have h := c_Mul64 (k + 1) n hn (by omega)
  simp [R68_0, R68_1, R68_2, R68_3, R68_4, Try.f68, h]
def repL (n : Nat) (a : Int) (m : Nat) : List Int := List.replicate m a ++ List.replicate (n - m) 0
theorem repL_length {n m : Nat} (a : Int) (h : m ≤ n) : (repL n a m).length = n := by simp [repL]; omega
theorem repL_take (n : Nat) (a : Int) (m : Nat) : (repL n a m).take m = List.replicate m a := by simp [repL]
theorem repL_next {n m : Nat} (a : Int) (h : m ≤ n) : List.replicate m a ++ (List.replicate (min (n - m) m) a ++ (repL n a m).drop (m + min m (n - m))) = repL n a (m + min m (n - m)) := by
  unfold repL
  rw [List.drop_append, List.drop_eq_nil_of_le (by simp), List.nil_append, List.drop_replicate, List.length_replicate, ← List.append_assoc, List.replicate_append_replicate]
  congr 1
  · congr 1; omega
  · congr 1; omega
theorem repL_all (n : Nat) (a : Int) : repL n a n = List.replicate n a := by simp [repL]
theorem c_Repeat (k : Nat) (b : Bool) (a : Int) (n : Nat) (h1 : 1 ≤ n) (hn : n ≤ 64) (hk : 100 ≤ k) : callK C k 57 [.sq b true 1 (ints [a]), .c (.int .i64 (n : Int))] [] = some (.s 0 2 1 0 n, hpOf [] [intsO (List.replicate n a)]) := by
  obtain ⟨k, rfl⟩ : ∃ m, k = m + 3 := ⟨k - 3, by omega⟩
  rw [callK_fn rfl F57 code57]
  obtain ⟨e1, e2, e3, e4⟩ := mul64_facts ⟨n, by omega⟩
  simp only [] at e1 e2 e3 e4
  have hm := c_Mul (k + 2) n hn (by omega)
  have f1 : IntKind.u64.wrap 1 = 1 := by decide
  obtain ⟨out, ho⟩ := loopOut (body := fun st => runCode C (callK C (k + 2)) (k + 2) (K 57) L57_0 1 st) (keep := [7, 8]) (.ex 0) (fun st => st.ρ 7 = .s 6192 5 1 0 n ∧ st.H 6192 = some (5, intsO (List.replicate n a)))
    (fun i st => st.ρ 7 = .s 6192 5 1 0 n ∧ ∃ m : Nat, i < m ∧ m ≤ n ∧ st.ρ 8 = .c (.int .i64 (m : Int)) ∧ st.H 6192 = some (5, intsO (repL n a m)))
    n (k + 2) (by omega)
    (by
      rintro i st next hi ⟨h7, m, him, hmn, h8, hH⟩ hx
      by_cases he : m = n
      · subst he
        simp [L57_0, R57_0, R57_1, R57_2, R57_3, R57_4, R57_5, R57_6, R57_7, R57_8, R57_9, R57_10, Try.f57, lpL57_0, lpM57_0, M57_0, h7, h8, hH, intsO, repL_all]
      · have hlt : m < n := by omega
        have hl := repL_length a hmn
        have ht := repL_take n a m
        have hne := repL_next a hmn
        have hnm : ¬ n - m = 0 := by omega
        have hm0 : ¬ m = 0 := by omega
        have hmm : m + (n - m) = n := by omega
        have hmm' : m + (n - m) ≤ n := by omega
        have hw : IntKind.i64.wrap ((m : Int) + ((min m (n - m) : Nat) : Int)) = ((m + min m (n - m) : Nat) : Int) := by rw [wrap_small (by omega) (by omega)]; omega
        simp [L57_0, R57_0, R57_1, R57_2, R57_3, R57_4, R57_5, R57_6, R57_7, R57_8, R57_9, R57_10, Try.f57, lpL57_0, lpM57_0, M57_0, h7, h8, hH, intsO, hlt, hl, ht, hne, hnm, hm0, hmm, hmm', hmn, hw]
        refine hx _ ⟨by simp [h7], m + min m (n - m), by omega, by omega, ?_, ?_⟩ <;> simp [intsO])
    (by
      rintro st next ⟨h7, m, him, hmn, h8, hH⟩
      omega)
  simp at ho
  have g1 : min 1 n = 1 := by omega
  have g2 : ¬ n = 0 := by omega
  have g3 : [a].take n = [a] := List.take_of_length_le (by simpa using h1)
  have b1 : (n : Int) ≤ 17592186044416 := by omega
  have b2 : 8 * (n : Int) ≤ 140737488355328 := by omega
  have b3 : ¬ (9223372036854775807 : Int) < n := by omega
  have b4 : ¬ ((n : Int) < 0) := by omega
  have g5 : ints [a] ++ (ints (List.replicate n 0)).tail = ints (a :: List.replicate (n - 1) 0) := by
    obtain ⟨m, rfl⟩ : ∃ m, n = m + 1 := ⟨n - 1, by omega⟩
    rfl
  have g4 : repL n a 1 = a :: List.replicate (n - 1) 0 := by simp [repL]
  have ho' := fun st q => ho st q 1 (by omega) h1
  rw [g4] at ho'
  simp [intsO] at ho'
  simp [R57_0, R57_1, R57_2, R57_3, R57_4, R57_5, R57_6, R57_7, R57_8, R57_9, R57_10, Try.f57, lpL57_0, lpM57_0, M57_0, hm, f1, e3, e4, b1, b2, b3, b4, g1, g2, g3, g5, ho', intsO]

end Go.Proofs.Ytfcnlfjenialdaa.Eng
namespace Go.Proofs.Ytfcnlfjenialdaa.Eng
open Go Go.Proofs
set_option maxRecDepth 100000
set_option maxHeartbeats 2000000
set_option linter.unusedSimpArgs false
set_option linter.unusedVariables false
attribute [local simp] finK fin1 hpOf xi renQ isRoot runCode runOps stepX inlOf Eng.step wantedV astep val ofO made loadV storeV find V.cells bin binT binA numT numFs eqCells un1 setAt fieldAddrV fieldV indexAddrV indexV bounds sliceV convV lenV foldV max2V min2V callO bor rdsO wrsO seen_none okD_none loops keepIds resV resultsV St.ev TK.agg refs refsL refsO V.one V.isC Value.oneCell' ren renL renO noTag noTagL noTagR noTagO nodup mapO passV frs psi refsR newD loopNext opsAt idx flatAt rootOf backR newsV appendV copyV clearV strV bytesV bldV bufV selfV bytesOf nilCmp buildV fillF chunk freeL frzW cellSame sameV
attribute [local simp] cT cF cX cWR cOW cK cBL X ints_length ints_get ints_getElem ints_drop ints_take ints_append ints_nil ints_set
attribute [local simp] ints_replicate
attribute [local simp] putV_some putV_none putH_app applyD_nil applyD_cons seen_app gc_ρ gc_H gc_tick st0_ρ st0_H st0_tick retV callRo callV_if borL_nil borL_cons ints_snoc take_self callWr cutH_app findQ afterV exportV_0 exportV_n okD_nil okD_cons sub_seq0 sub_seq1 sub_cond0 sub_cond1 sub_block sub_loop sub_nil young_far young_none hidW_nil mayW_nil keepsF_nil keepsF_cons pairs okI ok_0 ok_1 ok_2
attribute [local simp] T3 T4 T22 T23 T26 T28 T31 T33 T43 T48 T50 T70 T73 T75 T78 T82 T85
def hasB (w h x y : Int) : Bool := (decide (0 ≤ x) && decide (x ≤ w - 1)) && (decide (0 ≤ y) && decide (y ≤ h - 1))
def cellOf (l : List Int) (w x y : Int) : Int := l.getD (y * w + x).toNat 0
def tabL (n : Nat) (w : Int) (g : Int → Int → Int) : List Int := (List.range n).map fun (i : Nat) => g ((i : Int).tmod w) ((i : Int) / w)
theorem tabL_length (n : Nat) (w : Int) (g : Int → Int → Int) : (tabL n w g).length = n := by simp [tabL]
theorem tabL_get (n : Nat) (w : Int) (g : Int → Int → Int) (i : Nat) (h : i < n) : (tabL n w g)[i]'(by rw [tabL_length]; exact h) = g ((i : Int).tmod w) ((i : Int) / w) := by simp [tabL]
theorem tabL_at {W N v u : Nat} (g : Int → Int → Int) (hu : u < W) (h : v * W + u < N) : (tabL N (W : Int) g)[v * W + u]'(by rw [tabL_length]; exact h) = g (u : Int) (v : Int) := by
  rw [tabL_get _ _ _ _ h]
  have e1 : ((v * W + u : Nat) : Int).tmod (W : Int) = (u : Int) := by
    show (((v * W + u) % W : Nat) : Int) = u
    rw [Nat.mul_comm, Nat.mul_add_mod, Nat.mod_eq_of_lt hu]
  have e2 : ((v * W + u : Nat) : Int) / (W : Int) = (v : Int) := by
    show (((v * W + u) / W : Nat) : Int) = v
    rw [Nat.mul_comm, Nat.mul_add_div (by omega), Nat.div_eq_of_lt hu, Nat.add_zero]
  rw [e1, e2]
theorem cell_ix {w h x y : Int} {l : List Int} (hl : (l.length : Int) = w * h) (hx : 0 ≤ x) (hx' : x < w) (hy : 0 ≤ y) (hy' : y < h) : 0 ≤ y * w + x ∧ y * w + x < l.length ∧ 0 ≤ y * w ∧ l[(y * w + x).toNat]? = some (cellOf l w x y) := by
  have h1 : 0 ≤ y * w := Int.mul_nonneg hy (by omega)
  have h2 : (y + 1) * w ≤ h * w := Int.mul_le_mul_of_nonneg_right (by omega) (by omega)
  rw [Int.add_mul, Int.mul_comm h w, Int.one_mul] at h2
  refine ⟨by omega, by omega, h1, ?_⟩
  have h3 : (y * w + x).toNat < l.length := by omega
  rw [cellOf, List.getD_eq_getElem?_getD, List.getElem?_eq_getElem h3]
  rfl
theorem c_filled (k : Nat) (w h v : Int) (hs : shapeB w h = true) (hk : 120 ≤ k) : callK C k 46 [.c (.int .i64 w), .c (.int .i64 h), .c (.int .i64 v)] [] = some (ownV w h 0 2 (w * h).toNat, hpOf [] [intsO (List.replicate (w * h).toNat v)]) := by
  obtain ⟨k, rfl⟩ : ∃ m, k = m + 2 := ⟨k - 2, by omega⟩
  rw [callK_fn rfl F46 code46]
  obtain ⟨h1, h2, h3, h4, h5, h6⟩ := shape_area hs
  have hp : 0 < w * h := Int.mul_pos (by omega) (by omega)
  have w1 : IntKind.i64.wrap (w * h) = w * h := wrap_small (by omega) (by omega)
  have hr := c_Repeat (k + 1) true v (w * h).toNat (by omega) (by omega) (by omega)
  rw [Int.toNat_of_nonneg h1, show ints [v] = [[.c (.int .i64 v)]] from rfl] at hr
  simp [intsO] at hr
  simp [R46_0, R46_1, Try.f46, w1, hr, ownV, intsO]

end Go.Proofs.Ytfcnlfjenialdaa.Eng
namespace Go.Proofs.Ytfcnlfjenialdaa.Eng
open Go Go.Proofs
set_option maxRecDepth 100000
set_option maxHeartbeats 2000000
set_option linter.unusedSimpArgs false
set_option linter.unusedVariables false
attribute [local simp] finK fin1 hpOf xi renQ isRoot runCode runOps stepX inlOf Eng.step wantedV astep val ofO made loadV storeV find V.cells bin binT binA numT numFs eqCells un1 setAt fieldAddrV fieldV indexAddrV indexV bounds sliceV convV lenV foldV max2V min2V callO bor rdsO wrsO seen_none okD_none loops keepIds resV resultsV St.ev TK.agg refs refsL refsO V.one V.isC Value.oneCell' ren renL renO noTag noTagL noTagR noTagO nodup mapO passV frs psi refsR newD loopNext opsAt idx flatAt rootOf backR newsV appendV copyV clearV strV bytesV bldV bufV selfV bytesOf nilCmp buildV fillF chunk freeL frzW cellSame sameV
attribute [local simp] cT cF cX cWR cOW cK cBL X ints_length ints_get ints_getElem ints_drop ints_take ints_append ints_nil ints_set
attribute [local simp] ints_replicate
attribute [local simp] putV_some putV_none putH_app applyD_nil applyD_cons seen_app gc_ρ gc_H gc_tick st0_ρ st0_H st0_tick retV callRo callV_if borL_nil borL_cons ints_snoc take_self callWr cutH_app findQ afterV exportV_0 exportV_n okD_nil okD_cons sub_seq0 sub_seq1 sub_cond0 sub_cond1 sub_block sub_loop sub_nil young_far young_none hidW_nil mayW_nil keepsF_nil keepsF_cons pairs okI ok_0 ok_1 ok_2
attribute [local simp] T3 T4 T22 T23 T26 T28 T31 T33 T43 T48 T50 T70 T73 T75 T78 T82 T85
theorem c_IsExpression (k : Nat) (b : Bool) (l : List (Int × Int)) (hk : 100 ≤ k) : callK C k 23 [.sq b true 2 (ndL l)] [] = some (.c (.bool (goodE l)), hpOf [] []) := by
  obtain ⟨k, rfl⟩ : ∃ m, k = m + 1 := ⟨k - 1, by omega⟩
  rw [callK_fn rfl F23 code23]
  by_cases h15 : l.length ≤ 15
  · have h15' : ¬ (15 : Int) < (l.length : Int) := by omega
    have hag := fun q => c_arguments k q (by omega)
    have hnd := fun q => c_isNode k q (by omega)
    by_cases hg : 0 ≤ runO l l.length
    · have hL := loopHas (body := fun st => runCode C (callK C (k + 0)) (k + 0) (K 23) L23_0 1 st) (keep := [3, 9, 10, 11]) (.ex 0) (fun st => st.ρ 3 = .c (.int .i64 (runO l l.length)))
        (fun i st => st.ρ 9 = .sq b true 2 (ndL l) ∧ st.ρ 10 = .c (.int .i64 (l.length : Int)) ∧ st.ρ 3 = .c (.int .i64 (runO l i)) ∧ st.ρ 11 = .c (.int .i64 (i : Int)))
        l.length (k + 0) (by omega)
        (by
          rintro i st next hi ⟨q9, q10, q3, q11⟩ hn
          have hgi : 0 ≤ runO l (i + 1) := runO_mono hg (l.length - (i + 1)) (i + 1) (by omega)
          obtain ⟨r1, r2, r3, r4⟩ := runO_back hgi
          rw [getD_nd hi] at r2 r3 r4
          have r5 := runO_le l i
          have nget := ndL_get l i hi
          have ha := hag l[i]
          have hd := hnd l[i]
          rw [argI_eq r2] at ha
          have g2 : ¬ runO l i - arI l[i] < 0 := by omega
          have w1 : IntKind.i64.wrap (runO l i - arI l[i]) = runO l i - arI l[i] := wrap_small (by omega) (by omega)
          have w2 : IntKind.i64.wrap (runO l i - arI l[i] + 1) = runO l (i + 1) := by rw [r4]; exact wrap_small (by omega) (by omega)
          simp [ndE] at ha hd
          simp [L23_0, R23_0, R23_1, R23_2, R23_3, R23_4, R23_5, R23_6, R23_7, R23_8, R23_9, R23_10, R23_11, R23_12, Try.f23, lpL23_0, lpM23_0, M23_0, q9, q10, q3, q11, hi, nget, ndL_at, ndE, ha, hd, r2, g2, w1, w2, wrap_next hi (by omega : l.length ≤ 9000000000000000000)]
          exact hn _ (by simp [q9, q10]))
        (by
          rintro st next ⟨q9, q10, q3, q11⟩
          simp [L23_0, R23_0, R23_1, R23_2, R23_3, R23_4, R23_5, R23_6, R23_7, R23_8, R23_9, R23_10, R23_11, R23_12, Try.f23, lpL23_0, lpM23_0, M23_0, q9, q10, q3, q11])
      simp [R23_0, R23_1, R23_2, R23_3, R23_4, R23_5, R23_6, R23_7, R23_8, R23_9, R23_10, R23_11, R23_12, Try.f23, lpL23_0, lpM23_0, ndL_length, h15']
      generalize hr : loopRun _ _ _ _ = res
      obtain ⟨s1, rfl, f3⟩ := loop_at hL hr (by simp [runO, ndL_length])
      simp [R23_0, R23_1, R23_2, R23_3, R23_4, R23_5, R23_6, R23_7, R23_8, R23_9, R23_10, R23_11, R23_12, Try.f23, lpL23_0, lpM23_0, M23_0, f3, goodE, h15]
      try (by_cases h1 : runO l l.length = 1 <;> simp [h1])
    · have hL := loopHas (body := fun st => runCode C (callK C (k + 0)) (k + 0) (K 23) L23_0 1 st) (keep := [3, 9, 10, 11]) .ret (fun st => st.ρ 2 = .c (.bool false))
        (fun i st => st.ρ 9 = .sq b true 2 (ndL l) ∧ st.ρ 10 = .c (.int .i64 (l.length : Int)) ∧ st.ρ 3 = .c (.int .i64 (runO l i)) ∧ st.ρ 11 = .c (.int .i64 (i : Int)) ∧ 0 ≤ runO l i)
        l.length (k + 0) (by omega)
        (by
          rintro i st next hi ⟨q9, q10, q3, q11, r1⟩ hn
          have r5 := runO_le l i
          have nget := ndL_get l i hi
          have ha := hag l[i]
          have hd := hnd l[i]
          have hs := runO_succ l i
          rw [getD_nd hi] at hs
          have hca := ar_cases l[i]
          obtain ⟨ab1, ab2⟩ := arg_bound l[i]
          have w1 : IntKind.i64.wrap (runO l i - argI l[i]) = runO l i - argI l[i] := wrap_small (by omega) (by omega)
          by_cases g1 : arI l[i] < 0
          · have g1' : ¬ 0 ≤ arI l[i] := by omega
            simp [ndE] at ha hd
            simp [L23_0, R23_0, R23_1, R23_2, R23_3, R23_4, R23_5, R23_6, R23_7, R23_8, R23_9, R23_10, R23_11, R23_12, Try.f23, lpL23_0, lpM23_0, M23_0, q9, q10, q3, q11, hi, nget, ndL_at, ndE, ha, hd, w1, g1']
          · have g1' : 0 ≤ arI l[i] := by omega
            rw [argI_eq g1'] at ha w1
            by_cases g2 : runO l i - arI l[i] < 0
            · simp [ndE] at ha hd
              simp [L23_0, R23_0, R23_1, R23_2, R23_3, R23_4, R23_5, R23_6, R23_7, R23_8, R23_9, R23_10, R23_11, R23_12, Try.f23, lpL23_0, lpM23_0, M23_0, q9, q10, q3, q11, hi, nget, ndL_at, ndE, ha, hd, w1, g1', g2]
            · rw [if_neg (by omega)] at hs
              have w2 : IntKind.i64.wrap (runO l i - arI l[i] + 1) = runO l (i + 1) := by rw [hs]; exact wrap_small (by omega) (by omega)
              simp [ndE] at ha hd
              simp [L23_0, R23_0, R23_1, R23_2, R23_3, R23_4, R23_5, R23_6, R23_7, R23_8, R23_9, R23_10, R23_11, R23_12, Try.f23, lpL23_0, lpM23_0, M23_0, q9, q10, q3, q11, hi, nget, ndL_at, ndE, ha, hd, g1', g2, w1, w2, wrap_next hi (by omega : l.length ≤ 9000000000000000000)]
              exact hn _ ⟨by simp [q9], by simp [q10], by simp, by simp, by omega⟩)
        (by
          rintro st next ⟨q9, q10, q3, q11, r1⟩
          omega)
      have hg1 : goodE l = false := by
        have : ¬ runO l l.length = 1 := by omega
        simp [goodE, this]
      simp [R23_0, R23_1, R23_2, R23_3, R23_4, R23_5, R23_6, R23_7, R23_8, R23_9, R23_10, R23_11, R23_12, Try.f23, lpL23_0, lpM23_0, ndL_length, h15']
      generalize hr : loopRun _ _ _ _ = res
      obtain ⟨s1, rfl, f2⟩ := loop_at hL hr (by simp [runO, ndL_length])
      simp [R23_0, R23_1, R23_2, R23_3, R23_4, R23_5, R23_6, R23_7, R23_8, R23_9, R23_10, R23_11, R23_12, Try.f23, lpL23_0, lpM23_0, M23_0, f2, hg1]
  · have h15' : (15 : Int) < (l.length : Int) := by omega
    simp [R23_0, R23_1, R23_2, R23_3, R23_4, R23_5, R23_6, R23_7, R23_8, R23_9, R23_10, R23_11, R23_12, Try.f23, lpL23_0, lpM23_0, M23_0, ndL_length, h15', goodE, h15]

end Go.Proofs.Ytfcnlfjenialdaa.Eng
namespace Go.Proofs.Ytfcnlfjenialdaa.Eng
open Go Go.Proofs
set_option maxRecDepth 100000
set_option maxHeartbeats 2000000
set_option linter.unusedSimpArgs false
set_option linter.unusedVariables false
attribute [local simp] finK fin1 hpOf xi renQ isRoot runCode runOps stepX inlOf Eng.step wantedV astep val ofO made loadV storeV find V.cells bin binT binA numT numFs eqCells un1 setAt fieldAddrV fieldV indexAddrV indexV bounds sliceV convV lenV foldV max2V min2V callO bor rdsO wrsO seen_none okD_none loops keepIds resV resultsV St.ev TK.agg refs refsL refsO V.one V.isC Value.oneCell' ren renL renO noTag noTagL noTagR noTagO nodup mapO passV frs psi refsR newD loopNext opsAt idx flatAt rootOf backR newsV appendV copyV clearV strV bytesV bldV bufV selfV bytesOf nilCmp buildV fillF chunk freeL frzW cellSame sameV
attribute [local simp] cT cF cX cWR cOW cK cBL X ints_length ints_get ints_getElem ints_drop ints_take ints_append ints_nil ints_set
attribute [local simp] ints_replicate
attribute [local simp] putV_some putV_none putH_app applyD_nil applyD_cons seen_app gc_ρ gc_H gc_tick st0_ρ st0_H st0_tick retV callRo callV_if borL_nil borL_cons ints_snoc take_self callWr cutH_app findQ afterV exportV_0 exportV_n okD_nil okD_cons sub_seq0 sub_seq1 sub_cond0 sub_cond1 sub_block sub_loop sub_nil young_far young_none hidW_nil mayW_nil keepsF_nil keepsF_cons pairs okI ok_0 ok_1 ok_2
attribute [local simp] T3 T4 T22 T23 T26 T28 T31 T33 T43 T48 T50 T70 T73 T75 T78 T82 T85
attribute [local simp] young_near clo cloF Region.binds Nat.testBit hidW declW mayW List.findIdx?_cons
/-- A list of fields of one shape, read. -/
def fsE (w h : Int) (z : List Int) : List V := [.c (.int .i64 w), .c (.int .i64 h), .sq true true 1 (ints z)]
def fsL (w h : Int) (A : List (List Int)) : List (List V) := A.map (fsE w h)
theorem fsL_length (w h : Int) (A : List (List Int)) : (fsL w h A).length = A.length := by simp [fsL]
theorem fsL_get (w h : Int) (A : List (List Int)) (i : Nat) (hi : i < A.length) : (fsL w h A)[i]? = some (fsE w h A[i]) := by simp [fsL, hi]
theorem fsL_at (w h : Int) (A : List (List Int)) (i : Nat) (hi : i < (fsL w h A).length) : (fsL w h A)[i] = fsE w h (A[i]'(by simpa [fsL] using hi)) := by simp [fsL]
def isFS (x : V) (w h : Int) (A : List (List Int)) : Prop := x = .sq true false 3 (fsL w h A) ∨ (A = [] ∧ x = .c (.slice none 0 0))
theorem c_implCombine (k : Nat) (op w h : Int) (x y : List Int) (hk : 3000 ≤ k) (g1 : goodB w h x = true) (g2 : goodB w h y = true) (h1 : 1 ≤ op) (h4 : op ≤ 4) :
    callK C k 48 [.c (.int .i64 op), fldV true w h x, fldV true w h y] [] = resF w h (if goodB w h (List.zipWith (combG op) x y) then some (List.zipWith (combG op) x y) else none) := by
  obtain ⟨k, rfl⟩ : ∃ m, k = m + 20 := ⟨k - 20, by omega⟩
  rw [callK_fn rfl F48 code48]
  have i2 := c_within (k + 19) op 1 4 (by omega)
  rw [show (decide (1 ≤ op) && decide (op ≤ 4)) = true by simp; omega] at i2
  have n1 := c_combinedComb op (k + 19) true true w h w h x y (by omega) (by simp [g1, g2])
  obtain ⟨_, e1, _, k1⟩ := good_length g1
  obtain ⟨_, e2, _, k2⟩ := good_length g2
  have hz : (List.zipWith (combG op) x y).length = x.length := by simp; omega
  cases hg : goodB w h (List.zipWith (combG op) x y)
  · rw [hg] at n1
    simp [fldV, nilV] at n1
    simp [R48_0, R48_1, R48_2, R48_3, Try.f48, fldV, i2, n1, nilV, resF]
  · rw [hg] at n1
    simp [fldV, ownV, intsO] at n1
    simp [R48_0, R48_1, R48_2, R48_3, Try.f48, fldV, i2, n1, ownV, intsO, resF, hz]
theorem c_evaluateNode (k : Nat) (c : Bool) (w h : Int) (Fs : List Fd) (hne : Fs ≠ []) (hFs : ∀ q ∈ Fs, goodB w h q.l = true ∧ q.w = w ∧ q.h = h) (h4 : Fs.length ≤ 4) (p : Int × Int) (A : List (List Int)) (hA : ∀ x ∈ A, goodB w h x = true) (h15 : A.length ≤ 15) (ha : 0 ≤ arI p) (hl : (arI p).toNat ≤ A.length)
    (x : V) (hx : isFS x w h A) (hk : 3100 ≤ k) : callK C k 26 [.ag (ndE p), x, .sq c false 3 (Fs.map Fd.cells)] [] = resF w h (valN w h Fs p A) := by
  have hs : shapeB w h = true := by
    cases Fs with
    | nil => exact absurd rfl hne
    | cons q r => exact good_shape (hFs q (by simp)).1
  obtain ⟨_, _, p1, p2, p3, p4⟩ := shape_area hs
  obtain ⟨k, rfl⟩ : ∃ m, k = m + 20 := ⟨k - 20, by omega⟩
  rw [callK_fn rfl F26 code26]
  have hxl : ∃ n : Nat, n = A.length := ⟨_, rfl⟩
  rcases ar_cases p with e | e | e | e
  · rcases arI_0 e with ⟨k1, k2, k3⟩ | ⟨k1, k2, k3⟩
    · by_cases hv : (p.2.toNat) < Fs.length
      · obtain ⟨q, hq⟩ : ∃ q, Fs[p.2.toNat] = q := ⟨_, rfl⟩
        have hqm : q ∈ Fs := by rw [← hq]; exact List.getElem_mem hv
        obtain ⟨g1, g2, g3⟩ := hFs q hqm
        obtain ⟨_, n1, _, n64⟩ := good_length g1
        have hnn : q.l ≠ [] := by
          intro hn
          rw [hn] at n1
          have := Int.mul_le_mul p1 p3 (by omega) (by omega)
          simp at n1
          omega
        have ho := c_cloneField (k + 19) q.b w h q.l (by omega) hnn (by omega)
        have hv2 : ¬ (Fs.length : Int) ≤ p.2 := by omega
        have hv3 : p.2 < (Fs.length : Int) := by omega
        have hgq2 : Fs[p.2.toNat]? = some q := by simp [hv, hq]
        simp [fldV, intsO] at ho
        rcases hx with rfl | ⟨rfl, rfl⟩ <;> simp [R26_0, R26_1, R26_2, R26_3, R26_4, R26_5, R26_6, R26_7, R26_8, R26_9, R26_10, R26_11, R26_12, Try.f26, ndE, k1, k2, hv, hv2, hv3, hgq2, hq, Fd.cells, g2, g3, ho, resF, ownV, intsO, valN]
      · have hv2 : (Fs.length : Int) ≤ p.2 := by omega
        have hgq2 : Fs[p.2.toNat]? = none := by rw [List.getElem?_eq_none (by omega)]
        rcases hx with rfl | ⟨rfl, rfl⟩ <;> simp [R26_0, R26_1, R26_2, R26_3, R26_4, R26_5, R26_6, R26_7, R26_8, R26_9, R26_10, R26_11, R26_12, Try.f26, ndE, k1, k2, hv2, hgq2, resF, nilV, valN]
    · obtain ⟨q, r, rfl⟩ : ∃ q r, Fs = q :: r := by cases Fs with | nil => exact absurd rfl hne | cons q r => exact ⟨q, r, rfl⟩
      obtain ⟨g1, g2, g3⟩ := hFs q (by simp)
      have ho := c_filled (k + 19) w h p.2 hs (by omega)
      simp [ownV, intsO] at ho
      rcases hx with rfl | ⟨rfl, rfl⟩ <;> simp [R26_0, R26_1, R26_2, R26_3, R26_4, R26_5, R26_6, R26_7, R26_8, R26_9, R26_10, R26_11, R26_12, Try.f26, ndE, k1, Fd.cells, g2, g3, ho, resF, ownV, intsO, valN]
  · obtain ⟨k1, k2, k3⟩ := arI_1 e
    rw [e] at hl
    have hl1 : 1 ≤ A.length := by simpa using hl
    have hx' : x = .sq true false 3 (fsL w h A) := by
      rcases hx with hx | ⟨rfl, _⟩
      · exact hx
      · simp at hl1
    subst hx'
    have hgA := hA _ (getD_mem (A := A) (i := A.length - 1) (by omega))
    have hE := c_implExceeds (k + 19) true w h (A.getD (A.length - 1) []) p.2 (by omega)
    rw [hgA] at hE
    have hgd : A.getD (A.length - 1) [] = A[A.length - 1]'(by omega) := by rw [List.getD_eq_getElem?_getD, List.getElem?_eq_getElem (by omega)]; rfl
    have hw : IntKind.i64.wrap ((A.length : Int) - 1) = ((A.length - 1 : Nat) : Int) := by rw [wrap_small (by omega) (by omega)]; omega
    have hlt : A.length - 1 < A.length := by omega
    have hlt' : ((A.length - 1 : Nat) : Int) < (A.length : Int) := by omega
    have hgg := fsL_get w h A (A.length - 1) hlt
    have hlen := chgM_length (exG p.2) (A[A.length - 1]'(by omega))
    rw [hgd] at hE
    simp [fldV, optV, ownV, intsO] at hE
    rw [show valN w h Fs p A = some (chgM (exG p.2) (A[A.length - 1]'(by omega))) by unfold valN; rw [if_neg (by omega), if_neg (by omega), if_pos k1, hgd]]
    simp [R26_0, R26_1, R26_2, R26_3, R26_4, R26_5, R26_6, R26_7, R26_8, R26_9, R26_10, R26_11, R26_12, Try.f26, ndE, k1, fsL_length, hw, hlt, hlt', hgg, fsL_at, fsE, hE, resF, ownV, intsO, hlen]
  · obtain ⟨k1, k2, k3⟩ := arI_2 e
    rw [e] at hl
    have hl2 : 2 ≤ A.length := by simpa using hl
    have hx' : x = .sq true false 3 (fsL w h A) := by
      rcases hx with hx | ⟨rfl, _⟩
      · exact hx
      · simp at hl2
    subst hx'
    have g1 := hA _ (getD_mem (A := A) (i := A.length - 1) (by omega))
    have g2 := hA _ (getD_mem (A := A) (i := A.length - 2) (by omega))
    have hgd1 : A.getD (A.length - 1) [] = A[A.length - 1]'(by omega) := by rw [List.getD_eq_getElem?_getD, List.getElem?_eq_getElem (by omega)]; rfl
    have hgd2 : A.getD (A.length - 2) [] = A[A.length - 2]'(by omega) := by rw [List.getD_eq_getElem?_getD, List.getElem?_eq_getElem (by omega)]; rfl
    rw [hgd1] at g1
    rw [hgd2] at g2
    have hE := c_implCombine (k + 19) (p.1 - 2) w h _ _ (by omega) g2 g1 (by omega) (by omega)
    have hw : IntKind.i64.wrap ((A.length : Int) - 1) = ((A.length - 1 : Nat) : Int) := by rw [wrap_small (by omega) (by omega)]; omega
    have hw2 : IntKind.i64.wrap ((A.length : Int) - 2) = ((A.length - 2 : Nat) : Int) := by rw [wrap_small (by omega) (by omega)]; omega
    have hw3 : IntKind.i64.wrap (IntKind.i64.wrap (1 + p.1) - 3) = p.1 - 2 := by rw [wrap_small (n := 1 + p.1) (by omega) (by omega), wrap_small (by omega) (by omega)]; omega
    have hlt : A.length - 1 < A.length := by omega
    have hlt' : ((A.length - 1 : Nat) : Int) < (A.length : Int) := by omega
    have hlt2 : A.length - 2 < A.length := by omega
    have hlt2' : ((A.length - 2 : Nat) : Int) < (A.length : Int) := by omega
    have hgg := fsL_get w h A (A.length - 1) hlt
    have hgg2 := fsL_get w h A (A.length - 2) hlt2
    have d1 : ¬ p.1 = 1 := by omega
    have d2 : ¬ p.1 = 2 := by omega
    have d7 : ¬ p.1 = 7 := by omega
    rw [show valN w h Fs p A = (if goodB w h (List.zipWith (combG (p.1 - 2)) (A[A.length - 2]'(by omega)) (A[A.length - 1]'(by omega))) then some (List.zipWith (combG (p.1 - 2)) (A[A.length - 2]'(by omega)) (A[A.length - 1]'(by omega))) else none) by unfold valN; rw [if_neg d1, if_neg d2, if_neg d7, hgd1, hgd2]]
    generalize hzz : (if goodB w h (List.zipWith (combG (p.1 - 2)) (A[A.length - 2]'(by omega)) (A[A.length - 1]'(by omega))) then some (List.zipWith (combG (p.1 - 2)) (A[A.length - 2]'(by omega)) (A[A.length - 1]'(by omega))) else none) = rr at hE ⊢
    cases rr with
    | none =>
      simp [fldV, resF, nilV] at hE
      simp [R26_0, R26_1, R26_2, R26_3, R26_4, R26_5, R26_6, R26_7, R26_8, R26_9, R26_10, R26_11, R26_12, Try.f26, ndE, d1, d2, d7, fsL_length, hw, hw2, hw3, hlt, hlt', hlt2, hlt2', hgg, hgg2, fsL_at, fsE, hE, resF, nilV]
    | some z =>
      simp [fldV, resF, ownV, intsO] at hE
      simp [R26_0, R26_1, R26_2, R26_3, R26_4, R26_5, R26_6, R26_7, R26_8, R26_9, R26_10, R26_11, R26_12, Try.f26, ndE, d1, d2, d7, fsL_length, hw, hw2, hw3, hlt, hlt', hlt2, hlt2', hgg, hgg2, fsL_at, fsE, hE, resF, ownV, intsO]
  · omega

end Go.Proofs.Ytfcnlfjenialdaa.Eng
