/- A deterministic reading of Go code over plain data: what functions of the program compute, and what its laws come to. No conditions. -/
import Derived.Test.YtbjmfjfnilmhhaaGreatDoorEngT
import Derived.IntWalk
namespace Go.Proofs.YtbjmfjfnilmhhaaGreatDoor.Eng
open Go Go.Proofs
set_option maxRecDepth 100000
set_option maxHeartbeats 2000000
set_option linter.unusedSimpArgs false
set_option linter.unusedVariables false
attribute [local simp] finK fin1 hpOf xi renQ isRoot runCode runOps stepX inlOf Eng.step wantedV astep val ofO made loadV storeV find V.cells bin binT binA numT numFs eqCells un1 setAt fieldAddrV fieldV indexAddrV indexV bounds sliceV convV lenV foldV max2V min2V callO bor rdsO wrsO seen_none okD_none loops keepIds resV resultsV St.ev TK.agg refs refsL refsO V.one V.isC Value.oneCell' ren renL renO noTag noTagL noTagR noTagO nodup mapO passV frs psi refsR newD loopNext opsAt idx flatAt rootOf backR newsV appendV copyV clearV strV bytesV bldV bufV selfV bytesOf nilCmp buildV fillF chunk freeL frzW cellSame sameV
attribute [local simp] cT cF cX cWR cOW cK cBL X ints_length ints_get ints_getElem ints_drop ints_take ints_append ints_nil ints_set
attribute [local simp] T3 T4 T5 T9 T22 T24 T33 T36 T38 T45 T48 T51 T52 T54 T56 T71 T72 T74 T77 T99 T104 T117 T121
theorem wrap_small {n : Int} (h : -9223372036854775808 ≤ n) (h' : n ≤ 9223372036854775807) : IntKind.i64.wrap n = n := IntWalk.i64_in _ ⟨h, h'⟩
def cellB (n : Int) : Bool := n == -9999 || (decide (-9000 ≤ n) && decide (n ≤ 9000))
def shapeB (x y : Int) : Bool := (decide (1 ≤ x) && decide (x ≤ 8)) && (decide (1 ≤ y) && decide (y ≤ 8))
def goodB (w h : Int) (l : List Int) : Bool := shapeB w h && (((l.length : Int) == w * h) && l.all cellB)
def fldV (b : Bool) (w h : Int) (l : List Int) : V := .ag [.c (.int .i64 w), .c (.int .i64 h), .sq b true 1 (ints l)]
def intV (n : Int) : V := .c (.int .i64 n)
def boolV (b : Bool) : V := .c (.bool b)
theorem shape_area {w h : Int} (hs : shapeB w h = true) : 0 ≤ w * h ∧ w * h ≤ 64 ∧ 1 ≤ w ∧ w ≤ 8 ∧ 1 ≤ h ∧ h ≤ 8 := by
  unfold shapeB at hs
  simp only [Bool.and_eq_true, decide_eq_true_eq] at hs
  obtain ⟨⟨hw1, hw2⟩, hh1, hh2⟩ := hs
  exact ⟨Int.mul_nonneg (by omega) (by omega), by have := Int.mul_le_mul hw2 hh2 (by omega) (by omega); omega, hw1, hw2, hh1, hh2⟩
theorem good_length {w h : Int} {l : List Int} (hg : goodB w h l = true) : shapeB w h = true ∧ (l.length : Int) = w * h ∧ l.all cellB = true ∧ l.length ≤ 64 := by
  unfold goodB at hg
  simp only [Bool.and_eq_true, beq_iff_eq] at hg
  have := shape_area hg.1
  exact ⟨hg.1, hg.2.1, hg.2.2, by omega⟩
/-- A loop, by what holds at its head before round i. -/
theorem loopInd {body : St → Option (Ex × St)} {keep : List Nat} {P : Option (Ex × St) → Prop} (I : Nat → St → Prop) (n : Nat)
    (hs : ∀ i st next, i < n → I i st → (∀ st', I (i + 1) st' → P (next st')) → P (loopNext (body (gc keep st)) next))
    (hf : ∀ st next, I n st → P (loopNext (body (gc keep st)) next)) : ∀ (d i k : Nat) (st : St), i + d = n → d < k → I i st → P (loopRun body keep k st) := by
  intro d
  induction d with
  | zero =>
    intro i k st hi hk h
    obtain ⟨k, rfl⟩ : ∃ m, k = m + 1 := ⟨k - 1, by omega⟩
    obtain rfl : i = n := by omega
    rw [loopRun_succ]
    exact hf st _ h
  | succ d ih =>
    intro i k st hi hk h
    obtain ⟨k, rfl⟩ : ∃ m, k = m + 1 := ⟨k - 1, by omega⟩
    rw [loopRun_succ]
    exact hs i st _ (by omega) h fun st' h' => ih (i + 1) k st' (by omega) (by omega) h'
/-- The same, with a word for the state behind it. -/
theorem loopOut {body : St → Option (Ex × St)} {keep : List Nat} (e : Ex) (R : St → Prop) (I : Nat → St → Prop) (n k : Nat) (hk : n < k)
    (hs : ∀ i st next, i < n → I i st → (∀ st', I (i + 1) st' → ∃ s, next st' = some (e, s) ∧ R s) → ∃ s, loopNext (body (gc keep st)) next = some (e, s) ∧ R s)
    (hf : ∀ st next, I n st → ∃ s, loopNext (body (gc keep st)) next = some (e, s) ∧ R s) :
    ∃ out : St → St, ∀ st, I 0 st → loopRun body keep k st = some (e, out st) ∧ R (out st) := by
  obtain ⟨out, h1, h2⟩ := outOf (D := I 0) (LP := loopRun body keep k) (e := e) (R := fun _ s => R s) (fun st h0 => loopInd (P := fun r => ∃ s, r = some (e, s) ∧ R s) I n hs hf n 0 k st (by omega) hk h0)
  exact ⟨out, fun st h => ⟨h1 st h, h2 st h⟩⟩
/-- A list being written over by another, from the left. -/
def fillL (l m : List Int) (i : Nat) : List Int := l.take i ++ m.drop i
theorem fillL_zero (l m : List Int) : fillL l m 0 = m := by simp [fillL]
theorem fillL_all (l m : List Int) (h : m.length ≤ l.length) : fillL l m l.length = l := by simp [fillL, List.drop_eq_nil_of_le h]
theorem fillL_length (l m : List Int) (i : Nat) (h : m.length = l.length) : (fillL l m i).length = l.length := by simp [fillL]; omega
theorem fillL_get (l m : List Int) (i : Nat) (h : m.length = l.length) (hi : i < l.length) : (fillL l m i)[i]? = some (m[i]'(by omega)) := by
  unfold fillL
  rw [List.getElem?_append_right (by simp; omega)]
  have : i - (l.take i).length = 0 := by simp; omega
  rw [this, List.getElem?_drop, List.getElem?_eq_getElem (by omega)]
  rfl
theorem fillL_set (l m : List Int) (i : Nat) (h : m.length = l.length) (hi : i < l.length) : (fillL l m i).set i l[i] = fillL l m (i + 1) := by
  unfold fillL
  rw [List.set_append, if_neg (by simp; omega)]
  have : i - (l.take i).length = 0 := by simp; omega
  rw [this, List.drop_eq_getElem_cons (by omega : i < m.length), List.set_cons_zero, List.take_succ_eq_append_getElem hi, List.append_assoc]
  rfl
theorem wrap_next {i n : Nat} (h : i < n) (hn : n ≤ 9000000000000000000) : IntKind.i64.wrap ((i : Int) + 1) = (i : Int) + 1 := wrap_small (by omega) (by omega)
theorem ints_replicate (n : Nat) (a : Int) : List.replicate n [V.c (.int .i64 a)] = ints (List.replicate n a) := by simp [ints]
theorem okI (ty : TypeId) (l : List Int) : okObj ⟨ty, 1, true, ints l⟩ = true := by simp [okObj, ints, V.one, V.isC, Value.oneCell']
theorem ok_1 (ty : TypeId) (sz : Nat) (fl : Bool) (e : List V) : okObj ⟨ty, sz, fl, [e]⟩ = (e.length == sz && e.all fun x => x.one && (!fl || x.isC)) := by simp [okObj]
theorem ok_2 (ty : TypeId) (sz : Nat) (fl : Bool) (e e' : List V) : okObj ⟨ty, sz, fl, [e, e']⟩ = ((e.length == sz && e.all fun x => x.one && (!fl || x.isC)) && (e'.length == sz && e'.all fun x => x.one && (!fl || x.isC))) := by simp [okObj]
theorem ok_0 (ty : TypeId) (sz : Nat) (fl : Bool) : okObj ⟨ty, sz, fl, []⟩ = true := rfl
theorem wrap_1 : IntKind.i64.wrap 1 = 1 := rfl
theorem wrap_2 : IntKind.i64.wrap 2 = 2 := rfl
/-- A field that is only read: its slice's mark, its shape, its cells. -/
structure Fd where
  b : Bool
  w : Int
  h : Int
  l : List Int
def Fd.cells (q : Fd) : List V := [.c (.int .i64 q.w), .c (.int .i64 q.h), .sq q.b true 1 (ints q.l)]
def Fd.good (q : Fd) : Bool := goodB q.w q.h q.l
theorem young_far {rid j id : Nat} {W : List (Nat × Nat)} {ops : List Oper} (h : (decide (rid * 64 < id / 16) && decide (id / 16 ≤ rid * 64 + 64)) = false) : youngOf (some (rid, W)) ops j id = hidW W ops j id := by simp [youngOf, h]
theorem hidW_nil (ops : List Oper) (j id : Nat) : hidW [] ops j id = false := rfl
theorem mayW_nil (j id : Nat) : mayW [] j id = true := rfl
theorem keepsF_nil (j id : Nat) (old new : Option (Nat × Eng.Obj)) : keepsF [] j id old new = true := rfl
theorem keepsF_cons (z : Nat × Nat) (W : List (Nat × Nat)) (j id : Nat) (old new : Option (Nat × Eng.Obj)) : keepsF (z :: W) j id old new = ((!(z.1 == 1000 + j && z.2 / 8 == 12500 + id) || cellSame (z.2 % 8) old new) && keepsF W j id old new) := rfl
theorem young_none {j id : Nat} {ops : List Oper} : youngOf none ops j id = false := rfl
/-! Slots and objects are looked up one by one; a state is never opened under a binder. -/
theorem putV_some (ρ : Nat → V) (d x : Nat) (v : V) : putV ρ (some d) v x = if x = d then v else ρ x := rfl
theorem putV_none (ρ : Nat → V) (v : V) : putV ρ none v = ρ := rfl
def putH (H : Hp) (i : Nat) (o : Option (Nat × Eng.Obj)) : Hp := fun id => if id = i then o else H id
theorem putH_app (H : Hp) (i id : Nat) (o : Option (Nat × Eng.Obj)) : putH H i o id = if id = i then o else H id := rfl
theorem applyD_nil (H : Hp) : applyD H [] = H := rfl
theorem applyD_cons (H : Hp) (i : Nat) (o : Option (Nat × Eng.Obj)) (δ : List (Nat × Option (Nat × Eng.Obj))) : applyD H ((i, o) :: δ) = applyD (putH H i o) δ := rfl
theorem seen_app (rid j id : Nat) (W : List (Nat × Nat)) (ops : List Oper) (fr : Nat → Bool) (H : Hp) : Eng.seen (some (rid, W)) ops j fr H id = if youngOf (some (rid, W)) ops j id then (if fr id then H id else none) else H id := rfl
theorem gc_ρ (l : List Nat) (st : St) (x : Nat) : (gc l st).ρ x = if l.contains x then st.ρ x else .un := rfl
theorem gc_H (l : List Nat) (st : St) (id : Nat) : (gc l st).H id = if decide (id < 16) || (keepIds l st).contains id || l.contains 999 then st.H id else none := rfl
theorem gc_tick (l : List Nat) (st : St) : (gc l st).tick = st.tick := rfl
theorem st0_ρ (args : List V) (frag : List Eng.Obj) (x : Nat) : (st0 args frag).ρ x = args.getD x (.c undef) := rfl
theorem st0_H (args : List V) (frag : List Eng.Obj) (id : Nat) : (st0 args frag).H id = (frag[id]?).map fun o => (0, o) := rfl
theorem st0_tick (args : List V) (frag : List Eng.Obj) : (st0 args frag).tick = 1 := rfl
/-! Calls and ends, said without a state under a binder. -/
def retV (tick site : Nat) (v : V) (Hc : Hp) : Out :=
  if nodup ((refs v).map (·.1)) && noTag v && decide ((refs v).length ≤ 16) then
    match mapO (flatAt Hc) (refs v), ren (psi [] (refs v) site tick) v with
    | some objs, some v' => some (some v', newD tick (16 * site) objs)
    | _, _ => none
  else none
def callRo (call : CallF) (tick site : Nat) (f : FuncId) (al : Option (List V)) : Out :=
  match al with
  | none => none
  | some al => match call f al [] with
    | none => none
    | some (v, Hc) => retV tick site v Hc
theorem isRoot_0 (q : Nat × Nat) : isRoot 0 q = false := rfl
theorem filter_0 (l : List (Nat × Nat)) : l.filter (fun q => !isRoot 0 q) = l := by
  rw [List.filter_eq_self]; intro q _; rfl
def borL (H : Hp) (l : List V) : Option (List V) := mapO (bor H 4) l
theorem borL_nil (H : Hp) : borL H [] = some [] := by unfold borL; rw [mapO]
theorem borL_cons (H : Hp) (x : V) (l : List V) : borL H (x :: l) = (match bor H 4 x with
    | none => none
    | some y => match borL H l with
      | none => none
      | some l' => some (y :: l')) := by
  unfold borL
  rw [mapO]
  cases bor H 4 x <;> simp only [] <;> cases mapO (bor H 4) l <;> rfl
theorem callV_ro {C : Cfg} {call : CallF} {H : Hp} {tick site : Nat} {f : FuncId} {args : List V} (h : C.wr f = false) : callV C call H tick site f args = callRo call tick site f (borL H args) := by
  show _ = callRo call tick site f (mapO (bor H 4) args)
  have hp : passV false (C.own f) (fun id => if List.contains (List.map (·.1) ([] : List (Nat × Nat))) id = true then none else H id) (frs []) = bor H 4 := by
    funext x
    have hh : (fun id => if List.contains (List.map (·.1) ([] : List (Nat × Nat))) id = true then none else H id) = H := by funext id; rfl
    rw [hh]
    cases x <;> rfl
  unfold callV callRo
  simp only [h, Bool.false_eq_true, if_false, mapO, List.flatMap_nil, List.append_nil, List.map_nil, List.nil_append]
  simp only [List.map_nil] at hp
  rw [hp, if_pos (show nodup [] = true from rfl)]
  cases mapO (bor H 4) args with
  | none => rfl
  | some al =>
    simp only []
    cases call f al [] with
    | none => rfl
    | some r =>
      obtain ⟨v, Hc⟩ := r
      simp only [retV, List.length_nil, List.range_zero, List.map_nil, refsR, List.append_nil, noTagR, Bool.and_true, List.zip_nil_left, mapO, filter_0, List.nil_append]
      cases nodup ((refs v).map (·.1)) && noTag v && decide ((refs v).length ≤ 16) with
      | false => rfl
      | true =>
        simp only [if_true]
        cases mapO (flatAt Hc) (refs v) <;> cases ren (psi [] (refs v) site tick) v <;> rfl
def cutH (H : Hp) (ids : List Nat) : Hp := fun id => if ids.contains id then none else H id
theorem cutH_app (H : Hp) (ids : List Nat) (id : Nat) : cutH H ids id = if ids.contains id then none else H id := rfl
def findQ (H : Hp) (q : Nat × Nat) : Option Eng.Obj := find H q.1 q.2
def afterV (Hc : Hp) : Nat → List (Option Eng.Obj)
  | 0 => []
  | n + 1 => afterV Hc n ++ [find Hc n 0]
theorem afterV_is (Hc : Hp) (n : Nat) : (List.range n).map (fun i => find Hc i 0) = afterV Hc n := by
  induction n with
  | zero => rfl
  | succ n ih => rw [List.range_succ, List.map_append, ih]; rfl
def callWr (C : Cfg) (call : CallF) (H : Hp) (tick site : Nat) (f : FuncId) (args : List V) (roots : List (Nat × Nat)) : Out :=
  match mapO (findQ H) roots with
  | none => none
  | some robjs =>
    match mapO (flatAt H) (robjs.flatMap refsO) with
    | none => none
    | some sobjs =>
      if nodup ((roots ++ robjs.flatMap refsO).map (·.1)) then
        match mapO (passV true (C.own f) (cutH H ((roots ++ robjs.flatMap refsO).map (·.1))) (frs (roots ++ robjs.flatMap refsO))) args, mapO (renO (frs (roots ++ robjs.flatMap refsO))) robjs with
        | some al, some fr =>
          match call f al (fr ++ sobjs) with
          | none => none
          | some (v, Hc) =>
            let after := afterV Hc (roots ++ robjs.flatMap refsO).length
            let pulled := (refs v ++ refsR after).filter (fun q => !isRoot (roots ++ robjs.flatMap refsO).length q)
            if nodup (pulled.map (·.1)) && noTag v && decide (pulled.length ≤ 16) && noTagR after then
              match mapO (flatAt Hc) pulled, ren (psi (roots ++ robjs.flatMap refsO) pulled site tick) v, mapO (backR (psi (roots ++ robjs.flatMap refsO) pulled site tick)) ((roots ++ robjs.flatMap refsO).zip after) with
              | some objs, some v', some rs => some (some v', rs ++ newD tick (16 * site) objs)
              | _, _, _ => none
            else none
        | _, _ => none
      else none
theorem callV_wr {C : Cfg} {call : CallF} {H : Hp} {tick site : Nat} {f : FuncId} {args : List V} (h : C.wr f = true) : callV C call H tick site f args = callWr C call H tick site f args (args.flatMap (rootOf (C.own f))) := by
  unfold callV callWr
  simp only [h, if_true, ← afterV_is]
  rfl
theorem exportV_0 (v : V) (H : Hp) : exportV 0 v H = if nodup ((refs v).map (·.1)) then (match mapO (flatAt H) (refs v), ren (xi 0 (refs v)) v with
    | some objs, some v' => some (v', hpOf [] objs)
    | _, _ => none) else none := by
  simp only [exportV, List.range_zero, List.map_nil, refsR, List.append_nil, filter_0, mapO]
  cases nodup ((refs v).map (·.1)) with
  | false => rfl
  | true =>
    simp only [if_true]
    cases mapO (flatAt H) (refs v) <;> cases ren (xi 0 (refs v)) v <;> rfl
theorem exportV_n (n : Nat) (v : V) (H : Hp) : exportV (n + 1) v H =
    (if nodup (((refs v ++ refsR (afterV H (n + 1))).filter (fun q => !isRoot (n + 1) q)).map (·.1)) then
      match mapO (flatAt H) ((refs v ++ refsR (afterV H (n + 1))).filter (fun q => !isRoot (n + 1) q)), ren (xi (n + 1) ((refs v ++ refsR (afterV H (n + 1))).filter (fun q => !isRoot (n + 1) q))) v, mapO (renQ (xi (n + 1) ((refs v ++ refsR (afterV H (n + 1))).filter (fun q => !isRoot (n + 1) q)))) (afterV H (n + 1)) with
      | some objs, some v', some after' => some (v', hpOf after' objs)
      | _, _, _ => none
    else none) := by
  simp only [exportV, afterV_is]
  rfl
theorem okD_nil (dr : Dr) (yg : Nat → Bool) (H : Hp) (site : Nat) (wr : Bool) : okD dr yg H site wr [] = true := by cases dr <;> rfl
theorem okD_cons (rid : Nat) (W : List (Nat × Nat)) (yg : Nat → Bool) (H : Hp) (site i : Nat) (wr : Bool) (o : Option (Nat × Eng.Obj)) (δ : List (Nat × Option (Nat × Eng.Obj))) : okD (some (rid, W)) yg H site wr ((i, o) :: δ) =
    ((if i / 16 = site ∧ i % 16 < 8 then (H i).isNone && o.isSome else wr && !yg i && mayW W (site - rid * 64 - 1) i && keepsF W (site - rid * 64 - 1) i (H i) o) && okD (some (rid, W)) yg H site wr δ) := rfl
theorem sub_seq0 (p : List Nat) (a b : Code) : subC (0 :: p) (.seq a b) = subC p a := rfl
theorem sub_seq1 (p : List Nat) (a b : Code) : subC (1 :: p) (.seq a b) = subC p b := rfl
theorem sub_cond0 (p : List Nat) (t : Operand) (a b : Code) : subC (0 :: p) (.cond t a b) = subC p a := rfl
theorem sub_cond1 (p : List Nat) (t : Operand) (a b : Code) : subC (1 :: p) (.cond t a b) = subC p b := rfl
theorem sub_block (p : List Nat) (i : Nat) (a : Code) : subC (0 :: p) (.block i a) = subC p a := rfl
theorem sub_loop (p : List Nat) (a : Code) : subC (0 :: p) (.loop a) = subC p a := rfl
theorem sub_nil (c : Code) : subC [] c = c := by cases c <;> rfl
theorem fillL_keep (l m : List Int) (i : Nat) (h : m.length = l.length) (hi : i < l.length) (he : m[i]'(by omega) = l[i]) : fillL l m (i + 1) = fillL l m i := by
  rw [← fillL_set l m i h hi, ← he]
  have hg := fillL_get l m i h hi
  obtain ⟨hl, hg'⟩ := List.getElem?_eq_some_iff.1 hg
  rw [← hg', List.set_getElem_self]
def intsO (l : List Int) : Eng.Obj := ⟨3, 1, true, ints l⟩
theorem young_near {rid j id : Nat} {W : List (Nat × Nat)} {ops : List Oper} (h : (decide (rid * 64 < id / 16) && decide (id / 16 ≤ rid * 64 + 64)) = true) : youngOf (some (rid, W)) ops j id = ((decide (id % 16 < 8) && !((clo ops).getD j 0).testBit (id / 16 - rid * 64 - 1)) || hidW W ops j id) := by simp [youngOf, h]
theorem ints_snoc (l : List Int) (a : Int) : ints l ++ [[V.c (.int .i64 a)]] = ints (l ++ [a]) := by simp only [ints, List.map_append, List.map_cons, List.map_nil]
theorem take_self (l : List Int) (n : Nat) : (l.take n).take n = l.take n := by rw [List.take_take, Nat.min_self]
/-- A loop, asked of one state: what it leaves. -/
theorem loopHas {body : St → Option (Ex × St)} {keep : List Nat} (e : Ex) (R : St → Prop) (I : Nat → St → Prop) (n k : Nat) (hk : n < k)
    (hs : ∀ i st next, i < n → I i st → (∀ st', I (i + 1) st' → ∃ s, next st' = some (e, s) ∧ R s) → ∃ s, loopNext (body (gc keep st)) next = some (e, s) ∧ R s)
    (hf : ∀ st next, I n st → ∃ s, loopNext (body (gc keep st)) next = some (e, s) ∧ R s) :
    ∀ st, I 0 st → ∃ s, loopRun body keep k st = some (e, s) ∧ R s :=
  fun st h0 => loopInd (P := fun r => ∃ s, r = some (e, s) ∧ R s) I n hs hf n 0 k st (by omega) hk h0
theorem loop_at {LP : St → Option (Ex × St)} {e : Ex} {D R : St → Prop} (h : ∀ st, D st → ∃ s, LP st = some (e, s) ∧ R s) {st : St} {res : Option (Ex × St)} (hr : LP st = res) (hD : D st) : ∃ s, res = some (e, s) ∧ R s := by
  obtain ⟨s, h1, h2⟩ := h st hD
  exact ⟨s, hr ▸ h1, h2⟩
theorem run_at {e : Option (V × Hp)} {x : Option (V × Hp)} (h : x = e) : x = e := h
theorem callV_if {C : Cfg} {call : CallF} {H : Hp} {tick site : Nat} {f : FuncId} {args : List V} : callV C call H tick site f args = if C.wr f = true then callWr C call H tick site f args (args.flatMap (rootOf (C.own f))) else callRo call tick site f (borL H args) := by
  cases h : C.wr f
  · rw [callV_ro h, if_neg (by decide)]
  · rw [callV_wr h, if_pos rfl]

end Go.Proofs.YtbjmfjfnilmhhaaGreatDoor.Eng
namespace Go.Proofs.YtbjmfjfnilmhhaaGreatDoor.Eng
open Go Go.Proofs
set_option maxRecDepth 100000
set_option maxHeartbeats 2000000
set_option linter.unusedSimpArgs false
set_option linter.unusedVariables false
attribute [local simp] finK fin1 hpOf xi renQ isRoot runCode runOps stepX inlOf Eng.step wantedV astep val ofO made loadV storeV find V.cells bin binT binA numT numFs eqCells un1 setAt fieldAddrV fieldV indexAddrV indexV bounds sliceV convV lenV foldV max2V min2V callO bor rdsO wrsO seen_none okD_none loops keepIds resV resultsV St.ev TK.agg refs refsL refsO V.one V.isC Value.oneCell' ren renL renO noTag noTagL noTagR noTagO nodup mapO passV frs psi refsR newD loopNext opsAt idx flatAt rootOf backR newsV appendV copyV clearV strV bytesV bldV bufV selfV bytesOf nilCmp buildV fillF chunk freeL frzW cellSame sameV
attribute [local simp] cT cF cX cWR cOW cK cBL X ints_length ints_get ints_getElem ints_drop ints_take ints_append ints_nil ints_set
attribute [local simp] ints_replicate
attribute [local simp] putV_some putV_none putH_app applyD_nil applyD_cons seen_app gc_ρ gc_H gc_tick st0_ρ st0_H st0_tick retV callRo callV_if borL_nil borL_cons ints_snoc take_self callWr cutH_app findQ afterV exportV_0 exportV_n okD_nil okD_cons sub_seq0 sub_seq1 sub_cond0 sub_cond1 sub_block sub_loop sub_nil young_far young_none hidW_nil mayW_nil keepsF_nil keepsF_cons pairs okI ok_0 ok_1 ok_2
attribute [local simp] T3 T4 T5 T9 T22 T24 T33 T36 T38 T45 T48 T51 T52 T54 T56 T71 T72 T74 T77 T99 T104 T117 T121
theorem c_within (k : Nat) (x a b : Int) (hk : 1 ≤ k) : callK C k 30 [.c (.int .i64 x), .c (.int .i64 a), .c (.int .i64 b)] [] = some (.c (.bool (decide (a ≤ x) && decide (x ≤ b))), hpOf [] []) := by
  obtain ⟨k, rfl⟩ : ∃ m, k = m + 1 := ⟨k - 1, by omega⟩
  rw [callK_fn rfl F30 code30]
  by_cases h : a ≤ x <;> simp [R30_0, R30_1, Tryz.f30, h]
theorem c_isCell (k : Nat) (x : Int) (hk : 2 ≤ k) : callK C k 79 [.c (.int .i64 x)] [] = some (.c (.bool (cellB x)), hpOf [] []) := by
  obtain ⟨k, rfl⟩ : ∃ m, k = m + 2 := ⟨k - 2, by omega⟩
  rw [callK_fn rfl F79 code79]
  cases h : x == -9999 <;> simp [R79_0, R79_1, Tryz.f79, h, cellB, c_within]
theorem c_isCell1 (k : Nat) (x : Int) (hk : 3 ≤ k) : callK C k 78 [.c (.int .i64 x)] [] = some (.c (.bool (!cellB x)), hpOf [] []) := by
  obtain ⟨k, rfl⟩ : ∃ m, k = m + 3 := ⟨k - 3, by omega⟩
  rw [callK_fn rfl F78 code78]
  simp [R78_0, R78_1, Tryz.f78, c_isCell]
theorem c_IndexCell (k : Nat) (b : Bool) (l : List Int) (hl : l.length ≤ 1048576) (hk : l.length + 20 ≤ k) : ∃ r : Int, (0 ≤ r ↔ l.all cellB = false) ∧ callK C k 96 [.sq b true 1 (ints l), .fn 78 []] [] = some (.c (.int .i64 r), hpOf [] []) := by
  obtain ⟨k, rfl⟩ : ∃ m, k = m + 4 := ⟨k - 4, by omega⟩
  rw [callK_fn rfl F96 code96]
  have hc := fun x => c_isCell1 (k + 3) x (by omega)
  cases hall : l.all cellB
  · obtain ⟨i0, hi0, hc0, hlt⟩ : ∃ (i : Nat) (hi : i < l.length), cellB l[i] = false ∧ ∀ (j : Nat) (hj : j < i), cellB (l[j]'(by omega)) = true := by
      have hx : ∃ i, ∃ hi : i < l.length, cellB l[i] = false := by
        have : ¬ (l.all cellB = true) := by simp [hall]
        rw [List.all_eq_true] at this
        obtain ⟨x, hx, hx'⟩ := Classical.not_forall.1 this |>.imp fun x hx => Classical.not_imp.1 hx
        obtain ⟨i, hi, rfl⟩ := List.getElem_of_mem hx
        exact ⟨i, hi, by simpa using hx'⟩
      obtain ⟨i, hi, h1⟩ : ∃ i, (∃ hi : i < l.length, cellB l[i] = false) ∧ ∀ j, j < i → ¬ ∃ hi : j < l.length, cellB l[j] = false := by
        obtain ⟨i, hi⟩ := hx
        induction i using Nat.strongRecOn with
        | ind i ih =>
          by_cases hj : ∃ j, j < i ∧ ∃ hi : j < l.length, cellB l[j] = false
          · obtain ⟨j, hj1, hj2⟩ := hj; exact ih j hj1 hj2
          · exact ⟨i, hi, fun j hj' hj'' => hj ⟨j, hj', hj''⟩⟩
      exact ⟨i, hi.1, hi.2, fun j hj => by
        have hj2 : j < l.length := Nat.lt_trans hj hi.1
        cases hc : cellB (l[j]'hj2)
        · exact absurd ⟨hj2, hc⟩ (h1 j hj)
        · rfl⟩
    obtain ⟨out, ho⟩ := loopOut (body := fun st => runCode C (callK C (k + 3)) (k + 3) (K 96) L96_0 1 st) (keep := [0, 1, 7, 8]) .ret (fun st => st.ρ 4 = .c (.int .i64 (i0 : Int)))
      (fun i st => st.ρ 0 = .sq b true 1 (ints l) ∧ st.ρ 1 = .fn 78 [] ∧ st.ρ 7 = .c (.int .i64 (l.length : Int)) ∧ st.ρ 8 = .c (.int .i64 (i : Int)) ∧ i ≤ i0)
      i0 (k + 3) (by omega)
      (by
        rintro i st next hi ⟨h0, h1, h7, h8, hle⟩ hn
        have hil : i < l.length := by omega
        simp [L96_0, R96_0, R96_1, R96_2, R96_3, R96_4, R96_5, R96_6, R96_7, Tryz.f96, lpL96_0, lpM96_0, M96_0, h0, h1, h7, h8, hil, hc, hlt i hi, wrap_next hil (by omega)] at hn ⊢
        exact hn _ (by simp [h0]) (by simp [h1]) (by simp [h7]) (by simp) (by omega))
      (by
        rintro st next ⟨h0, h1, h7, h8, hle⟩
        simp [L96_0, R96_0, R96_1, R96_2, R96_3, R96_4, R96_5, R96_6, R96_7, Tryz.f96, lpL96_0, lpM96_0, M96_0, h0, h1, h7, h8, hi0, hc, hc0])
    simp at ho
    refine ⟨(i0 : Int), by simp, ?_⟩
    simp [R96_0, R96_1, R96_2, R96_3, R96_4, R96_5, R96_6, R96_7, Tryz.f96, lpL96_0, lpM96_0, M96_0, ho]
  · obtain ⟨out, ho⟩ := loopOut (body := fun st => runCode C (callK C (k + 3)) (k + 3) (K 96) L96_0 1 st) (keep := [0, 1, 7, 8]) (.ex 0) (fun st => True)
      (fun i st => st.ρ 0 = .sq b true 1 (ints l) ∧ st.ρ 1 = .fn 78 [] ∧ st.ρ 7 = .c (.int .i64 (l.length : Int)) ∧ st.ρ 8 = .c (.int .i64 (i : Int)))
      l.length (k + 3) (by omega)
      (by
        rintro i st next hi ⟨h0, h1, h7, h8⟩ hn
        have hci : cellB l[i] = true := List.all_eq_true.1 hall _ (List.getElem_mem hi)
        simp [L96_0, R96_0, R96_1, R96_2, R96_3, R96_4, R96_5, R96_6, R96_7, Tryz.f96, lpL96_0, lpM96_0, M96_0, h0, h1, h7, h8, hi, hc, hci, wrap_next hi (by omega)] at hn ⊢
        exact hn _ (by simp [h0]) (by simp [h1]) (by simp [h7]) (by simp))
      (by
        rintro st next ⟨h0, h1, h7, h8⟩
        simp [L96_0, R96_0, R96_1, R96_2, R96_3, R96_4, R96_5, R96_6, R96_7, Tryz.f96, lpL96_0, lpM96_0, M96_0, h0, h1, h7, h8])
    simp at ho
    refine ⟨-1, by simp, ?_⟩
    simp [R96_0, R96_1, R96_2, R96_3, R96_4, R96_5, R96_6, R96_7, Tryz.f96, lpL96_0, lpM96_0, M96_0, ho]
theorem c_ContainsCell (k : Nat) (b : Bool) (l : List Int) (hl : l.length ≤ 1048576) (hk : l.length + 30 ≤ k) : callK C k 77 [.sq b true 1 (ints l), .fn 78 []] [] = some (.c (.bool (!l.all cellB)), hpOf [] []) := by
  obtain ⟨k, rfl⟩ : ∃ m, k = m + 5 := ⟨k - 5, by omega⟩
  rw [callK_fn rfl F77 code77]
  obtain ⟨r, hr, hc⟩ := c_IndexCell (k + 4) b l hl (by omega)
  cases hall : l.all cellB
  · have : (0 : Int) ≤ r := hr.2 hall
    simp [R77_0, R77_1, Tryz.f77, hc, this]
  · have : ¬ (0 : Int) ≤ r := fun h => by rw [hr.1 h] at hall; cases hall
    simp [R77_0, R77_1, Tryz.f77, hc, this]
theorem c_IsValidField (k : Nat) (b : Bool) (w h : Int) (l : List Int) (hk : 200 ≤ k) : callK C k 53 [fldV b w h l] [] = some (.c (.bool (goodB w h l)), hpOf [] []) := by
  obtain ⟨k, rfl⟩ : ∃ m, k = m + 6 := ⟨k - 6, by omega⟩
  rw [callK_fn rfl F53 code53]
  have e1 : goodB w h l = (((decide (1 ≤ w) && decide (w ≤ 8)) && (decide (1 ≤ h) && decide (h ≤ 8))) && (((l.length : Int) == w * h) && l.all cellB)) := rfl
  cases h1 : (decide (1 ≤ w) && decide (w ≤ 8))
  · rw [e1, h1]
    simp [R53_0, R53_1, Tryz.f53, fldV, c_within, h1]
  cases h2 : (decide (1 ≤ h) && decide (h ≤ 8))
  · rw [e1, h1, h2]
    simp [R53_0, R53_1, Tryz.f53, fldV, c_within, h1, h2]
  have hs : shapeB w h = true := by simp only [shapeB, h1, h2]; rfl
  obtain ⟨hp0, hp, _⟩ := shape_area hs
  have hw : IntKind.i64.wrap (w * h) = w * h := wrap_small (by omega) (by omega)
  rw [e1, h1, h2]
  by_cases h3 : (l.length : Int) = w * h
  · have hc := c_ContainsCell (k + 5) true l (by omega) (by omega)
    have hc' := c_ContainsCell (k + 5) b l (by omega) (by omega)
    cases hall : l.all cellB <;> simp [R53_0, R53_1, Tryz.f53, fldV, c_within, h1, h2, h3, hw, hc, hc', hall]
  · have h3' : ((l.length : Int) == w * h) = false := by simpa using h3
    simp [R53_0, R53_1, Tryz.f53, fldV, c_within, h1, h2, h3', hw]
def ownV (w h : Int) (id vr n : Nat) : V := .ag [.c (.int .i64 w), .c (.int .i64 h), .s id vr 1 0 n]
def nilV : V := .ag [.c (.int .i64 0), .c (.int .i64 0), .c (.slice none 0 0)]

end Go.Proofs.YtbjmfjfnilmhhaaGreatDoor.Eng
namespace Go.Proofs.YtbjmfjfnilmhhaaGreatDoor.Eng
open Go Go.Proofs
set_option maxRecDepth 100000
set_option maxHeartbeats 2000000
set_option linter.unusedSimpArgs false
set_option linter.unusedVariables false
attribute [local simp] finK fin1 hpOf xi renQ isRoot runCode runOps stepX inlOf Eng.step wantedV astep val ofO made loadV storeV find V.cells bin binT binA numT numFs eqCells un1 setAt fieldAddrV fieldV indexAddrV indexV bounds sliceV convV lenV foldV max2V min2V callO bor rdsO wrsO seen_none okD_none loops keepIds resV resultsV St.ev TK.agg refs refsL refsO V.one V.isC Value.oneCell' ren renL renO noTag noTagL noTagR noTagO nodup mapO passV frs psi refsR newD loopNext opsAt idx flatAt rootOf backR newsV appendV copyV clearV strV bytesV bldV bufV selfV bytesOf nilCmp buildV fillF chunk freeL frzW cellSame sameV
attribute [local simp] cT cF cX cWR cOW cK cBL X ints_length ints_get ints_getElem ints_drop ints_take ints_append ints_nil ints_set
attribute [local simp] ints_replicate
attribute [local simp] putV_some putV_none putH_app applyD_nil applyD_cons seen_app gc_ρ gc_H gc_tick st0_ρ st0_H st0_tick retV callRo callV_if borL_nil borL_cons ints_snoc take_self callWr cutH_app findQ afterV exportV_0 exportV_n okD_nil okD_cons sub_seq0 sub_seq1 sub_cond0 sub_cond1 sub_block sub_loop sub_nil young_far young_none hidW_nil mayW_nil keepsF_nil keepsF_cons pairs okI ok_0 ok_1 ok_2
attribute [local simp] T3 T4 T5 T9 T22 T24 T33 T36 T38 T45 T48 T51 T52 T54 T56 T71 T72 T74 T77 T99 T104 T117 T121
theorem c_sameShape (k : Nat) (b c : Bool) (w h w' h' : Int) (l m : List Int) (hk : 1 ≤ k) : callK C k 54 [fldV b w h l, fldV c w' h' m] [] = some (.c (.bool (w == w' && h == h')), hpOf [] []) := by
  obtain ⟨k, rfl⟩ : ∃ m, k = m + 1 := ⟨k - 1, by omega⟩
  rw [callK_fn rfl F54 code54]
  cases hw : w == w' <;> simp [R54_0, R54_1, Tryz.f54, fldV, hw]
theorem c_Clone (k : Nat) (b : Bool) (l : List Int) (hl : l.length ≤ 1048576) (h0 : l ≠ []) (hk : 1 ≤ k) : callK C k 80 [.sq b true 1 (ints l)] [] = some (.s 0 2 1 0 l.length, hpOf [] [intsO l]) := by
  obtain ⟨k, rfl⟩ : ∃ m, k = m + 1 := ⟨k - 1, by omega⟩
  rw [callK_fn rfl F80 code80]
  have b2 : l.length * 8 ≤ 140737488355328 := by omega
  have b3 : l.length ≤ maxLen := by unfold maxLen; omega
  simp [R80_0, R80_1, R80_2, R80_3, Tryz.f80, h0, intsO, b2, b3]
theorem c_cloneField (k : Nat) (b : Bool) (w h : Int) (l : List Int) (hl : l.length ≤ 1048576) (h0 : l ≠ []) (hk : 2 ≤ k) : callK C k 55 [fldV b w h l] [] = some (.ag [.c (.int .i64 w), .c (.int .i64 h), .s 0 2 1 0 l.length], hpOf [] [intsO l]) := by
  obtain ⟨k, rfl⟩ : ∃ m, k = m + 2 := ⟨k - 2, by omega⟩
  rw [callK_fn rfl F55 code55]
  have hc := c_Clone (k + 1) b l hl h0 (by omega)
  have hc' := c_Clone (k + 1) true l hl h0 (by omega)
  simp [R55_0, R55_1, Tryz.f55, fldV, hc, hc', intsO]
theorem c_checkedField (k : Nat) (w h : Int) (l : List Int) (hk : 210 ≤ k) : callK C k 98 [ownV w h 0 0 l.length] [intsO l] = some (.tp [if goodB w h l then ownV w h 0 0 l.length else nilV, .c (.bool (goodB w h l))], hpOf [some (intsO l)] []) := by
  obtain ⟨k, rfl⟩ : ∃ m, k = m + 7 := ⟨k - 7, by omega⟩
  rw [callK_fn rfl F98 code98]
  have hv := c_IsValidField (k + 6) true w h l (by omega)
  simp [fldV] at hv
  cases hg : goodB w h l
  · simp [R98_0, R98_1, R98_2, R98_3, Tryz.f98, ownV, nilV, intsO, hv, hg]
  · simp [R98_0, R98_1, R98_2, R98_3, Tryz.f98, ownV, nilV, intsO, hv, hg]

end Go.Proofs.YtbjmfjfnilmhhaaGreatDoor.Eng
namespace Go.Proofs.YtbjmfjfnilmhhaaGreatDoor.Eng
open Go Go.Proofs
set_option maxRecDepth 100000
set_option maxHeartbeats 2000000
set_option linter.unusedSimpArgs false
set_option linter.unusedVariables false
attribute [local simp] finK fin1 hpOf xi renQ isRoot runCode runOps stepX inlOf Eng.step wantedV astep val ofO made loadV storeV find V.cells bin binT binA numT numFs eqCells un1 setAt fieldAddrV fieldV indexAddrV indexV bounds sliceV convV lenV foldV max2V min2V callO bor rdsO wrsO seen_none okD_none loops keepIds resV resultsV St.ev TK.agg refs refsL refsO V.one V.isC Value.oneCell' ren renL renO noTag noTagL noTagR noTagO nodup mapO passV frs psi refsR newD loopNext opsAt idx flatAt rootOf backR newsV appendV copyV clearV strV bytesV bldV bufV selfV bytesOf nilCmp buildV fillF chunk freeL frzW cellSame sameV
attribute [local simp] cT cF cX cWR cOW cK cBL X ints_length ints_get ints_getElem ints_drop ints_take ints_append ints_nil ints_set
attribute [local simp] ints_replicate
attribute [local simp] putV_some putV_none putH_app applyD_nil applyD_cons seen_app gc_ρ gc_H gc_tick st0_ρ st0_H st0_tick retV callRo callV_if borL_nil borL_cons ints_snoc take_self callWr cutH_app findQ afterV exportV_0 exportV_n okD_nil okD_cons sub_seq0 sub_seq1 sub_cond0 sub_cond1 sub_block sub_loop sub_nil young_far young_none hidW_nil mayW_nil keepsF_nil keepsF_cons pairs okI ok_0 ok_1 ok_2
attribute [local simp] T3 T4 T5 T9 T22 T24 T33 T36 T38 T45 T48 T51 T52 T54 T56 T71 T72 T74 T77 T99 T104 T117 T121
theorem c_l1In (k : Nat) (x a b : Int) (hk : 1 ≤ k) : callK C k 60 [.c (.int .i64 x), .c (.int .i64 a), .c (.int .i64 b)] [] = some (.c (.bool (decide (a ≤ x) && decide (x ≤ b))), hpOf [] []) := by
  obtain ⟨k, rfl⟩ : ∃ m, k = m + 1 := ⟨k - 1, by omega⟩
  rw [callK_fn rfl F60 code60]
  by_cases h : a ≤ x <;> simp [R60_0, R60_1, Tryz.f60, h]
theorem c_l2Value (k : Nat) (x : Int) (hk : 2 ≤ k) : callK C k 100 [.c (.int .i64 x)] [] = some (.c (.bool (cellB x)), hpOf [] []) := by
  obtain ⟨k, rfl⟩ : ∃ m, k = m + 2 := ⟨k - 2, by omega⟩
  rw [callK_fn rfl F100 code100]
  cases h : x == -9999 <;> simp [R100_0, R100_1, Tryz.f100, h, cellB, c_l1In]
theorem c_l2Shape (k : Nat) (x y : Int) (hk : 2 ≤ k) : callK C k 99 [.c (.int .i64 x), .c (.int .i64 y)] [] = some (.c (.bool (shapeB x y)), hpOf [] []) := by
  obtain ⟨k, rfl⟩ : ∃ m, k = m + 2 := ⟨k - 2, by omega⟩
  rw [callK_fn rfl F99 code99]
  unfold shapeB
  cases h : (decide (1 ≤ x) && decide (x ≤ 8)) <;> simp [R99_0, R99_1, Tryz.f99, h, c_l1In]
theorem c_l2Good (k : Nat) (b : Bool) (w h : Int) (l : List Int) (hk : 100 ≤ k) : callK C k 87 [fldV b w h l] [] = some (.c (.bool (goodB w h l)), hpOf [] []) := by
  obtain ⟨k, rfl⟩ : ∃ m, k = m + 3 := ⟨k - 3, by omega⟩
  rw [callK_fn rfl F87 code87]
  cases h1 : shapeB w h
  · simp [R87_0, R87_1, R87_2, R87_3, R87_4, R87_5, R87_6, R87_7, R87_8, Tryz.f87, lpL87_0, lpM87_0, M87_0, c_l2Shape, fldV, goodB, h1]
  obtain ⟨hp0, hp, _⟩ := shape_area h1
  have hw : IntKind.i64.wrap (w * h) = w * h := wrap_small (by omega) (by omega)
  by_cases h2 : (l.length : Int) = w * h
  · simp only [fldV, goodB, h1, h2]
    have hc := fun x => c_l2Value (k + 2) x (by omega)
    cases hall : l.all cellB
    · obtain ⟨out, ho⟩ := loopOut (body := fun st => runCode C (callK C (k + 2)) (k + 2) (K 87) L87_0 1 st) (keep := [1, 3]) .ret (fun st => st.ρ 2 = .c (.bool false))
        (fun i st => st.ρ 1 = .p 16 1 3 0 0 ∧ st.H 16 = some (1, ⟨38, 3, false, [[.c (.int .i64 w), .c (.int .i64 h), .sq b true 1 (ints l)]]⟩) ∧ st.ρ 3 = .c (.int .i64 (i : Int)) ∧ (l.take i).all cellB = true)
        l.length (k + 2) (by omega)
        (by
          rintro i st next hi ⟨h1, hH, h3, ht⟩ hn
          cases hx : cellB l[i]
          · simp [L87_0, R87_0, R87_1, R87_2, R87_3, R87_4, R87_5, R87_6, R87_7, R87_8, Tryz.f87, lpL87_0, lpM87_0, M87_0, h1, hH, h3, hi, hc, hx]
          · have ht' : (l.take (i + 1)).all cellB = true := by rw [List.take_succ_eq_append_getElem hi, List.all_append, ht]; simp [hx]
            simp [L87_0, R87_0, R87_1, R87_2, R87_3, R87_4, R87_5, R87_6, R87_7, R87_8, Tryz.f87, lpL87_0, lpM87_0, M87_0, h1, hH, h3, hi, hc, hx, wrap_next hi (by omega : l.length ≤ 9000000000000000000)]
            exact hn _ (by simp [h1, hH]; simpa using ht'))
        (by
          rintro st next ⟨h1, hH, h3, ht⟩
          rw [List.take_of_length_le (Nat.le_refl _), hall] at ht
          cases ht)
      simp at ho
      simp [R87_0, R87_1, R87_2, R87_3, R87_4, R87_5, R87_6, R87_7, R87_8, Tryz.f87, lpL87_0, lpM87_0, M87_0, c_l2Shape, h1, hw, h2, ho]
    · obtain ⟨out, ho⟩ := loopOut (body := fun st => runCode C (callK C (k + 2)) (k + 2) (K 87) L87_0 1 st) (keep := [1, 3]) (.ex 0) (fun st => st.tick = st.tick)
        (fun i st => st.ρ 1 = .p 16 1 3 0 0 ∧ st.H 16 = some (1, ⟨38, 3, false, [[.c (.int .i64 w), .c (.int .i64 h), .sq b true 1 (ints l)]]⟩) ∧ st.ρ 3 = .c (.int .i64 (i : Int)))
        l.length (k + 2) (by omega)
        (by
          rintro i st next hi ⟨h1, hH, h3⟩ hn
          have hx : cellB l[i] = true := List.all_eq_true.1 hall _ (List.getElem_mem hi)
          simp [L87_0, R87_0, R87_1, R87_2, R87_3, R87_4, R87_5, R87_6, R87_7, R87_8, Tryz.f87, lpL87_0, lpM87_0, M87_0, h1, hH, h3, hi, hc, hx, wrap_next hi (by omega : l.length ≤ 9000000000000000000)]
          simp only [and_true] at hn
          exact hn _ (by simp [h1, hH]))
        (by
          rintro st next ⟨h1, hH, h3⟩
          simp [L87_0, R87_0, R87_1, R87_2, R87_3, R87_4, R87_5, R87_6, R87_7, R87_8, Tryz.f87, lpL87_0, lpM87_0, M87_0, h1, hH, h3])
      simp at ho
      simp [R87_0, R87_1, R87_2, R87_3, R87_4, R87_5, R87_6, R87_7, R87_8, Tryz.f87, lpL87_0, lpM87_0, M87_0, c_l2Shape, h1, hw, h2, ho]
  · have h2' : ((l.length : Int) == w * h) = false := by simpa using h2
    simp [R87_0, R87_1, R87_2, R87_3, R87_4, R87_5, R87_6, R87_7, R87_8, Tryz.f87, lpL87_0, lpM87_0, M87_0, c_l2Shape, fldV, goodB, h1, hw, h2, h2']

end Go.Proofs.YtbjmfjfnilmhhaaGreatDoor.Eng
namespace Go.Proofs.YtbjmfjfnilmhhaaGreatDoor.Eng
open Go Go.Proofs
set_option maxRecDepth 100000
set_option maxHeartbeats 2000000
set_option linter.unusedSimpArgs false
set_option linter.unusedVariables false
attribute [local simp] finK fin1 hpOf xi renQ isRoot runCode runOps stepX inlOf Eng.step wantedV astep val ofO made loadV storeV find V.cells bin binT binA numT numFs eqCells un1 setAt fieldAddrV fieldV indexAddrV indexV bounds sliceV convV lenV foldV max2V min2V callO bor rdsO wrsO seen_none okD_none loops keepIds resV resultsV St.ev TK.agg refs refsL refsO V.one V.isC Value.oneCell' ren renL renO noTag noTagL noTagR noTagO nodup mapO passV frs psi refsR newD loopNext opsAt idx flatAt rootOf backR newsV appendV copyV clearV strV bytesV bldV bufV selfV bytesOf nilCmp buildV fillF chunk freeL frzW cellSame sameV
attribute [local simp] cT cF cX cWR cOW cK cBL X ints_length ints_get ints_getElem ints_drop ints_take ints_append ints_nil ints_set
attribute [local simp] ints_replicate
attribute [local simp] putV_some putV_none putH_app applyD_nil applyD_cons seen_app gc_ρ gc_H gc_tick st0_ρ st0_H st0_tick retV callRo callV_if borL_nil borL_cons ints_snoc take_self callWr cutH_app findQ afterV exportV_0 exportV_n okD_nil okD_cons sub_seq0 sub_seq1 sub_cond0 sub_cond1 sub_block sub_loop sub_nil young_far young_none hidW_nil mayW_nil keepsF_nil keepsF_cons pairs okI ok_0 ok_1 ok_2
attribute [local simp] T3 T4 T5 T9 T22 T24 T33 T36 T38 T45 T48 T51 T52 T54 T56 T71 T72 T74 T77 T99 T104 T117 T121
theorem c_l1Most (k : Nat) (x y : Int) (hk : 1 ≤ k) : callK C k 92 [.c (.int .i64 x), .c (.int .i64 y)] [] = some (.c (.int .i64 (if x > y then x else y)), hpOf [] []) := by
  obtain ⟨k, rfl⟩ : ∃ m, k = m + 1 := ⟨k - 1, by omega⟩
  rw [callK_fn rfl F92 code92]
  by_cases h : y < x <;> simp [R92_0, R92_1, R92_2, R92_3, Tryz.f92, h]
theorem c_l1Least (k : Nat) (x y : Int) (hk : 1 ≤ k) : callK C k 91 [.c (.int .i64 x), .c (.int .i64 y)] [] = some (.c (.int .i64 (if x < y then x else y)), hpOf [] []) := by
  obtain ⟨k, rfl⟩ : ∃ m, k = m + 1 := ⟨k - 1, by omega⟩
  rw [callK_fn rfl F91 code91]
  by_cases h : x < y <;> simp [R91_0, R91_1, R91_2, R91_3, Tryz.f91, h]

end Go.Proofs.YtbjmfjfnilmhhaaGreatDoor.Eng
namespace Go.Proofs.YtbjmfjfnilmhhaaGreatDoor.Eng
open Go Go.Proofs
set_option maxRecDepth 100000
set_option maxHeartbeats 2000000
set_option linter.unusedSimpArgs false
set_option linter.unusedVariables false
attribute [local simp] finK fin1 hpOf xi renQ isRoot runCode runOps stepX inlOf Eng.step wantedV astep val ofO made loadV storeV find V.cells bin binT binA numT numFs eqCells un1 setAt fieldAddrV fieldV indexAddrV indexV bounds sliceV convV lenV foldV max2V min2V callO bor rdsO wrsO seen_none okD_none loops keepIds resV resultsV St.ev TK.agg refs refsL refsO V.one V.isC Value.oneCell' ren renL renO noTag noTagL noTagR noTagO nodup mapO passV frs psi refsR newD loopNext opsAt idx flatAt rootOf backR newsV appendV copyV clearV strV bytesV bldV bufV selfV bytesOf nilCmp buildV fillF chunk freeL frzW cellSame sameV
attribute [local simp] cT cF cX cWR cOW cK cBL X ints_length ints_get ints_getElem ints_drop ints_take ints_append ints_nil ints_set
attribute [local simp] ints_replicate
attribute [local simp] putV_some putV_none putH_app applyD_nil applyD_cons seen_app gc_ρ gc_H gc_tick st0_ρ st0_H st0_tick retV callRo callV_if borL_nil borL_cons ints_snoc take_self callWr cutH_app findQ afterV exportV_0 exportV_n okD_nil okD_cons sub_seq0 sub_seq1 sub_cond0 sub_cond1 sub_block sub_loop sub_nil young_far young_none hidW_nil mayW_nil keepsF_nil keepsF_cons pairs okI ok_0 ok_1 ok_2
attribute [local simp] T3 T4 T5 T9 T22 T24 T33 T36 T38 T45 T48 T51 T52 T54 T56 T71 T72 T74 T77 T99 T104 T117 T121
theorem c_l1Own (k : Nat) (b : Bool) (l : List Int) (hl : l.length ≤ 1048576) (hk : 1 ≤ k) : callK C k 88 [.sq b true 1 (ints l)] [] = some (.s 0 2 1 0 l.length, hpOf [] [intsO l]) := by
  obtain ⟨k, rfl⟩ : ∃ m, k = m + 1 := ⟨k - 1, by omega⟩
  rw [callK_fn rfl F88 code88]
  have b2 : l.length * 8 ≤ 140737488355328 := by omega
  have b3 : l.length ≤ maxLen := by unfold maxLen; omega
  by_cases h0 : l = []
  · subst h0
    simp [R88_0, R88_1, Tryz.f88, intsO, ints]
  · simp [R88_0, R88_1, Tryz.f88, h0, intsO, b2, b3]
theorem c_l2Own (k : Nat) (b : Bool) (w h : Int) (l : List Int) (hl : l.length ≤ 1048576) (hk : 2 ≤ k) : callK C k 61 [fldV b w h l] [] = some (ownV w h 0 2 l.length, hpOf [] [intsO l]) := by
  obtain ⟨k, rfl⟩ : ∃ m, k = m + 2 := ⟨k - 2, by omega⟩
  rw [callK_fn rfl F61 code61]
  have hc := c_l1Own (k + 1) b l hl (by omega)
  simp [R61_0, R61_1, Tryz.f61, fldV, hc, intsO, ownV]
theorem c_l2Same (k : Nat) (b c : Bool) (w h w' h' : Int) (l m : List Int) (hk : 110 ≤ k) : callK C k 59 [fldV b w h l, fldV c w' h' m] [] = some (.c (.bool (goodB w h l && (goodB w' h' m && (w == w' && h == h')))), hpOf [] []) := by
  obtain ⟨k, rfl⟩ : ∃ m, k = m + 2 := ⟨k - 2, by omega⟩
  rw [callK_fn rfl F59 code59]
  have g1 := c_l2Good (k + 1) b w h l (by omega)
  have g2 := c_l2Good (k + 1) c w' h' m (by omega)
  simp only [fldV] at g1 g2
  cases e1 : goodB w h l
  · simp [R59_0, R59_1, Tryz.f59, fldV, g1, e1]
  cases e2 : goodB w' h' m
  · simp [R59_0, R59_1, Tryz.f59, fldV, g1, e1, g2, e2]
  cases e3 : w == w'
  · simp [R59_0, R59_1, Tryz.f59, fldV, g1, e1, g2, e2, e3]
  · simp [R59_0, R59_1, Tryz.f59, fldV, g1, e1, g2, e2, e3]

end Go.Proofs.YtbjmfjfnilmhhaaGreatDoor.Eng
namespace Go.Proofs.YtbjmfjfnilmhhaaGreatDoor.Eng
open Go Go.Proofs
set_option maxRecDepth 100000
set_option maxHeartbeats 2000000
set_option linter.unusedSimpArgs false
set_option linter.unusedVariables false
/-- Nodes: kind and value; how many arguments a node takes, -1: it is no node. -/
def arI (q : Int × Int) : Int := if (q.1 = 1 ∧ (0 ≤ q.2 ∧ q.2 ≤ 3)) ∨ (q.1 = 2 ∧ (0 ≤ q.2 ∧ q.2 ≤ 9000)) then 0 else if (3 ≤ q.1 ∧ q.1 ≤ 6) ∧ q.2 = 0 then 2 else if q.1 = 7 ∧ (0 ≤ q.2 ∧ q.2 ≤ 9000) then 1 else -1
theorem ar_cases (q : Int × Int) : arI q = 0 ∨ arI q = 1 ∨ arI q = 2 ∨ arI q = -1 := by
  unfold arI
  split
  · exact .inl rfl
  split
  · exact .inr (.inr (.inl rfl))
  split
  · exact .inr (.inl rfl)
  · exact .inr (.inr (.inr rfl))
/-- How many expressions lie on the stack behind i nodes; -1: it fell. -/
def runO (l : List (Int × Int)) : Nat → Int
  | 0 => 0
  | i + 1 => if runO l i < 0 ∨ arI (l.getD i (0, 0)) < 0 ∨ runO l i < arI (l.getD i (0, 0)) then -1 else runO l i - arI (l.getD i (0, 0)) + 1
theorem runO_succ (l : List (Int × Int)) (i : Nat) : runO l (i + 1) = if runO l i < 0 ∨ arI (l.getD i (0, 0)) < 0 ∨ runO l i < arI (l.getD i (0, 0)) then -1 else runO l i - arI (l.getD i (0, 0)) + 1 := rfl
def goodE (l : List (Int × Int)) : Bool := decide (l.length ≤ 15) && decide (runO l l.length = 1)
theorem runO_ge (l : List (Int × Int)) (i : Nat) : -1 ≤ runO l i := by
  induction i with
  | zero => simp [runO]
  | succ i ih =>
    rw [runO_succ]
    split
    · omega
    · rcases ar_cases (l.getD i (0, 0)) with h | h | h | h <;> omega
theorem runO_le (l : List (Int × Int)) (i : Nat) : runO l i ≤ i := by
  induction i with
  | zero => simp [runO]
  | succ i ih =>
    rw [runO_succ]
    split
    · omega
    · rcases ar_cases (l.getD i (0, 0)) with h | h | h | h <;> omega
theorem runO_back {l : List (Int × Int)} {i : Nat} (h : 0 ≤ runO l (i + 1)) : 0 ≤ runO l i ∧ 0 ≤ arI (l.getD i (0, 0)) ∧ arI (l.getD i (0, 0)) ≤ runO l i ∧ runO l (i + 1) = runO l i - arI (l.getD i (0, 0)) + 1 := by
  rw [runO_succ] at h ⊢
  split at h
  · omega
  · rename_i hn
    rw [if_neg hn]
    omega
theorem runO_mono {l : List (Int × Int)} {n : Nat} (h : 0 ≤ runO l n) : ∀ d i, i + d = n → 0 ≤ runO l i
  | 0, i, e => by obtain rfl : i = n := by omega
                  exact h
  | d + 1, i, e => (runO_back (runO_mono h d (i + 1) (by omega))).1
theorem runO_pos {l : List (Int × Int)} {i : Nat} (h : 0 ≤ runO l (i + 1)) : 1 ≤ runO l (i + 1) := by
  have := runO_back h
  omega
/-- The stack behind i nodes, the last one ahead: where each expression begins, how deep it is. -/
def stk (l : List (Int × Int)) : Nat → List (Nat × Int)
  | 0 => []
  | i + 1 => if arI (l.getD i (0, 0)) = 0 then (i, 1) :: stk l i else if arI (l.getD i (0, 0)) = 1 then (match stk l i with
    | (a, d) :: s => (a, d + 1) :: s
    | [] => []) else (match stk l i with
    | (_, d2) :: (a, d1) :: s => (a, (if d1 > d2 then d1 else d2) + 1) :: s
    | s => s)
theorem stk_0 {l : List (Int × Int)} {i : Nat} (h : arI (l.getD i (0, 0)) = 0) : stk l (i + 1) = (i, 1) :: stk l i := by rw [stk, if_pos h]
theorem stk_1 {l : List (Int × Int)} {i : Nat} {a : Nat} {d : Int} {s : List (Nat × Int)} (h : arI (l.getD i (0, 0)) = 1) (hs : stk l i = (a, d) :: s) : stk l (i + 1) = (a, d + 1) :: s := by rw [stk, if_neg (by omega), if_pos h, hs]
theorem stk_2 {l : List (Int × Int)} {i : Nat} {a a2 : Nat} {d1 d2 : Int} {s : List (Nat × Int)} (h : arI (l.getD i (0, 0)) = 2) (hs : stk l i = (a2, d2) :: (a, d1) :: s) : stk l (i + 1) = (a, (if d1 > d2 then d1 else d2) + 1) :: s := by rw [stk, if_neg (by omega), if_neg (by omega), hs]
theorem stk_len {l : List (Int × Int)} : ∀ i, 0 ≤ runO l i → ((stk l i).length : Int) = runO l i
  | 0, _ => by simp [stk, runO]
  | i + 1, h => by
    obtain ⟨h1, h2, h3, h4⟩ := runO_back h
    have ih := stk_len i h1
    rw [h4]
    rcases ar_cases (l.getD i (0, 0)) with e | e | e | e
    · rw [stk_0 e, e]; simp only [List.length_cons]; omega
    · cases hs : stk l i with
      | nil => rw [hs] at ih; simp only [List.length_nil] at ih; omega
      | cons x s => obtain ⟨a, d⟩ := x; rw [stk_1 e hs, e]; rw [hs] at ih; simp only [List.length_cons] at ih ⊢; omega
    · cases hs : stk l i with
      | nil => rw [hs] at ih; simp only [List.length_nil] at ih; omega
      | cons x s =>
        cases s with
        | nil => rw [hs] at ih; simp only [List.length_cons, List.length_nil] at ih; omega
        | cons y s => obtain ⟨a2, d2⟩ := x; obtain ⟨a, d1⟩ := y; rw [stk_2 e hs, e]; rw [hs] at ih; simp only [List.length_cons] at ih ⊢; omega
    · omega
/-- Behind a node: an expression that begins at some place, on what lay there then. -/
theorem stk_top {l : List (Int × Int)} : ∀ i, 0 ≤ runO l (i + 1) → ∃ a d, a ≤ i ∧ stk l (i + 1) = (a, d) :: stk l a := by
  intro i
  induction i using Nat.strongRecOn with
  | _ i ih =>
    intro h
    obtain ⟨h1, h2, h3, h4⟩ := runO_back h
    rcases ar_cases (l.getD i (0, 0)) with e | e | e | e
    · exact ⟨i, 1, Nat.le_refl _, stk_0 e⟩
    · obtain ⟨j, rfl⟩ : ∃ j, i = j + 1 := by
        cases i with
        | zero => rw [e] at h3; exact absurd h3 (by simp [runO])
        | succ j => exact ⟨j, rfl⟩
      obtain ⟨a, d, ha, hs⟩ := ih j (by omega) h1
      exact ⟨a, d + 1, by omega, stk_1 e hs⟩
    · obtain ⟨j, rfl⟩ : ∃ j, i = j + 1 := by
        cases i with
        | zero => rw [e] at h3; exact absurd h3 (by simp [runO])
        | succ j => exact ⟨j, rfl⟩
      obtain ⟨a, d, ha, hs⟩ := ih j (by omega) h1
      have hl := stk_len (j + 1) h1
      have ha0 : 0 ≤ runO l a := runO_mono h1 (j + 1 - a) a (by omega)
      have hla := stk_len a ha0
      rw [hs] at hl
      simp only [List.length_cons] at hl
      obtain ⟨b, rfl⟩ : ∃ b, a = b + 1 := by
        cases a with
        | zero => simp only [stk, List.length_nil] at hl; omega
        | succ b => exact ⟨b, rfl⟩
      obtain ⟨c, d', hc, hs'⟩ := ih b (by omega) ha0
      exact ⟨c, (if d' > d then d' else d) + 1, by omega, stk_2 e (by rw [hs, hs'])⟩
    · omega

end Go.Proofs.YtbjmfjfnilmhhaaGreatDoor.Eng
namespace Go.Proofs.YtbjmfjfnilmhhaaGreatDoor.Eng
open Go Go.Proofs
set_option maxRecDepth 100000
set_option maxHeartbeats 2000000
set_option linter.unusedSimpArgs false
set_option linter.unusedVariables false
/-- The depths on the stack, the lowest one ahead. -/
def depL (l : List (Int × Int)) (i : Nat) : List Int := ((stk l i).map (·.2)).reverse
def mxf (L : List Int) : Int := L.foldl (fun m d => max m (d + 1)) 1
theorem mxf_snoc (L : List Int) (d : Int) : mxf (L ++ [d]) = max (mxf L) (d + 1) := by simp [mxf, List.foldl_append]
theorem mxf_pos (L : List Int) : 1 ≤ mxf L := by
  unfold mxf
  suffices h : ∀ (L : List Int) (m : Int), 1 ≤ m → 1 ≤ L.foldl (fun m d => max m (d + 1)) m from h L 1 (by omega)
  intro L
  induction L with
  | nil => intro m h; exact h
  | cons a L ih => intro m h; exact ih _ (Int.le_trans h (Int.le_max_left _ _))
theorem stk_pos {l : List (Int × Int)} : ∀ i, ∀ x ∈ stk l i, 1 ≤ x.2 ∧ x.2 ≤ i
  | 0, x, h => by simp [stk] at h
  | i + 1, x, h => by
    have ih := stk_pos (l := l) i
    unfold stk at h
    split at h
    · rcases List.mem_cons.1 h with e | e
      · subst e; simp only []; omega
      · have := ih x e; omega
    split at h
    · split at h
      · rename_i a d s hs
        rw [hs] at ih
        rcases List.mem_cons.1 h with e | e
        · subst e
          have := ih (a, d) (by simp)
          simp only [] at this ⊢
          omega
        · have := ih x (by simp [e]); omega
      · simp at h
    · split at h
      · rename_i a2 d2 a d1 s hs
        rw [hs] at ih
        rcases List.mem_cons.1 h with e | e
        · subst e
          have h1 := ih (a2, d2) (by simp)
          have h2 := ih (a, d1) (by simp)
          simp only [] at h1 h2 ⊢
          split <;> omega
        · have := ih x (by simp [e]); omega
      · have := ih x h; omega
theorem depL_len {l : List (Int × Int)} {i : Nat} (h : 0 ≤ runO l i) : ((depL l i).length : Int) = runO l i := by
  rw [← stk_len i h]; simp [depL]
theorem depL_bound {l : List (Int × Int)} {i : Nat} {x : Int} (h : x ∈ depL l i) : 1 ≤ x ∧ x ≤ i := by
  simp only [depL, List.mem_reverse, List.mem_map] at h
  obtain ⟨q, hq, rfl⟩ := h
  exact stk_pos i q hq
theorem mxf_bound {l : List (Int × Int)} {i : Nat} {L : List Int} (h : ∀ x ∈ L, x ∈ depL l i) : mxf L ≤ i + 1 := by
  unfold mxf
  suffices hs : ∀ (L : List Int) (m : Int), (∀ x ∈ L, x ≤ (i : Int)) → m ≤ i + 1 → L.foldl (fun m d => max m (d + 1)) m ≤ i + 1 from hs L 1 (fun x hx => (depL_bound (h x hx)).2) (by omega)
  intro L
  induction L with
  | nil => intro m _ h; exact h
  | cons a L ih => intro m hl h; exact ih _ (fun x hx => hl x (by simp [hx])) (by have := hl a (by simp); exact Int.max_le.2 ⟨h, by omega⟩)
theorem dep_step {l : List (Int × Int)} {i : Nat} (h : 0 ≤ runO l (i + 1)) : depL l (i + 1) = (depL l i).take ((depL l i).length - (arI (l.getD i (0, 0))).toNat) ++ [mxf ((depL l i).drop ((depL l i).length - (arI (l.getD i (0, 0))).toNat))] := by
  obtain ⟨h1, h2, h3, h4⟩ := runO_back h
  have hl := stk_len i h1
  have hp := stk_pos (l := l) i
  unfold depL
  rcases ar_cases (l.getD i (0, 0)) with e | e | e | e
  · rw [stk_0 e, e]
    have hn : (List.map (·.2) (stk l i)).reverse.length = (stk l i).length := by simp
    simp only [List.map_cons, List.reverse_cons, hn, Int.toNat_zero, Nat.sub_zero]
    rw [List.take_of_length_le (by omega), List.drop_eq_nil_of_le (by omega)]
    simp [mxf]
  · cases hs : stk l i with
    | nil => rw [hs] at hl; simp only [List.length_nil] at hl; omega
    | cons x s =>
      obtain ⟨a, d⟩ := x
      have := hp (a, d) (by rw [hs]; simp)
      simp only [] at this
      rw [stk_1 e hs, e]
      simp [mxf]
      omega
  · cases hs : stk l i with
    | nil => rw [hs] at hl; simp only [List.length_nil] at hl; omega
    | cons x s =>
      cases s with
      | nil => rw [hs] at hl; simp only [List.length_cons, List.length_nil] at hl; omega
      | cons y s =>
        obtain ⟨a2, d2⟩ := x
        obtain ⟨a, d1⟩ := y
        have p1 := hp (a2, d2) (by rw [hs]; simp)
        have p2 := hp (a, d1) (by rw [hs]; simp)
        simp only [] at p1 p2
        rw [stk_2 e hs, e]
        simp [mxf]
        split <;> omega
  · omega
/-- How deep an expression is. -/
def depthI (l : List (Int × Int)) : Int := if goodE l then (depL l l.length).headD 0 else 0
theorem good_run {l : List (Int × Int)} (h : goodE l = true) : l.length ≤ 15 ∧ runO l l.length = 1 := by simpa [goodE] using h
theorem depth_top {l : List (Int × Int)} {a : Nat} {d : Int} {s : List (Nat × Int)} (h : goodE l = true) (hs : stk l l.length = (a, d) :: s) : depthI l = d ∧ depL l l.length = [d] := by
  obtain ⟨h1, h2⟩ := good_run h
  have hl := stk_len (l := l) l.length (by omega)
  rw [hs] at hl
  have : s = [] := by
    cases s with
    | nil => rfl
    | cons x s => simp at hl; omega
  subst this
  simp [depthI, h, depL, hs]

end Go.Proofs.YtbjmfjfnilmhhaaGreatDoor.Eng
namespace Go.Proofs.YtbjmfjfnilmhhaaGreatDoor.Eng
open Go Go.Proofs
set_option maxRecDepth 100000
set_option maxHeartbeats 2000000
set_option linter.unusedSimpArgs false
set_option linter.unusedVariables false
attribute [local simp] finK fin1 hpOf xi renQ isRoot runCode runOps stepX inlOf Eng.step wantedV astep val ofO made loadV storeV find V.cells bin binT binA numT numFs eqCells un1 setAt fieldAddrV fieldV indexAddrV indexV bounds sliceV convV lenV foldV max2V min2V callO bor rdsO wrsO seen_none okD_none loops keepIds resV resultsV St.ev TK.agg refs refsL refsO V.one V.isC Value.oneCell' ren renL renO noTag noTagL noTagR noTagO nodup mapO passV frs psi refsR newD loopNext opsAt idx flatAt rootOf backR newsV appendV copyV clearV strV bytesV bldV bufV selfV bytesOf nilCmp buildV fillF chunk freeL frzW cellSame sameV
attribute [local simp] cT cF cX cWR cOW cK cBL X ints_length ints_get ints_getElem ints_drop ints_take ints_append ints_nil ints_set
attribute [local simp] ints_replicate
attribute [local simp] putV_some putV_none putH_app applyD_nil applyD_cons seen_app gc_ρ gc_H gc_tick st0_ρ st0_H st0_tick retV callRo callV_if borL_nil borL_cons ints_snoc take_self callWr cutH_app findQ afterV exportV_0 exportV_n okD_nil okD_cons sub_seq0 sub_seq1 sub_cond0 sub_cond1 sub_block sub_loop sub_nil young_far young_none hidW_nil mayW_nil keepsF_nil keepsF_cons pairs okI ok_0 ok_1 ok_2
attribute [local simp] T3 T4 T5 T9 T22 T24 T33 T36 T38 T45 T48 T51 T52 T54 T56 T71 T72 T74 T77 T99 T104 T117 T121
def ndE (q : Int × Int) : List V := [.c (.int .i64 q.1), .c (.int .i64 q.2)]
def ndL (l : List (Int × Int)) : List (List V) := l.map ndE
theorem ndL_length (l : List (Int × Int)) : (ndL l).length = l.length := by simp [ndL]
theorem ndL_get (l : List (Int × Int)) (i : Nat) (h : i < l.length) : (ndL l)[i]? = some (ndE l[i]) := by simp [ndL, List.getElem?_eq_getElem h]
theorem ndL_take (l : List (Int × Int)) : (ndL l).take l.length = ndL l := List.take_of_length_le (by simp [ndL])
theorem ndL_at (l : List (Int × Int)) (i : Nat) (h : i < (ndL l).length) : (ndL l)[i] = ndE (l[i]'(by simpa [ndL] using h)) := by simp [ndL]
theorem getD_nd {l : List (Int × Int)} {i : Nat} (h : i < l.length) : l.getD i (0, 0) = l[i] := by simp [List.getD, List.getElem?_eq_getElem h]
theorem c_l5Arity (k : Nat) (q : Int × Int) (hk : 3 ≤ k) : callK C k 44 [.ag (ndE q)] [] = some (.c (.int .i64 (arI q)), hpOf [] []) := by
  obtain ⟨k, rfl⟩ : ∃ m, k = m + 1 := ⟨k - 1, by omega⟩
  rw [callK_fn rfl F44 code44]
  obtain ⟨a, b⟩ := q
  have i1 := c_l1In k b 0 3 (by omega)
  have i2 := c_l1In k b 0 9000 (by omega)
  have i3 := c_l1In k a 3 6 (by omega)
  unfold arI
  simp only []
  by_cases a1 : a = 1
  · subst a1
    cases e1 : (decide (0 ≤ b) && decide (b ≤ 3))
    · rw [e1] at i1
      have e1' : ¬ (0 ≤ b ∧ b ≤ 3) := by simpa using e1
      simp [R44_0, R44_1, R44_2, R44_3, R44_4, R44_5, R44_6, R44_7, R44_8, Tryz.f44, ndE, i1, i3, e1']
    · rw [e1] at i1
      have e1' : 0 ≤ b ∧ b ≤ 3 := by simpa using e1
      simp [R44_0, R44_1, R44_2, R44_3, R44_4, R44_5, R44_6, R44_7, R44_8, Tryz.f44, ndE, i1, i3, e1']
  have a1' : (a == 1) = false := by simpa using a1
  by_cases a2 : a = 2
  · subst a2
    cases e1 : (decide (0 ≤ b) && decide (b ≤ 9000))
    · rw [e1] at i2
      have e1' : ¬ (0 ≤ b ∧ b ≤ 9000) := by simpa using e1
      simp [R44_0, R44_1, R44_2, R44_3, R44_4, R44_5, R44_6, R44_7, R44_8, Tryz.f44, ndE, i2, i3, e1']
    · rw [e1] at i2
      have e1' : 0 ≤ b ∧ b ≤ 9000 := by simpa using e1
      simp [R44_0, R44_1, R44_2, R44_3, R44_4, R44_5, R44_6, R44_7, R44_8, Tryz.f44, ndE, i2, i3, e1']
  have a2' : (a == 2) = false := by simpa using a2
  cases e3 : (decide (3 ≤ a) && decide (a ≤ 6))
  · rw [e3] at i3
    have e3' : ¬ (3 ≤ a ∧ a ≤ 6) := by simpa using e3
    by_cases a7 : a = 7
    · subst a7
      cases e1 : (decide (0 ≤ b) && decide (b ≤ 9000))
      · rw [e1] at i2
        have e1' : ¬ (0 ≤ b ∧ b ≤ 9000) := by simpa using e1
        simp [R44_0, R44_1, R44_2, R44_3, R44_4, R44_5, R44_6, R44_7, R44_8, Tryz.f44, ndE, i2, i3, e1']
      · rw [e1] at i2
        have e1' : 0 ≤ b ∧ b ≤ 9000 := by simpa using e1
        simp [R44_0, R44_1, R44_2, R44_3, R44_4, R44_5, R44_6, R44_7, R44_8, Tryz.f44, ndE, i2, i3, e1']
    · have a7' : (a == 7) = false := by simpa using a7
      simp [R44_0, R44_1, R44_2, R44_3, R44_4, R44_5, R44_6, R44_7, R44_8, Tryz.f44, ndE, i3, a1, a1', a2, a2', a7, a7', e3']
  · rw [e3] at i3
    have e3' : 3 ≤ a ∧ a ≤ 6 := by simpa using e3
    have a7 : ¬ a = 7 := by omega
    have a7' : (a == 7) = false := by simpa using a7
    by_cases b0 : b = 0
    · simp [R44_0, R44_1, R44_2, R44_3, R44_4, R44_5, R44_6, R44_7, R44_8, Tryz.f44, ndE, i3, a1, a1', a2, a2', e3', b0]
    · have b0' : (b == 0) = false := by simpa using b0
      simp [R44_0, R44_1, R44_2, R44_3, R44_4, R44_5, R44_6, R44_7, R44_8, Tryz.f44, ndE, i3, a1, a1', a2, a2', a7, a7', e3', b0, b0']
def argI (q : Int × Int) : Int := if 3 ≤ q.1 ∧ q.1 ≤ 6 then 2 else if q.1 = 7 then 1 else 0
theorem argI_eq {q : Int × Int} (h : 0 ≤ arI q) : argI q = arI q := by
  unfold argI arI at *
  split at h
  · rename_i h1
    rw [if_pos h1, if_neg (by omega), if_neg (by omega)]
  · rename_i h1
    rw [if_neg h1]
    split at h
    · rename_i h2
      rw [if_pos h2, if_pos h2.1]
    · rename_i h2
      rw [if_neg h2]
      split at h
      · rename_i h3
        rw [if_pos h3, if_neg (by omega), if_pos h3.1]
      · omega
theorem arg_bound (q : Int × Int) : 0 ≤ argI q ∧ argI q ≤ 2 := by
  unfold argI
  split
  · omega
  · split <;> omega
theorem c_arguments (k : Nat) (q : Int × Int) (hk : 3 ≤ k) : callK C k 23 [.ag (ndE q)] [] = some (.c (.int .i64 (argI q)), hpOf [] []) := by
  obtain ⟨k, rfl⟩ : ∃ m, k = m + 1 := ⟨k - 1, by omega⟩
  rw [callK_fn rfl F23 code23]
  obtain ⟨a, b⟩ := q
  have i3 := c_within k a 3 6 (by omega)
  unfold argI
  simp only []
  cases e3 : (decide (3 ≤ a) && decide (a ≤ 6))
  · rw [e3] at i3
    have e3' : ¬ (3 ≤ a ∧ a ≤ 6) := by simpa using e3
    by_cases a7 : a = 7
    · subst a7
      simp [R23_0, R23_1, R23_2, R23_3, R23_4, R23_5, Tryz.f23, ndE, i3]
    · have a7' : (a == 7) = false := by simpa using a7
      simp [R23_0, R23_1, R23_2, R23_3, R23_4, R23_5, Tryz.f23, ndE, i3, a7, a7', e3']
  · rw [e3] at i3
    have e3' : 3 ≤ a ∧ a ≤ 6 := by simpa using e3
    simp [R23_0, R23_1, R23_2, R23_3, R23_4, R23_5, Tryz.f23, ndE, i3, e3']
theorem c_isNode (k : Nat) (q : Int × Int) (hk : 3 ≤ k) : callK C k 24 [.ag (ndE q)] [] = some (.c (.bool (decide (0 ≤ arI q))), hpOf [] []) := by
  obtain ⟨k, rfl⟩ : ∃ m, k = m + 1 := ⟨k - 1, by omega⟩
  rw [callK_fn rfl F24 code24]
  obtain ⟨a, b⟩ := q
  have i1 := c_within k b 0 3 (by omega)
  have i2 := c_within k b 0 9000 (by omega)
  have i3 := c_within k a 3 6 (by omega)
  unfold arI
  simp only []
  by_cases a1 : a = 1
  · subst a1
    cases e1 : (decide (0 ≤ b) && decide (b ≤ 3))
    · rw [e1] at i1
      have e1' : ¬ (0 ≤ b ∧ b ≤ 3) := by simpa using e1
      simp [R24_0, R24_1, R24_2, R24_3, R24_4, R24_5, Tryz.f24, ndE, i1, i3, e1']
    · rw [e1] at i1
      have e1' : 0 ≤ b ∧ b ≤ 3 := by simpa using e1
      simp [R24_0, R24_1, R24_2, R24_3, R24_4, R24_5, Tryz.f24, ndE, i1, i3, e1']
  have a1' : (a == 1) = false := by simpa using a1
  by_cases a2 : a = 2
  · subst a2
    cases e1 : (decide (0 ≤ b) && decide (b ≤ 9000))
    · rw [e1] at i2
      have e1' : ¬ (0 ≤ b ∧ b ≤ 9000) := by simpa using e1
      simp [R24_0, R24_1, R24_2, R24_3, R24_4, R24_5, Tryz.f24, ndE, i2, i3, e1']
    · rw [e1] at i2
      have e1' : 0 ≤ b ∧ b ≤ 9000 := by simpa using e1
      simp [R24_0, R24_1, R24_2, R24_3, R24_4, R24_5, Tryz.f24, ndE, i2, i3, e1']
  have a2' : (a == 2) = false := by simpa using a2
  by_cases a7 : a = 7
  · subst a7
    cases e1 : (decide (0 ≤ b) && decide (b ≤ 9000))
    · rw [e1] at i2
      have e1' : ¬ (0 ≤ b ∧ b ≤ 9000) := by simpa using e1
      simp [R24_0, R24_1, R24_2, R24_3, R24_4, R24_5, Tryz.f24, ndE, i2, i3, e1']
    · rw [e1] at i2
      have e1' : 0 ≤ b ∧ b ≤ 9000 := by simpa using e1
      simp [R24_0, R24_1, R24_2, R24_3, R24_4, R24_5, Tryz.f24, ndE, i2, i3, e1']
  have a7' : (a == 7) = false := by simpa using a7
  cases e3 : (decide (3 ≤ a) && decide (a ≤ 6))
  · rw [e3] at i3
    have e3' : ¬ (3 ≤ a ∧ a ≤ 6) := by simpa using e3
    simp [R24_0, R24_1, R24_2, R24_3, R24_4, R24_5, Tryz.f24, ndE, i3, a1, a1', a2, a2', a7, a7', e3']
  · rw [e3] at i3
    have e3' : 3 ≤ a ∧ a ≤ 6 := by simpa using e3
    by_cases b0 : b = 0
    · simp [R24_0, R24_1, R24_2, R24_3, R24_4, R24_5, Tryz.f24, ndE, i3, a1, a1', a2, a2', a7, a7', e3', b0]
    · have b0' : (b == 0) = false := by simpa using b0
      simp [R24_0, R24_1, R24_2, R24_3, R24_4, R24_5, Tryz.f24, ndE, i3, a1, a1', a2, a2', a7, a7', e3', b0, b0']

theorem c_l5Good (k : Nat) (b : Bool) (l : List (Int × Int)) (hk : 100 ≤ k) : callK C k 21 [.sq b true 2 (ndL l)] [] = some (.c (.bool (goodE l)), hpOf [] []) := by
  obtain ⟨k, rfl⟩ : ∃ m, k = m + 1 := ⟨k - 1, by omega⟩
  rw [callK_fn rfl F21 code21]
  by_cases h15 : l.length ≤ 15
  · have h15' : ¬ (15 : Int) < (l.length : Int) := by omega
    have har := fun q => c_l5Arity k q (by omega)
    by_cases hg : 0 ≤ runO l l.length
    · have hL := loopHas (body := fun st => runCode C (callK C (k + 0)) (k + 0) (K 21) L21_0 1 st) (keep := [0, 3, 4]) (.ex 0) (fun st => st.ρ 3 = .c (.int .i64 (runO l l.length)))
        (fun i st => st.ρ 0 = .sq b true 2 (ndL l) ∧ st.ρ 3 = .c (.int .i64 (runO l i)) ∧ st.ρ 4 = .c (.int .i64 (i : Int)))
        l.length (k + 0) (by omega)
        (by
          rintro i st next hi ⟨q0, q3, q4⟩ hn
          have hgi : 0 ≤ runO l (i + 1) := runO_mono hg (l.length - (i + 1)) (i + 1) (by omega)
          obtain ⟨r1, r2, r3, r4⟩ := runO_back hgi
          rw [getD_nd hi] at r2 r3 r4
          have r5 := runO_le l i
          have nget := ndL_get l i hi
          have haq := har l[i]
          simp [ndE] at haq
          have g1 : ¬ arI l[i] < 0 := by omega
          have g2 : ¬ runO l i < arI l[i] := by omega
          have w1 : IntKind.i64.wrap (runO l i - arI l[i]) = runO l i - arI l[i] := wrap_small (by omega) (by omega)
          have w2 : IntKind.i64.wrap (runO l i - arI l[i] + 1) = runO l (i + 1) := by rw [r4]; exact wrap_small (by omega) (by omega)
          simp [L21_0, R21_0, R21_1, R21_2, R21_3, R21_4, R21_5, R21_6, R21_7, R21_8, R21_9, R21_10, R21_11, Tryz.f21, lpL21_0, lpM21_0, M21_0, q0, q3, q4, hi, ndL_length, ndL_at, ndE, haq, g1, g2, w1, w2, wrap_next hi (by omega : l.length ≤ 9000000000000000000)]
          exact hn _ (by simp [q0]))
        (by
          rintro st next ⟨q0, q3, q4⟩
          simp [L21_0, R21_0, R21_1, R21_2, R21_3, R21_4, R21_5, R21_6, R21_7, R21_8, R21_9, R21_10, R21_11, Tryz.f21, lpL21_0, lpM21_0, M21_0, q0, q3, q4, ndL_length])
      simp [R21_0, R21_1, R21_2, R21_3, R21_4, R21_5, R21_6, R21_7, R21_8, R21_9, R21_10, R21_11, Tryz.f21, lpL21_0, lpM21_0, ndL_length, h15']
      generalize hr : loopRun _ _ _ _ = res
      obtain ⟨s1, rfl, f3⟩ := loop_at hL hr (by simp [runO])
      simp [R21_0, R21_1, R21_2, R21_3, R21_4, R21_5, R21_6, R21_7, R21_8, R21_9, R21_10, R21_11, Tryz.f21, lpL21_0, lpM21_0, M21_0, f3, goodE, h15]
      try (by_cases h1 : runO l l.length = 1 <;> simp [h1])
    · have hL := loopHas (body := fun st => runCode C (callK C (k + 0)) (k + 0) (K 21) L21_0 1 st) (keep := [0, 3, 4]) .ret (fun st => st.ρ 2 = .c (.bool false))
        (fun i st => st.ρ 0 = .sq b true 2 (ndL l) ∧ st.ρ 3 = .c (.int .i64 (runO l i)) ∧ st.ρ 4 = .c (.int .i64 (i : Int)) ∧ 0 ≤ runO l i)
        l.length (k + 0) (by omega)
        (by
          rintro i st next hi ⟨q0, q3, q4, r1⟩ hn
          have r5 := runO_le l i
          have nget := ndL_get l i hi
          have haq := har l[i]
          simp [ndE] at haq
          have hs := runO_succ l i
          rw [getD_nd hi] at hs
          have hca := ar_cases l[i]
          by_cases g1 : arI l[i] < 0
          · simp [L21_0, R21_0, R21_1, R21_2, R21_3, R21_4, R21_5, R21_6, R21_7, R21_8, R21_9, R21_10, R21_11, Tryz.f21, lpL21_0, lpM21_0, M21_0, q0, q3, q4, hi, ndL_length, ndL_at, ndE, haq, g1]
          · by_cases g2 : runO l i < arI l[i]
            · simp [L21_0, R21_0, R21_1, R21_2, R21_3, R21_4, R21_5, R21_6, R21_7, R21_8, R21_9, R21_10, R21_11, Tryz.f21, lpL21_0, lpM21_0, M21_0, q0, q3, q4, hi, ndL_length, ndL_at, ndE, haq, g1, g2]
            · rw [if_neg (by omega)] at hs
              have w1 : IntKind.i64.wrap (runO l i - arI l[i]) = runO l i - arI l[i] := wrap_small (by omega) (by omega)
              have w2 : IntKind.i64.wrap (runO l i - arI l[i] + 1) = runO l (i + 1) := by rw [hs]; exact wrap_small (by omega) (by omega)
              simp [L21_0, R21_0, R21_1, R21_2, R21_3, R21_4, R21_5, R21_6, R21_7, R21_8, R21_9, R21_10, R21_11, Tryz.f21, lpL21_0, lpM21_0, M21_0, q0, q3, q4, hi, ndL_length, ndL_at, ndE, haq, g1, g2, w1, w2, wrap_next hi (by omega : l.length ≤ 9000000000000000000)]
              exact hn _ ⟨by simp [q0], by simp, by simp, by omega⟩)
        (by
          rintro st next ⟨q0, q3, q4, r1⟩
          omega)
      have hg1 : goodE l = false := by
        have : ¬ runO l l.length = 1 := by omega
        simp [goodE, this]
      simp [R21_0, R21_1, R21_2, R21_3, R21_4, R21_5, R21_6, R21_7, R21_8, R21_9, R21_10, R21_11, Tryz.f21, lpL21_0, lpM21_0, ndL_length, h15']
      generalize hr : loopRun _ _ _ _ = res
      obtain ⟨s1, rfl, f2⟩ := loop_at hL hr (by simp [runO])
      simp [R21_0, R21_1, R21_2, R21_3, R21_4, R21_5, R21_6, R21_7, R21_8, R21_9, R21_10, R21_11, Tryz.f21, lpL21_0, lpM21_0, M21_0, f2, hg1]
  · have h15' : (15 : Int) < (l.length : Int) := by omega
    simp [R21_0, R21_1, R21_2, R21_3, R21_4, R21_5, R21_6, R21_7, R21_8, R21_9, R21_10, R21_11, Tryz.f21, lpL21_0, lpM21_0, M21_0, ndL_length, h15', goodE, h15]

end Go.Proofs.YtbjmfjfnilmhhaaGreatDoor.Eng
namespace Go.Proofs.YtbjmfjfnilmhhaaGreatDoor.Eng
open Go Go.Proofs
set_option maxRecDepth 100000
set_option maxHeartbeats 2000000
set_option linter.unusedSimpArgs false
set_option linter.unusedVariables false
attribute [local simp] finK fin1 hpOf xi renQ isRoot runCode runOps stepX inlOf Eng.step wantedV astep val ofO made loadV storeV find V.cells bin binT binA numT numFs eqCells un1 setAt fieldAddrV fieldV indexAddrV indexV bounds sliceV convV lenV foldV max2V min2V callO bor rdsO wrsO seen_none okD_none loops keepIds resV resultsV St.ev TK.agg refs refsL refsO V.one V.isC Value.oneCell' ren renL renO noTag noTagL noTagR noTagO nodup mapO passV frs psi refsR newD loopNext opsAt idx flatAt rootOf backR newsV appendV copyV clearV strV bytesV bldV bufV selfV bytesOf nilCmp buildV fillF chunk freeL frzW cellSame sameV
attribute [local simp] cT cF cX cWR cOW cK cBL X ints_length ints_get ints_getElem ints_drop ints_take ints_append ints_nil ints_set
attribute [local simp] ints_replicate
attribute [local simp] putV_some putV_none putH_app applyD_nil applyD_cons seen_app gc_ρ gc_H gc_tick st0_ρ st0_H st0_tick retV callRo callV_if borL_nil borL_cons ints_snoc take_self callWr cutH_app findQ afterV exportV_0 exportV_n okD_nil okD_cons sub_seq0 sub_seq1 sub_cond0 sub_cond1 sub_block sub_loop sub_nil young_far young_none hidW_nil mayW_nil keepsF_nil keepsF_cons pairs okI ok_0 ok_1 ok_2
attribute [local simp] T3 T4 T5 T9 T22 T24 T33 T36 T38 T45 T48 T51 T52 T54 T56 T71 T72 T74 T77 T99 T104 T117 T121
theorem c_IsExpression (k : Nat) (b : Bool) (l : List (Int × Int)) (hk : 100 ≤ k) : callK C k 9 [.sq b true 2 (ndL l)] [] = some (.c (.bool (goodE l)), hpOf [] []) := by
  obtain ⟨k, rfl⟩ : ∃ m, k = m + 1 := ⟨k - 1, by omega⟩
  rw [callK_fn rfl F9 code9]
  by_cases h15 : l.length ≤ 15
  · have h15' : ¬ (15 : Int) < (l.length : Int) := by omega
    have hag := fun q => c_arguments k q (by omega)
    have hnd := fun q => c_isNode k q (by omega)
    by_cases hg : 0 ≤ runO l l.length
    · have hL := loopHas (body := fun st => runCode C (callK C (k + 0)) (k + 0) (K 9) L9_0 1 st) (keep := [3, 9, 10, 11]) (.ex 0) (fun st => st.ρ 3 = .c (.int .i64 (runO l l.length)))
        (fun i st => st.ρ 9 = .sq b true 2 (ndL l) ∧ st.ρ 10 = .c (.int .i64 (l.length : Int)) ∧ st.ρ 3 = .c (.int .i64 (runO l i)) ∧ st.ρ 11 = .c (.int .i64 (i : Int)))
        l.length (k + 0) (by omega)
        (by
          rintro i st next hi ⟨q9, q10, q3, q11⟩ hn
          have hgi : 0 ≤ runO l (i + 1) := runO_mono hg (l.length - (i + 1)) (i + 1) (by omega)
          obtain ⟨r1, r2, r3, r4⟩ := runO_back hgi
          rw [getD_nd hi] at r2 r3 r4
          have r5 := runO_le l i
          have nget := ndL_get l i hi
          have ha := hag l[i]
          have hd := hnd l[i]
          rw [argI_eq r2] at ha
          have g2 : ¬ runO l i - arI l[i] < 0 := by omega
          have w1 : IntKind.i64.wrap (runO l i - arI l[i]) = runO l i - arI l[i] := wrap_small (by omega) (by omega)
          have w2 : IntKind.i64.wrap (runO l i - arI l[i] + 1) = runO l (i + 1) := by rw [r4]; exact wrap_small (by omega) (by omega)
          simp [ndE] at ha hd
          simp [L9_0, R9_0, R9_1, R9_2, R9_3, R9_4, R9_5, R9_6, R9_7, R9_8, R9_9, R9_10, R9_11, R9_12, Tryz.f9, lpL9_0, lpM9_0, M9_0, q9, q10, q3, q11, hi, nget, ndL_at, ndE, ha, hd, r2, g2, w1, w2, wrap_next hi (by omega : l.length ≤ 9000000000000000000)]
          exact hn _ (by simp [q9, q10]))
        (by
          rintro st next ⟨q9, q10, q3, q11⟩
          simp [L9_0, R9_0, R9_1, R9_2, R9_3, R9_4, R9_5, R9_6, R9_7, R9_8, R9_9, R9_10, R9_11, R9_12, Tryz.f9, lpL9_0, lpM9_0, M9_0, q9, q10, q3, q11])
      simp [R9_0, R9_1, R9_2, R9_3, R9_4, R9_5, R9_6, R9_7, R9_8, R9_9, R9_10, R9_11, R9_12, Tryz.f9, lpL9_0, lpM9_0, ndL_length, h15']
      generalize hr : loopRun _ _ _ _ = res
      obtain ⟨s1, rfl, f3⟩ := loop_at hL hr (by simp [runO, ndL_length])
      simp [R9_0, R9_1, R9_2, R9_3, R9_4, R9_5, R9_6, R9_7, R9_8, R9_9, R9_10, R9_11, R9_12, Tryz.f9, lpL9_0, lpM9_0, M9_0, f3, goodE, h15]
      try (by_cases h1 : runO l l.length = 1 <;> simp [h1])
    · have hL := loopHas (body := fun st => runCode C (callK C (k + 0)) (k + 0) (K 9) L9_0 1 st) (keep := [3, 9, 10, 11]) .ret (fun st => st.ρ 2 = .c (.bool false))
        (fun i st => st.ρ 9 = .sq b true 2 (ndL l) ∧ st.ρ 10 = .c (.int .i64 (l.length : Int)) ∧ st.ρ 3 = .c (.int .i64 (runO l i)) ∧ st.ρ 11 = .c (.int .i64 (i : Int)) ∧ 0 ≤ runO l i)
        l.length (k + 0) (by omega)
        (by
          rintro i st next hi ⟨q9, q10, q3, q11, r1⟩ hn
          have r5 := runO_le l i
          have nget := ndL_get l i hi
          have ha := hag l[i]
          have hd := hnd l[i]
          have hs := runO_succ l i
          rw [getD_nd hi] at hs
          have hca := ar_cases l[i]
          obtain ⟨ab1, ab2⟩ := arg_bound l[i]
          have w1 : IntKind.i64.wrap (runO l i - argI l[i]) = runO l i - argI l[i] := wrap_small (by omega) (by omega)
          by_cases g1 : arI l[i] < 0
          · have g1' : ¬ 0 ≤ arI l[i] := by omega
            simp [ndE] at ha hd
            simp [L9_0, R9_0, R9_1, R9_2, R9_3, R9_4, R9_5, R9_6, R9_7, R9_8, R9_9, R9_10, R9_11, R9_12, Tryz.f9, lpL9_0, lpM9_0, M9_0, q9, q10, q3, q11, hi, nget, ndL_at, ndE, ha, hd, w1, g1']
          · have g1' : 0 ≤ arI l[i] := by omega
            rw [argI_eq g1'] at ha w1
            by_cases g2 : runO l i - arI l[i] < 0
            · simp [ndE] at ha hd
              simp [L9_0, R9_0, R9_1, R9_2, R9_3, R9_4, R9_5, R9_6, R9_7, R9_8, R9_9, R9_10, R9_11, R9_12, Tryz.f9, lpL9_0, lpM9_0, M9_0, q9, q10, q3, q11, hi, nget, ndL_at, ndE, ha, hd, w1, g1', g2]
            · rw [if_neg (by omega)] at hs
              have w2 : IntKind.i64.wrap (runO l i - arI l[i] + 1) = runO l (i + 1) := by rw [hs]; exact wrap_small (by omega) (by omega)
              simp [ndE] at ha hd
              simp [L9_0, R9_0, R9_1, R9_2, R9_3, R9_4, R9_5, R9_6, R9_7, R9_8, R9_9, R9_10, R9_11, R9_12, Tryz.f9, lpL9_0, lpM9_0, M9_0, q9, q10, q3, q11, hi, nget, ndL_at, ndE, ha, hd, g1', g2, w1, w2, wrap_next hi (by omega : l.length ≤ 9000000000000000000)]
              exact hn _ ⟨by simp [q9], by simp [q10], by simp, by simp, by omega⟩)
        (by
          rintro st next ⟨q9, q10, q3, q11, r1⟩
          omega)
      have hg1 : goodE l = false := by
        have : ¬ runO l l.length = 1 := by omega
        simp [goodE, this]
      simp [R9_0, R9_1, R9_2, R9_3, R9_4, R9_5, R9_6, R9_7, R9_8, R9_9, R9_10, R9_11, R9_12, Tryz.f9, lpL9_0, lpM9_0, ndL_length, h15']
      generalize hr : loopRun _ _ _ _ = res
      obtain ⟨s1, rfl, f2⟩ := loop_at hL hr (by simp [runO, ndL_length])
      simp [R9_0, R9_1, R9_2, R9_3, R9_4, R9_5, R9_6, R9_7, R9_8, R9_9, R9_10, R9_11, R9_12, Tryz.f9, lpL9_0, lpM9_0, M9_0, f2, hg1]
  · have h15' : (15 : Int) < (l.length : Int) := by omega
    simp [R9_0, R9_1, R9_2, R9_3, R9_4, R9_5, R9_6, R9_7, R9_8, R9_9, R9_10, R9_11, R9_12, Tryz.f9, lpL9_0, lpM9_0, M9_0, ndL_length, h15', goodE, h15]

end Go.Proofs.YtbjmfjfnilmhhaaGreatDoor.Eng
namespace Go.Proofs.YtbjmfjfnilmhhaaGreatDoor.Eng
open Go Go.Proofs
set_option maxRecDepth 100000
set_option maxHeartbeats 2000000
set_option linter.unusedSimpArgs false
set_option linter.unusedVariables false
attribute [local simp] finK fin1 hpOf xi renQ isRoot runCode runOps stepX inlOf Eng.step wantedV astep val ofO made loadV storeV find V.cells bin binT binA numT numFs eqCells un1 setAt fieldAddrV fieldV indexAddrV indexV bounds sliceV convV lenV foldV max2V min2V callO bor rdsO wrsO seen_none okD_none loops keepIds resV resultsV St.ev TK.agg refs refsL refsO V.one V.isC Value.oneCell' ren renL renO noTag noTagL noTagR noTagO nodup mapO passV frs psi refsR newD loopNext opsAt idx flatAt rootOf backR newsV appendV copyV clearV strV bytesV bldV bufV selfV bytesOf nilCmp buildV fillF chunk freeL frzW cellSame sameV
attribute [local simp] cT cF cX cWR cOW cK cBL X ints_length ints_get ints_getElem ints_drop ints_take ints_append ints_nil ints_set
attribute [local simp] ints_replicate
attribute [local simp] putV_some putV_none putH_app applyD_nil applyD_cons seen_app gc_ρ gc_H gc_tick st0_ρ st0_H st0_tick retV callRo callV_if borL_nil borL_cons ints_snoc take_self callWr cutH_app findQ afterV exportV_0 exportV_n okD_nil okD_cons sub_seq0 sub_seq1 sub_cond0 sub_cond1 sub_block sub_loop sub_nil young_far young_none hidW_nil mayW_nil keepsF_nil keepsF_cons pairs okI ok_0 ok_1 ok_2
attribute [local simp] T3 T4 T5 T9 T22 T24 T33 T36 T38 T45 T48 T51 T52 T54 T56 T71 T72 T74 T77 T99 T104 T117 T121
theorem c_l5Start (b : Bool) (l : List (Int × Int)) (h15 : l.length ≤ 15) : ∀ (i : Nat), i < l.length → 0 ≤ runO l (i + 1) → ∀ k, i + 10 ≤ k → ∀ a d s, stk l (i + 1) = (a, d) :: s →
    callK C k 46 [.sq b true 2 (ndL l), .c (.int .i64 (i : Int))] [] = some (.c (.int .i64 (a : Int)), hpOf [] []) := by
  intro i
  induction i using Nat.strongRecOn with
  | _ i ih =>
    intro hi h k hk a d s hs
    obtain ⟨k, rfl⟩ : ∃ m, k = m + 1 := ⟨k - 1, by omega⟩
    rw [callK_fn rfl F46 code46]
    obtain ⟨h1, h2, h3, h4⟩ := runO_back h
    have ha := c_l5Arity k (l[i]) (by omega)
    have hg := getD_nd hi
    have hn := ndL_get l i hi
    have hw : IntKind.i64.wrap ((i : Int) - 1) = (i : Int) - 1 := wrap_small (by omega) (by omega)
    simp [ndE] at ha
    rcases ar_cases (l.getD i (0, 0)) with e | e | e | e <;> (have e' := e; rw [hg] at e'; rw [e'] at ha)
    · rw [stk_0 e] at hs
      injection hs with hs1 hs2
      injection hs1 with hs1 hs3
      subst hs1
      simp [R46_0, R46_1, R46_2, R46_3, R46_4, R46_5, R46_6, Tryz.f46, ndL_length, hi, hn, ndL_at, ndE, ha]
    · obtain ⟨j, rfl⟩ : ∃ j, i = j + 1 := by
        cases i with
        | zero => rw [e] at h3; exact absurd h3 (by simp [runO])
        | succ j => exact ⟨j, rfl⟩
      have hj0 : (0 : Int) ≤ (j : Int) + 1 := by omega
      obtain ⟨a', d', ha', hs'⟩ := stk_top j h1
      rw [stk_1 e hs'] at hs
      injection hs with hs1 hs2
      injection hs1 with hs1 hs3
      subst hs1
      have hrec := ih j (by omega) (by omega) h1 k (by omega) a' d' _ hs'
      have hw' : IntKind.i64.wrap (j : Int) = (j : Int) := wrap_small (by omega) (by omega)
      try simp at hn
      try simp at ha
      try simp at hi
      simp [R46_0, R46_1, R46_2, R46_3, R46_4, R46_5, R46_6, Tryz.f46, ndL_length, hi, hn, ndL_at, ndE, ha, hj0, hw', hrec]
    · obtain ⟨j, rfl⟩ : ∃ j, i = j + 1 := by
        cases i with
        | zero => rw [e] at h3; exact absurd h3 (by simp [runO])
        | succ j => exact ⟨j, rfl⟩
      have hj0 : (0 : Int) ≤ (j : Int) + 1 := by omega
      obtain ⟨a2, d2, ha2, hs'⟩ := stk_top j h1
      have hl := stk_len (j + 1) h1
      have ha0 : 0 ≤ runO l a2 := runO_mono h1 (j + 1 - a2) a2 (by omega)
      have hla := stk_len a2 ha0
      rw [hs'] at hl
      simp only [List.length_cons] at hl
      obtain ⟨c, rfl⟩ : ∃ c, a2 = c + 1 := by
        cases a2 with
        | zero => simp only [stk, List.length_nil] at hl; omega
        | succ c => exact ⟨c, rfl⟩
      obtain ⟨a1, d1, ha1, hs1⟩ := stk_top c ha0
      rw [stk_2 e (by rw [hs', hs1])] at hs
      injection hs with hs2 hs3
      injection hs2 with hs2 hs4
      subst hs2
      have hrec1 := ih j (by omega) (by omega) h1 k (by omega) (c + 1) d2 _ hs'
      have hrec2 := ih c (by omega) (by omega) ha0 k (by omega) a1 d1 _ hs1
      have hw' : IntKind.i64.wrap (j : Int) = (j : Int) := wrap_small (by omega) (by omega)
      have hw2 : IntKind.i64.wrap (c : Int) = (c : Int) := wrap_small (by omega) (by omega)
      try simp at hn
      try simp at ha
      try simp at hi
      try simp at hrec1
      simp [R46_0, R46_1, R46_2, R46_3, R46_4, R46_5, R46_6, Tryz.f46, ndL_length, hi, hn, ndL_at, ndE, ha, hj0, hw', hw2, hrec1, hrec2]
    · omega

end Go.Proofs.YtbjmfjfnilmhhaaGreatDoor.Eng
namespace Go.Proofs.YtbjmfjfnilmhhaaGreatDoor.Eng
open Go Go.Proofs
set_option maxRecDepth 100000
set_option maxHeartbeats 2000000
set_option linter.unusedSimpArgs false
set_option linter.unusedVariables false
attribute [local simp] finK fin1 hpOf xi renQ isRoot runCode runOps stepX inlOf Eng.step wantedV astep val ofO made loadV storeV find V.cells bin binT binA numT numFs eqCells un1 setAt fieldAddrV fieldV indexAddrV indexV bounds sliceV convV lenV foldV max2V min2V callO bor rdsO wrsO seen_none okD_none loops keepIds resV resultsV St.ev TK.agg refs refsL refsO V.one V.isC Value.oneCell' ren renL renO noTag noTagL noTagR noTagO nodup mapO passV frs psi refsR newD loopNext opsAt idx flatAt rootOf backR newsV appendV copyV clearV strV bytesV bldV bufV selfV bytesOf nilCmp buildV fillF chunk freeL frzW cellSame sameV
attribute [local simp] cT cF cX cWR cOW cK cBL X ints_length ints_get ints_getElem ints_drop ints_take ints_append ints_nil ints_set
attribute [local simp] ints_replicate
attribute [local simp] putV_some putV_none putH_app applyD_nil applyD_cons seen_app gc_ρ gc_H gc_tick st0_ρ st0_H st0_tick retV callRo callV_if borL_nil borL_cons ints_snoc take_self callWr cutH_app findQ afterV exportV_0 exportV_n okD_nil okD_cons sub_seq0 sub_seq1 sub_cond0 sub_cond1 sub_block sub_loop sub_nil young_far young_none hidW_nil mayW_nil keepsF_nil keepsF_cons pairs okI ok_0 ok_1 ok_2
attribute [local simp] T3 T4 T5 T9 T22 T24 T33 T36 T38 T45 T48 T51 T52 T54 T56 T71 T72 T74 T77 T99 T104 T117 T121
def fillG {α : Type} (l m : List α) (i : Nat) : List α := l.take i ++ m.drop i
theorem fillG_zero {α : Type} (l m : List α) : fillG l m 0 = m := by simp [fillG]
theorem fillG_all {α : Type} (l m : List α) (h : m.length ≤ l.length) : fillG l m l.length = l := by simp [fillG, List.drop_eq_nil_of_le h]
theorem fillG_length {α : Type} (l m : List α) (i : Nat) (h : m.length = l.length) : (fillG l m i).length = l.length := by simp [fillG]; omega
theorem fillG_get {α : Type} (l m : List α) (i : Nat) (h : m.length = l.length) (hi : i < l.length) : (fillG l m i)[i]? = some (m[i]'(by omega)) := by
  unfold fillG
  rw [List.getElem?_append_right (by simp; omega)]
  have : i - (l.take i).length = 0 := by simp; omega
  rw [this, List.getElem?_drop, List.getElem?_eq_getElem (by omega)]
  rfl
theorem fillG_set {α : Type} (l m : List α) (i : Nat) (h : m.length = l.length) (hi : i < l.length) : (fillG l m i).set i l[i] = fillG l m (i + 1) := by
  unfold fillG
  rw [List.set_append, if_neg (by simp; omega)]
  have : i - (l.take i).length = 0 := by simp; omega
  rw [this, List.drop_eq_getElem_cons (by omega : i < m.length), List.set_cons_zero, List.take_succ_eq_append_getElem hi, List.append_assoc]
  rfl
def ndO (l : List (Int × Int)) : Eng.Obj := ⟨48, 2, true, ndL l⟩
theorem ndL_set (l : List (Int × Int)) (i : Nat) (a : Int × Int) : (ndL l).set i (ndE a) = ndL (l.set i a) := by simp [ndL, List.map_set]
theorem ndL_fill_get {l m : List (Int × Int)} {i : Nat} (h : m.length = l.length) (hi : i < l.length) : (ndL (fillG l m i))[i]? = some (ndE (m[i]'(by omega))) := by
  unfold ndL
  rw [List.getElem?_map, fillG_get l m i h hi]
  rfl
theorem ndL_fill_set {l m : List (Int × Int)} {i : Nat} (h : m.length = l.length) (hi : i < l.length) : (ndL (fillG l m i)).set i (ndE l[i]) = ndL (fillG l m (i + 1)) := by rw [ndL_set, fillG_set l m i h hi]
theorem ndL_replicate (n : Nat) : List.replicate n [V.c (.int .i64 0), V.c (.int .i64 0)] = ndL (List.replicate n (0, 0)) := by simp [ndL, ndE]
theorem okN (ty : TypeId) (l : List (Int × Int)) : okObj ⟨ty, 2, true, ndL l⟩ = true := by simp [okObj, ndL, ndE, V.one, V.isC, Value.oneCell']

end Go.Proofs.YtbjmfjfnilmhhaaGreatDoor.Eng
namespace Go.Proofs.YtbjmfjfnilmhhaaGreatDoor.Eng
open Go Go.Proofs
set_option maxRecDepth 100000
set_option maxHeartbeats 2000000
set_option linter.unusedSimpArgs false
set_option linter.unusedVariables false
attribute [local simp] finK fin1 hpOf xi renQ isRoot runCode runOps stepX inlOf Eng.step wantedV astep val ofO made loadV storeV find V.cells bin binT binA numT numFs eqCells un1 setAt fieldAddrV fieldV indexAddrV indexV bounds sliceV convV lenV foldV max2V min2V callO bor rdsO wrsO seen_none okD_none loops keepIds resV resultsV St.ev TK.agg refs refsL refsO V.one V.isC Value.oneCell' ren renL renO noTag noTagL noTagR noTagO nodup mapO passV frs psi refsR newD loopNext opsAt idx flatAt rootOf backR newsV appendV copyV clearV strV bytesV bldV bufV selfV bytesOf nilCmp buildV fillF chunk freeL frzW cellSame sameV
attribute [local simp] cT cF cX cWR cOW cK cBL X ints_length ints_get ints_getElem ints_drop ints_take ints_append ints_nil ints_set
attribute [local simp] ints_replicate
attribute [local simp] putV_some putV_none putH_app applyD_nil applyD_cons seen_app gc_ρ gc_H gc_tick st0_ρ st0_H st0_tick retV callRo callV_if borL_nil borL_cons ints_snoc take_self callWr cutH_app findQ afterV exportV_0 exportV_n okD_nil okD_cons sub_seq0 sub_seq1 sub_cond0 sub_cond1 sub_block sub_loop sub_nil young_far young_none hidW_nil mayW_nil keepsF_nil keepsF_cons pairs okI ok_0 ok_1 ok_2
attribute [local simp] T3 T4 T5 T9 T22 T24 T33 T36 T38 T45 T48 T51 T52 T54 T56 T71 T72 T74 T77 T99 T104 T117 T121
def lfldV (b : Bool) (w h : Int) (l : List Int) : V := .ag [.c (.int .i64 w), .c (.int .i64 h), .sq b true 1 (ints l)]
def marks (n : Int) (len : Nat) : List Int := (List.range len).map fun i => n + ((i : Nat) : Int)
theorem marks_length (n : Int) (len : Nat) : (marks n len).length = len := by simp [marks]
theorem marks_get (n : Int) (len i : Nat) (h : i < len) : (marks n len)[i]'(by simpa [marks] using h) = n + i := by simp [marks]

end Go.Proofs.YtbjmfjfnilmhhaaGreatDoor.Eng
namespace Go.Proofs.YtbjmfjfnilmhhaaGreatDoor.Eng
open Go Go.Proofs
set_option maxRecDepth 100000
set_option maxHeartbeats 2000000
set_option linter.unusedSimpArgs false
set_option linter.unusedVariables false
attribute [local simp] finK fin1 hpOf xi renQ isRoot runCode runOps stepX inlOf Eng.step wantedV astep val ofO made loadV storeV find V.cells bin binT binA numT numFs eqCells un1 setAt fieldAddrV fieldV indexAddrV indexV bounds sliceV convV lenV foldV max2V min2V callO bor rdsO wrsO seen_none okD_none loops keepIds resV resultsV St.ev TK.agg refs refsL refsO V.one V.isC Value.oneCell' ren renL renO noTag noTagL noTagR noTagO nodup mapO passV frs psi refsR newD loopNext opsAt idx flatAt rootOf backR newsV appendV copyV clearV strV bytesV bldV bufV selfV bytesOf nilCmp buildV fillF chunk freeL frzW cellSame sameV
attribute [local simp] cT cF cX cWR cOW cK cBL X ints_length ints_get ints_getElem ints_drop ints_take ints_append ints_nil ints_set
attribute [local simp] ints_replicate
attribute [local simp] putV_some putV_none putH_app applyD_nil applyD_cons seen_app gc_ρ gc_H gc_tick st0_ρ st0_H st0_tick retV callRo callV_if borL_nil borL_cons ints_snoc take_self callWr cutH_app findQ afterV exportV_0 exportV_n okD_nil okD_cons sub_seq0 sub_seq1 sub_cond0 sub_cond1 sub_block sub_loop sub_nil young_far young_none hidW_nil mayW_nil keepsF_nil keepsF_cons pairs okI ok_0 ok_1 ok_2
attribute [local simp] T3 T4 T5 T9 T22 T24 T33 T36 T38 T45 T48 T51 T52 T54 T56 T71 T72 T74 T77 T99 T104 T117 T121

end Go.Proofs.YtbjmfjfnilmhhaaGreatDoor.Eng
namespace Go.Proofs.YtbjmfjfnilmhhaaGreatDoor.Eng
open Go Go.Proofs
set_option maxRecDepth 100000
set_option maxHeartbeats 2000000
set_option linter.unusedSimpArgs false
set_option linter.unusedVariables false
attribute [local simp] finK fin1 hpOf xi renQ isRoot runCode runOps stepX inlOf Eng.step wantedV astep val ofO made loadV storeV find V.cells bin binT binA numT numFs eqCells un1 setAt fieldAddrV fieldV indexAddrV indexV bounds sliceV convV lenV foldV max2V min2V callO bor rdsO wrsO seen_none okD_none loops keepIds resV resultsV St.ev TK.agg refs refsL refsO V.one V.isC Value.oneCell' ren renL renO noTag noTagL noTagR noTagO nodup mapO passV frs psi refsR newD loopNext opsAt idx flatAt rootOf backR newsV appendV copyV clearV strV bytesV bldV bufV selfV bytesOf nilCmp buildV fillF chunk freeL frzW cellSame sameV
attribute [local simp] cT cF cX cWR cOW cK cBL X ints_length ints_get ints_getElem ints_drop ints_take ints_append ints_nil ints_set
attribute [local simp] ints_replicate
attribute [local simp] putV_some putV_none putH_app applyD_nil applyD_cons seen_app gc_ρ gc_H gc_tick st0_ρ st0_H st0_tick retV callRo callV_if borL_nil borL_cons ints_snoc take_self callWr cutH_app findQ afterV exportV_0 exportV_n okD_nil okD_cons sub_seq0 sub_seq1 sub_cond0 sub_cond1 sub_block sub_loop sub_nil young_far young_none hidW_nil mayW_nil keepsF_nil keepsF_cons pairs okI ok_0 ok_1 ok_2
attribute [local simp] T3 T4 T5 T9 T22 T24 T33 T36 T38 T45 T48 T51 T52 T54 T56 T71 T72 T74 T77 T99 T104 T117 T121
def likeB (q0 q : Fd) : Bool := goodB q.w q.h q.l && (q.w == q0.w && q.h == q0.h)
theorem c_areAlike (k : Nat) (c : Bool) (q0 : Fd) (fs : List Fd) (hl : fs.length ≤ 1000) (hk : fs.length + 300 ≤ k) : callK C k 31 [.sq c false 3 ((q0 :: fs).map Fd.cells)] [] = some (.c (.bool ((q0 :: fs).all (likeB q0))), hpOf [] []) := by
  obtain ⟨k, rfl⟩ : ∃ m, k = m + 7 := ⟨k - 7, by omega⟩
  rw [callK_fn rfl F31 code31]
  have v := fun q : Fd => c_IsValidField (k + 6) q.b q.w q.h q.l (by omega)
  have s := fun q : Fd => c_sameShape (k + 6) q.b q0.b q.w q.h q0.w q0.h q.l q0.l (by omega)
  simp only [fldV] at v s
  generalize hfs : q0 :: fs = gs
  have hg0 : (gs.map Fd.cells)[0]? = some q0.cells := by subst hfs; rfl
  have hgl : gs.length ≤ 1001 := by subst hfs; simp; omega
  have hgk : gs.length < k + 6 := by subst hfs; simp; omega
  obtain ⟨b0, w0, h0', l0⟩ := q0
  simp only at s
  cases hall : gs.all (likeB ⟨b0, w0, h0', l0⟩)
  · obtain ⟨out, ho⟩ := loopOut (body := fun st => runCode C (callK C (k + 6)) (k + 6) (K 31) L31_0 1 st) (keep := [0, 5, 6, 7]) .ret (fun st => st.ρ 2 = .c (.bool false))
      (fun i st => st.ρ 0 = .sq c false 3 (gs.map Fd.cells) ∧ st.ρ 5 = .sq c false 3 (gs.map Fd.cells) ∧ st.ρ 6 = .c (.int .i64 (gs.length : Int)) ∧ st.ρ 7 = .c (.int .i64 (i : Int)) ∧ (gs.take i).all (likeB ⟨b0, w0, h0', l0⟩) = true)
      gs.length (k + 6) hgk
      (by
        rintro i st next hi ⟨h0, h5, h6, h7, ht⟩ hn
        have ht' := fun hx : likeB ⟨b0, w0, h0', l0⟩ gs[i] = true => (show (gs.take (i + 1)).all (likeB ⟨b0, w0, h0', l0⟩) = true by rw [List.take_succ_eq_append_getElem hi, List.all_append, ht]; simp [hx])
        obtain ⟨q, hq⟩ : ∃ q, gs[i] = q := ⟨_, rfl⟩
        rw [hq] at ht'
        have v1 := v q
        have s1 := s q
        obtain ⟨b1, w1, h1, l1⟩ := q
        simp only at v1 s1
        cases hgd : goodB w1 h1 l1
        · simp [L31_0, R31_0, R31_1, R31_2, R31_3, R31_4, R31_5, R31_6, R31_7, Tryz.f31, lpL31_0, lpM31_0, M31_0, h0, h5, h6, h7, hi, hq, Fd.cells, v1, hgd]
        by_cases hw : w1 = w0
        · subst hw
          by_cases hh : h1 = h0'
          · subst hh
            simp [L31_0, R31_0, R31_1, R31_2, R31_3, R31_4, R31_5, R31_6, R31_7, Tryz.f31, lpL31_0, lpM31_0, M31_0, h0, h5, h6, h7, hi, hq, hg0, Fd.cells, v1, s1, hgd, wrap_next hi (by omega : gs.length ≤ 9000000000000000000)]
            exact hn _ (by simp [h0, h5, h6]; simpa using ht' (by simp [likeB, hgd]))
          · simp [L31_0, R31_0, R31_1, R31_2, R31_3, R31_4, R31_5, R31_6, R31_7, Tryz.f31, lpL31_0, lpM31_0, M31_0, h0, h5, h6, h7, hi, hq, hg0, Fd.cells, v1, s1, hgd, hh]
        · simp [L31_0, R31_0, R31_1, R31_2, R31_3, R31_4, R31_5, R31_6, R31_7, Tryz.f31, lpL31_0, lpM31_0, M31_0, h0, h5, h6, h7, hi, hq, hg0, Fd.cells, v1, s1, hgd, hw])
      (by
        rintro st next ⟨h0, h5, h6, h7, ht⟩
        rw [List.take_of_length_le (Nat.le_refl _), hall] at ht
        cases ht)
    simp at ho
    simp [R31_0, R31_1, R31_2, R31_3, R31_4, R31_5, R31_6, R31_7, Tryz.f31, lpL31_0, lpM31_0, M31_0, ho]
  · obtain ⟨out, ho⟩ := loopOut (body := fun st => runCode C (callK C (k + 6)) (k + 6) (K 31) L31_0 1 st) (keep := [0, 5, 6, 7]) (.ex 0) (fun st => True)
      (fun i st => st.ρ 0 = .sq c false 3 (gs.map Fd.cells) ∧ st.ρ 5 = .sq c false 3 (gs.map Fd.cells) ∧ st.ρ 6 = .c (.int .i64 (gs.length : Int)) ∧ st.ρ 7 = .c (.int .i64 (i : Int)))
      gs.length (k + 6) hgk
      (by
        rintro i st next hi ⟨h0, h5, h6, h7⟩ hn
        have hp := List.all_eq_true.1 hall _ (List.getElem_mem hi)
        obtain ⟨q, hq⟩ : ∃ q, gs[i] = q := ⟨_, rfl⟩
        rw [hq] at hp
        have v1 := v q
        have s1 := s q
        obtain ⟨b1, w1, h1, l1⟩ := q
        simp only [likeB, Bool.and_eq_true, beq_iff_eq] at v1 s1 hp
        obtain ⟨hgd, hw, hh⟩ := hp
        subst hw hh
        simp [L31_0, R31_0, R31_1, R31_2, R31_3, R31_4, R31_5, R31_6, R31_7, Tryz.f31, lpL31_0, lpM31_0, M31_0, h0, h5, h6, h7, hi, hq, hg0, Fd.cells, v1, s1, hgd, wrap_next hi (by omega : gs.length ≤ 9000000000000000000)]
        simp only [and_true] at hn
        exact hn _ (by simp [h0, h5, h6]))
      (by
        rintro st next ⟨h0, h5, h6, h7⟩
        simp [L31_0, R31_0, R31_1, R31_2, R31_3, R31_4, R31_5, R31_6, R31_7, Tryz.f31, lpL31_0, lpM31_0, M31_0, h0, h5, h6, h7])
    simp at ho
    simp [R31_0, R31_1, R31_2, R31_3, R31_4, R31_5, R31_6, R31_7, Tryz.f31, lpL31_0, lpM31_0, M31_0, ho]

end Go.Proofs.YtbjmfjfnilmhhaaGreatDoor.Eng
namespace Go.Proofs.YtbjmfjfnilmhhaaGreatDoor.Eng
open Go Go.Proofs
set_option maxRecDepth 100000
set_option maxHeartbeats 2000000
set_option linter.unusedSimpArgs false
set_option linter.unusedVariables false
attribute [local simp] finK fin1 hpOf xi renQ isRoot runCode runOps stepX inlOf Eng.step wantedV astep val ofO made loadV storeV find V.cells bin binT binA numT numFs eqCells un1 setAt fieldAddrV fieldV indexAddrV indexV bounds sliceV convV lenV foldV max2V min2V callO bor rdsO wrsO seen_none okD_none loops keepIds resV resultsV St.ev TK.agg refs refsL refsO V.one V.isC Value.oneCell' ren renL renO noTag noTagL noTagR noTagO nodup mapO passV frs psi refsR newD loopNext opsAt idx flatAt rootOf backR newsV appendV copyV clearV strV bytesV bldV bufV selfV bytesOf nilCmp buildV fillF chunk freeL frzW cellSame sameV
attribute [local simp] cT cF cX cWR cOW cK cBL X ints_length ints_get ints_getElem ints_drop ints_take ints_append ints_nil ints_set
attribute [local simp] ints_replicate
attribute [local simp] putV_some putV_none putH_app applyD_nil applyD_cons seen_app gc_ρ gc_H gc_tick st0_ρ st0_H st0_tick retV callRo callV_if borL_nil borL_cons ints_snoc take_self callWr cutH_app findQ afterV exportV_0 exportV_n okD_nil okD_cons sub_seq0 sub_seq1 sub_cond0 sub_cond1 sub_block sub_loop sub_nil young_far young_none hidW_nil mayW_nil keepsF_nil keepsF_cons pairs okI ok_0 ok_1 ok_2
attribute [local simp] T3 T4 T5 T9 T22 T24 T33 T36 T38 T45 T48 T51 T52 T54 T56 T71 T72 T74 T77 T99 T104 T117 T121
def ckI (v : Int) : Int := if -9000 ≤ v ∧ v ≤ 9000 then v else 9001
def combG (op x y : Int) : Int := if x = -9999 ∨ y = -9999 then -9999 else if op = 1 then ckI (x + y) else if op = 2 then ckI (x - y) else if op = 3 then (if y < x then y else x) else (if y > x then y else x)
theorem cell_bound {x : Int} (h : cellB x = true) : -9999 ≤ x ∧ x ≤ 9000 := by
  simp only [cellB, Bool.or_eq_true, beq_iff_eq, Bool.and_eq_true, decide_eq_true_eq] at h
  omega
theorem c_checkedCell (k : Nat) (v : Int) (hk : 2 ≤ k) : callK C k 86 [.c (.int .i64 v)] [] = some (.c (.int .i64 (ckI v)), hpOf [] []) := by
  obtain ⟨k, rfl⟩ : ∃ m, k = m + 2 := ⟨k - 2, by omega⟩
  rw [callK_fn rfl F86 code86]
  unfold ckI
  by_cases h1 : -9000 ≤ v
  · by_cases h2 : v ≤ 9000 <;> simp [R86_0, R86_1, R86_2, R86_3, Tryz.f86, c_within, h1, h2]
  · simp [R86_0, R86_1, R86_2, R86_3, Tryz.f86, c_within, h1]
theorem c_Combine1 (op : Int) (k : Nat) (x y : Int) (hk : 3 ≤ k) (hx : cellB x = true) (hy : cellB y = true) : callK C k 85 [.c (.int .i64 x), .c (.int .i64 y), .bx true [.c (.int .i64 op)]] [] = some (.c (.int .i64 (combG op x y)), hpOf [] []) := by
  obtain ⟨k, rfl⟩ : ∃ m, k = m + 3 := ⟨k - 3, by omega⟩
  rw [callK_fn rfl F85 code85]
  have bx := cell_bound hx
  have by' := cell_bound hy
  have w1 : IntKind.i64.wrap (x + y) = x + y := wrap_small (by omega) (by omega)
  have w2 : IntKind.i64.wrap (x - y) = x - y := wrap_small (by omega) (by omega)
  have c1 := c_checkedCell (k + 2) (x + y) (by omega)
  have c2 := c_checkedCell (k + 2) (x - y) (by omega)
  unfold combG
  by_cases h : x = -9999
  · simp [R85_0, R85_1, R85_2, R85_3, R85_4, R85_5, R85_6, R85_7, R85_8, R85_9, Tryz.f85, h]
  have h' : (x == -9999) = false := by simpa using h
  by_cases h2 : y = -9999
  · simp [R85_0, R85_1, R85_2, R85_3, R85_4, R85_5, R85_6, R85_7, R85_8, R85_9, Tryz.f85, h, h', h2]
  have h2' : (y == -9999) = false := by simpa using h2
  by_cases o1 : op = 1
  · simp [R85_0, R85_1, R85_2, R85_3, R85_4, R85_5, R85_6, R85_7, R85_8, R85_9, Tryz.f85, h, h', h2, h2', o1, w1, c1]
  have o1' : (op == 1) = false := by simpa using o1
  by_cases o2 : op = 2
  · simp [R85_0, R85_1, R85_2, R85_3, R85_4, R85_5, R85_6, R85_7, R85_8, R85_9, Tryz.f85, h, h', h2, h2', o1, o1', o2, w2, c2]
  have o2' : (op == 2) = false := by simpa using o2
  by_cases o3 : op = 3
  · simp [R85_0, R85_1, R85_2, R85_3, R85_4, R85_5, R85_6, R85_7, R85_8, R85_9, Tryz.f85, h, h', h2, h2', o1, o1', o2, o2', o3]
  have o3' : (op == 3) = false := by simpa using o3
  simp [R85_0, R85_1, R85_2, R85_3, R85_4, R85_5, R85_6, R85_7, R85_8, R85_9, Tryz.f85, h, h', h2, h2', o1, o1', o2, o2', o3, o3']
theorem c_combinedComb (op : Int) (k : Nat) (b c : Bool) (w h w' h' : Int) (l m : List Int) (hk : 500 ≤ k) (ha : (goodB w h l && (goodB w' h' m && (w' == w && h' == h))) = true) :
    callK C k 84 [fldV b w h l, fldV c w' h' m, .fn 85 [.bx true [.c (.int .i64 op)]]] [] = some (if goodB w h (List.zipWith (combG op) l m) then (.tp [ownV w h 0 2 l.length, .c (.bool true)], hpOf [] [intsO (List.zipWith (combG op) l m)]) else (.tp [nilV, .c (.bool false)], hpOf [] [])) := by
  obtain ⟨k, rfl⟩ : ∃ m, k = m + 9 := ⟨k - 9, by omega⟩
  rw [callK_fn rfl F84 code84]
  simp only [Bool.and_eq_true, beq_iff_eq] at ha
  obtain ⟨g1, g2, rfl, rfl⟩ := ha
  obtain ⟨s1, n1, cl1, k1⟩ := good_length g1
  obtain ⟨s2, n2, cl2, k2⟩ := good_length g2
  have hlm : m.length = l.length := by omega
  have hz : (List.zipWith (combG op) l m).length = l.length := by simp [hlm]
  obtain ⟨hp0, hp, hs⟩ := shape_area s1
  have hl0 : l ≠ [] := by
    intro e; subst e
    have := Int.mul_pos (by omega : 0 < w') (by omega : 0 < h')
    simp at n1; omega
  have hal := c_areAlike (k + 8) true ⟨true, w', h', l⟩ [⟨true, w', h', m⟩] (by simp) (by simp; omega)
  simp [Fd.cells, likeB, g1, g2] at hal
  have hal' := c_areAlike (k + 8) true ⟨b, w', h', l⟩ [⟨c, w', h', m⟩] (by simp) (by simp; omega)
  simp [Fd.cells, likeB, g1, g2] at hal'
  have hcl := c_cloneField (k + 8) b w' h' l (by omega) hl0 (by omega)
  simp [fldV, intsO] at hcl
  have hck := c_checkedField (k + 8) w' h' (List.zipWith (combG op) l m) (by omega)
  rw [hz] at hck
  simp [ownV, intsO] at hck
  have hc1 := fun (x y : Int) (hx : cellB x = true) (hy : cellB y = true) => c_Combine1 op (k + 8) x y (by omega) hx hy
  obtain ⟨out, ho⟩ := loopOut (body := fun st => runCode C (callK C (k + 8)) (k + 8) (K 84) L84_0 1 st) (keep := [2, 3, 6, 8, 20, 21, 22]) (.ex 0) (fun st => st.ρ 6 = .p 48 1 3 0 0 ∧ st.ρ 8 = .p 3120 3 3 0 0 ∧
      st.H 48 = some (1, ⟨38, 3, false, [[.c (.int .i64 0), .c (.int .i64 0), .c (.slice none 0 0)]]⟩) ∧
      st.H 3120 = some (3, ⟨38, 3, false, [[.c (.int .i64 w'), .c (.int .i64 h'), .s 3104 3 1 0 l.length]]⟩) ∧
      st.H 3104 = some (3, intsO (List.zipWith (combG op) l m)))
    (fun i st => st.ρ 2 = .fn 85 [.bx true [.c (.int .i64 op)]] ∧ st.ρ 3 = .p 16 1 3 0 0 ∧ st.ρ 6 = .p 48 1 3 0 0 ∧ st.ρ 8 = .p 3120 3 3 0 0 ∧
      st.ρ 20 = .sq c true 1 (ints m) ∧ st.ρ 21 = .c (.int .i64 (m.length : Int)) ∧ st.ρ 22 = .c (.int .i64 (i : Int)) ∧
      st.H 16 = some (1, ⟨38, 3, false, [[.c (.int .i64 w'), .c (.int .i64 h'), .sq b true 1 (ints l)]]⟩) ∧
      st.H 48 = some (1, ⟨38, 3, false, [[.c (.int .i64 0), .c (.int .i64 0), .c (.slice none 0 0)]]⟩) ∧
      st.H 3120 = some (3, ⟨38, 3, false, [[.c (.int .i64 w'), .c (.int .i64 h'), .s 3104 3 1 0 l.length]]⟩) ∧
      st.H 3104 = some (3, intsO (fillL (List.zipWith (combG op) l m) l i)))
    m.length (k + 8) (by omega)
    (by
      rintro i st next hi ⟨h2, h3, h6, h8, h20, h21, h22, H16, H48, H3120, H3104⟩ hn
      have hil : i < l.length := by omega
      have hget := fillL_get (List.zipWith (combG op) l m) l i hz.symm (by omega)
      have hset := fillL_set (List.zipWith (combG op) l m) l i hz.symm (by omega)
      rw [List.getElem_zipWith] at hset
      have hcc := hc1 l[i] m[i] (List.all_eq_true.1 cl1 _ (List.getElem_mem hil)) (List.all_eq_true.1 cl2 _ (List.getElem_mem hi))
      simp [L84_0, R84_0, R84_1, R84_2, R84_3, R84_4, R84_5, R84_6, R84_7, R84_8, R84_9, Tryz.f84, lpL84_0, lpM84_0, M84_0, h2, h3, h6, h8, h20, h21, h22, H16, H48, H3120, H3104, hi, hil, intsO, hcc, hget, hset, wrap_next hi (by omega)]
      exact hn _ (by simp [h2, h3, h6, h8, h20, h21, H16, H48, H3120, intsO]))
    (by
      rintro st next ⟨h2, h3, h6, h8, h20, h21, h22, H16, H48, H3120, H3104⟩
      have hf := fillL_all (List.zipWith (combG op) l m) l (by omega)
      rw [hz, ← hlm] at hf
      simp [L84_0, R84_0, R84_1, R84_2, R84_3, R84_4, R84_5, R84_6, R84_7, R84_8, R84_9, Tryz.f84, lpL84_0, lpM84_0, M84_0, h2, h3, h6, h8, h20, h21, h22, H16, H48, H3120, H3104, intsO, hf])
  simp [fillL_zero, intsO] at ho
  cases hg : goodB w' h' (List.zipWith (combG op) l m)
  · rw [hg] at hck
    simp [nilV] at hck
    simp [R84_0, R84_1, R84_2, R84_3, R84_4, R84_5, R84_6, R84_7, R84_8, R84_9, Tryz.f84, lpL84_0, lpM84_0, M84_0, fldV, hal, hal', hcl, hck, ho, ownV, nilV, intsO]
  · rw [hg] at hck
    simp at hck
    simp [R84_0, R84_1, R84_2, R84_3, R84_4, R84_5, R84_6, R84_7, R84_8, R84_9, Tryz.f84, lpL84_0, lpM84_0, M84_0, fldV, hal, hal', hcl, hck, ho, ownV, intsO]
theorem c_combinedNoC (op : Int) (k : Nat) (b c : Bool) (w h w' h' : Int) (l m : List Int) (hk : 500 ≤ k) (ha : (goodB w h l && (goodB w' h' m && (w' == w && h' == h))) = false) :
    callK C k 84 [fldV b w h l, fldV c w' h' m, .fn 85 [.bx true [.c (.int .i64 op)]]] [] = some (.tp [nilV, .c (.bool false)], hpOf [] []) := by
  obtain ⟨k, rfl⟩ : ∃ m, k = m + 9 := ⟨k - 9, by omega⟩
  rw [callK_fn rfl F84 code84]
  have hal := c_areAlike (k + 8) true ⟨true, w, h, l⟩ [⟨true, w', h', m⟩] (by simp) (by simp; omega)
  have hal' := c_areAlike (k + 8) true ⟨b, w, h, l⟩ [⟨c, w', h', m⟩] (by simp) (by simp; omega)
  have e1 : ∀ b c : Bool, ([(⟨b, w, h, l⟩ : Fd), ⟨c, w', h', m⟩].all (likeB ⟨b, w, h, l⟩)) = false := by
    intro b c
    simp only [List.all_cons, List.all_nil, likeB, beq_self_eq_true, Bool.and_true]
    exact ha
  rw [e1] at hal hal'
  simp [Fd.cells] at hal hal'
  simp [R84_0, R84_1, R84_2, R84_3, R84_4, R84_5, R84_6, R84_7, R84_8, R84_9, Tryz.f84, lpL84_0, lpM84_0, M84_0, fldV, hal, hal', nilV]

end Go.Proofs.YtbjmfjfnilmhhaaGreatDoor.Eng
namespace Go.Proofs.YtbjmfjfnilmhhaaGreatDoor.Eng
open Go Go.Proofs
set_option maxRecDepth 100000
set_option maxHeartbeats 2000000
set_option linter.unusedSimpArgs false
set_option linter.unusedVariables false
attribute [local simp] finK fin1 hpOf xi renQ isRoot runCode runOps stepX inlOf Eng.step wantedV astep val ofO made loadV storeV find V.cells bin binT binA numT numFs eqCells un1 setAt fieldAddrV fieldV indexAddrV indexV bounds sliceV convV lenV foldV max2V min2V callO bor rdsO wrsO seen_none okD_none loops keepIds resV resultsV St.ev TK.agg refs refsL refsO V.one V.isC Value.oneCell' ren renL renO noTag noTagL noTagR noTagO nodup mapO passV frs psi refsR newD loopNext opsAt idx flatAt rootOf backR newsV appendV copyV clearV strV bytesV bldV bufV selfV bytesOf nilCmp buildV fillF chunk freeL frzW cellSame sameV
attribute [local simp] cT cF cX cWR cOW cK cBL X ints_length ints_get ints_getElem ints_drop ints_take ints_append ints_nil ints_set
attribute [local simp] ints_replicate
attribute [local simp] putV_some putV_none putH_app applyD_nil applyD_cons seen_app gc_ρ gc_H gc_tick st0_ρ st0_H st0_tick retV callRo callV_if borL_nil borL_cons ints_snoc take_self callWr cutH_app findQ afterV exportV_0 exportV_n okD_nil okD_cons sub_seq0 sub_seq1 sub_cond0 sub_cond1 sub_block sub_loop sub_nil young_far young_none hidW_nil mayW_nil keepsF_nil keepsF_cons pairs okI ok_0 ok_1 ok_2
attribute [local simp] T3 T4 T5 T9 T22 T24 T33 T36 T38 T45 T48 T51 T52 T54 T56 T71 T72 T74 T77 T99 T104 T117 T121
def opG (op x y : Int) : Int := if op = 1 then x + y else if op = 2 then x - y else if op = 3 then (if x < y then x else y) else (if x > y then x else y)
def missB (x y : Int) : Bool := x == -9999 || y == -9999
def specG (op x y : Int) : Int := if missB x y then -9999 else opG op x y
def okE (op x y : Int) : Bool := missB x y || (decide (-9000 ≤ opG op x y) && decide (opG op x y ≤ 9000))
theorem opG_bound {op x y : Int} (hx : cellB x = true) (hy : cellB y = true) : -20000 ≤ opG op x y ∧ opG op x y ≤ 20000 := by
  have := cell_bound hx
  have := cell_bound hy
  unfold opG
  split <;> try split <;> try split <;> try split
  all_goals omega
theorem comb_ok {op x y : Int} (hx : cellB x = true) (hy : cellB y = true) : cellB (combG op x y) = okE op x y ∧ (okE op x y = true → combG op x y = specG op x y) := by
  have bx := hx
  have by' := hy
  simp only [cellB, Bool.or_eq_true, beq_iff_eq, Bool.and_eq_true, decide_eq_true_eq] at bx by'
  by_cases h : x = -9999
  · simp [combG, okE, specG, missB, h, cellB]
  by_cases h' : y = -9999
  · simp [combG, okE, specG, missB, h, h', cellB]
  have key : cellB (combG op x y) = (decide (-9000 ≤ opG op x y) && decide (opG op x y ≤ 9000)) ∧ ((decide (-9000 ≤ opG op x y) && decide (opG op x y ≤ 9000)) = true → combG op x y = opG op x y) := by
    rw [Bool.eq_iff_iff]
    simp only [cellB, Bool.or_eq_true, beq_iff_eq, Bool.and_eq_true, decide_eq_true_eq]
    simp only [combG, h, h', or_self, if_false, opG, ckI]
    split
    · split <;> omega
    split
    · split <;> omega
    split
    · split <;> split <;> omega
    · split <;> split <;> omega
  have e0 : okE op x y = (decide (-9000 ≤ opG op x y) && decide (opG op x y ≤ 9000)) := by
    have e1 : missB x y = false := by simp [missB, h, h']
    simp [okE, e1]
  refine ⟨by rw [e0]; exact key.1, fun ho => ?_⟩
  rw [key.2 (by rw [← e0]; exact ho)]
  simp [specG, missB, h, h']
def okL (op : Int) : List Int → List Int → Bool
  | x :: l, y :: m => okE op x y && okL op l m
  | _, _ => true
theorem okL_snoc (op : Int) : ∀ (l m : List Int) (x y : Int), l.length = m.length → okL op (l ++ [x]) (m ++ [y]) = (okL op l m && okE op x y)
  | [], [], x, y, _ => by simp [okL]
  | a :: l, b :: m, x, y, h => by
    simp only [List.cons_append, okL, okL_snoc op l m x y (by simpa using h), Bool.and_assoc]
theorem comb_all (op : Int) : ∀ (l m : List Int), l.length = m.length → l.all cellB = true → m.all cellB = true → (List.zipWith (combG op) l m).all cellB = okL op l m ∧ (okL op l m = true → List.zipWith (combG op) l m = List.zipWith (specG op) l m)
  | [], [], _, _, _ => by simp [okL]
  | x :: l, y :: m, h, hl, hm => by
    simp only [List.all_cons, Bool.and_eq_true] at hl hm
    obtain ⟨i1, i2⟩ := comb_all op l m (by simpa using h) hl.2 hm.2
    obtain ⟨c1, c2⟩ := comb_ok (op := op) hl.1 hm.1
    simp only [List.zipWith_cons_cons, List.all_cons, okL, i1, c1, true_and, Bool.and_eq_true]
    intro ⟨h1, h2⟩
    rw [c2 h1, i2 h2]
theorem c_l4Op (k : Nat) (op x y : Int) (hk : 2 ≤ k) (hx : cellB x = true) (hy : cellB y = true) : callK C k 70 [.c (.int .i64 op), .c (.int .i64 x), .c (.int .i64 y)] [] = some (.c (.int .i64 (opG op x y)), hpOf [] []) := by
  obtain ⟨k, rfl⟩ : ∃ m, k = m + 2 := ⟨k - 2, by omega⟩
  rw [callK_fn rfl F70 code70]
  have bx := cell_bound hx
  have by' := cell_bound hy
  have w1 : IntKind.i64.wrap (x + y) = x + y := wrap_small (by omega) (by omega)
  have w2 : IntKind.i64.wrap (x - y) = x - y := wrap_small (by omega) (by omega)
  have c1 := c_l1Most (k + 1) x y (by omega)
  have c2 := c_l1Least (k + 1) x y (by omega)
  unfold opG
  by_cases o1 : op = 1
  · simp [R70_0, R70_1, R70_2, R70_3, R70_4, R70_5, R70_6, R70_7, R70_8, Tryz.f70, o1, w1]
  have o1' : (op == 1) = false := by simpa using o1
  by_cases o2 : op = 2
  · simp [R70_0, R70_1, R70_2, R70_3, R70_4, R70_5, R70_6, R70_7, R70_8, Tryz.f70, o1, o1', o2, w2]
  have o2' : (op == 2) = false := by simpa using o2
  by_cases o3 : op = 3
  · simp [R70_0, R70_1, R70_2, R70_3, R70_4, R70_5, R70_6, R70_7, R70_8, Tryz.f70, o1, o1', o2, o2', o3, c2]
  have o3' : (op == 3) = false := by simpa using o3
  simp [R70_0, R70_1, R70_2, R70_3, R70_4, R70_5, R70_6, R70_7, R70_8, Tryz.f70, o1, o1', o2, o2', o3, o3', c1]
theorem c_l4Checked (k : Nat) (w h : Int) (l : List Int) (q : Bool) (hk : 210 ≤ k) : callK C k 89 [ownV w h 0 0 l.length, .c (.bool q)] [intsO l] = some (.tp [if (q && goodB w h l) = true then ownV w h 0 0 l.length else nilV, .c (.bool (q && goodB w h l))], hpOf [some (intsO l)] []) := by
  obtain ⟨k, rfl⟩ : ∃ m, k = m + 7 := ⟨k - 7, by omega⟩
  rw [callK_fn rfl F89 code89]
  have hv := c_l2Good (k + 6) true w h l (by omega)
  simp [fldV] at hv
  cases q
  · simp [R89_0, R89_1, R89_2, R89_3, Tryz.f89, ownV, nilV, intsO]
  cases hg : goodB w h l
  · simp [R89_0, R89_1, R89_2, R89_3, Tryz.f89, ownV, nilV, intsO, hv, hg]
  · simp [R89_0, R89_1, R89_2, R89_3, Tryz.f89, ownV, nilV, intsO, hv, hg]
theorem c_l4Combine (op : Int) (k : Nat) (b c : Bool) (w h : Int) (l m : List Int) (hk : 600 ≤ k) (g1 : goodB w h l = true) (g2 : goodB w h m = true) :
    callK C k 64 [.c (.int .i64 op), fldV b w h l, fldV c w h m] [] = some (if goodB w h (List.zipWith (combG op) l m) then (.tp [ownV w h 0 2 l.length, .c (.bool true)], hpOf [] [intsO (List.zipWith (combG op) l m)]) else (.tp [nilV, .c (.bool false)], hpOf [] [])) := by
  obtain ⟨k, rfl⟩ : ∃ m, k = m + 9 := ⟨k - 9, by omega⟩
  rw [callK_fn rfl F64 code64]
  obtain ⟨s1, n1, cl1, k1⟩ := good_length g1
  obtain ⟨s2, n2, cl2, k2⟩ := good_length g2
  have hlm : m.length = l.length := by omega
  have hz : (List.zipWith (specG op) l m).length = l.length := by simp [hlm]
  have h2 := c_l2Own (k + 8) b w h l (by omega) (by omega)
  simp [fldV, ownV, intsO] at h2
  have hck := c_l4Checked (k + 8) w h (List.zipWith (specG op) l m) (okL op l m) (by omega)
  rw [hz] at hck
  have hc := fun (x y : Int) (hx : cellB x = true) (hy : cellB y = true) => c_l4Op (k + 8) op x y (by omega) hx hy
  have hc1 := fun (x : Int) => c_l1In (k + 8) x (-9000) 9000 (by omega)
  obtain ⟨a1, a2⟩ := comb_all op l m hlm.symm cl1 cl2
  obtain ⟨out, ho⟩ := loopOut (body := fun st => runCode C (callK C (k + 8)) (k + 8) (K 64) L64_0 1 st) (keep := [0, 4, 5, 6, 8, 9, 10]) (.ex 0) (fun st => st.ρ 6 = .p 48 1 3 0 0 ∧ st.ρ 8 = .p 1072 2 3 0 0 ∧ st.ρ 9 = .c (.bool (okL op l m)) ∧
      st.H 48 = some (1, ⟨38, 3, false, [[.c (.int .i64 0), .c (.int .i64 0), .c (.slice none 0 0)]]⟩) ∧
      st.H 1072 = some (2, ⟨38, 3, false, [[.c (.int .i64 w), .c (.int .i64 h), .s 1056 2 1 0 l.length]]⟩) ∧
      st.H 1056 = some (2, intsO (List.zipWith (specG op) l m)))
    (fun i st => st.ρ 0 = .c (.int .i64 op) ∧ st.ρ 4 = .p 16 1 3 0 0 ∧ st.ρ 5 = .p 32 1 3 0 0 ∧ st.ρ 6 = .p 48 1 3 0 0 ∧ st.ρ 8 = .p 1072 2 3 0 0 ∧ st.ρ 9 = .c (.bool (okL op (l.take i) (m.take i))) ∧ st.ρ 10 = .c (.int .i64 (i : Int)) ∧
      st.H 16 = some (1, ⟨38, 3, false, [[.c (.int .i64 w), .c (.int .i64 h), .sq b true 1 (ints l)]]⟩) ∧
      st.H 32 = some (1, ⟨38, 3, false, [[.c (.int .i64 w), .c (.int .i64 h), .sq c true 1 (ints m)]]⟩) ∧
      st.H 48 = some (1, ⟨38, 3, false, [[.c (.int .i64 0), .c (.int .i64 0), .c (.slice none 0 0)]]⟩) ∧
      st.H 1072 = some (2, ⟨38, 3, false, [[.c (.int .i64 w), .c (.int .i64 h), .s 1056 2 1 0 l.length]]⟩) ∧
      st.H 1056 = some (2, intsO (fillL (List.zipWith (specG op) l m) l i)))
    l.length (k + 8) (by omega)
    (by
      rintro i st next hi ⟨h0, h4, h5, h6, h8, h9, h10, H16, H32, H48, H1072, H1056⟩ hn
      have him : i < m.length := by omega
      have hget := fillL_get (List.zipWith (specG op) l m) l i hz.symm (by omega)
      have hget' := fillL_get (List.zipWith (specG op) l m) l i hz.symm (by omega)
      have hset := fillL_set (List.zipWith (specG op) l m) l i hz.symm (by omega)
      have hlen := fillL_length (List.zipWith (specG op) l m) l (i + 1) hz.symm
      have hok : okL op (l.take (i + 1)) (m.take (i + 1)) = (okL op (l.take i) (m.take i) && okE op l[i] m[i]) := by
        rw [List.take_succ_eq_append_getElem hi, List.take_succ_eq_append_getElem him, okL_snoc]
        simp; omega
      rw [List.getElem_zipWith] at hset
      have q1 := List.all_eq_true.1 cl1 _ (List.getElem_mem hi)
      have q2 := List.all_eq_true.1 cl2 _ (List.getElem_mem him)
      have hcc := hc l[i] m[i] q1 q2
      by_cases hx : l[i] = -9999
      · have hm : specG op l[i] m[i] = -9999 := by simp [specG, missB, hx]
        have hm' : okE op l[i] m[i] = true := by simp [okE, missB, hx]
        rw [hm] at hset
        rw [hm', Bool.and_true] at hok
        simp [L64_0, R64_0, R64_1, R64_2, R64_3, R64_4, R64_5, R64_6, R64_7, R64_8, R64_9, R64_10, Tryz.f64, lpL64_0, lpM64_0, M64_0, h0, h4, h5, h6, h8, h9, h10, H16, H32, H48, H1072, H1056, hi, him, intsO, hx, hget, hset, wrap_next hi (by omega : l.length ≤ 9000000000000000000)]
        exact hn _ (by simp [h0, h4, h5, h6, h8, h9, H16, H32, H48, H1072, intsO, hok])
      · have hx' : (l[i] == -9999) = false := by simpa using hx
        by_cases hy : m[i] = -9999
        · have hm : specG op l[i] m[i] = -9999 := by simp [specG, missB, hy]
          have hm' : okE op l[i] m[i] = true := by simp [okE, missB, hy]
          rw [hm] at hset
          rw [hm', Bool.and_true] at hok
          simp [L64_0, R64_0, R64_1, R64_2, R64_3, R64_4, R64_5, R64_6, R64_7, R64_8, R64_9, R64_10, Tryz.f64, lpL64_0, lpM64_0, M64_0, h0, h4, h5, h6, h8, h9, h10, H16, H32, H48, H1072, H1056, hi, him, intsO, hx, hx', hy, hget, hset, wrap_next hi (by omega : l.length ≤ 9000000000000000000)]
          exact hn _ (by simp [h0, h4, h5, h6, h8, h9, H16, H32, H48, H1072, intsO, hok])
        · have hy' : (m[i] == -9999) = false := by simpa using hy
          have hm : specG op l[i] m[i] = opG op l[i] m[i] := by simp [specG, missB, hx, hy]
          have hm' : okE op l[i] m[i] = (decide (-9000 ≤ opG op l[i] m[i]) && decide (opG op l[i] m[i] ≤ 9000)) := by simp [okE, missB, hx, hy]
          rw [hm] at hset
          rw [hm'] at hok
          have hgn : (fillL (List.zipWith (specG op) l m) l (i + 1))[i]? = some (opG op l[i] m[i]) := by
            rw [← hset, List.getElem?_set_self (by rw [fillL_length _ _ _ hz.symm]; omega)]
          cases hq : okL op (l.take i) (m.take i)
          · rw [hq] at h9 hok
            simp [L64_0, R64_0, R64_1, R64_2, R64_3, R64_4, R64_5, R64_6, R64_7, R64_8, R64_9, R64_10, Tryz.f64, lpL64_0, lpM64_0, M64_0, h0, h4, h5, h6, h8, h9, h10, H16, H32, H48, H1072, H1056, hi, him, intsO, hx, hx', hy, hy', hcc, hget, hset, wrap_next hi (by omega : l.length ≤ 9000000000000000000)]
            exact hn _ (by simp [h0, h4, h5, h6, h8, H16, H32, H48, H1072, intsO, hok])
          · rw [hq] at h9 hok
            simp [L64_0, R64_0, R64_1, R64_2, R64_3, R64_4, R64_5, R64_6, R64_7, R64_8, R64_9, R64_10, Tryz.f64, lpL64_0, lpM64_0, M64_0, h0, h4, h5, h6, h8, h9, h10, H16, H32, H48, H1072, H1056, hi, him, intsO, hx, hx', hy, hy', hcc, hc1, hget, hgn, hset, wrap_next hi (by omega : l.length ≤ 9000000000000000000)]
            exact hn _ (by simp [h0, h4, h5, h6, h8, H16, H32, H48, H1072, intsO, hok]))
    (by
      rintro st next ⟨h0, h4, h5, h6, h8, h9, h10, H16, H32, H48, H1072, H1056⟩
      have hf := fillL_all (List.zipWith (specG op) l m) l (by omega)
      rw [hz] at hf
      rw [List.take_length, ← hlm, List.take_length] at h9
      simp [L64_0, R64_0, R64_1, R64_2, R64_3, R64_4, R64_5, R64_6, R64_7, R64_8, R64_9, R64_10, Tryz.f64, lpL64_0, lpM64_0, M64_0, h0, h4, h5, h6, h8, h9, h10, H16, H32, H48, H1072, H1056, intsO, hf])
  simp [fillL_zero, intsO, okL] at ho
  have hzc : (List.zipWith (combG op) l m).length = l.length := by simp [hlm]
  have hgc : goodB w h (List.zipWith (combG op) l m) = okL op l m := by
    unfold goodB
    rw [s1, hzc, a1]
    simp [n1]
  rw [hgc]
  cases hq : okL op l m
  · rw [hq] at hck ho
    simp [ownV, intsO, nilV] at hck
    simp [R64_0, R64_1, R64_2, R64_3, R64_4, R64_5, R64_6, R64_7, R64_8, R64_9, R64_10, Tryz.f64, lpL64_0, lpM64_0, M64_0, fldV, h2, ho, hck, ownV, intsO, nilV]
  · have he := a2 hq
    rw [he] at hgc
    rw [hq] at hck ho hgc
    simp [ownV, intsO, nilV, hgc] at hck
    simp [R64_0, R64_1, R64_2, R64_3, R64_4, R64_5, R64_6, R64_7, R64_8, R64_9, R64_10, Tryz.f64, lpL64_0, lpM64_0, M64_0, fldV, h2, ho, hck, ownV, intsO, he]
theorem opIn (op : Int) : (decide (1 ≤ op) && decide (op ≤ 4)) = true ∨ (decide (1 ≤ op) && decide (op ≤ 4)) = false := by cases (decide (1 ≤ op) && decide (op ≤ 4)) <;> simp

end Go.Proofs.YtbjmfjfnilmhhaaGreatDoor.Eng
namespace Go.Proofs.YtbjmfjfnilmhhaaGreatDoor.Eng
open Go Go.Proofs
set_option maxRecDepth 100000
set_option maxHeartbeats 2000000
set_option linter.unusedSimpArgs false
set_option linter.unusedVariables false
attribute [local simp] finK fin1 hpOf xi renQ isRoot runCode runOps stepX inlOf Eng.step wantedV astep val ofO made loadV storeV find V.cells bin binT binA numT numFs eqCells un1 setAt fieldAddrV fieldV indexAddrV indexV bounds sliceV convV lenV foldV max2V min2V callO bor rdsO wrsO seen_none okD_none loops keepIds resV resultsV St.ev TK.agg refs refsL refsO V.one V.isC Value.oneCell' ren renL renO noTag noTagL noTagR noTagO nodup mapO passV frs psi refsR newD loopNext opsAt idx flatAt rootOf backR newsV appendV copyV clearV strV bytesV bldV bufV selfV bytesOf nilCmp buildV fillF chunk freeL frzW cellSame sameV
attribute [local simp] cT cF cX cWR cOW cK cBL X ints_length ints_get ints_getElem ints_drop ints_take ints_append ints_nil ints_set
attribute [local simp] ints_replicate
attribute [local simp] putV_some putV_none putH_app applyD_nil applyD_cons seen_app gc_ρ gc_H gc_tick st0_ρ st0_H st0_tick retV callRo callV_if borL_nil borL_cons ints_snoc take_self callWr cutH_app findQ afterV exportV_0 exportV_n okD_nil okD_cons sub_seq0 sub_seq1 sub_cond0 sub_cond1 sub_block sub_loop sub_nil young_far young_none hidW_nil mayW_nil keepsF_nil keepsF_cons pairs okI ok_0 ok_1 ok_2
attribute [local simp] T3 T4 T5 T9 T22 T24 T33 T36 T38 T45 T48 T51 T52 T54 T56 T71 T72 T74 T77 T99 T104 T117 T121
attribute [local simp] young_near clo cloF Region.binds Nat.testBit hidW declW mayW
/-- The values changed, what is missing kept. -/
def chgM (g : Int → Int) (l : List Int) : List Int := l.map fun x => if x = -9999 then x else g x
theorem chgM_length (g : Int → Int) (l : List Int) : (chgM g l).length = l.length := by simp [chgM]
theorem chgM_get (g : Int → Int) (l : List Int) (i : Nat) (h : i < (chgM g l).length) : (chgM g l)[i] = (if l[i]'(by simpa [chgM] using h) = -9999 then l[i]'(by simpa [chgM] using h) else g (l[i]'(by simpa [chgM] using h))) := by simp [chgM]
/-- A field, or none, and whether. -/
def optV (ok : Bool) (w h : Int) (l : List Int) : Option (V × Hp) := if ok = true then some (.tp [ownV w h 0 2 l.length, .c (.bool true)], hpOf [] [intsO l]) else some (.tp [nilV, .c (.bool false)], hpOf [] [])
theorem c_changedNo (k : Nat) (b : Bool) (f : FuncId) (caps : List V) (w h : Int) (l : List Int) (hf : WR f = false ∧ BL f = none) (hcaps : ∀ H, borL H caps = some caps) (hg : goodB w h l = false) (hk : 500 ≤ k) :
    callK C k 82 [fldV b w h l, .fn f caps] [] = some (.tp [nilV, .c (.bool false)], hpOf [] []) := by
  obtain ⟨k, rfl⟩ : ∃ m, k = m + 9 := ⟨k - 9, by omega⟩
  rw [callK_fn rfl F82 code82]
  have hv := c_IsValidField (k + 8) b w h l (by omega)
  rw [hg] at hv
  simp [fldV] at hv
  simp [R82_0, R82_1, R82_2, R82_3, R82_4, R82_5, R82_6, R82_7, R82_8, R82_9, R82_10, Tryz.f82, lpL82_0, lpM82_0, M82_0, fldV, hv, nilV]
theorem c_changed (k : Nat) (b : Bool) (f : FuncId) (caps : List V) (w h : Int) (l : List Int) (g : Int → Int) (hf : WR f = false ∧ BL f = none) (hcaps : ∀ H, borL H caps = some caps)
    (hc : ∀ x : Int, cellB x = true → x ≠ -9999 → callK C (k + 8) f ([.c (.int .i64 x)] ++ caps) [] = some (.c (.int .i64 (g x)), hpOf [] [])) (hg : goodB w h l = true) (hk : 500 ≤ k) :
    callK C (k + 9) 82 [fldV b w h l, .fn f caps] [] = optV (goodB w h (chgM g l)) w h (chgM g l) := by
  obtain ⟨hf, hb⟩ := hf
  rw [callK_fn rfl F82 code82]
  have hv := c_IsValidField (k + 8) b w h l (by omega)
  rw [hg] at hv
  obtain ⟨s1, n1, cl1, k1⟩ := good_length hg
  obtain ⟨hp0, hp, hs⟩ := shape_area s1
  have hl0 : l ≠ [] := by
    intro e; subst e
    have := Int.mul_pos (by omega : 0 < w) (by omega : 0 < h)
    simp at n1; omega
  have hz := chgM_length g l
  have hcl := c_cloneField (k + 8) b w h l (by omega) hl0 (by omega)
  simp [fldV, intsO] at hcl
  have hck := c_checkedField (k + 8) w h (chgM g l) (by omega)
  rw [hz] at hck
  simp [ownV, intsO] at hck
  simp [fldV] at hv
  have hL := loopHas (body := fun st => runCode C (callK C (k + 8)) (k + 8) (K 82) L82_0 1 st) (keep := [1, 4, 6, 16, 17, 18]) (.ex 0) (fun st => st.ρ 4 = .p 32 1 3 0 0 ∧ st.ρ 6 = .p 3120 3 3 0 0 ∧
      st.H 32 = some (1, ⟨38, 3, false, [[.c (.int .i64 0), .c (.int .i64 0), .c (.slice none 0 0)]]⟩) ∧
      st.H 3120 = some (3, ⟨38, 3, false, [[.c (.int .i64 w), .c (.int .i64 h), .s 3104 3 1 0 l.length]]⟩) ∧
      st.H 3104 = some (3, intsO (chgM g l)))
    (fun i st => st.ρ 1 = .fn f caps ∧ st.ρ 4 = .p 32 1 3 0 0 ∧ st.ρ 6 = .p 3120 3 3 0 0 ∧
      st.ρ 16 = .sq b true 1 (ints l) ∧ st.ρ 17 = .c (.int .i64 (l.length : Int)) ∧ st.ρ 18 = .c (.int .i64 (i : Int)) ∧
      st.H 32 = some (1, ⟨38, 3, false, [[.c (.int .i64 0), .c (.int .i64 0), .c (.slice none 0 0)]]⟩) ∧
      st.H 3120 = some (3, ⟨38, 3, false, [[.c (.int .i64 w), .c (.int .i64 h), .s 3104 3 1 0 l.length]]⟩) ∧
      st.H 3104 = some (3, intsO (fillL (chgM g l) l i)))
    l.length (k + 8) (by omega)
    (by
      rintro i st next hi ⟨h1, h4, h6, h16, h17, h18, H32, H3120, H3104⟩ hn
      have hget := fillL_get (chgM g l) l i hz.symm (by omega)
      have hset := fillL_set (chgM g l) l i hz.symm (by omega)
      rw [chgM_get] at hset
      have hwn := wrap_next hi (by omega)
      by_cases hm : l[i] = -9999
      · have hkp := fillL_keep (chgM g l) l i hz.symm (by omega) (by rw [chgM_get, if_pos hm])
        simp [L82_0, R82_0, R82_1, R82_2, R82_3, R82_4, R82_5, R82_6, R82_7, R82_8, R82_9, R82_10, Tryz.f82, lpL82_0, lpM82_0, M82_0, h1, h4, h6, h16, h17, h18, H32, H3120, H3104, hi, intsO, hm, hwn]
        exact hn _ (by simp [h1, h4, h6, h16, h17, H32, H3120, H3104, intsO, hkp])
      · have hmb : (l[i] != -9999) = true := by simpa using hm
        rw [if_neg hm] at hset
        have hcc := hc l[i] (List.all_eq_true.1 cl1 _ (List.getElem_mem hi)) hm
        simp only [List.cons_append, List.nil_append] at hcc
        simp [L82_0, R82_0, R82_1, R82_2, R82_3, R82_4, R82_5, R82_6, R82_7, R82_8, R82_9, R82_10, Tryz.f82, lpL82_0, lpM82_0, M82_0, h1, h4, h6, h16, h17, h18, H32, H3120, H3104, hi, intsO, hm, hmb, hwn, hf, hb, hcaps, hcc, hget, hset]
        exact hn _ (by simp [h1, h4, h6, h16, h17, H32, H3120, intsO]))
    (by
      rintro st next ⟨h1, h4, h6, h16, h17, h18, H32, H3120, H3104⟩
      have hfa := fillL_all (chgM g l) l (by omega)
      rw [hz] at hfa
      simp [L82_0, R82_0, R82_1, R82_2, R82_3, R82_4, R82_5, R82_6, R82_7, R82_8, R82_9, R82_10, Tryz.f82, lpL82_0, lpM82_0, M82_0, h1, h4, h6, h16, h17, h18, H32, H3120, H3104, intsO, hfa])
  simp [R82_0, R82_1, R82_2, R82_3, R82_4, R82_5, R82_6, R82_7, R82_8, R82_9, R82_10, Tryz.f82, lpL82_0, lpM82_0, fldV, hv, hcl, hcaps]
  generalize hr2 : loopRun _ _ _ _ = res
  obtain ⟨s1, rfl, f4, f6, H32, H1, Hl⟩ := loop_at hL hr2 ⟨by simp, by simp, by simp, by simp, by simp, by simp, by simp, by simp, by simp [fillL_zero, intsO]⟩
  simp [intsO] at Hl
  unfold optV
  cases hg2 : goodB w h (chgM g l)
  · rw [hg2] at hck
    simp [nilV] at hck
    simp [R82_0, R82_1, R82_2, R82_3, R82_4, R82_5, R82_6, R82_7, R82_8, R82_9, R82_10, Tryz.f82, lpL82_0, lpM82_0, M82_0, f4, f6, H32, H1, Hl, hck, nilV]
  · rw [hg2] at hck
    simp at hck
    simp [R82_0, R82_1, R82_2, R82_3, R82_4, R82_5, R82_6, R82_7, R82_8, R82_9, R82_10, Tryz.f82, lpL82_0, lpM82_0, M82_0, f4, f6, H32, H1, Hl, hck, hz, ownV, intsO]

end Go.Proofs.YtbjmfjfnilmhhaaGreatDoor.Eng
namespace Go.Proofs.YtbjmfjfnilmhhaaGreatDoor.Eng
open Go Go.Proofs
set_option maxRecDepth 100000
set_option maxHeartbeats 2000000
set_option linter.unusedSimpArgs false
set_option linter.unusedVariables false
attribute [local simp] finK fin1 hpOf xi renQ isRoot runCode runOps stepX inlOf Eng.step wantedV astep val ofO made loadV storeV find V.cells bin binT binA numT numFs eqCells un1 setAt fieldAddrV fieldV indexAddrV indexV bounds sliceV convV lenV foldV max2V min2V callO bor rdsO wrsO seen_none okD_none loops keepIds resV resultsV St.ev TK.agg refs refsL refsO V.one V.isC Value.oneCell' ren renL renO noTag noTagL noTagR noTagO nodup mapO passV frs psi refsR newD loopNext opsAt idx flatAt rootOf backR newsV appendV copyV clearV strV bytesV bldV bufV selfV bytesOf nilCmp buildV fillF chunk freeL frzW cellSame sameV
attribute [local simp] cT cF cX cWR cOW cK cBL X ints_length ints_get ints_getElem ints_drop ints_take ints_append ints_nil ints_set
attribute [local simp] ints_replicate
attribute [local simp] putV_some putV_none putH_app applyD_nil applyD_cons seen_app gc_ρ gc_H gc_tick st0_ρ st0_H st0_tick retV callRo callV_if borL_nil borL_cons ints_snoc take_self callWr cutH_app findQ afterV exportV_0 exportV_n okD_nil okD_cons sub_seq0 sub_seq1 sub_cond0 sub_cond1 sub_block sub_loop sub_nil young_far young_none hidW_nil mayW_nil keepsF_nil keepsF_cons pairs okI ok_0 ok_1 ok_2
attribute [local simp] T3 T4 T5 T9 T22 T24 T33 T36 T38 T45 T48 T51 T52 T54 T56 T71 T72 T74 T77 T99 T104 T117 T121
attribute [local simp] young_near clo cloF Region.binds Nat.testBit hidW declW mayW
def exG (lim x : Int) : Int := if x > lim then 1 else 0
theorem c_l4Exceeds (k : Nat) (b : Bool) (w h : Int) (l : List Int) (lim : Int) (h64 : l.length ≤ 64) (hk : 300 ≤ k) : callK C k 63 [fldV b w h l, .c (.int .i64 lim)] [] = some (ownV w h 0 2 l.length, hpOf [] [intsO (chgM (exG lim) l)]) := by
  obtain ⟨k, rfl⟩ : ∃ m, k = m + 9 := ⟨k - 9, by omega⟩
  rw [callK_fn rfl F63 code63]
  have hz := chgM_length (exG lim) l
  have o1 := c_l2Own (k + 8) b w h l (by omega) (by omega)
  simp [fldV, ownV, intsO] at o1
  have hL := loopHas (body := fun st => runCode C (callK C (k + 8)) (k + 8) (K 63) L63_0 1 st) (keep := [1, 2, 4, 5, 6]) (.ex 0) (fun st => st.ρ 4 = .p 32 1 3 0 0 ∧ st.ρ 5 = .p 1072 2 3 0 0 ∧ st.H 32 = some (1, ⟨38, 3, false, [[.c (.int .i64 0), .c (.int .i64 0), .c (.slice none 0 0)]]⟩) ∧ st.H 1072 = some (2, ⟨38, 3, false, [[.c (.int .i64 w), .c (.int .i64 h), .s 1056 2 1 0 l.length]]⟩) ∧ st.H 1056 = some (2, intsO (chgM (exG lim) l)))
    (fun i st => st.ρ 2 = .p 16 1 3 0 0 ∧ st.ρ 4 = .p 32 1 3 0 0 ∧ st.ρ 5 = .p 1072 2 3 0 0 ∧ st.ρ 6 = .c (.int .i64 (i : Int)) ∧ st.ρ 1 = .c (.int .i64 lim) ∧ st.H 16 = some (1, ⟨38, 3, false, [[.c (.int .i64 w), .c (.int .i64 h), .sq b true 1 (ints l)]]⟩) ∧ st.H 32 = some (1, ⟨38, 3, false, [[.c (.int .i64 0), .c (.int .i64 0), .c (.slice none 0 0)]]⟩) ∧ st.H 1072 = some (2, ⟨38, 3, false, [[.c (.int .i64 w), .c (.int .i64 h), .s 1056 2 1 0 l.length]]⟩) ∧ st.H 1056 = some (2, intsO (fillL (chgM (exG lim) l) l i)))
    l.length (k + 8) (by omega)
    (by
      rintro i st next hi ⟨qb, qr, qo, qi, p1, Hi, Hr, Ho, Hw⟩ hn
      have hget := fillL_get (chgM (exG lim) l) l i hz.symm (by omega)
      have hset := fillL_set (chgM (exG lim) l) l i hz.symm (by omega)
      rw [chgM_get] at hset
      have hwn := wrap_next hi (by omega)
      simp [intsO] at Hw
      by_cases hm : l[i] = -9999
      · have hkp := fillL_keep (chgM (exG lim) l) l i hz.symm (by omega) (by rw [chgM_get, if_pos hm])
        simp [L63_0, R63_0, R63_1, R63_2, R63_3, R63_4, R63_5, R63_6, R63_7, R63_8, R63_9, Tryz.f63, lpL63_0, lpM63_0, M63_0, qb, qr, qo, qi, p1, Hi, Hr, Ho, Hw, hi, hm, hwn]
        exact hn _ (by simp [qb, qr, qo, qi, p1, Hi, Hr, Ho, Hw, intsO, hkp])
      · have hmb : (l[i] != -9999) = true := by simpa using hm
        have hmc : (l[i] == -9999) = false := by simpa using hm
        rw [if_neg hm] at hset
        by_cases hg : l[i] > lim
        · have he : exG lim l[i] = 1 := if_pos hg
          rw [he] at hset
          simp [L63_0, R63_0, R63_1, R63_2, R63_3, R63_4, R63_5, R63_6, R63_7, R63_8, R63_9, Tryz.f63, lpL63_0, lpM63_0, M63_0, qb, qr, qo, qi, p1, Hi, Hr, Ho, Hw, hi, hm, hmb, hmc, hwn, hg, hget, hset]
          exact hn _ (by simp [qb, qr, qo, qi, p1, Hi, Hr, Ho, Hw, intsO])
        · have he : exG lim l[i] = 0 := if_neg hg
          rw [he] at hset
          simp [L63_0, R63_0, R63_1, R63_2, R63_3, R63_4, R63_5, R63_6, R63_7, R63_8, R63_9, Tryz.f63, lpL63_0, lpM63_0, M63_0, qb, qr, qo, qi, p1, Hi, Hr, Ho, Hw, hi, hm, hmb, hmc, hwn, hg, hget, hset]
          exact hn _ (by simp [qb, qr, qo, qi, p1, Hi, Hr, Ho, Hw, intsO]))
    (by
      rintro st next ⟨qb, qr, qo, qi, p1, Hi, Hr, Ho, Hw⟩
      have hfa := fillL_all (chgM (exG lim) l) l (by omega)
      rw [hz] at hfa
      simp [intsO] at Hw
      simp [L63_0, R63_0, R63_1, R63_2, R63_3, R63_4, R63_5, R63_6, R63_7, R63_8, R63_9, Tryz.f63, lpL63_0, lpM63_0, M63_0, qb, qr, qo, qi, p1, Hi, Hr, Ho, Hw, intsO, hfa])
  simp [R63_0, R63_1, R63_2, R63_3, R63_4, R63_5, R63_6, R63_7, R63_8, R63_9, Tryz.f63, lpL63_0, lpM63_0, fldV, o1]
  generalize hr2 : loopRun _ _ _ _ = res
  obtain ⟨s1, rfl, fr, fo, Hr, Ho, Hw⟩ := loop_at hL hr2 ⟨by simp, by simp, by simp, by simp, by simp, by simp, by simp, by simp, by simp [fillL_zero, intsO]⟩
  simp [intsO] at Hw
  simp [R63_0, R63_1, R63_2, R63_3, R63_4, R63_5, R63_6, R63_7, R63_8, R63_9, Tryz.f63, lpL63_0, lpM63_0, M63_0, fr, fo, Hr, Ho, Hw, hz, ownV, intsO]
def clG (lo hi x : Int) : Int := if lo > (if hi < x then hi else x) then lo else (if hi < x then hi else x)
def clB (lo hi : Int) : Bool := decide (lo ≤ hi) && ((decide (-9000 ≤ lo) && decide (lo ≤ 9000)) && (decide (-9000 ≤ hi) && decide (hi ≤ 9000)))
def abG (x : Int) : Int := if x > -x then x else -x

end Go.Proofs.YtbjmfjfnilmhhaaGreatDoor.Eng
namespace Go.Proofs.YtbjmfjfnilmhhaaGreatDoor.Eng
open Go Go.Proofs
set_option maxRecDepth 100000
set_option maxHeartbeats 2000000
set_option linter.unusedSimpArgs false
set_option linter.unusedVariables false
attribute [local simp] finK fin1 hpOf xi renQ isRoot runCode runOps stepX inlOf Eng.step wantedV astep val ofO made loadV storeV find V.cells bin binT binA numT numFs eqCells un1 setAt fieldAddrV fieldV indexAddrV indexV bounds sliceV convV lenV foldV max2V min2V callO bor rdsO wrsO seen_none okD_none loops keepIds resV resultsV St.ev TK.agg refs refsL refsO V.one V.isC Value.oneCell' ren renL renO noTag noTagL noTagR noTagO nodup mapO passV frs psi refsR newD loopNext opsAt idx flatAt rootOf backR newsV appendV copyV clearV strV bytesV bldV bufV selfV bytesOf nilCmp buildV fillF chunk freeL frzW cellSame sameV
attribute [local simp] cT cF cX cWR cOW cK cBL X ints_length ints_get ints_getElem ints_drop ints_take ints_append ints_nil ints_set
attribute [local simp] ints_replicate
attribute [local simp] putV_some putV_none putH_app applyD_nil applyD_cons seen_app gc_ρ gc_H gc_tick st0_ρ st0_H st0_tick retV callRo callV_if borL_nil borL_cons ints_snoc take_self callWr cutH_app findQ afterV exportV_0 exportV_n okD_nil okD_cons sub_seq0 sub_seq1 sub_cond0 sub_cond1 sub_block sub_loop sub_nil young_far young_none hidW_nil mayW_nil keepsF_nil keepsF_cons pairs okI ok_0 ok_1 ok_2
attribute [local simp] T3 T4 T5 T9 T22 T24 T33 T36 T38 T45 T48 T51 T52 T54 T56 T71 T72 T74 T77 T99 T104 T117 T121
attribute [local simp] young_near clo cloF Region.binds Nat.testBit hidW declW mayW
theorem borB (H : Hp) (l : List V) (h : mapO (bor H 3) l = some l) : bor H 4 (.bx true l) = some (.bx true l) := rfl
theorem c_Exceeds1 (k : Nat) (x lim : Int) (hk : 1 ≤ k) : callK C k 83 [.c (.int .i64 x), .bx true [.c (.int .i64 lim)]] [] = some (.c (.int .i64 (exG lim x)), hpOf [] []) := by
  obtain ⟨k, rfl⟩ : ∃ m, k = m + 1 := ⟨k - 1, by omega⟩
  rw [callK_fn rfl F83 code83]
  unfold exG
  by_cases h : lim < x <;> simp [R83_0, R83_1, R83_2, R83_3, Tryz.f83, h]
theorem good_chg {g : Int → Int} {w h : Int} {l : List Int} (hg : goodB w h l = true) (hc : ∀ x, cellB x = true → x ≠ -9999 → cellB (g x) = true) : goodB w h (chgM g l) = true := by
  obtain ⟨s1, n1, cl1, k1⟩ := good_length hg
  unfold goodB
  rw [s1, chgM_length]
  simp only [Bool.true_and, Bool.and_eq_true, beq_iff_eq]
  refine ⟨n1, ?_⟩
  rw [List.all_eq_true] at cl1 ⊢
  intro x hx
  obtain ⟨y, hy, rfl⟩ := List.mem_map.1 hx
  by_cases e : y = -9999
  · rw [if_pos e]; exact cl1 y hy
  · rw [if_neg e]; exact hc y (cl1 y hy) e
theorem cellB_iff (x : Int) : cellB x = true ↔ x = -9999 ∨ (-9000 ≤ x ∧ x ≤ 9000) := by
  simp [cellB]
theorem ex_cell (lim x : Int) (_ : cellB x = true) (_ : x ≠ -9999) : cellB (exG lim x) = true := by
  rw [cellB_iff]
  unfold exG
  split <;> omega
theorem c_implExceeds (k : Nat) (b : Bool) (w h : Int) (l : List Int) (lim : Int) (hk : 700 ≤ k) : callK C k 57 [fldV b w h l, .c (.int .i64 lim)] [] = optV (goodB w h l) w h (chgM (exG lim) l) := by
  obtain ⟨k, rfl⟩ : ∃ m, k = m + 20 := ⟨k - 20, by omega⟩
  rw [callK_fn rfl F57 code57]
  cases hg : goodB w h l
  · have hc := c_changedNo (k + 19) b 83 [.bx true [.c (.int .i64 lim)]] w h l ⟨rfl, rfl⟩ (fun H => rfl) hg (by omega)
    simp [fldV, nilV] at hc
    simp [R57_0, R57_1, Tryz.f57, fldV, hc, optV, nilV]
  · have hc := c_changed (k + 10) b 83 [.bx true [.c (.int .i64 lim)]] w h l (exG lim) ⟨rfl, rfl⟩ (fun H => rfl) (fun x hx hm => c_Exceeds1 (k + 18) x lim (by omega)) hg (by omega)
    rw [good_chg hg (ex_cell lim)] at hc
    have hz := chgM_length (exG lim) l
    simp [fldV, optV, ownV, intsO] at hc
    simp [R57_0, R57_1, Tryz.f57, fldV, hc, optV, ownV, intsO, hz]
theorem cl_cell (lo hi x : Int) (hc : clB lo hi = true) (_ : cellB x = true) (_ : x ≠ -9999) : cellB (clG lo hi x) = true := by
  simp only [clB, Bool.and_eq_true, decide_eq_true_eq] at hc
  rw [cellB_iff]
  unfold clG
  split <;> split <;> omega
theorem ab_cell (x : Int) (hx : cellB x = true) (hm : x ≠ -9999) : cellB (abG x) = true := by
  rw [cellB_iff] at hx ⊢
  unfold abG
  split <;> omega

end Go.Proofs.YtbjmfjfnilmhhaaGreatDoor.Eng
namespace Go.Proofs.YtbjmfjfnilmhhaaGreatDoor.Eng
open Go Go.Proofs
set_option maxRecDepth 100000
set_option maxHeartbeats 2000000
set_option linter.unusedSimpArgs false
set_option linter.unusedVariables false
attribute [local simp] finK fin1 hpOf xi renQ isRoot runCode runOps stepX inlOf Eng.step wantedV astep val ofO made loadV storeV find V.cells bin binT binA numT numFs eqCells un1 setAt fieldAddrV fieldV indexAddrV indexV bounds sliceV convV lenV foldV max2V min2V callO bor rdsO wrsO seen_none okD_none loops keepIds resV resultsV St.ev TK.agg refs refsL refsO V.one V.isC Value.oneCell' ren renL renO noTag noTagL noTagR noTagO nodup mapO passV frs psi refsR newD loopNext opsAt idx flatAt rootOf backR newsV appendV copyV clearV strV bytesV bldV bufV selfV bytesOf nilCmp buildV fillF chunk freeL frzW cellSame sameV
attribute [local simp] cT cF cX cWR cOW cK cBL X ints_length ints_get ints_getElem ints_drop ints_take ints_append ints_nil ints_set
attribute [local simp] ints_replicate
attribute [local simp] putV_some putV_none putH_app applyD_nil applyD_cons seen_app gc_ρ gc_H gc_tick st0_ρ st0_H st0_tick retV callRo callV_if borL_nil borL_cons ints_snoc take_self callWr cutH_app findQ afterV exportV_0 exportV_n okD_nil okD_cons sub_seq0 sub_seq1 sub_cond0 sub_cond1 sub_block sub_loop sub_nil young_far young_none hidW_nil mayW_nil keepsF_nil keepsF_cons pairs okI ok_0 ok_1 ok_2
attribute [local simp] T3 T4 T5 T9 T22 T24 T33 T36 T38 T45 T48 T51 T52 T54 T56 T71 T72 T74 T77 T99 T104 T117 T121
theorem mul64_facts : ∀ n : Fin 65, IntKind.u64.wrap ((BitVec.ofNat IntKind.u64.bits n.val &&& BitVec.ofNat IntKind.u64.bits 4294967295).toNat : Int) = (n.val : Int) ∧ (n.val : Int).fdiv 4294967296 = 0 ∧ IntKind.u64.wrap (n.val : Int) = (n.val : Int) ∧ IntKind.i64.wrap (n.val : Int) = (n.val : Int) := by decide
theorem c_Mul64 (k n : Nat) (hn : n ≤ 64) (hk : 1 ≤ k) : callK C k 109 [.c (.int .u64 1), .c (.int .u64 (n : Int))] [] = some (.tp [.c (.int .u64 0), .c (.int .u64 (n : Int))], hpOf [] []) := by
  obtain ⟨k, rfl⟩ : ∃ m, k = m + 1 := ⟨k - 1, by omega⟩
  rw [callK_fn rfl F109 code109]
  obtain ⟨e1, e2, e3, _⟩ := mul64_facts ⟨n, by omega⟩
  simp only [] at e1 e2 e3
  have f1 : IntKind.u64.wrap 1 = 1 := by decide
  have f2 : (1 : Int).fdiv 4294967296 = 0 := by decide
  have f3 : IntKind.u64.wrap 0 = 0 := by decide
  have f5 : (0 : Int).fdiv 4294967296 = 0 := by decide
  have hb : min 32 IntKind.u64.bits = 32 := by decide
  have f4 : IntKind.u64.wrap ((BitVec.ofNat IntKind.u64.bits 1 &&& BitVec.ofNat IntKind.u64.bits 4294967295).toNat : Int) = 1 := by decide
  have f6 : IntKind.u64.wrap ((BitVec.ofNat IntKind.u64.bits 0 &&& BitVec.ofNat IntKind.u64.bits 4294967295).toNat : Int) = 0 := by decide
  have o1 : BitVec.ofInt IntKind.u64.bits 1 = BitVec.ofNat IntKind.u64.bits 1 := by decide
  have o2 : BitVec.ofInt IntKind.u64.bits 4294967295 = BitVec.ofNat IntKind.u64.bits 4294967295 := by decide
  have o3 : BitVec.ofInt IntKind.u64.bits 0 = BitVec.ofNat IntKind.u64.bits 0 := by decide
  have o4 : BitVec.ofInt IntKind.u64.bits (n : Int) = BitVec.ofNat IntKind.u64.bits n := BitVec.ofInt_natCast _ _
  simp [R109_0, R109_1, R109_2, R109_3, R109_4, R109_5, R109_6, R109_7, R109_8, R109_9, R109_10, R109_11, Tryz.f109, hb, o1, o2, o3, o4, e1, e2, e3, f1, f2, f3, f4, f5, f6, -BitVec.toNat_and]
theorem c_Mul (k n : Nat) (hn : n ≤ 64) (hk : 2 ≤ k) : callK C k 97 [.c (.int .u64 1), .c (.int .u64 (n : Int))] [] = some (.tp [.c (.int .u64 0), .c (.int .u64 (n : Int))], hpOf [] []) := by
  obtain ⟨k, rfl⟩ : ∃ m, k = m + 2 := ⟨k - 2, by omega⟩
  rw [callK_fn rfl F97 code97]
  have h := c_Mul64 (k + 1) n hn (by omega)
  simp [R97_0, R97_1, R97_2, R97_3, R97_4, Tryz.f97, h]
def repL (n : Nat) (a : Int) (m : Nat) : List Int := List.replicate m a ++ List.replicate (n - m) 0
theorem repL_length {n m : Nat} (a : Int) (h : m ≤ n) : (repL n a m).length = n := by simp [repL]; omega
theorem repL_take (n : Nat) (a : Int) (m : Nat) : (repL n a m).take m = List.replicate m a := by simp [repL]
theorem repL_next {n m : Nat} (a : Int) (h : m ≤ n) : List.replicate m a ++ (List.replicate (min (n - m) m) a ++ (repL n a m).drop (m + min m (n - m))) = repL n a (m + min m (n - m)) := by
  unfold repL
  rw [List.drop_append, List.drop_eq_nil_of_le (by simp), List.nil_append, List.drop_replicate, List.length_replicate, ← List.append_assoc, List.replicate_append_replicate]
  congr 1
  · congr 1; omega
  · congr 1; omega
theorem repL_all (n : Nat) (a : Int) : repL n a n = List.replicate n a := by simp [repL]
theorem c_Repeat (k : Nat) (b : Bool) (a : Int) (n : Nat) (h1 : 1 ≤ n) (hn : n ≤ 64) (hk : 100 ≤ k) : callK C k 81 [.sq b true 1 (ints [a]), .c (.int .i64 (n : Int))] [] = some (.s 0 2 1 0 n, hpOf [] [intsO (List.replicate n a)]) := by
  obtain ⟨k, rfl⟩ : ∃ m, k = m + 3 := ⟨k - 3, by omega⟩
  rw [callK_fn rfl F81 code81]
  obtain ⟨e1, e2, e3, e4⟩ := mul64_facts ⟨n, by omega⟩
  simp only [] at e1 e2 e3 e4
  have hm := c_Mul (k + 2) n hn (by omega)
  have f1 : IntKind.u64.wrap 1 = 1 := by decide
  obtain ⟨out, ho⟩ := loopOut (body := fun st => runCode C (callK C (k + 2)) (k + 2) (K 81) L81_0 1 st) (keep := [7, 8]) (.ex 0) (fun st => st.ρ 7 = .s 6192 5 1 0 n ∧ st.H 6192 = some (5, intsO (List.replicate n a)))
    (fun i st => st.ρ 7 = .s 6192 5 1 0 n ∧ ∃ m : Nat, i < m ∧ m ≤ n ∧ st.ρ 8 = .c (.int .i64 (m : Int)) ∧ st.H 6192 = some (5, intsO (repL n a m)))
    n (k + 2) (by omega)
    (by
      rintro i st next hi ⟨h7, m, him, hmn, h8, hH⟩ hx
      by_cases he : m = n
      · subst he
        simp [L81_0, R81_0, R81_1, R81_2, R81_3, R81_4, R81_5, R81_6, R81_7, R81_8, R81_9, R81_10, Tryz.f81, lpL81_0, lpM81_0, M81_0, h7, h8, hH, intsO, repL_all]
      · have hlt : m < n := by omega
        have hl := repL_length a hmn
        have ht := repL_take n a m
        have hne := repL_next a hmn
        have hnm : ¬ n - m = 0 := by omega
        have hm0 : ¬ m = 0 := by omega
        have hmm : m + (n - m) = n := by omega
        have hmm' : m + (n - m) ≤ n := by omega
        have hw : IntKind.i64.wrap ((m : Int) + ((min m (n - m) : Nat) : Int)) = ((m + min m (n - m) : Nat) : Int) := by rw [wrap_small (by omega) (by omega)]; omega
        simp [L81_0, R81_0, R81_1, R81_2, R81_3, R81_4, R81_5, R81_6, R81_7, R81_8, R81_9, R81_10, Tryz.f81, lpL81_0, lpM81_0, M81_0, h7, h8, hH, intsO, hlt, hl, ht, hne, hnm, hm0, hmm, hmm', hmn, hw]
        refine hx _ ⟨by simp [h7], m + min m (n - m), by omega, by omega, ?_, ?_⟩ <;> simp [intsO])
    (by
      rintro st next ⟨h7, m, him, hmn, h8, hH⟩
      omega)
  simp at ho
  have g1 : min 1 n = 1 := by omega
  have g2 : ¬ n = 0 := by omega
  have g3 : [a].take n = [a] := List.take_of_length_le (by simpa using h1)
  have b1 : (n : Int) ≤ 17592186044416 := by omega
  have b2 : 8 * (n : Int) ≤ 140737488355328 := by omega
  have b3 : ¬ (9223372036854775807 : Int) < n := by omega
  have b4 : ¬ ((n : Int) < 0) := by omega
  have g5 : ints [a] ++ (ints (List.replicate n 0)).tail = ints (a :: List.replicate (n - 1) 0) := by
    obtain ⟨m, rfl⟩ : ∃ m, n = m + 1 := ⟨n - 1, by omega⟩
    rfl
  have g4 : repL n a 1 = a :: List.replicate (n - 1) 0 := by simp [repL]
  have ho' := fun st q => ho st q 1 (by omega) h1
  rw [g4] at ho'
  simp [intsO] at ho'
  simp [R81_0, R81_1, R81_2, R81_3, R81_4, R81_5, R81_6, R81_7, R81_8, R81_9, R81_10, Tryz.f81, lpL81_0, lpM81_0, M81_0, hm, f1, e3, e4, b1, b2, b3, b4, g1, g2, g3, g5, ho', intsO]

end Go.Proofs.YtbjmfjfnilmhhaaGreatDoor.Eng
namespace Go.Proofs.YtbjmfjfnilmhhaaGreatDoor.Eng
open Go Go.Proofs
set_option maxRecDepth 100000
set_option maxHeartbeats 2000000
set_option linter.unusedSimpArgs false
set_option linter.unusedVariables false
attribute [local simp] finK fin1 hpOf xi renQ isRoot runCode runOps stepX inlOf Eng.step wantedV astep val ofO made loadV storeV find V.cells bin binT binA numT numFs eqCells un1 setAt fieldAddrV fieldV indexAddrV indexV bounds sliceV convV lenV foldV max2V min2V callO bor rdsO wrsO seen_none okD_none loops keepIds resV resultsV St.ev TK.agg refs refsL refsO V.one V.isC Value.oneCell' ren renL renO noTag noTagL noTagR noTagO nodup mapO passV frs psi refsR newD loopNext opsAt idx flatAt rootOf backR newsV appendV copyV clearV strV bytesV bldV bufV selfV bytesOf nilCmp buildV fillF chunk freeL frzW cellSame sameV
attribute [local simp] cT cF cX cWR cOW cK cBL X ints_length ints_get ints_getElem ints_drop ints_take ints_append ints_nil ints_set
attribute [local simp] ints_replicate
attribute [local simp] putV_some putV_none putH_app applyD_nil applyD_cons seen_app gc_ρ gc_H gc_tick st0_ρ st0_H st0_tick retV callRo callV_if borL_nil borL_cons ints_snoc take_self callWr cutH_app findQ afterV exportV_0 exportV_n okD_nil okD_cons sub_seq0 sub_seq1 sub_cond0 sub_cond1 sub_block sub_loop sub_nil young_far young_none hidW_nil mayW_nil keepsF_nil keepsF_cons pairs okI ok_0 ok_1 ok_2
attribute [local simp] T3 T4 T5 T9 T22 T24 T33 T36 T38 T45 T48 T51 T52 T54 T56 T71 T72 T74 T77 T99 T104 T117 T121
def hasB (w h x y : Int) : Bool := (decide (0 ≤ x) && decide (x ≤ w - 1)) && (decide (0 ≤ y) && decide (y ≤ h - 1))
def cellOf (l : List Int) (w x y : Int) : Int := l.getD (y * w + x).toNat 0
def tabL (n : Nat) (w : Int) (g : Int → Int → Int) : List Int := (List.range n).map fun (i : Nat) => g ((i : Int).tmod w) ((i : Int) / w)
theorem tabL_length (n : Nat) (w : Int) (g : Int → Int → Int) : (tabL n w g).length = n := by simp [tabL]
theorem tabL_get (n : Nat) (w : Int) (g : Int → Int → Int) (i : Nat) (h : i < n) : (tabL n w g)[i]'(by rw [tabL_length]; exact h) = g ((i : Int).tmod w) ((i : Int) / w) := by simp [tabL]
theorem tabL_at {W N v u : Nat} (g : Int → Int → Int) (hu : u < W) (h : v * W + u < N) : (tabL N (W : Int) g)[v * W + u]'(by rw [tabL_length]; exact h) = g (u : Int) (v : Int) := by
  rw [tabL_get _ _ _ _ h]
  have e1 : ((v * W + u : Nat) : Int).tmod (W : Int) = (u : Int) := by
    show (((v * W + u) % W : Nat) : Int) = u
    rw [Nat.mul_comm, Nat.mul_add_mod, Nat.mod_eq_of_lt hu]
  have e2 : ((v * W + u : Nat) : Int) / (W : Int) = (v : Int) := by
    show (((v * W + u) / W : Nat) : Int) = v
    rw [Nat.mul_comm, Nat.mul_add_div (by omega), Nat.div_eq_of_lt hu, Nat.add_zero]
  rw [e1, e2]
theorem cell_ix {w h x y : Int} {l : List Int} (hl : (l.length : Int) = w * h) (hx : 0 ≤ x) (hx' : x < w) (hy : 0 ≤ y) (hy' : y < h) : 0 ≤ y * w + x ∧ y * w + x < l.length ∧ 0 ≤ y * w ∧ l[(y * w + x).toNat]? = some (cellOf l w x y) := by
  have h1 : 0 ≤ y * w := Int.mul_nonneg hy (by omega)
  have h2 : (y + 1) * w ≤ h * w := Int.mul_le_mul_of_nonneg_right (by omega) (by omega)
  rw [Int.add_mul, Int.mul_comm h w, Int.one_mul] at h2
  refine ⟨by omega, by omega, h1, ?_⟩
  have h3 : (y * w + x).toNat < l.length := by omega
  rw [cellOf, List.getD_eq_getElem?_getD, List.getElem?_eq_getElem h3]
  rfl
theorem c_filled (k : Nat) (w h v : Int) (hs : shapeB w h = true) (hk : 120 ≤ k) : callK C k 56 [.c (.int .i64 w), .c (.int .i64 h), .c (.int .i64 v)] [] = some (ownV w h 0 2 (w * h).toNat, hpOf [] [intsO (List.replicate (w * h).toNat v)]) := by
  obtain ⟨k, rfl⟩ : ∃ m, k = m + 2 := ⟨k - 2, by omega⟩
  rw [callK_fn rfl F56 code56]
  obtain ⟨h1, h2, h3, h4, h5, h6⟩ := shape_area hs
  have hp : 0 < w * h := Int.mul_pos (by omega) (by omega)
  have w1 : IntKind.i64.wrap (w * h) = w * h := wrap_small (by omega) (by omega)
  have hr := c_Repeat (k + 1) true v (w * h).toNat (by omega) (by omega) (by omega)
  rw [Int.toNat_of_nonneg h1, show ints [v] = [[.c (.int .i64 v)]] from rfl] at hr
  simp [intsO] at hr
  simp [R56_0, R56_1, Tryz.f56, w1, hr, ownV, intsO]

end Go.Proofs.YtbjmfjfnilmhhaaGreatDoor.Eng
namespace Go.Proofs.YtbjmfjfnilmhhaaGreatDoor.Eng
open Go Go.Proofs
set_option maxRecDepth 100000
set_option maxHeartbeats 2000000
set_option linter.unusedSimpArgs false
set_option linter.unusedVariables false
attribute [local simp] finK fin1 hpOf xi renQ isRoot runCode runOps stepX inlOf Eng.step wantedV astep val ofO made loadV storeV find V.cells bin binT binA numT numFs eqCells un1 setAt fieldAddrV fieldV indexAddrV indexV bounds sliceV convV lenV foldV max2V min2V callO bor rdsO wrsO seen_none okD_none loops keepIds resV resultsV St.ev TK.agg refs refsL refsO V.one V.isC Value.oneCell' ren renL renO noTag noTagL noTagR noTagO nodup mapO passV frs psi refsR newD loopNext opsAt idx flatAt rootOf backR newsV appendV copyV clearV strV bytesV bldV bufV selfV bytesOf nilCmp buildV fillF chunk freeL frzW cellSame sameV
attribute [local simp] cT cF cX cWR cOW cK cBL X ints_length ints_get ints_getElem ints_drop ints_take ints_append ints_nil ints_set
attribute [local simp] ints_replicate
attribute [local simp] putV_some putV_none putH_app applyD_nil applyD_cons seen_app gc_ρ gc_H gc_tick st0_ρ st0_H st0_tick retV callRo callV_if borL_nil borL_cons ints_snoc take_self callWr cutH_app findQ afterV exportV_0 exportV_n okD_nil okD_cons sub_seq0 sub_seq1 sub_cond0 sub_cond1 sub_block sub_loop sub_nil young_far young_none hidW_nil mayW_nil keepsF_nil keepsF_cons pairs okI ok_0 ok_1 ok_2
attribute [local simp] T3 T4 T5 T9 T22 T24 T33 T36 T38 T45 T48 T51 T52 T54 T56 T71 T72 T74 T77 T99 T104 T117 T121
attribute [local simp] young_near clo cloF Region.binds Nat.testBit hidW declW mayW
/-- A list that grows in a slot: nothing yet, or an object. -/
def Gw (id : Nat) (v : V) (H : Hp) (acc : List Int) : Prop := (acc = [] ∧ v = .c (.slice none 0 0)) ∨ (acc ≠ [] ∧ ∃ tk, v = .s id tk 1 0 acc.length ∧ H id = some (tk, intsO acc))
theorem c_l2Fill (k : Nat) (w h v : Int) (n : Nat) (hn : w * h = n) (h0 : 0 < n) (h64 : n ≤ 64) (hk : 200 ≤ k) : callK C k 62 [.c (.int .i64 w), .c (.int .i64 h), .c (.int .i64 v)] [] = some (.ag [.c (.int .i64 w), .c (.int .i64 h), .s 0 2 1 0 n], hpOf [] [intsO (List.replicate n v)]) := by
  obtain ⟨k, rfl⟩ : ∃ m, k = m + 9 := ⟨k - 9, by omega⟩
  rw [callK_fn rfl F62 code62]
  have hwn : IntKind.i64.wrap (w * h) = n := by rw [hn]; exact wrap_small (by omega) (by omega)
  have hL := loopHas (body := fun st => runCode C (callK C (k + 8)) (k + 8) (K 62) L62_0 1 st) (keep := [0, 1, 2, 6, 7, 8]) (.ex 0)
    (fun st => st.ρ 6 = .p 16 1 3 0 0 ∧ st.ρ 7 = .p 1088 2 3 0 0 ∧ st.H 16 = some (1, ⟨38, 3, false, [[.c (.int .i64 0), .c (.int .i64 0), .c (.slice none 0 0)]]⟩) ∧ ∃ cv, st.H 1088 = some (2, ⟨38, 3, false, [[.c (.int .i64 w), .c (.int .i64 h), cv]]⟩) ∧ Gw 5208 cv st.H (List.replicate n v))
    (fun i st => st.ρ 0 = .c (.int .i64 w) ∧ st.ρ 1 = .c (.int .i64 h) ∧ st.ρ 2 = .c (.int .i64 v) ∧ st.ρ 6 = .p 16 1 3 0 0 ∧ st.ρ 7 = .p 1088 2 3 0 0 ∧ st.ρ 8 = .c (.int .i64 (i : Int)) ∧ st.H 16 = some (1, ⟨38, 3, false, [[.c (.int .i64 0), .c (.int .i64 0), .c (.slice none 0 0)]]⟩) ∧ ∃ cv, st.H 1088 = some (2, ⟨38, 3, false, [[.c (.int .i64 w), .c (.int .i64 h), cv]]⟩) ∧ Gw 5208 cv st.H (List.replicate i v))
    n (k + 8) (by omega)
    (by
      rintro i st next hi ⟨q0, q1, q2, q6, q7, q8, H16, cv, H1, hc⟩ hx
      have hwi := wrap_next hi (by omega : n ≤ 9000000000000000000)
      have hrep : List.replicate (i + 1) v = List.replicate i v ++ [v] := by rw [List.replicate_succ']
      rcases hc with ⟨ha, rfl⟩ | ⟨ha, tk, rfl, hH⟩
      · have hi0 : i = 0 := by simpa using ha
        subst hi0
        simp [L62_0, R62_0, R62_1, R62_2, R62_3, R62_4, R62_5, R62_6, Tryz.f62, lpL62_0, lpM62_0, M62_0, q0, q1, q2, q6, q7, q8, H16, H1, hwn, hi, hwi, maxLen]
        refine hx _ ⟨?_, ?_, ?_, ?_, ?_, ?_, ?_, .s 5208 (st.tick + 1) 1 0 1, ?_, .inr ⟨by simp, st.tick + 1, ?_, ?_⟩⟩ <;> simp [q0, q1, q2, q6, q7, q8, H16, H1, intsO, ints, wrap_1]
      · have hb1 : (i + 1) * 8 ≤ 140737488355328 := by omega
        have hb2 : i + 1 ≤ maxLen := by unfold maxLen; omega
        simp [intsO] at hH
        simp [L62_0, R62_0, R62_1, R62_2, R62_3, R62_4, R62_5, R62_6, Tryz.f62, lpL62_0, lpM62_0, M62_0, q0, q1, q2, q6, q7, q8, H16, H1, hH, hwn, hi, hwi, hb1, hb2, okI]
        refine hx _ ⟨?_, ?_, ?_, ?_, ?_, ?_, ?_, .s 5208 (st.tick + 1) 1 0 (i + 1), ?_, .inr ⟨by simp, st.tick + 1, ?_, ?_⟩⟩ <;> simp [q0, q1, q2, q6, q7, q8, H16, H1, intsO, hrep])
    (by
      rintro st next ⟨q0, q1, q2, q6, q7, q8, H16, cv, H1, hc⟩
      rcases hc with ⟨ha, rfl⟩ | ⟨ha, tk, rfl, hH⟩
      · have : n = 0 := by simpa using ha
        omega
      · simp [intsO] at hH
        simp [L62_0, R62_0, R62_1, R62_2, R62_3, R62_4, R62_5, R62_6, Tryz.f62, lpL62_0, lpM62_0, M62_0, q0, q1, q2, q6, q7, q8, H16, H1, hH, hwn]
        exact .inr ⟨ha, tk, by simp, by simp [intsO, hH, H1, q7]⟩)
  simp [R62_0, R62_1, R62_2, R62_3, R62_4, R62_5, R62_6, Tryz.f62, lpL62_0, lpM62_0]
  generalize hr2 : loopRun _ _ _ _ = res
  obtain ⟨s1, rfl, f6, f7, H16, cv, H1, hc⟩ := loop_at hL hr2 ⟨by simp, by simp, by simp, by simp, by simp, by simp, by simp, .c (.slice none 0 0), by simp, .inl ⟨rfl, rfl⟩⟩
  rcases hc with ⟨ha, rfl⟩ | ⟨ha, tk, rfl, hH⟩
  · have : n = 0 := by simpa using ha
    omega
  · simp [intsO] at hH
    simp [R62_0, R62_1, R62_2, R62_3, R62_4, R62_5, R62_6, Tryz.f62, lpL62_0, lpM62_0, M62_0, f6, f7, H16, H1, hH, intsO]

end Go.Proofs.YtbjmfjfnilmhhaaGreatDoor.Eng
namespace Go.Proofs.YtbjmfjfnilmhhaaGreatDoor.Eng
open Go Go.Proofs
set_option maxRecDepth 100000
set_option maxHeartbeats 2000000
set_option linter.unusedSimpArgs false
set_option linter.unusedVariables false
/-- What a node with numbers ahead of it comes to: how many they are, the value. -/
def opF (k a b : Int) : Int := if k = 3 then a + b else if k = 4 then a - b else if k = 5 then (if a < b then a else b) else (if a > b then a else b)
def fv (l : List (Int × Int)) (i : Nat) : Option (Nat × Int) :=
  if (l.getD i (0, 0)).1 = 7 then (if (l.getD (i - 1) (0, 0)).1 = 2 then some (1, if (l.getD (i - 1) (0, 0)).2 > (l.getD i (0, 0)).2 then 1 else 0) else none)
  else if 3 ≤ (l.getD i (0, 0)).1 ∧ (l.getD i (0, 0)).1 ≤ 6 then
    (if (l.getD (i - 2) (0, 0)).1 = 2 ∧ (l.getD (i - 1) (0, 0)).1 = 2 ∧ 0 ≤ opF (l.getD i (0, 0)).1 (l.getD (i - 2) (0, 0)).2 (l.getD (i - 1) (0, 0)).2 ∧ opF (l.getD i (0, 0)).1 (l.getD (i - 2) (0, 0)).2 (l.getD (i - 1) (0, 0)).2 ≤ 9000 then
      some (2, opF (l.getD i (0, 0)).1 (l.getD (i - 2) (0, 0)).2 (l.getD (i - 1) (0, 0)).2) else none)
  else none
/-- The nodes with that one in their place. -/
def fo (l : List (Int × Int)) (i c : Nat) (v : Int) : List (Int × Int) := l.take (i - c) ++ (2, v) :: l.drop (i + 1)
theorem runAt {l : List (Int × Int)} (hg : 0 ≤ runO l l.length) (i : Nat) (hi : i < l.length) : 0 ≤ runO l i ∧ 0 ≤ arI (l.getD i (0, 0)) ∧ arI (l.getD i (0, 0)) ≤ runO l i ∧ runO l (i + 1) = runO l i - arI (l.getD i (0, 0)) + 1 :=
  runO_back (runO_mono hg (l.length - (i + 1)) (i + 1) (by omega))
theorem ar_num {q : Int × Int} (h : 0 ≤ arI q) (h2 : q.1 = 2) : arI q = 0 ∧ 0 ≤ q.2 ∧ q.2 ≤ 9000 := by
  unfold arI at h ⊢
  split
  · omega
  · split at h
    · omega
    · split at h <;> omega
theorem ar_above {q : Int × Int} (h : 0 ≤ arI q) (h2 : q.1 = 7) : arI q = 1 := by
  unfold arI at h ⊢
  split
  · omega
  all_goals (split at h <;> omega)
theorem ar_two {q : Int × Int} (h : 0 ≤ arI q) (h2 : 3 ≤ q.1 ∧ q.1 ≤ 6) : arI q = 2 := by
  unfold arI at h ⊢
  split
  · omega
  all_goals (split at h <;> omega)
theorem fv_facts {l : List (Int × Int)} (hg : 0 ≤ runO l l.length) {i c : Nat} {v : Int} (hi : i < l.length) (h : fv l i = some (c, v)) :
    arI (l.getD i (0, 0)) = c ∧ (∀ q, i - c ≤ q → q < i → arI (l.getD q (0, 0)) = 0) ∧ c ≤ i ∧ 1 ≤ c ∧ c ≤ 2 ∧ 0 ≤ v ∧ v ≤ 9000 := by
  obtain ⟨h1, h2, h3, h4⟩ := runAt hg i hi
  have hle := runO_le l i
  unfold fv at h
  split at h
  · rename_i hk
    split at h
    · rename_i hn
      cases h
      have ha := ar_above h2 hk
      refine ⟨by omega, fun q q1 q2 => ?_, by omega, by omega, by omega, by split <;> omega, by split <;> omega⟩
      obtain rfl : q = i - 1 := by omega
      exact (ar_num (runAt hg (i - 1) (by omega)).2.1 hn).1
    · cases h
  · split at h
    · rename_i hk
      split at h
      · rename_i hn
        obtain ⟨n1, n2, n3, n4⟩ := hn
        simp only [Option.some.injEq, Prod.mk.injEq] at h
        obtain ⟨rfl, rfl⟩ := h
        have ha := ar_two h2 hk
        refine ⟨by omega, fun q q1 q2 => ?_, by omega, by omega, by omega, n3, n4⟩
        rcases (show q = i - 1 ∨ q = i - 2 by omega) with rfl | rfl
        · exact (ar_num (runAt hg (i - 1) (by omega)).2.1 n2).1
        · exact (ar_num (runAt hg (i - 2) (by omega)).2.1 n1).1
      · cases h
    · cases h
theorem fv_run {l : List (Int × Int)} (hg : 0 ≤ runO l l.length) {i c : Nat} {v : Int} (hi : i < l.length) (h : fv l i = some (c, v)) : runO l i = runO l (i - c) + c := by
  obtain ⟨f1, f2, f3, f4, f5, f6, f7⟩ := fv_facts hg hi h
  rcases (show c = 1 ∨ c = 2 by omega) with rfl | rfl
  · have a := runAt hg (i - 1) (by omega)
    have b := f2 (i - 1) (by omega) (by omega)
    rw [show i - 1 + 1 = i by omega] at a
    omega
  · have a := runAt hg (i - 1) (by omega)
    have b := f2 (i - 1) (by omega) (by omega)
    have a' := runAt hg (i - 2) (by omega)
    have b' := f2 (i - 2) (by omega) (by omega)
    rw [show i - 1 + 1 = i by omega] at a
    rw [show i - 2 + 1 = i - 1 by omega] at a'
    omega
theorem fo_len {l : List (Int × Int)} {i c : Nat} {v : Int} (hi : i < l.length) (hc : c ≤ i) : (fo l i c v).length = l.length - c := by
  simp only [fo, List.length_append, List.length_take, List.length_cons, List.length_drop]
  omega
theorem fo_get {l : List (Int × Int)} {i c : Nat} {v : Int} (hi : i < l.length) (hc : c ≤ i) :
    (∀ q, q < i - c → (fo l i c v).getD q (0, 0) = l.getD q (0, 0)) ∧ (fo l i c v).getD (i - c) (0, 0) = (2, v) ∧ ∀ t, (fo l i c v).getD (i - c + 1 + t) (0, 0) = l.getD (i + 1 + t) (0, 0) := by
  have hl : (l.take (i - c)).length = i - c := by rw [List.length_take]; omega
  refine ⟨fun q hq => ?_, ?_, fun t => ?_⟩
  · unfold fo
    rw [List.getD_eq_getElem?_getD, List.getD_eq_getElem?_getD, List.getElem?_append_left (by omega), List.getElem?_take, if_pos hq]
  · unfold fo
    rw [List.getD_eq_getElem?_getD, List.getElem?_append_right (by omega), hl, Nat.sub_self]
    rfl
  · unfold fo
    rw [List.getD_eq_getElem?_getD, List.getD_eq_getElem?_getD, List.getElem?_append_right (by omega), hl, show i - c + 1 + t - (i - c) = t + 1 by omega, List.getElem?_cons_succ, List.getElem?_drop]
theorem fo_run {l : List (Int × Int)} (hg : 0 ≤ runO l l.length) {i c : Nat} {v : Int} (hi : i < l.length) (h : fv l i = some (c, v)) : runO (fo l i c v) (fo l i c v).length = runO l l.length := by
  obtain ⟨f1, f2, f3, f4, f5, f6, f7⟩ := fv_facts hg hi h
  obtain ⟨g1, g2, g3⟩ := fo_get (v := v) hi f3
  have e1 : ∀ q, q ≤ i - c → runO (fo l i c v) q = runO l q := by
    intro q
    induction q with
    | zero => intro _; rfl
    | succ q ih => intro hq; rw [runO_succ, runO_succ, ih (by omega), g1 q (by omega)]
  obtain ⟨r1, r2, r3, r4⟩ := runAt hg i hi
  have e2 : runO l i = runO l (i - c) + c := by
    rcases (show c = 1 ∨ c = 2 by omega) with rfl | rfl
    · have a := runAt hg (i - 1) (by omega)
      have b := f2 (i - 1) (by omega) (by omega)
      rw [show i - 1 + 1 = i by omega] at a
      omega
    · have a := runAt hg (i - 1) (by omega)
      have b := f2 (i - 1) (by omega) (by omega)
      have a' := runAt hg (i - 2) (by omega)
      have b' := f2 (i - 2) (by omega) (by omega)
      rw [show i - 1 + 1 = i by omega] at a
      rw [show i - 2 + 1 = i - 1 by omega] at a'
      omega
  have e3 : runO l (i + 1) = runO l (i - c) + 1 := by omega
  have a0 := (runAt hg (i - c) (by omega)).1
  have hn : arI (2, v) = 0 := by simp [arI]; omega
  have e4 : runO (fo l i c v) (i - c + 1) = runO l (i - c) + 1 := by
    rw [runO_succ, e1 _ (Nat.le_refl _), g2, hn, if_neg (by omega)]
    omega
  have e5 : ∀ t, runO (fo l i c v) (i - c + 1 + t) = runO l (i + 1 + t) := by
    intro t
    induction t with
    | zero => rw [Nat.add_zero, Nat.add_zero, e4, e3]
    | succ t ih => rw [← Nat.add_assoc, ← Nat.add_assoc, runO_succ, runO_succ, ih, g3 t]
  have := e5 (l.length - (i + 1))
  rw [show i + 1 + (l.length - (i + 1)) = l.length by omega] at this
  rw [fo_len hi f3, ← this]
  congr 1
  omega
theorem fo_good {l : List (Int × Int)} (hg : goodE l = true) {i c : Nat} {v : Int} (hi : i < l.length) (h : fv l i = some (c, v)) : goodE (fo l i c v) = true := by
  simp only [goodE, Bool.and_eq_true, decide_eq_true_eq] at hg ⊢
  have hr : 0 ≤ runO l l.length := by omega
  obtain ⟨_, _, f3, _⟩ := fv_facts hr hi h
  rw [fo_run hr hi h, fo_len hi f3]
  omega
/-- The first node that can be folded, from i on. -/
def srch (l : List (Int × Int)) : Nat → Option (Nat × Nat × Int)
  | 0 => none
  | m + 1 => match fv l (l.length - (m + 1)) with
    | some q => some (l.length - (m + 1), q)
    | none => srch l m
theorem srch_at {l : List (Int × Int)} {i : Nat} (h : i < l.length) : srch l (l.length - i) = match fv l i with
    | some q => some (i, q)
    | none => srch l (l.length - (i + 1)) := by
  obtain ⟨m, hm⟩ : ∃ m, l.length - i = m + 1 := ⟨l.length - i - 1, by omega⟩
  rw [hm, srch, show l.length - (m + 1) = i by omega, show l.length - (i + 1) = m by omega]
/-- All folded, in at most n steps. -/
def fAll : Nat → List (Int × Int) → List (Int × Int)
  | 0, l => l
  | n + 1, l => match srch l l.length with
    | none => l
    | some (i, c, v) => fAll n (fo l i c v)
theorem srch_facts {l : List (Int × Int)} : ∀ m, m ≤ l.length → ∀ i c v, srch l m = some (i, c, v) → i < l.length ∧ fv l i = some (c, v)
  | 0, _, i, c, v, h => by cases h
  | m + 1, hm, i, c, v, h => by
    unfold srch at h
    split at h
    · rename_i q hq
      cases h
      exact ⟨by omega, hq⟩
    · exact srch_facts m (by omega) i c v h
theorem fAll_more : ∀ n m l, goodE l = true → l.length ≤ n → l.length ≤ m → fAll n l = fAll m l
  | 0, m, l, hg, h, _ => by
    have : l = [] := List.eq_nil_of_length_eq_zero (by omega)
    subst this
    simp [goodE, runO] at hg
  | n + 1, 0, l, hg, _, h => by
    have : l = [] := List.eq_nil_of_length_eq_zero (by omega)
    subst this
    simp [goodE, runO] at hg
  | n + 1, m + 1, l, hg, h1, h2 => by
    unfold fAll
    split
    · rfl
    · rename_i i c v hs
      obtain ⟨hi, hv⟩ := srch_facts l.length (Nat.le_refl _) i c v hs
      have hr : 0 ≤ runO l l.length := by
        simp only [goodE, Bool.and_eq_true, decide_eq_true_eq] at hg
        omega
      obtain ⟨_, _, f3, f4, _⟩ := fv_facts hr hi hv
      have hl := fo_len (v := v) hi f3
      exact fAll_more n m _ (fo_good hg hi hv) (by omega) (by omega)

end Go.Proofs.YtbjmfjfnilmhhaaGreatDoor.Eng
namespace Go.Proofs.YtbjmfjfnilmhhaaGreatDoor.Eng
open Go Go.Proofs
set_option maxRecDepth 100000
set_option maxHeartbeats 2000000
set_option linter.unusedSimpArgs false
set_option linter.unusedVariables false
attribute [local simp] finK fin1 hpOf xi renQ isRoot runCode runOps stepX inlOf Eng.step wantedV astep val ofO made loadV storeV find V.cells bin binT binA numT numFs eqCells un1 setAt fieldAddrV fieldV indexAddrV indexV bounds sliceV convV lenV foldV max2V min2V callO bor rdsO wrsO seen_none okD_none loops keepIds resV resultsV St.ev TK.agg refs refsL refsO V.one V.isC Value.oneCell' ren renL renO noTag noTagL noTagR noTagO nodup mapO passV frs psi refsR newD loopNext opsAt idx flatAt rootOf backR newsV appendV copyV clearV strV bytesV bldV bufV selfV bytesOf nilCmp buildV fillF chunk freeL frzW cellSame sameV
attribute [local simp] cT cF cX cWR cOW cK cBL X ints_length ints_get ints_getElem ints_drop ints_take ints_append ints_nil ints_set
attribute [local simp] ints_replicate
attribute [local simp] putV_some putV_none putH_app applyD_nil applyD_cons seen_app gc_ρ gc_H gc_tick st0_ρ st0_H st0_tick retV callRo callV_if borL_nil borL_cons ints_snoc take_self callWr cutH_app findQ afterV exportV_0 exportV_n okD_nil okD_cons sub_seq0 sub_seq1 sub_cond0 sub_cond1 sub_block sub_loop sub_nil young_far young_none hidW_nil mayW_nil keepsF_nil keepsF_cons pairs okI ok_0 ok_1 ok_2
attribute [local simp] T3 T4 T5 T9 T22 T24 T33 T36 T38 T45 T48 T51 T52 T54 T56 T71 T72 T74 T77 T99 T104 T117 T121
attribute [local simp] young_near clo cloF Region.binds Nat.testBit hidW declW mayW List.findIdx?_cons
theorem ndL_takeI (l : List (Int × Int)) (i : Nat) : (ndL l).take i = ndL (l.take i) := by simp [ndL, List.map_take]
theorem ndL_dropI (l : List (Int × Int)) (i : Nat) : (ndL l).drop i = ndL (l.drop i) := by simp [ndL, List.map_drop]
theorem drop_one {l : List (Int × Int)} {i m : Nat} (hi : i = m + 1) (hl : i ≤ l.length) : (l.take i).drop m = [l.getD m (0, 0)] := by
  subst hi
  rw [List.take_succ_eq_append_getElem (by omega), List.drop_append_of_le_length (by rw [List.length_take]; omega), List.drop_eq_nil_of_le (by rw [List.length_take]; omega), List.nil_append, List.getD_eq_getElem?_getD, List.getElem?_eq_getElem (by omega)]
  rfl
theorem drop_two {l : List (Int × Int)} {i m : Nat} (hi : i = m + 2) (hl : i ≤ l.length) : (l.take i).drop m = [l.getD m (0, 0), l.getD (m + 1) (0, 0)] := by
  subst hi
  rw [List.take_succ_eq_append_getElem (i := m + 1) (by omega), List.drop_append_of_le_length (by rw [List.length_take]; omega), drop_one rfl (by omega), show l.getD (m + 1) (0, 0) = l[m + 1] by rw [List.getD_eq_getElem?_getD, List.getElem?_eq_getElem (by omega)]; rfl]
  rfl
theorem ndL_c (a : Int × Int) (l : List (Int × Int)) : ndL (a :: l) = ndE a :: ndL l := rfl
theorem ndL_n : ndL [] = [] := rfl
theorem wrap_00 : IntKind.i64.wrap 0 = 0 := rfl
theorem c_foldedValue (k : Nat) (b : Bool) (l : List (Int × Int)) (i : Nat) (hi : i < l.length) (h15 : l.length ≤ 15) (hr : 0 ≤ runO l l.length) (hk : 20 ≤ k) :
    ∃ v ok, callK C k 37 [.sq b true 2 (ndL (l.take i)), .ag (ndE (l.getD i (0, 0)))] [] = some (.tp [.c (.int .i64 v), .c (.bool ok)], hpOf [] []) ∧ ((ok = true ∧ ∃ c, fv l i = some (c, v)) ∨ (ok = false ∧ fv l i = none)) := by
  obtain ⟨k, rfl⟩ : ∃ m, k = m + 9 := ⟨k - 9, by omega⟩
  rw [callK_fn rfl F37 code37]
  obtain ⟨r1, r2, r3, r4⟩ := runAt hr i hi
  have hle := runO_le l i
  have ha := c_arguments (k + 8) (l.getD i (0, 0)) (by omega)
  rw [argI_eq r2] at ha
  have hw := fun x => c_within (k + 8) x 0 9000 (by omega)
  obtain ⟨B, hB⟩ : ∃ B, l.take i = B := ⟨_, rfl⟩
  have hlt : B.length = i := by rw [← hB, List.length_take]; omega
  have hBt : B.take i = B := by rw [← hlt]; exact List.take_length
  by_cases h7 : (l.getD i (0, 0)).1 = 7
  · have e1 := ar_above r2 h7
    obtain ⟨m, rfl⟩ : ∃ m, i = m + 1 := ⟨i - 1, by omega⟩
    have hd := drop_one (l := l) (i := m + 1) (m := m) rfl (by omega)
    have hf : fv l (m + 1) = if (l.getD m (0, 0)).1 = 2 then some (1, if (l.getD m (0, 0)).2 > (l.getD (m + 1) (0, 0)).2 then 1 else 0) else none := by
      unfold fv
      rw [if_pos h7]
      rfl
    rw [hf]
    rw [e1] at ha
    rw [hB] at hd ⊢
    obtain ⟨q, hq⟩ : ∃ q, l.getD (m + 1) (0, 0) = q := ⟨_, rfl⟩
    obtain ⟨p, hp⟩ : ∃ p, l.getD m (0, 0) = p := ⟨_, rfl⟩
    rw [hq] at ha h7 ⊢
    rw [hp] at hd ⊢
    obtain ⟨q1, q2⟩ := q
    obtain ⟨p1, p2⟩ := p
    simp only [] at h7 ⊢
    subst h7
    have w1 : IntKind.i64.wrap (m : Int) = (m : Int) := wrap_small (by omega) (by omega)
    have g1 : (m : Int) ≤ (m : Int) + 1 := by omega
    simp [ndE] at ha
    by_cases hp2 : p1 = 2
    · by_cases hgt : p2 > q2
      · refine ⟨1, true, ?_, .inl ⟨rfl, 1, by simp [hp2, hgt]⟩⟩
        simp [R37_0, R37_1, R37_2, R37_3, R37_4, R37_5, R37_6, R37_7, R37_8, R37_9, R37_10, R37_11, R37_12, R37_13, R37_14, R37_15, R37_16, R37_17, R37_18, R37_19, R37_20, R37_21, R37_22, R37_23, R37_24, Tryz.f37, lpL37_0, lpM37_0, M37_0, L37_0, loopRun_succ, wrap_1, wrap_00, ndE, ndL_c, ndL_n, ha, hw, ndL_length, hlt, hBt, w1, g1, ndL_dropI, ndL_takeI, hd, hp2, hgt]
      · refine ⟨0, true, ?_, .inl ⟨rfl, 1, by simp [hp2, hgt]⟩⟩
        simp [R37_0, R37_1, R37_2, R37_3, R37_4, R37_5, R37_6, R37_7, R37_8, R37_9, R37_10, R37_11, R37_12, R37_13, R37_14, R37_15, R37_16, R37_17, R37_18, R37_19, R37_20, R37_21, R37_22, R37_23, R37_24, Tryz.f37, lpL37_0, lpM37_0, M37_0, L37_0, loopRun_succ, wrap_1, wrap_00, ndE, ndL_c, ndL_n, ha, hw, ndL_length, hlt, hBt, w1, g1, ndL_dropI, ndL_takeI, hd, hp2, hgt]
    · refine ⟨0, false, ?_, .inr ⟨rfl, by simp [hp2]⟩⟩
      have hp2b : (p1 == 2) = false := by simpa using hp2
      simp [R37_0, R37_1, R37_2, R37_3, R37_4, R37_5, R37_6, R37_7, R37_8, R37_9, R37_10, R37_11, R37_12, R37_13, R37_14, R37_15, R37_16, R37_17, R37_18, R37_19, R37_20, R37_21, R37_22, R37_23, R37_24, Tryz.f37, lpL37_0, lpM37_0, M37_0, L37_0, loopRun_succ, wrap_1, wrap_00, ndE, ndL_c, ndL_n, ha, hw, ndL_length, hlt, hBt, w1, g1, ndL_dropI, ndL_takeI, hd, hp2, hp2b]
  · by_cases h36 : 3 ≤ (l.getD i (0, 0)).1 ∧ (l.getD i (0, 0)).1 ≤ 6
    · have e1 := ar_two r2 h36
      obtain ⟨m, rfl⟩ : ∃ m, i = m + 2 := ⟨i - 2, by omega⟩
      have hd := drop_two (l := l) (i := m + 2) (m := m) rfl (by omega)
      have hf : fv l (m + 2) = (if (l.getD m (0, 0)).1 = 2 ∧ (l.getD (m + 1) (0, 0)).1 = 2 ∧ 0 ≤ opF (l.getD (m + 2) (0, 0)).1 (l.getD m (0, 0)).2 (l.getD (m + 1) (0, 0)).2 ∧ opF (l.getD (m + 2) (0, 0)).1 (l.getD m (0, 0)).2 (l.getD (m + 1) (0, 0)).2 ≤ 9000 then
          some (2, opF (l.getD (m + 2) (0, 0)).1 (l.getD m (0, 0)).2 (l.getD (m + 1) (0, 0)).2) else none) := by
        unfold fv
        rw [if_neg h7, if_pos h36]
        rfl
      rw [hf]
      rw [e1] at ha
      rw [hB] at hd ⊢
      have rp := (runAt hr m (by omega)).2.1
      have rs := (runAt hr (m + 1) (by omega)).2.1
      obtain ⟨q, hq⟩ : ∃ q, l.getD (m + 2) (0, 0) = q := ⟨_, rfl⟩
      obtain ⟨p, hp⟩ : ∃ p, l.getD m (0, 0) = p := ⟨_, rfl⟩
      obtain ⟨s, hs⟩ : ∃ s, l.getD (m + 1) (0, 0) = s := ⟨_, rfl⟩
      rw [hq] at ha h36 ⊢
      rw [hp, hs] at hd ⊢
      rw [hp] at rp
      rw [hs] at rs
      obtain ⟨q1, q2⟩ := q
      obtain ⟨p1, p2⟩ := p
      obtain ⟨s1, s2⟩ := s
      simp only [] at h36 ⊢
      have w1 : IntKind.i64.wrap (m : Int) = (m : Int) := wrap_small (by omega) (by omega)
      have w2 : IntKind.i64.wrap 2 = 2 := rfl
      have w3 : IntKind.i64.wrap ((m : Int) + 2 - 2) = (m : Int) := by rw [wrap_small (by omega) (by omega)]; omega
      have g1 : (m : Int) ≤ (m : Int) + 2 := by omega
      simp [ndE] at ha
      by_cases hp2 : p1 = 2
      · obtain ⟨_, a1, a2⟩ := ar_num rp hp2
        simp only [] at a1 a2
        by_cases hs2 : s1 = 2
        · obtain ⟨_, a3, a4⟩ := ar_num rs hs2
          simp only [] at a3 a4
          subst hp2
          subst hs2
          have u1 : IntKind.i64.wrap (p2 + s2) = p2 + s2 := wrap_small (by omega) (by omega)
          have u2 : IntKind.i64.wrap (p2 - s2) = p2 - s2 := wrap_small (by omega) (by omega)
          have key : ∀ v, v = opF q1 p2 s2 → callK C (k + 9) 37 [.sq b true 2 (ndL B), .ag (ndE (q1, q2))] [] = some (.tp [.c (.int .i64 v), .c (.bool (decide (0 ≤ v) && decide (v ≤ 9000)))], hpOf [] []) → ∃ v ok, callK C (k + 9) 37 [.sq b true 2 (ndL B), .ag (ndE (q1, q2))] [] = some (.tp [.c (.int .i64 v), .c (.bool ok)], hpOf [] []) ∧
              ((ok = true ∧ ∃ c, (if True ∧ True ∧ 0 ≤ opF q1 p2 s2 ∧ opF q1 p2 s2 ≤ 9000 then some (2, opF q1 p2 s2) else none) = some (c, v)) ∨ (ok = false ∧ (if True ∧ True ∧ 0 ≤ opF q1 p2 s2 ∧ opF q1 p2 s2 ≤ 9000 then some (2, opF q1 p2 s2) else none) = none)) := by
            intro v hv he
            subst hv
            refine ⟨_, _, he, ?_⟩
            by_cases hok : 0 ≤ opF q1 p2 s2 ∧ opF q1 p2 s2 ≤ 9000
            · exact .inl ⟨by simp [hok], 2, by simp [hok]⟩
            · refine .inr ⟨?_, ?_⟩
              · simp only [Bool.and_eq_false_iff, decide_eq_false_iff_not]; omega
              · rw [if_neg (fun h => hok h.2.2)]
          rw [callK_fn rfl F37 code37] at key
          simp only [eq_self_iff_true]
          rcases (show q1 = 3 ∨ q1 = 4 ∨ q1 = 5 ∨ q1 = 6 by omega) with rfl | rfl | rfl | rfl
          · refine key (p2 + s2) (by simp [opF]) ?_
            simp [R37_0, R37_1, R37_2, R37_3, R37_4, R37_5, R37_6, R37_7, R37_8, R37_9, R37_10, R37_11, R37_12, R37_13, R37_14, R37_15, R37_16, R37_17, R37_18, R37_19, R37_20, R37_21, R37_22, R37_23, R37_24, Tryz.f37, lpL37_0, lpM37_0, M37_0, L37_0, loopRun_succ, wrap_1, wrap_00, ndE, ndL_c, ndL_n, ha, hw, ndL_length, hlt, hBt, w1, w2, w3, g1, ndL_dropI, ndL_takeI, hd, u1, u2]
          · refine key (p2 - s2) (by simp [opF]) ?_
            simp [R37_0, R37_1, R37_2, R37_3, R37_4, R37_5, R37_6, R37_7, R37_8, R37_9, R37_10, R37_11, R37_12, R37_13, R37_14, R37_15, R37_16, R37_17, R37_18, R37_19, R37_20, R37_21, R37_22, R37_23, R37_24, Tryz.f37, lpL37_0, lpM37_0, M37_0, L37_0, loopRun_succ, wrap_1, wrap_00, ndE, ndL_c, ndL_n, ha, hw, ndL_length, hlt, hBt, w1, w2, w3, g1, ndL_dropI, ndL_takeI, hd, u1, u2]
          · refine key (if s2 < p2 then s2 else p2) (by simp only [opF]; simp; split <;> split <;> omega) ?_
            simp [R37_0, R37_1, R37_2, R37_3, R37_4, R37_5, R37_6, R37_7, R37_8, R37_9, R37_10, R37_11, R37_12, R37_13, R37_14, R37_15, R37_16, R37_17, R37_18, R37_19, R37_20, R37_21, R37_22, R37_23, R37_24, Tryz.f37, lpL37_0, lpM37_0, M37_0, L37_0, loopRun_succ, wrap_1, wrap_00, ndE, ndL_c, ndL_n, ha, hw, ndL_length, hlt, hBt, w1, w2, w3, g1, ndL_dropI, ndL_takeI, hd, u1, u2]
          · refine key (if s2 > p2 then s2 else p2) (by simp only [opF]; simp; split <;> split <;> omega) ?_
            simp [R37_0, R37_1, R37_2, R37_3, R37_4, R37_5, R37_6, R37_7, R37_8, R37_9, R37_10, R37_11, R37_12, R37_13, R37_14, R37_15, R37_16, R37_17, R37_18, R37_19, R37_20, R37_21, R37_22, R37_23, R37_24, Tryz.f37, lpL37_0, lpM37_0, M37_0, L37_0, loopRun_succ, wrap_1, wrap_00, ndE, ndL_c, ndL_n, ha, hw, ndL_length, hlt, hBt, w1, w2, w3, g1, ndL_dropI, ndL_takeI, hd, u1, u2]
        · refine ⟨0, false, ?_, .inr ⟨rfl, by simp [hs2]⟩⟩
          have hs2b : (s1 == 2) = false := by simpa using hs2
          simp [R37_0, R37_1, R37_2, R37_3, R37_4, R37_5, R37_6, R37_7, R37_8, R37_9, R37_10, R37_11, R37_12, R37_13, R37_14, R37_15, R37_16, R37_17, R37_18, R37_19, R37_20, R37_21, R37_22, R37_23, R37_24, Tryz.f37, lpL37_0, lpM37_0, M37_0, L37_0, loopRun_succ, wrap_1, wrap_00, ndE, ndL_c, ndL_n, ha, hw, ndL_length, hlt, hBt, w1, w2, w3, g1, ndL_dropI, ndL_takeI, hd, hp2, hs2, hs2b]
      · refine ⟨0, false, ?_, .inr ⟨rfl, by simp [hp2]⟩⟩
        have hp2b : (p1 == 2) = false := by simpa using hp2
        simp [R37_0, R37_1, R37_2, R37_3, R37_4, R37_5, R37_6, R37_7, R37_8, R37_9, R37_10, R37_11, R37_12, R37_13, R37_14, R37_15, R37_16, R37_17, R37_18, R37_19, R37_20, R37_21, R37_22, R37_23, R37_24, Tryz.f37, lpL37_0, lpM37_0, M37_0, L37_0, loopRun_succ, wrap_1, wrap_00, ndE, ndL_c, ndL_n, ha, hw, ndL_length, hlt, hBt, w1, w2, w3, g1, ndL_dropI, ndL_takeI, hd, hp2, hp2b]
    · have e0 : arI (l.getD i (0, 0)) = 0 := by
        rcases ar_cases (l.getD i (0, 0)) with e | e | e | e
        · exact e
        · exfalso
          unfold arI at e
          split at e
          · omega
          · split at e
            · omega
            · split at e <;> omega
        · exfalso
          unfold arI at e
          split at e
          · omega
          · split at e
            · omega
            · split at e <;> omega
        · omega
      rw [e0] at ha
      refine ⟨0, false, ?_, .inr ⟨rfl, by unfold fv; rw [if_neg h7, if_neg h36]⟩⟩
      rw [hB]
      obtain ⟨q, hq⟩ : ∃ q, l.getD i (0, 0) = q := ⟨_, rfl⟩
      rw [hq] at ha ⊢
      obtain ⟨q1, q2⟩ := q
      simp [ndE] at ha
      simp [R37_0, R37_1, R37_2, R37_3, R37_4, R37_5, R37_6, R37_7, R37_8, R37_9, R37_10, R37_11, R37_12, R37_13, R37_14, R37_15, R37_16, R37_17, R37_18, R37_19, R37_20, R37_21, R37_22, R37_23, R37_24, Tryz.f37, lpL37_0, lpM37_0, M37_0, ndE, ha]
theorem c_l5Number (k : Nat) (q : Int × Int) (hk : 1 ≤ k) : callK C k 69 [.ag (ndE q)] [] = some (.c (.bool (q.1 == 2)), hpOf [] []) := by
  obtain ⟨k, rfl⟩ : ∃ m, k = m + 1 := ⟨k - 1, by omega⟩
  rw [callK_fn rfl F69 code69]
  simp [R69_0, R69_1, Tryz.f69, ndE]
theorem opG_F {k a b : Int} (h : 3 ≤ k) (h' : k ≤ 6) : opG (k - 2) a b = opF k a b := by
  rcases (show k = 3 ∨ k = 4 ∨ k = 5 ∨ k = 6 by omega) with rfl | rfl | rfl | rfl <;> simp [opG, opF]
theorem num_cell {v : Int} (h : 0 ≤ v ∧ v ≤ 9000) : cellB v = true := by
  simp [cellB]; omega
theorem c_l5Folded (k : Nat) (b : Bool) (l : List (Int × Int)) (i : Nat) (hi : i < l.length) (h15 : l.length ≤ 15) (hr : 0 ≤ runO l l.length) (hk : 20 ≤ k) :
    ∃ v s, callK C k 39 [.sq b true 2 (ndL l), .c (.int .i64 (i : Int))] [] = some (.tp [.c (.int .i64 v), .c (.int .i64 s)], hpOf [] []) ∧ ((fv l i = none ∧ s = 0) ∨ ∃ c : Nat, fv l i = some (c, v) ∧ s = (c : Int) + 1) := by
  obtain ⟨k, rfl⟩ : ∃ m, k = m + 9 := ⟨k - 9, by omega⟩
  rw [callK_fn rfl F39 code39]
  obtain ⟨r1, r2, r3, r4⟩ := runAt hr i hi
  have hle := runO_le l i
  have ha := c_l5Arity (k + 8) (l.getD i (0, 0)) (by omega)
  have hN := fun q => c_l5Number (k + 8) q (by omega)
  have hI := fun x => c_l1In (k + 8) x 0 9000 (by omega)
  have gi := ndL_get l i hi
  have gd := getD_nd hi
  have z0 : (0 : Int) ≤ (i : Int) := by omega
  by_cases h7 : (l.getD i (0, 0)).1 = 7
  · have e1 := ar_above r2 h7
    obtain ⟨m, rfl⟩ : ∃ m, i = m + 1 := ⟨i - 1, by omega⟩
    have gm := ndL_get l m (by omega)
    have gd2 := getD_nd (l := l) (i := m) (by omega)
    have hf : fv l (m + 1) = if (l.getD m (0, 0)).1 = 2 then some (1, if (l.getD m (0, 0)).2 > (l.getD (m + 1) (0, 0)).2 then 1 else 0) else none := by
      unfold fv
      rw [if_pos h7]
      rfl
    rw [hf]
    rw [e1] at ha
    rw [gd] at ha h7 ⊢
    rw [gd2]
    obtain ⟨q, hq⟩ : ∃ q, l[m + 1] = q := ⟨_, rfl⟩
    obtain ⟨p, hp⟩ : ∃ p, l[m] = p := ⟨_, rfl⟩
    rw [hq] at ha h7 gi ⊢
    rw [hp] at gm ⊢
    obtain ⟨q1, q2⟩ := q
    obtain ⟨p1, p2⟩ := p
    simp only [] at h7 ⊢
    subst h7
    have z1 : (0 : Int) ≤ (m : Int) + 1 := by omega
    have z2 : ((m : Int) + 1).toNat = m + 1 := by omega
    have n1 := hN (p1, p2)
    have w1 : IntKind.i64.wrap (m : Int) = (m : Int) := wrap_small (by omega) (by omega)
    have w2 : IntKind.i64.wrap ((m : Int) + 1) = (m : Int) + 1 := wrap_small (by omega) (by omega)
    simp [ndE] at ha n1 gi gm
    by_cases hp2 : p1 = 2
    · subst hp2
      by_cases hgt : p2 > q2
      · refine ⟨1, 2, ?_, .inr ⟨1, by simp [hgt], by simp⟩⟩
        simp at n1
        simp [R39_0, R39_1, R39_2, R39_3, R39_4, R39_5, R39_6, R39_7, R39_8, R39_9, R39_10, Tryz.f39, undef, ndE, ha, n1, gi, gm, z1, z2, w1, w2, hgt]
      · refine ⟨0, 2, ?_, .inr ⟨1, by simp [hgt], by simp⟩⟩
        simp at n1
        simp [R39_0, R39_1, R39_2, R39_3, R39_4, R39_5, R39_6, R39_7, R39_8, R39_9, R39_10, Tryz.f39, undef, ndE, ha, n1, gi, gm, z1, z2, w1, w2, hgt]
    · refine ⟨0, 0, ?_, .inl ⟨by simp [hp2], rfl⟩⟩
      have hp2b : (p1 == 2) = false := by simpa using hp2
      rw [hp2b] at n1
      simp [R39_0, R39_1, R39_2, R39_3, R39_4, R39_5, R39_6, R39_7, R39_8, R39_9, R39_10, Tryz.f39, undef, ndE, ha, n1, gi, gm, z1, z2, w1, w2, hp2b]
  · by_cases h36 : 3 ≤ (l.getD i (0, 0)).1 ∧ (l.getD i (0, 0)).1 ≤ 6
    · have e1 := ar_two r2 h36
      obtain ⟨m, rfl⟩ : ∃ m, i = m + 2 := ⟨i - 2, by omega⟩
      have gm := ndL_get l m (by omega)
      have gd2 := getD_nd (l := l) (i := m) (by omega)
      have gs := ndL_get l (m + 1) (by omega)
      have gd3 := getD_nd (l := l) (i := m + 1) (by omega)
      have hf : fv l (m + 2) = (if (l.getD m (0, 0)).1 = 2 ∧ (l.getD (m + 1) (0, 0)).1 = 2 ∧ 0 ≤ opF (l.getD (m + 2) (0, 0)).1 (l.getD m (0, 0)).2 (l.getD (m + 1) (0, 0)).2 ∧ opF (l.getD (m + 2) (0, 0)).1 (l.getD m (0, 0)).2 (l.getD (m + 1) (0, 0)).2 ≤ 9000 then
          some (2, opF (l.getD (m + 2) (0, 0)).1 (l.getD m (0, 0)).2 (l.getD (m + 1) (0, 0)).2) else none) := by
        unfold fv
        rw [if_neg h7, if_pos h36]
        rfl
      rw [hf]
      rw [e1] at ha
      have rp := (runAt hr m (by omega)).2.1
      have rs := (runAt hr (m + 1) (by omega)).2.1
      rw [gd] at ha h36 h7 ⊢
      rw [gd2] at rp ⊢
      rw [gd3] at rs ⊢
      obtain ⟨q, hq⟩ : ∃ q, l[m + 2] = q := ⟨_, rfl⟩
      obtain ⟨p, hp⟩ : ∃ p, l[m] = p := ⟨_, rfl⟩
      obtain ⟨s, hs⟩ : ∃ s, l[m + 1] = s := ⟨_, rfl⟩
      rw [hq] at ha h36 h7 gi ⊢
      rw [hp] at gm rp ⊢
      rw [hs] at gs rs ⊢
      obtain ⟨q1, q2⟩ := q
      obtain ⟨p1, p2⟩ := p
      obtain ⟨s1, s2⟩ := s
      simp only [] at h36 h7 ⊢
      have z1 : (0 : Int) ≤ (m : Int) + 1 := by omega
      have z2 : ((m : Int) + 1).toNat = m + 1 := by omega
      have z3 : (0 : Int) ≤ (m : Int) + 2 := by omega
      have z4 : ((m : Int) + 2).toNat = m + 2 := by omega
      have n1 := hN (p1, p2)
      have n2 := hN (s1, s2)
      have w1 : IntKind.i64.wrap (m : Int) = (m : Int) := wrap_small (by omega) (by omega)
      have w2 : IntKind.i64.wrap ((m : Int) + 1) = (m : Int) + 1 := wrap_small (by omega) (by omega)
      have w3 : IntKind.i64.wrap ((m : Int) + 2 - 1) = (m : Int) + 1 := by rw [wrap_small (by omega) (by omega)]; omega
      have w4 : IntKind.i64.wrap ((m : Int) + 2 - 2) = (m : Int) := by rw [wrap_small (by omega) (by omega)]; omega
      have w5 : IntKind.i64.wrap (IntKind.i64.wrap (q1 - 3) + 1) = q1 - 2 := by rw [show IntKind.i64.wrap (q1 - 3) = q1 - 3 from wrap_small (by omega) (by omega), wrap_small (by omega) (by omega)]; omega
      have h7b : (q1 == 7) = false := by simpa using h7
      simp [ndE] at ha n1 n2 gi gm gs
      by_cases hs2 : s1 = 2
      · obtain ⟨_, a3, a4⟩ := ar_num rs hs2
        simp only [] at a3 a4
        by_cases hp2 : p1 = 2
        · obtain ⟨_, a1, a2⟩ := ar_num rp hp2
          simp only [] at a1 a2
          subst hp2
          subst hs2
          have ho := c_l4Op (k + 8) (q1 - 2) p2 s2 (by omega) (num_cell ⟨a1, a2⟩) (num_cell ⟨a3, a4⟩)
          rw [opG_F h36.1 h36.2] at ho
          obtain ⟨v, hv⟩ : ∃ v, opF q1 p2 s2 = v := ⟨_, rfl⟩
          rw [hv] at ho ⊢
          have hi2 := hI v
          simp at n1 n2
          by_cases hok : 0 ≤ v ∧ v ≤ 9000
          · refine ⟨v, 3, ?_, .inr ⟨2, by simp [hok], by simp⟩⟩
            simp [R39_0, R39_1, R39_2, R39_3, R39_4, R39_5, R39_6, R39_7, R39_8, R39_9, R39_10, Tryz.f39, undef, ndE, ha, n1, n2, gi, gm, gs, z1, z2, z3, z4, w1, w2, w3, w4, w5, h7, h7b, ho, hi2, hok]
          · refine ⟨0, 0, ?_, .inl ⟨by rw [if_neg (fun h => hok h.2.2)], rfl⟩⟩
            have hokb : (decide (0 ≤ v) && decide (v ≤ 9000)) = false := by
              simp only [Bool.and_eq_false_iff, decide_eq_false_iff_not]; omega
            rw [hokb] at hi2
            simp [R39_0, R39_1, R39_2, R39_3, R39_4, R39_5, R39_6, R39_7, R39_8, R39_9, R39_10, Tryz.f39, undef, ndE, ha, n1, n2, gi, gm, gs, z1, z2, z3, z4, w1, w2, w3, w4, w5, h7, h7b, ho, hi2]
        · refine ⟨0, 0, ?_, .inl ⟨by simp [hp2], rfl⟩⟩
          have hp2b : (p1 == 2) = false := by simpa using hp2
          rw [hp2b] at n1
          subst hs2
          simp at n2
          simp [R39_0, R39_1, R39_2, R39_3, R39_4, R39_5, R39_6, R39_7, R39_8, R39_9, R39_10, Tryz.f39, undef, ndE, ha, n1, n2, gi, gm, gs, z1, z2, z3, z4, w1, w2, w3, w4, w5, h7, h7b]
      · refine ⟨0, 0, ?_, .inl ⟨by simp [hs2], rfl⟩⟩
        have hs2b : (s1 == 2) = false := by simpa using hs2
        rw [hs2b] at n2
        simp [R39_0, R39_1, R39_2, R39_3, R39_4, R39_5, R39_6, R39_7, R39_8, R39_9, R39_10, Tryz.f39, undef, ndE, ha, n1, n2, gi, gm, gs, z1, z2, z3, z4, w1, w2, w3, w4, w5, h7, h7b]
    · have e0 : arI (l.getD i (0, 0)) ≠ 2 := by
        intro e
        unfold arI at e
        split at e
        · omega
        · split at e
          · omega
          · split at e <;> omega
      refine ⟨0, 0, ?_, .inl ⟨by unfold fv; rw [if_neg h7, if_neg h36], rfl⟩⟩
      rw [gd] at ha h7 e0
      obtain ⟨q, hq⟩ : ∃ q, l[i] = q := ⟨_, rfl⟩
      rw [hq] at ha h7 e0 gi
      obtain ⟨q1, q2⟩ := q
      simp only [] at h7
      have h7b : (q1 == 7) = false := by simpa using h7
      obtain ⟨a, hA⟩ : ∃ a, arI (q1, q2) = a := ⟨_, rfl⟩
      rw [hA] at ha e0
      have e0b : (a == 2) = false := by simpa using e0
      simp [ndE] at ha gi
      simp [R39_0, R39_1, R39_2, R39_3, R39_4, R39_5, R39_6, R39_7, R39_8, R39_9, R39_10, Tryz.f39, undef, ndE, ha, gi, h7, h7b, e0, e0b]

end Go.Proofs.YtbjmfjfnilmhhaaGreatDoor.Eng
namespace Go.Proofs.YtbjmfjfnilmhhaaGreatDoor.Eng
open Go Go.Proofs
set_option maxRecDepth 100000
set_option maxHeartbeats 2000000
set_option linter.unusedSimpArgs false
set_option linter.unusedVariables false
attribute [local simp] finK fin1 hpOf xi renQ isRoot runCode runOps stepX inlOf Eng.step wantedV astep val ofO made loadV storeV find V.cells bin binT binA numT numFs eqCells un1 setAt fieldAddrV fieldV indexAddrV indexV bounds sliceV convV lenV foldV max2V min2V callO bor rdsO wrsO seen_none okD_none loops keepIds resV resultsV St.ev TK.agg refs refsL refsO V.one V.isC Value.oneCell' ren renL renO noTag noTagL noTagR noTagO nodup mapO passV frs psi refsR newD loopNext opsAt idx flatAt rootOf backR newsV appendV copyV clearV strV bytesV bldV bufV selfV bytesOf nilCmp buildV fillF chunk freeL frzW cellSame sameV
attribute [local simp] cT cF cX cWR cOW cK cBL X ints_length ints_get ints_getElem ints_drop ints_take ints_append ints_nil ints_set
attribute [local simp] ints_replicate
attribute [local simp] putV_some putV_none putH_app applyD_nil applyD_cons seen_app gc_ρ gc_H gc_tick st0_ρ st0_H st0_tick retV callRo callV_if borL_nil borL_cons ints_snoc take_self callWr cutH_app findQ afterV exportV_0 exportV_n okD_nil okD_cons sub_seq0 sub_seq1 sub_cond0 sub_cond1 sub_block sub_loop sub_nil young_far young_none hidW_nil mayW_nil keepsF_nil keepsF_cons pairs okI ok_0 ok_1 ok_2
attribute [local simp] T3 T4 T5 T9 T22 T24 T33 T36 T38 T45 T48 T51 T52 T54 T56 T71 T72 T74 T77 T99 T104 T117 T121
attribute [local simp] young_near clo cloF Region.binds Nat.testBit hidW declW mayW List.findIdx?_cons
/-- What stands behind the folding of one node, and behind all of it. -/
def Fs (s : St) (l : List (Int × Int)) (f : Bool) : Prop := ∃ id tk, (id = 3104 ∨ id = 12472) ∧ s.ρ 4 = .s id tk 2 0 l.length ∧ s.H id = some (tk, ndO l) ∧ s.ρ 5 = .c (.bool f)
theorem c_cloneN (k : Nat) (b : Bool) (l : List (Int × Int)) (hl : l.length ≤ 1048576) (h0 : l ≠ []) (hk : 1 ≤ k) : callK C k 36 [.sq b true 2 (ndL l)] [] = some (.s 0 2 2 0 l.length, hpOf [] [ndO l]) := by
  obtain ⟨k, rfl⟩ : ∃ m, k = m + 1 := ⟨k - 1, by omega⟩
  rw [callK_fn rfl F36 code36]
  have hn : ndL l ≠ [] := by simp [ndL, h0]
  have b2 : l.length * 16 ≤ 140737488355328 := by omega
  have b3 : l.length ≤ maxLen := by unfold maxLen; omega
  simp [R36_0, R36_1, R36_2, R36_3, Tryz.f36, hn, ndL_length, ndO, okN, b2, b3]
theorem fold_in (k : Nat) (l : List (Int × Int)) (hg : goodE l = true) (hk : 300 ≤ k) (id tk : Nat) (hid : id = 3104 ∨ id = 12472) (st : St)
    (h : st.ρ 4 = .s id tk 2 0 l.length ∧ st.ρ 5 = .c (.bool false) ∧ st.ρ 16 = .s id tk 2 0 l.length ∧ st.ρ 17 = .c (.int .i64 (l.length : Int)) ∧ st.ρ 18 = .c (.int .i64 0) ∧ st.H id = some (tk, ndO l)) :
    ∃ s, loopRun (fun st => runCode C (callK C k) k (K 16) L16_1 2 st) [4, 5, 16, 17, 18] k st = some (.ex 2, s) ∧ ((srch l l.length = none ∧ Fs s l false) ∨ ∃ i c v, srch l l.length = some (i, c, v) ∧ Fs s (fo l i c v) true) := by
  have hg' := hg
  simp only [goodE, Bool.and_eq_true, decide_eq_true_eq] at hg'
  obtain ⟨h15, hr1⟩ := hg'
  have hr : 0 ≤ runO l l.length := by omega
  refine loopHas (body := fun st => runCode C (callK C k) k (K 16) L16_1 2 st) (keep := [4, 5, 16, 17, 18]) (.ex 2) (fun s => (srch l l.length = none ∧ Fs s l false) ∨ ∃ i c v, srch l l.length = some (i, c, v) ∧ Fs s (fo l i c v) true)
    (fun i s => s.ρ 4 = .s id tk 2 0 l.length ∧ s.ρ 5 = .c (.bool false) ∧ s.ρ 16 = .s id tk 2 0 l.length ∧ s.ρ 17 = .c (.int .i64 (l.length : Int)) ∧ s.ρ 18 = .c (.int .i64 (i : Int)) ∧ s.H id = some (tk, ndO l) ∧ srch l (l.length - i) = srch l l.length)
    l.length k (by omega) ?_ ?_ st ?_
  · rintro i s next hi ⟨q4, q5, q16, q17, q18, H1, hsr⟩ hn
    have hwn := wrap_next hi (by omega : l.length ≤ 9000000000000000000)
    have hi2 : (i : Int) < (l.length : Int) := by omega
    have gi := ndL_get l i hi
    have gd := getD_nd hi
    have hat := srch_at hi
    obtain ⟨v, ok, E, hE⟩ := c_foldedValue k true l i hi h15 hr (by omega)
    have hA := c_arguments k (l.getD i (0, 0)) (by omega)
    have hra := runAt hr i hi
    rw [argI_eq hra.2.1] at hA
    rw [gd] at E hA
    obtain ⟨q, hq⟩ : ∃ q, l[i] = q := ⟨_, rfl⟩
    rw [hq] at gi E hA
    have hle : (i : Int) ≤ (l.length : Int) := by omega
    have hle2 : i ≤ l.length := by omega
    rcases hE with ⟨rfl, c, hf⟩ | ⟨rfl, hf⟩
    · obtain ⟨f1, f2, f3, f4, f5, f6, f7⟩ := fv_facts hr hi hf
      rw [gd, hq] at f1
      rw [f1] at hA
      rw [hf] at hat
      have hfl := fo_len (v := v) hi f3
      have w1 : IntKind.i64.wrap ((i : Int) - (c : Int)) = (i : Int) - (c : Int) := wrap_small (by omega) (by omega)
      have g1 : (0 : Int) ≤ (i : Int) - (c : Int) := by omega
      have g2 : (i : Int) - (c : Int) + 1 < (i : Int) + 1 := by omega
      have g3 : (i : Int) + 1 ≤ (l.length : Int) := by omega
      have g4 : ((i : Int) - (c : Int)).toNat = i - c := by omega
      have g5 : ((i : Int) + 1).toNat = i + 1 := by omega
      have g6 : i - c + 1 + (l.length - (i + 1)) = (fo l i c v).length := by rw [hfl]; omega
      have g7 : ndL (l.take (i - c)) ++ [V.c (.int .i64 2), V.c (.int .i64 v)] :: ndL (l.drop (i + 1)) = ndL (fo l i c v) := by simp [fo, ndL, ndE]
      have hpost : ∀ s' : St, Fs s' (fo l i c v) true → (srch l l.length = none ∧ Fs s' l false) ∨ ∃ i c v, srch l l.length = some (i, c, v) ∧ Fs s' (fo l i c v) true := fun s' h => .inr ⟨i, c, v, by rw [← hsr, hat], h⟩
      simp [ndE] at E hA gi
      simp [ndO] at H1
      rcases hid with rfl | rfl <;> simp [L16_1, R16_0, R16_1, R16_2, R16_3, R16_4, R16_5, R16_6, R16_7, R16_8, R16_9, R16_10, R16_11, R16_12, R16_13, R16_14, R16_15, Tryz.f16, lpL16_0, lpL16_1, lpM16_0, M16_0, q4, q5, q16, q17, q18, H1, ndO, hi2, gi, ndL_takeI, ndL_dropI, ndL_length, hle, hle2, E, hA, w1, hwn, g1, g2, g3, g4, f3, g5, g6, g7, okN]
      all_goals exact hpost _ ⟨12472, s.tick + 1 + 1 + 1 + 1, .inr rfl, by simp, by simp [ndO], by simp⟩
    · rw [hf] at hat
      simp [ndE] at E gi
      simp [ndO] at H1
      rcases hid with rfl | rfl <;> simp [L16_1, R16_0, R16_1, R16_2, R16_3, R16_4, R16_5, R16_6, R16_7, R16_8, R16_9, R16_10, R16_11, R16_12, R16_13, R16_14, R16_15, Tryz.f16, lpL16_0, lpL16_1, lpM16_0, M16_0, q4, q5, q16, q17, q18, H1, ndO, hi2, gi, ndL_takeI, ndL_length, hle, hle2, E, hwn]
      all_goals exact hn _ ⟨by simp [q4], by simp [q5], by simp [q16], by simp [q17], by simp, by simp [q4, q16, H1, ndO], by rw [← hsr, hat]⟩
  · rintro s next ⟨q4, q5, q16, q17, q18, H1, hsr⟩
    rw [Nat.sub_self] at hsr
    rcases hid with rfl | rfl <;> simp [L16_1, R16_0, R16_1, R16_2, R16_3, R16_4, R16_5, R16_6, R16_7, R16_8, R16_9, R16_10, R16_11, R16_12, R16_13, R16_14, R16_15, Tryz.f16, lpL16_0, lpL16_1, lpM16_0, M16_0, q4, q5, q16, q17, q18]
    · exact .inl ⟨by rw [← hsr]; rfl, 3104, tk, .inl rfl, by simp [q4], by simp [q4, q16, H1], by simp [q5]⟩
    · exact .inl ⟨by rw [← hsr]; rfl, 12472, tk, .inr rfl, by simp [q4], by simp [q4, q16, H1], by simp [q5]⟩
  · obtain ⟨q4, q5, q16, q17, q18, H1⟩ := h
    exact ⟨q4, q5, q16, q17, by simp [q18], H1, by simp⟩
theorem fold_out (k : Nat) (hk : 300 ≤ k) : ∀ (n : Nat) (l : List (Int × Int)) (_ : l.length ≤ n) (_ : goodE l = true) (m : Nat) (_ : n + 2 ≤ m) (st : St) (_ : Fs st l true),
    ∃ s, loopRun (fun st => runCode C (callK C k) k (K 16) L16_0 1 st) [4, 5] m st = some (.ex 0, s) ∧ Fs s (fAll n l) false
  | 0, l, hl, hg, _, _, _, _ => by
    have : l = [] := List.eq_nil_of_length_eq_zero (by omega)
    subst this
    simp [goodE, runO] at hg
  | n + 1, l, hl, hg, m, hm, st, h => by
    obtain ⟨m, rfl⟩ : ∃ q, m = q + 1 := ⟨m - 1, by omega⟩
    obtain ⟨id, tk, hid, q4, H1, q5⟩ := h
    have hg' := hg
    simp only [goodE, Bool.and_eq_true, decide_eq_true_eq] at hg'
    have hr : 0 ≤ runO l l.length := by omega
    rw [loopRun_succ]
    have hgc : ∀ s, Fs s l false → ∃ s1, loopRun (fun st => runCode C (callK C k) k (K 16) L16_0 1 st) [4, 5] m s = some (.ex 0, s1) ∧ Fs s1 l false := by
      rintro s ⟨id, tk, hid, q4, H1, q5⟩
      obtain ⟨m, rfl⟩ : ∃ q, m = q + 1 := ⟨m - 1, by omega⟩
      rw [loopRun_succ]
      rcases hid with rfl | rfl
      · simp [L16_0, R16_0, R16_1, R16_2, R16_3, R16_4, R16_5, R16_6, R16_7, R16_8, R16_9, R16_10, R16_11, R16_12, R16_13, R16_14, R16_15, Tryz.f16, lpL16_0, lpL16_1, lpM16_0, q4, q5]
        exact ⟨3104, tk, .inl rfl, by simp [q4], by simp [q4, H1], by simp [q5]⟩
      · simp [L16_0, R16_0, R16_1, R16_2, R16_3, R16_4, R16_5, R16_6, R16_7, R16_8, R16_9, R16_10, R16_11, R16_12, R16_13, R16_14, R16_15, Tryz.f16, lpL16_0, lpL16_1, lpM16_0, q4, q5]
        exact ⟨12472, tk, .inr rfl, by simp [q4], by simp [q4, H1], by simp [q5]⟩
    have hI := fold_in k l hg hk id tk hid
    have hIh := fun l' h1 h2 => fold_out k hk n l' h1 h2 m (by omega)
    obtain ⟨nx, hN⟩ : ∃ nx, loopRun (fun st => runCode C (callK C k) k (K 16) L16_0 1 st) [4, 5] m = nx := ⟨_, rfl⟩
    rw [hN] at hgc
    simp only [hN] at hIh
    rw [hN]
    unfold fAll
    have fin : ∀ s1, (srch l l.length = none ∧ Fs s1 l false) ∨ (∃ i c v, srch l l.length = some (i, c, v) ∧ Fs s1 (fo l i c v) true) → ∃ s, nx s1 = some (.ex 0, s) ∧ Fs s (match srch l l.length with
        | none => l
        | some (i, c, v) => fAll n (fo l i c v)) false := by
      rintro s1 (⟨e, F⟩ | ⟨i, c, v, e, F⟩)
      · rw [e]
        exact hgc s1 F
      · rw [e]
        obtain ⟨hi, hf⟩ := srch_facts l.length (Nat.le_refl _) i c v e
        obtain ⟨_, _, f3, f4, _⟩ := fv_facts hr hi hf
        have hl2 := fo_len (v := v) hi f3
        exact hIh _ (by omega) (fo_good hg hi hf) s1 F
    rcases hid with rfl | rfl
    all_goals (
      simp [ndO] at H1
      simp [L16_0, R16_0, R16_1, R16_2, R16_3, R16_4, R16_5, R16_6, R16_7, R16_8, R16_9, R16_10, R16_11, R16_12, R16_13, R16_14, R16_15, Tryz.f16, lpL16_0, lpL16_1, lpM16_0, q4, q5, H1]
      generalize hr2 : loopRun _ _ _ _ = res
      obtain ⟨s1, rfl, P1⟩ := loop_at hI hr2 ⟨by simp [q4], by simp, by simp [q4], by simp, by simp, by simp [q4, H1, ndO]⟩
      exact fin s1 P1)
theorem c_implFold (k : Nat) (b : Bool) (l : List (Int × Int)) (hg : goodE l = true) (hk : 400 ≤ k) : callK C k 16 [.sq b true 2 (ndL l)] [] = some (.tp [.s 0 2 2 0 (fAll l.length l).length, .c (.bool true)], hpOf [] [ndO (fAll l.length l)]) := by
  obtain ⟨k, rfl⟩ : ∃ m, k = m + 9 := ⟨k - 9, by omega⟩
  rw [callK_fn rfl F16 code16]
  have gd := c_IsExpression (k + 8) b l (by omega)
  rw [hg] at gd
  have hg' := hg
  simp only [goodE, Bool.and_eq_true, decide_eq_true_eq] at hg'
  have h0 : l ≠ [] := by intro e; subst e; simp [goodE, runO] at hg
  have cl := c_cloneN (k + 8) b l (by omega) h0 (by omega)
  have hL := fold_out (k + 8) (by omega) l.length l (Nat.le_refl _) hg (k + 8) (by omega)
  simp [ndO] at cl
  simp [R16_0, R16_1, R16_2, R16_3, R16_4, R16_5, R16_6, R16_7, R16_8, R16_9, R16_10, R16_11, R16_12, R16_13, R16_14, R16_15, Tryz.f16, lpL16_0, lpL16_1, lpM16_0, gd, cl]
  generalize hr2 : loopRun _ _ _ _ = res
  obtain ⟨s1, rfl, id, tk, hid, q4, H1, q5⟩ := loop_at hL hr2 ⟨3104, _, .inl rfl, by simp; rfl, by simp [ndO], by simp⟩
  simp [ndO] at H1
  rcases hid with rfl | rfl <;> simp [R16_0, R16_1, R16_2, R16_3, R16_4, R16_5, R16_6, R16_7, R16_8, R16_9, R16_10, R16_11, R16_12, R16_13, R16_14, R16_15, Tryz.f16, lpL16_0, lpL16_1, lpM16_0, M16_0, q4, q5, H1, ndO]
theorem c_implFoldNo (k : Nat) (b : Bool) (l : List (Int × Int)) (hg : goodE l = false) (hk : 400 ≤ k) : callK C k 16 [.sq b true 2 (ndL l)] [] = some (.tp [.c (.slice none 0 0), .c (.bool false)], hpOf [] []) := by
  obtain ⟨k, rfl⟩ : ∃ m, k = m + 9 := ⟨k - 9, by omega⟩
  rw [callK_fn rfl F16 code16]
  have gd := c_IsExpression (k + 8) b l (by omega)
  rw [hg] at gd
  simp [R16_0, R16_1, R16_2, R16_3, R16_4, R16_5, R16_6, R16_7, R16_8, R16_9, R16_10, R16_11, R16_12, R16_13, R16_14, R16_15, Tryz.f16, lpL16_0, lpL16_1, lpM16_0, gd]

end Go.Proofs.YtbjmfjfnilmhhaaGreatDoor.Eng
namespace Go.Proofs.YtbjmfjfnilmhhaaGreatDoor.Eng
open Go Go.Proofs
set_option maxRecDepth 100000
set_option maxHeartbeats 2000000
set_option linter.unusedSimpArgs false
set_option linter.unusedVariables false
attribute [local simp] finK fin1 hpOf xi renQ isRoot runCode runOps stepX inlOf Eng.step wantedV astep val ofO made loadV storeV find V.cells bin binT binA numT numFs eqCells un1 setAt fieldAddrV fieldV indexAddrV indexV bounds sliceV convV lenV foldV max2V min2V callO bor rdsO wrsO seen_none okD_none loops keepIds resV resultsV St.ev TK.agg refs refsL refsO V.one V.isC Value.oneCell' ren renL renO noTag noTagL noTagR noTagO nodup mapO passV frs psi refsR newD loopNext opsAt idx flatAt rootOf backR newsV appendV copyV clearV strV bytesV bldV bufV selfV bytesOf nilCmp buildV fillF chunk freeL frzW cellSame sameV
attribute [local simp] cT cF cX cWR cOW cK cBL X ints_length ints_get ints_getElem ints_drop ints_take ints_append ints_nil ints_set
attribute [local simp] ints_replicate
attribute [local simp] putV_some putV_none putH_app applyD_nil applyD_cons seen_app gc_ρ gc_H gc_tick st0_ρ st0_H st0_tick retV callRo callV_if borL_nil borL_cons ints_snoc take_self callWr cutH_app findQ afterV exportV_0 exportV_n okD_nil okD_cons sub_seq0 sub_seq1 sub_cond0 sub_cond1 sub_block sub_loop sub_nil young_far young_none hidW_nil mayW_nil keepsF_nil keepsF_cons pairs okI ok_0 ok_1 ok_2
attribute [local simp] T3 T4 T5 T9 T22 T24 T33 T36 T38 T45 T48 T51 T52 T54 T56 T71 T72 T74 T77 T99 T104 T117 T121
attribute [local simp] young_near clo cloF Region.binds Nat.testBit hidW declW mayW List.findIdx?_cons
theorem ndL_app (a b : List (Int × Int)) : ndL (a ++ b) = ndL a ++ ndL b := by simp [ndL]
theorem okN1 (ty : TypeId) (a : List (Int × Int)) (v : Int) : okObj ⟨ty, 2, true, ndL a ++ [[V.c (.int .i64 2), V.c (.int .i64 v)]]⟩ = true := by
  rw [show ndL a ++ [[V.c (.int .i64 2), V.c (.int .i64 v)]] = ndL (a ++ [(2, v)]) by simp [ndL, ndE]]
  exact okN _ _
theorem okN2 (ty : TypeId) (a b : List (Int × Int)) (v : Int) : okObj ⟨ty, 2, true, ndL a ++ [V.c (.int .i64 2), V.c (.int .i64 v)] :: ndL b⟩ = true := by
  rw [show ndL a ++ [V.c (.int .i64 2), V.c (.int .i64 v)] :: ndL b = ndL (a ++ (2, v) :: b) by simp [ndL, ndE]]
  exact okN _ _
theorem okN3 (ty : TypeId) (b : List (Int × Int)) (v : Int) : okObj ⟨ty, 2, true, [V.c (.int .i64 2), V.c (.int .i64 v)] :: ndL b⟩ = true := by
  rw [show [V.c (.int .i64 2), V.c (.int .i64 v)] :: ndL b = ndL ((2, v) :: b) by simp [ndL, ndE]]
  exact okN _ _
def Ss (s : St) (l : List (Int × Int)) (i : Nat) : Prop := ∃ id tk, (id = 3128 ∨ (id = 10328 ∧ l.length = 1) ∨ id = 11368) ∧ s.ρ 4 = .s id tk 2 0 l.length ∧ s.H id = some (tk, ndO l) ∧ s.ρ 5 = .c (.int .i64 (i : Int))
def Se (s : St) (l : List (Int × Int)) : Prop := ∃ id tk, (id = 3128 ∨ (id = 10328 ∧ l.length = 1) ∨ id = 11368) ∧ s.ρ 4 = .s id tk 2 0 l.length ∧ s.H id = some (tk, ndO l)
/-- One round. -/
theorem fold_rnd (k : Nat) (l : List (Int × Int)) (hg : goodE l = true) (hk : 300 ≤ k) (i : Nat) (hi : i < l.length) (st : St) (h : Ss st l i) (nx : St → Option (Ex × St)) (R : Option (Ex × St) → Prop)
    (h1 : fv l i = none → ∀ s, Ss s l (i + 1) → R (nx s)) (h2 : ∀ c v, fv l i = some (c, v) → ∀ s, Ss s (fo l i c v) 0 → R (nx s)) :
    R (loopNext ((fun st => runCode C (callK C k) k (K 17) L17_0 1 st) (gc [4, 5] st)) nx) := by
  have hg' := hg
  simp only [goodE, Bool.and_eq_true, decide_eq_true_eq] at hg'
  obtain ⟨h15, hr1⟩ := hg'
  have hr : 0 ≤ runO l l.length := by omega
  obtain ⟨id, tk, hid, q4, H1, q5⟩ := h
  have hwn := wrap_next hi (by omega : l.length ≤ 9000000000000000000)
  have hi2 : (i : Int) < (l.length : Int) := by omega
  obtain ⟨v, sz, E, hE⟩ := c_l5Folded k true l i hi h15 hr (by omega)
  rcases hE with ⟨hf, rfl⟩ | ⟨c, hf, rfl⟩
  · have hp := h1 hf
    simp [ndO] at H1
    rcases hid with rfl | ⟨rfl, hid1⟩ | rfl
    all_goals simp [L17_0, R17_0, R17_1, R17_2, R17_3, R17_4, R17_5, R17_6, R17_7, R17_8, R17_9, R17_10, R17_11, R17_12, R17_13, Tryz.f17, lpL17_0, lpM17_0, M17_0, q4, q5, H1, hi2, E, hwn, ndL_length, ndL_take]
    · exact hp _ ⟨3128, tk, .inl rfl, by simp [q4], by simp [q4, H1, ndO], by simp⟩
    · exact hp _ ⟨10328, tk, .inr (.inl ⟨rfl, hid1⟩), by simp [q4], by simp [q4, H1, ndO], by simp⟩
    · exact hp _ ⟨11368, tk, .inr (.inr rfl), by simp [q4], by simp [q4, H1, ndO], by simp⟩
  · obtain ⟨f1, f2, f3, f4, f5, f6, f7⟩ := fv_facts hr hi hf
    have hp := h2 c v hf
    have hfl := fo_len (v := v) hi f3
    have hfo : fo l i c v = l.take (i - c) ++ (2, v) :: l.drop (i + 1) := rfl
    obtain ⟨F, hF⟩ : ∃ F, fo l i c v = F := ⟨_, rfl⟩
    rw [hF] at hp hfl hfo
    have w1 : IntKind.i64.wrap ((i : Int) - (c : Int)) = (i : Int) - (c : Int) := wrap_small (by omega) (by omega)
    have w3 : IntKind.i64.wrap ((i : Int) + 1 - ((c : Int) + 1)) = (i : Int) - (c : Int) := by rw [wrap_small (by omega) (by omega)]; omega
    have g1 : (0 : Int) ≤ (i : Int) - (c : Int) := by omega
    have g2 : (i : Int) - (c : Int) ≤ (l.length : Int) := by omega
    have g3 : (i : Int) + 1 ≤ (l.length : Int) := by omega
    have g4 : ((i : Int) - (c : Int)).toNat = i - c := by omega
    have g5 : ((i : Int) + 1).toNat = i + 1 := by omega
    have g6 : ¬ (c : Int) + 1 = 0 := by omega
    have g6b : ((c : Int) + 1 == 0) = false := by simpa using g6
    have hta : (l.take (i - c)).length = i - c := by rw [List.length_take]; omega
    have hdz : (l.drop (i + 1)).length = l.length - (i + 1) := List.length_drop
    have hdt : (l.drop (i + 1)).take (l.length - (i + 1)) = l.drop (i + 1) := by rw [← hdz]; exact List.take_length
    simp [ndO] at H1
    have n1 : (i - c) * 16 ≤ 140737488355328 := by omega
    have n2 : i - c ≤ 9223372036854775807 := by omega
    have n3 : (i - c + 1) * 16 ≤ 140737488355328 := by omega
    have n4 : i - c + 1 ≤ 9223372036854775807 := by omega
    have n5 : i - c ≤ 9223372036854775806 := by omega
    have n6 : (i - c + 1 + (l.length - (i + 1))) * 16 ≤ 140737488355328 := by omega
    have n7 : i - c + 1 + (l.length - (i + 1)) ≤ 9223372036854775807 := by omega
    have n8 : (1 + (l.length - (i + 1))) * 16 ≤ 140737488355328 := by omega
    have n9 : 1 + (l.length - (i + 1)) ≤ 9223372036854775807 := by omega
    have nC : (0 : Int) ≤ (i : Int) + 1 := by omega
    have nB : i ≤ l.length + c := by omega
    have nA : i + 1 + (l.length - (i + 1)) ≤ l.length := by omega
    have nD : i + 1 ≤ l.length := by omega
    have hA1 : (l.take (i - c)).take (i - c) = l.take (i - c) := by rw [List.take_take, Nat.min_self]
    have hA2 : ∀ x : List V, (ndL (l.take (i - c)) ++ [x]).take (i - c + 1) = ndL (l.take (i - c)) ++ [x] := fun x => List.take_of_length_le (by rw [List.length_append, ndL_length, hta]; exact Nat.le_refl _)
    by_cases ha : i - c = 0
    · have ha2 : l.take (i - c) = [] := by rw [ha]; rfl
      by_cases hz : l.length - (i + 1) = 0
      · have hz2 : l.drop (i + 1) = [] := List.eq_nil_of_length_eq_zero (by omega)
        rcases hid with rfl | ⟨rfl, hid1⟩ | rfl
        rotate_left
        · omega
        all_goals simp [L17_0, R17_0, R17_1, R17_2, R17_3, R17_4, R17_5, R17_6, R17_7, R17_8, R17_9, R17_10, R17_11, R17_12, R17_13, Tryz.f17, lpL17_0, lpM17_0, M17_0, q4, q5, H1, hi2, E, hwn, ndL_length, ndL_take, ndL_takeI, ndL_dropI, w1, w3, wrap_00, f3, g1, g2, g3, g4, g5, g6, g6b, maxLen, okN, okN1, okN2, okN3, nB, nC, hta, hdz, hdt, n1, n2, n3, n4, n5, n6, n7, n8, n9, nA, nD, ha, ha2, hz, hz2]
        all_goals exact hp _ ⟨10328, st.tick + 1 + 1 + 1 + 1, .inr (.inl ⟨rfl, by rw [hfl]; omega⟩), by simp [hfl]; omega, by simp [ndO, hfo, ha2, hz2, ndL_app, ndL_c, ndL_n, ndE], by simp⟩
      · have hzne : ndL (l.drop (i + 1)) ≠ [] := by intro e; have := congrArg List.length e; rw [ndL_length, hdz] at this; exact hz this
        rcases hid with rfl | ⟨rfl, hid1⟩ | rfl
        rotate_left
        · omega
        all_goals simp [L17_0, R17_0, R17_1, R17_2, R17_3, R17_4, R17_5, R17_6, R17_7, R17_8, R17_9, R17_10, R17_11, R17_12, R17_13, Tryz.f17, lpL17_0, lpM17_0, M17_0, q4, q5, H1, hi2, E, hwn, ndL_length, ndL_take, ndL_takeI, ndL_dropI, w1, w3, wrap_00, f3, g1, g2, g3, g4, g5, g6, g6b, maxLen, okN, okN1, okN2, okN3, nB, nC, hta, hdz, hdt, n1, n2, n3, n4, n5, n6, n7, n8, n9, nA, nD, ha, ha2, hz, hzne]
        all_goals exact hp _ ⟨11368, st.tick + 1 + 1 + 1 + 1 + 1, .inr (.inr rfl), by simp [hfl]; omega, by simp [ndO, hfo, ha2, ndL_app, ndL_c, ndL_n, ndE], by simp⟩
    · have hane : ndL (l.take (i - c)) ≠ [] := by intro e; have := congrArg List.length e; rw [ndL_length, hta] at this; exact ha this
      by_cases hz : l.length - (i + 1) = 0
      · exfalso
        have e2 := fv_run hr hi hf
        have e3 := (runAt hr i hi).2.2.2
        rw [show i + 1 = l.length by omega, hr1, f1] at e3
        obtain ⟨q, hq⟩ : ∃ q, i - c = q + 1 := ⟨i - c - 1, by omega⟩
        have e4 := runO_pos (l := l) (i := q) (by rw [← hq]; omega)
        rw [hq] at e2
        omega
      · have hzne : ndL (l.drop (i + 1)) ≠ [] := by intro e; have := congrArg List.length e; rw [ndL_length, hdz] at this; exact hz this
        rcases hid with rfl | ⟨rfl, hid1⟩ | rfl
        rotate_left
        · omega
        all_goals simp [L17_0, R17_0, R17_1, R17_2, R17_3, R17_4, R17_5, R17_6, R17_7, R17_8, R17_9, R17_10, R17_11, R17_12, R17_13, Tryz.f17, lpL17_0, lpM17_0, M17_0, q4, q5, H1, hi2, E, hwn, ndL_length, ndL_take, ndL_takeI, ndL_dropI, w1, w3, wrap_00, f3, g1, g2, g3, g4, g5, g6, g6b, maxLen, okN, okN1, okN2, okN3, nB, nC, hta, hdz, hdt, n1, n2, n3, n4, n5, n6, n7, n8, n9, nA, nD, hA1, hA2, ha, hane, hz, hzne]
        all_goals exact hp _ ⟨11368, st.tick + 1 + 1 + 1 + 1 + 1, .inr (.inr rfl), by simp [hfl]; omega, by simp [ndO, hfo, ndL_app, ndL_c, ndL_n, ndE], by simp⟩
theorem spec_out (k : Nat) (hk : 300 ≤ k) : ∀ (n : Nat) (l : List (Int × Int)) (_ : l.length ≤ n) (_ : goodE l = true) (d : Nat) (i : Nat) (_ : i + d = l.length) (_ : srch l d = srch l l.length) (m : Nat) (_ : n * 20 + d + 2 ≤ m) (st : St) (_ : Ss st l i),
    ∃ s, loopRun (fun st => runCode C (callK C k) k (K 17) L17_0 1 st) [4, 5] m st = some (.ex 0, s) ∧ Se s (fAll n l) := by
  intro n
  induction n with
  | zero =>
    intro l hl hg
    have : l = [] := List.eq_nil_of_length_eq_zero (by omega)
    subst this
    simp [goodE, runO] at hg
  | succ n ihn =>
    intro l hl hg d
    have hg' := hg
    simp only [goodE, Bool.and_eq_true, decide_eq_true_eq] at hg'
    have hr : 0 ≤ runO l l.length := by omega
    induction d with
    | zero =>
      intro i hd hsr m hm st h
      obtain ⟨id, tk, hid, q4, H1, q5⟩ := h
      obtain ⟨m, rfl⟩ : ∃ q, m = q + 1 := ⟨m - 1, by omega⟩
      have hf : fAll (n + 1) l = l := by
        unfold fAll
        rw [← hsr]
        rfl
      rw [hf, loopRun_succ]
      have hi : i = l.length := by omega
      subst hi
      rcases hid with rfl | ⟨rfl, hid1⟩ | rfl
      all_goals simp [L17_0, R17_0, R17_1, R17_2, R17_3, R17_4, R17_5, R17_6, R17_7, R17_8, R17_9, R17_10, R17_11, R17_12, R17_13, Tryz.f17, lpL17_0, lpM17_0, q4, q5]
      · exact ⟨3128, tk, .inl rfl, by simp [q4], by simp [q4, H1]⟩
      · exact ⟨10328, tk, .inr (.inl ⟨rfl, hid1⟩), by simp [q4], by simp [q4, H1]⟩
      · exact ⟨11368, tk, .inr (.inr rfl), by simp [q4], by simp [q4, H1]⟩
    | succ d ihd =>
      intro i hd hsr m hm st h
      obtain ⟨m, rfl⟩ : ∃ q, m = q + 1 := ⟨m - 1, by omega⟩
      have hi : i < l.length := by omega
      have hat := srch_at hi
      rw [show l.length - i = d + 1 by omega, show l.length - (i + 1) = d by omega] at hat
      rw [loopRun_succ]
      refine fold_rnd k l hg hk i hi st h _ (fun r => ∃ s, r = some (.ex 0, s) ∧ Se s (fAll (n + 1) l)) ?_ ?_
      · intro hf s hS
        rw [hf] at hat
        exact ihd (i + 1) (by omega) (by rw [← hsr, hat]) m (by omega) s hS
      · intro c v hf s hS
        rw [hf] at hat
        obtain ⟨_, _, f3, f4, _⟩ := fv_facts hr hi hf
        have hl2 := fo_len (v := v) hi f3
        have he : fAll (n + 1) l = fAll n (fo l i c v) := by
          conv => lhs; unfold fAll
          rw [← hsr, hat]
        rw [he]
        exact ihn (fo l i c v) (by omega) (fo_good hg hi hf) (fo l i c v).length 0 (by omega) rfl m (by omega) s hS
theorem c_specFold (k : Nat) (b : Bool) (l : List (Int × Int)) (hg : goodE l = true) (hk : 400 ≤ k) : callK C k 17 [.sq b true 2 (ndL l)] [] = some (.tp [.s 0 2 2 0 (fAll l.length l).length, .c (.bool true)], hpOf [] [ndO (fAll l.length l)]) := by
  obtain ⟨k, rfl⟩ : ∃ m, k = m + 9 := ⟨k - 9, by omega⟩
  rw [callK_fn rfl F17 code17]
  have gd := c_l5Good (k + 8) b l (by omega)
  rw [hg] at gd
  have hg' := hg
  simp only [goodE, Bool.and_eq_true, decide_eq_true_eq] at hg'
  have h0 : l ≠ [] := by intro e; subst e; simp [goodE, runO] at hg
  have hn : ndL l ≠ [] := by simp [ndL, h0]
  have b2 : l.length * 16 ≤ 140737488355328 := by omega
  have b3 : l.length ≤ 9223372036854775807 := by omega
  have hL := spec_out (k + 8) (by omega) l.length l (Nat.le_refl _) hg l.length 0 (by omega) rfl (k + 8) (by omega)
  simp [R17_0, R17_1, R17_2, R17_3, R17_4, R17_5, R17_6, R17_7, R17_8, R17_9, R17_10, R17_11, R17_12, R17_13, Tryz.f17, lpL17_0, lpM17_0, gd, hn, ndL_length, okN, b2, b3, maxLen]
  generalize hr2 : loopRun _ _ _ _ = res
  obtain ⟨s1, rfl, id, tk, hid, q4, H1⟩ := loop_at hL hr2 ⟨3128, _, .inl rfl, by simp; rfl, by simp [ndO], by simp⟩
  simp [ndO] at H1
  rcases hid with rfl | ⟨rfl, hid1⟩ | rfl <;> simp [R17_0, R17_1, R17_2, R17_3, R17_4, R17_5, R17_6, R17_7, R17_8, R17_9, R17_10, R17_11, R17_12, R17_13, Tryz.f17, lpL17_0, lpM17_0, M17_0, q4, H1, ndO]
theorem c_specFoldNo (k : Nat) (b : Bool) (l : List (Int × Int)) (hg : goodE l = false) (hk : 400 ≤ k) : callK C k 17 [.sq b true 2 (ndL l)] [] = some (.tp [.s 0 2 2 0 0, .c (.bool false)], hpOf [] [ndO []]) := by
  obtain ⟨k, rfl⟩ : ∃ m, k = m + 9 := ⟨k - 9, by omega⟩
  rw [callK_fn rfl F17 code17]
  have gd := c_l5Good (k + 8) b l (by omega)
  rw [hg] at gd
  simp [R17_0, R17_1, R17_2, R17_3, R17_4, R17_5, R17_6, R17_7, R17_8, R17_9, R17_10, R17_11, R17_12, R17_13, Tryz.f17, lpL17_0, lpM17_0, gd, ndO, ndL_n]

end Go.Proofs.YtbjmfjfnilmhhaaGreatDoor.Eng
namespace Go.Proofs.YtbjmfjfnilmhhaaGreatDoor.Eng
open Go Go.Proofs
set_option maxRecDepth 100000
set_option maxHeartbeats 2000000
set_option linter.unusedSimpArgs false
set_option linter.unusedVariables false
/-- What a node comes to, given the values on the stack (the lowest one ahead). -/
def valN (w h : Int) (Fs : List Fd) (p : Int × Int) (A : List (List Int)) : Option (List Int) :=
  if p.1 = 1 then (Fs[p.2.toNat]?).map Fd.l
  else if p.1 = 2 then some (List.replicate (w * h).toNat p.2)
  else if p.1 = 7 then some (chgM (exG p.2) (A.getD (A.length - 1) []))
  else if goodB w h (List.zipWith (combG (p.1 - 2)) (A.getD (A.length - 2) []) (A.getD (A.length - 1) [])) then some (List.zipWith (combG (p.1 - 2)) (A.getD (A.length - 2) []) (A.getD (A.length - 1) [])) else none
/-- The values on the stack behind n nodes. -/
def evA (w h : Int) (Fs : List Fd) (l : List (Int × Int)) : Nat → Option (List (List Int))
  | 0 => some []
  | n + 1 => (evA w h Fs l n).bind fun A => (valN w h Fs (l.getD n (0, 0)) A).map fun z => A.take (A.length - (arI (l.getD n (0, 0))).toNat) ++ [z]
theorem evA_succ (w h : Int) (Fs : List Fd) (l : List (Int × Int)) (n : Nat) : evA w h Fs l (n + 1) = (evA w h Fs l n).bind fun A => (valN w h Fs (l.getD n (0, 0)) A).map fun z => A.take (A.length - (arI (l.getD n (0, 0))).toNat) ++ [z] := rfl
theorem arI_0 {p : Int × Int} (h : arI p = 0) : (p.1 = 1 ∧ 0 ≤ p.2 ∧ p.2 ≤ 3) ∨ (p.1 = 2 ∧ 0 ≤ p.2 ∧ p.2 ≤ 9000) := by
  unfold arI at h
  split at h
  · assumption
  · split at h
    · omega
    · split at h <;> omega
theorem arI_1 {p : Int × Int} (h : arI p = 1) : p.1 = 7 ∧ 0 ≤ p.2 ∧ p.2 ≤ 9000 := by
  unfold arI at h
  split at h
  · omega
  · split at h
    · omega
    · split at h
      · assumption
      · omega
theorem arI_2 {p : Int × Int} (h : arI p = 2) : 3 ≤ p.1 ∧ p.1 ≤ 6 ∧ p.2 = 0 := by
  unfold arI at h
  split at h
  · omega
  · split at h
    · rename_i h1; exact ⟨h1.1.1, h1.1.2, h1.2⟩
    · split at h <;> omega
theorem good_repl {w h v : Int} (hs : shapeB w h = true) (h0 : 0 ≤ v) (h1 : v ≤ 9000) : goodB w h (List.replicate (w * h).toNat v) = true := by
  have := shape_area hs
  unfold goodB
  rw [hs]
  simp only [Bool.true_and, Bool.and_eq_true, beq_iff_eq, List.length_replicate, List.all_eq_true]
  refine ⟨by omega, fun x hx => ?_⟩
  rw [List.eq_of_mem_replicate hx]
  simp [cellB]
  omega
theorem good_shape {w h : Int} {l : List Int} (h' : goodB w h l = true) : shapeB w h = true := by
  unfold goodB at h'
  simp only [Bool.and_eq_true] at h'
  exact h'.1
theorem getD_mem {A : List (List Int)} {i : Nat} (h : i < A.length) : A.getD i [] ∈ A := by
  rw [List.getD_eq_getElem?_getD, List.getElem?_eq_getElem h]
  exact List.getElem_mem h
theorem valN_good {w h : Int} {Fs : List Fd} {p : Int × Int} {A : List (List Int)} {z : List Int} (hs : shapeB w h = true) (hF : ∀ q ∈ Fs, goodB w h q.l = true) (hA : ∀ x ∈ A, goodB w h x = true) (ha : 0 ≤ arI p) (hl : (arI p).toNat ≤ A.length) (hz : valN w h Fs p A = some z) : goodB w h z = true := by
  unfold valN at hz
  split at hz
  · obtain ⟨q, hq, rfl⟩ := Option.map_eq_some_iff.1 hz
    exact hF q (List.mem_of_getElem? hq)
  rename_i n1
  split at hz
  · rename_i e2
    cases hz
    rcases ar_cases p with e | e | e | e
    · have := arI_0 e; exact good_repl hs (by omega) (by omega)
    · have := arI_1 e; omega
    · have := arI_2 e; omega
    · omega
  rename_i n2
  split at hz
  · rename_i e7
    cases hz
    rcases ar_cases p with e | e | e | e
    · have := arI_0 e; omega
    · rw [e] at hl
      exact good_chg (hA _ (getD_mem (by simp at hl; omega))) (ex_cell p.2)
    · have := arI_2 e; omega
    · omega
  · split at hz
    · rename_i hg; cases hz; exact hg
    · cases hz
theorem evA_ok {w h : Int} {Fs : List Fd} {l : List (Int × Int)} (hs : shapeB w h = true) (hF : ∀ q ∈ Fs, goodB w h q.l = true) : ∀ (n : Nat) (A : List (List Int)), 0 ≤ runO l n → evA w h Fs l n = some A → (A.length : Int) = runO l n ∧ ∀ x ∈ A, goodB w h x = true
  | 0, A, _, h => by cases h; simp [runO]
  | n + 1, A, hr, h => by
    obtain ⟨h1, h2, h3, h4⟩ := runO_back hr
    unfold evA at h
    obtain ⟨B, hB, h⟩ := Option.bind_eq_some_iff.1 h
    obtain ⟨z, hz, rfl⟩ := Option.map_eq_some_iff.1 h
    obtain ⟨i1, i2⟩ := evA_ok hs hF n B h1 hB
    refine ⟨?_, fun x hx => ?_⟩
    · rw [h4]
      simp only [List.length_append, List.length_take, List.length_cons, List.length_nil]
      omega
    · rcases List.mem_append.1 hx with hx | hx
      · exact i2 x (List.mem_of_mem_take hx)
      · rw [List.mem_singleton.1 hx]
        exact valN_good hs hF i2 h2 (by omega) hz
/-- What a whole expression comes to. -/
def evV (w h : Int) (Fs : List Fd) (l : List (Int × Int)) : Option (List Int) := (evA w h Fs l l.length).map fun A => A.headD []
def resF (w h : Int) (r : Option (List Int)) : Option (V × Hp) := match r with
  | some z => some (.tp [ownV w h 0 2 z.length, .c (.bool true)], hpOf [] [intsO z])
  | none => some (.tp [nilV, .c (.bool false)], hpOf [] [])

end Go.Proofs.YtbjmfjfnilmhhaaGreatDoor.Eng
