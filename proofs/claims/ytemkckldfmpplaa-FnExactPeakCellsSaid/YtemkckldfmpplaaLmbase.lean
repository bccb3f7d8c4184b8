/- A deterministic reading of Go code over plain data: what functions of the program compute. No conditions. -/
import Derived.Test.YtemkckldfmpplaaEngT
import Derived.IntWalk
namespace Go.Proofs.Ytemkckldfmpplaa.Eng
open Go Go.Proofs
set_option maxRecDepth 100000
set_option maxHeartbeats 2000000
set_option linter.unusedSimpArgs false
set_option linter.unusedVariables false
attribute [local simp] finK fin1 hpOf xi renQ isRoot runCode runOps stepX inlOf Eng.step wantedV astep val ofO made loadV storeV find V.cells bin binT binA numT numFs eqCells un1 setAt fieldAddrV fieldV indexAddrV indexV bounds sliceV convV lenV foldV max2V min2V callO bor rdsO wrsO seen_none okD_none loops keepIds resV resultsV St.ev TK.agg refs refsL refsO V.one V.isC Value.oneCell' ren renL renO noTag noTagL noTagR noTagO nodup mapO passV frs psi refsR newD loopNext opsAt idx flatAt rootOf backR newsV appendV copyV clearV strV bytesV bldV bufV selfV bytesOf nilCmp buildV fillF chunk
attribute [local simp] cT cF cX cWR cOW cK cBL X ints_length ints_get ints_getElem ints_drop ints_take ints_append ints_nil ints_set
attribute [local simp] T3 T4 T22 T24 T26 T29 T44
theorem wrap_small {n : Int} (h : -9223372036854775808 ≤ n) (h' : n ≤ 9223372036854775807) : IntKind.i64.wrap n = n := IntWalk.i64_in _ ⟨h, h'⟩
def cellB (n : Int) : Bool := n == -9999 || (decide (-9000 ≤ n) && decide (n ≤ 9000))
def shapeB (x y : Int) : Bool := (decide (1 ≤ x) && decide (x ≤ 8)) && (decide (1 ≤ y) && decide (y ≤ 8))
def goodB (w h : Int) (l : List Int) : Bool := shapeB w h && (((l.length : Int) == w * h) && l.all cellB)
def fldV (b : Bool) (w h : Int) (l : List Int) : V := .ag [.c (.int .i64 w), .c (.int .i64 h), .sq b true 1 (ints l)]
def intV (n : Int) : V := .c (.int .i64 n)
def boolV (b : Bool) : V := .c (.bool b)
theorem shape_area {w h : Int} (hs : shapeB w h = true) : 0 ≤ w * h ∧ w * h ≤ 64 ∧ 1 ≤ w ∧ w ≤ 8 ∧ 1 ≤ h ∧ h ≤ 8 := by
  unfold shapeB at hs
  simp only [Bool.and_eq_true, decide_eq_true_eq] at hs
  obtain ⟨⟨hw1, hw2⟩, hh1, hh2⟩ := hs
  exact ⟨Int.mul_nonneg (by omega) (by omega), by have := Int.mul_le_mul hw2 hh2 (by omega) (by omega); omega, hw1, hw2, hh1, hh2⟩
theorem good_length {w h : Int} {l : List Int} (hg : goodB w h l = true) : shapeB w h = true ∧ (l.length : Int) = w * h ∧ l.all cellB = true ∧ l.length ≤ 64 := by
  unfold goodB at hg
  simp only [Bool.and_eq_true, beq_iff_eq] at hg
  have := shape_area hg.1
  exact ⟨hg.1, hg.2.1, hg.2.2, by omega⟩
/-- A loop, by what holds at its head before round i. -/
theorem loopInd {body : St → Option (Ex × St)} {keep : List Nat} {P : Option (Ex × St) → Prop} (I : Nat → St → Prop) (n : Nat)
    (hs : ∀ i st next, i < n → I i st → (∀ st', I (i + 1) st' → P (next st')) → P (loopNext (body (gc keep st)) next))
    (hf : ∀ st next, I n st → P (loopNext (body (gc keep st)) next)) : ∀ (d i k : Nat) (st : St), i + d = n → d < k → I i st → P (loopRun body keep k st) := by
  intro d
  induction d with
  | zero =>
    intro i k st hi hk h
    obtain ⟨k, rfl⟩ : ∃ m, k = m + 1 := ⟨k - 1, by omega⟩
    obtain rfl : i = n := by omega
    rw [loopRun_succ]
    exact hf st _ h
  | succ d ih =>
    intro i k st hi hk h
    obtain ⟨k, rfl⟩ : ∃ m, k = m + 1 := ⟨k - 1, by omega⟩
    rw [loopRun_succ]
    exact hs i st _ (by omega) h fun st' h' => ih (i + 1) k st' (by omega) (by omega) h'
/-- The same, with a word for the state behind it. -/
theorem loopOut {body : St → Option (Ex × St)} {keep : List Nat} (e : Ex) (R : St → Prop) (I : Nat → St → Prop) (n k : Nat) (hk : n < k)
    (hs : ∀ i st next, i < n → I i st → (∀ st', I (i + 1) st' → ∃ s, next st' = some (e, s) ∧ R s) → ∃ s, loopNext (body (gc keep st)) next = some (e, s) ∧ R s)
    (hf : ∀ st next, I n st → ∃ s, loopNext (body (gc keep st)) next = some (e, s) ∧ R s) :
    ∃ out : St → St, ∀ st, I 0 st → loopRun body keep k st = some (e, out st) ∧ R (out st) := by
  obtain ⟨out, h1, h2⟩ := outOf (D := I 0) (LP := loopRun body keep k) (e := e) (R := fun _ s => R s) (fun st h0 => loopInd (P := fun r => ∃ s, r = some (e, s) ∧ R s) I n hs hf n 0 k st (by omega) hk h0)
  exact ⟨out, fun st h => ⟨h1 st h, h2 st h⟩⟩
/-- A list being written over by another, from the left. -/
def fillL (l m : List Int) (i : Nat) : List Int := l.take i ++ m.drop i
theorem fillL_zero (l m : List Int) : fillL l m 0 = m := by simp [fillL]
theorem fillL_all (l m : List Int) (h : m.length ≤ l.length) : fillL l m l.length = l := by simp [fillL, List.drop_eq_nil_of_le h]
theorem fillL_length (l m : List Int) (i : Nat) (h : m.length = l.length) : (fillL l m i).length = l.length := by simp [fillL]; omega
theorem fillL_get (l m : List Int) (i : Nat) (h : m.length = l.length) (hi : i < l.length) : (fillL l m i)[i]? = some (m[i]'(by omega)) := by
  unfold fillL
  rw [List.getElem?_append_right (by simp; omega)]
  have : i - (l.take i).length = 0 := by simp; omega
  rw [this, List.getElem?_drop, List.getElem?_eq_getElem (by omega)]
  rfl
theorem fillL_set (l m : List Int) (i : Nat) (h : m.length = l.length) (hi : i < l.length) : (fillL l m i).set i l[i] = fillL l m (i + 1) := by
  unfold fillL
  rw [List.set_append, if_neg (by simp; omega)]
  have : i - (l.take i).length = 0 := by simp; omega
  rw [this, List.drop_eq_getElem_cons (by omega : i < m.length), List.set_cons_zero, List.take_succ_eq_append_getElem hi, List.append_assoc]
  rfl
theorem wrap_next {i n : Nat} (h : i < n) (hn : n ≤ 9000000000000000000) : IntKind.i64.wrap ((i : Int) + 1) = (i : Int) + 1 := wrap_small (by omega) (by omega)
theorem ints_replicate (n : Nat) (a : Int) : List.replicate n [V.c (.int .i64 a)] = ints (List.replicate n a) := by simp [ints]
theorem okI (ty : TypeId) (l : List Int) : okObj ⟨ty, 1, true, ints l⟩ = true := by simp [okObj, ints, V.one, V.isC, Value.oneCell']
theorem ok_1 (ty : TypeId) (sz : Nat) (fl : Bool) (e : List V) : okObj ⟨ty, sz, fl, [e]⟩ = (e.length == sz && e.all fun x => x.one && (!fl || x.isC)) := by simp [okObj]
theorem ok_2 (ty : TypeId) (sz : Nat) (fl : Bool) (e e' : List V) : okObj ⟨ty, sz, fl, [e, e']⟩ = ((e.length == sz && e.all fun x => x.one && (!fl || x.isC)) && (e'.length == sz && e'.all fun x => x.one && (!fl || x.isC))) := by simp [okObj]
theorem ok_0 (ty : TypeId) (sz : Nat) (fl : Bool) : okObj ⟨ty, sz, fl, []⟩ = true := rfl
theorem wrap_1 : IntKind.i64.wrap 1 = 1 := rfl
theorem wrap_2 : IntKind.i64.wrap 2 = 2 := rfl
/-- A field that is only read: its slice's mark, its shape, its cells. -/
structure Fd where
  b : Bool
  w : Int
  h : Int
  l : List Int
def Fd.cells (q : Fd) : List V := [.c (.int .i64 q.w), .c (.int .i64 q.h), .sq q.b true 1 (ints q.l)]
def Fd.good (q : Fd) : Bool := goodB q.w q.h q.l
theorem young_far {rid j id : Nat} {W : List (Nat × Nat)} {ops : List Oper} (h : (decide (rid * 64 < id / 16) && decide (id / 16 ≤ rid * 64 + 64)) = false) : youngOf (some (rid, W)) ops j id = hidW W ops j id := by simp [youngOf, h]
theorem hidW_nil (ops : List Oper) (j id : Nat) : hidW [] ops j id = false := rfl
theorem mayW_nil (j id : Nat) : mayW [] j id = true := rfl
theorem young_none {j id : Nat} {ops : List Oper} : youngOf none ops j id = false := rfl
/-! Slots and objects are looked up one by one; a state is never opened under a binder. -/
theorem putV_some (ρ : Nat → V) (d x : Nat) (v : V) : putV ρ (some d) v x = if x = d then v else ρ x := rfl
theorem putV_none (ρ : Nat → V) (v : V) : putV ρ none v = ρ := rfl
def putH (H : Hp) (i : Nat) (o : Option (Nat × Eng.Obj)) : Hp := fun id => if id = i then o else H id
theorem putH_app (H : Hp) (i id : Nat) (o : Option (Nat × Eng.Obj)) : putH H i o id = if id = i then o else H id := rfl
theorem applyD_nil (H : Hp) : applyD H [] = H := rfl
theorem applyD_cons (H : Hp) (i : Nat) (o : Option (Nat × Eng.Obj)) (δ : List (Nat × Option (Nat × Eng.Obj))) : applyD H ((i, o) :: δ) = applyD (putH H i o) δ := rfl
theorem seen_app (rid j id : Nat) (W : List (Nat × Nat)) (ops : List Oper) (H : Hp) : Eng.seen (some (rid, W)) ops j H id = if youngOf (some (rid, W)) ops j id then none else H id := rfl
theorem gc_ρ (l : List Nat) (st : St) (x : Nat) : (gc l st).ρ x = if l.contains x then st.ρ x else .un := rfl
theorem gc_H (l : List Nat) (st : St) (id : Nat) : (gc l st).H id = if decide (id < 16) || (keepIds l st).contains id || l.contains 999 then st.H id else none := rfl
theorem gc_tick (l : List Nat) (st : St) : (gc l st).tick = st.tick := rfl
theorem st0_ρ (args : List V) (frag : List Eng.Obj) (x : Nat) : (st0 args frag).ρ x = args.getD x (.c undef) := rfl
theorem st0_H (args : List V) (frag : List Eng.Obj) (id : Nat) : (st0 args frag).H id = (frag[id]?).map fun o => (0, o) := rfl
theorem st0_tick (args : List V) (frag : List Eng.Obj) : (st0 args frag).tick = 1 := rfl
/-! Calls and ends, said without a state under a binder. -/
def retV (tick site : Nat) (v : V) (Hc : Hp) : Out :=
  if nodup ((refs v).map (·.1)) && noTag v && decide ((refs v).length ≤ 16) then
    match mapO (flatAt Hc) (refs v), ren (psi [] (refs v) site tick) v with
    | some objs, some v' => some (some v', newD tick (16 * site) objs)
    | _, _ => none
  else none
def callRo (call : CallF) (tick site : Nat) (f : FuncId) (al : Option (List V)) : Out :=
  match al with
  | none => none
  | some al => match call f al [] with
    | none => none
    | some (v, Hc) => retV tick site v Hc
theorem isRoot_0 (q : Nat × Nat) : isRoot 0 q = false := rfl
theorem filter_0 (l : List (Nat × Nat)) : l.filter (fun q => !isRoot 0 q) = l := by
  rw [List.filter_eq_self]; intro q _; rfl
def borL (H : Hp) (l : List V) : Option (List V) := mapO (bor H 4) l
theorem borL_nil (H : Hp) : borL H [] = some [] := by unfold borL; rw [mapO]
theorem borL_cons (H : Hp) (x : V) (l : List V) : borL H (x :: l) = (match bor H 4 x with
    | none => none
    | some y => match borL H l with
      | none => none
      | some l' => some (y :: l')) := by
  unfold borL
  rw [mapO]
  cases bor H 4 x <;> simp only [] <;> cases mapO (bor H 4) l <;> rfl
theorem callV_ro {C : Cfg} {call : CallF} {H : Hp} {tick site : Nat} {f : FuncId} {args : List V} (h : C.wr f = false) : callV C call H tick site f args = callRo call tick site f (borL H args) := by
  show _ = callRo call tick site f (mapO (bor H 4) args)
  have hp : passV false (C.own f) (fun id => if List.contains (List.map (·.1) ([] : List (Nat × Nat))) id = true then none else H id) (frs []) = bor H 4 := by
    funext x
    have hh : (fun id => if List.contains (List.map (·.1) ([] : List (Nat × Nat))) id = true then none else H id) = H := by funext id; rfl
    rw [hh]
    cases x <;> rfl
  unfold callV callRo
  simp only [h, Bool.false_eq_true, if_false, mapO, List.flatMap_nil, List.append_nil, List.map_nil, List.nil_append]
  simp only [List.map_nil] at hp
  rw [hp, if_pos (show nodup [] = true from rfl)]
  cases mapO (bor H 4) args with
  | none => rfl
  | some al =>
    simp only []
    cases call f al [] with
    | none => rfl
    | some r =>
      obtain ⟨v, Hc⟩ := r
      simp only [retV, List.length_nil, List.range_zero, List.map_nil, refsR, List.append_nil, noTagR, Bool.and_true, List.zip_nil_left, mapO, filter_0, List.nil_append]
      cases nodup ((refs v).map (·.1)) && noTag v && decide ((refs v).length ≤ 16) with
      | false => rfl
      | true =>
        simp only [if_true]
        cases mapO (flatAt Hc) (refs v) <;> cases ren (psi [] (refs v) site tick) v <;> rfl
def cutH (H : Hp) (ids : List Nat) : Hp := fun id => if ids.contains id then none else H id
theorem cutH_app (H : Hp) (ids : List Nat) (id : Nat) : cutH H ids id = if ids.contains id then none else H id := rfl
def findQ (H : Hp) (q : Nat × Nat) : Option Eng.Obj := find H q.1 q.2
def afterV (Hc : Hp) : Nat → List (Option Eng.Obj)
  | 0 => []
  | n + 1 => afterV Hc n ++ [find Hc n 0]
theorem afterV_is (Hc : Hp) (n : Nat) : (List.range n).map (fun i => find Hc i 0) = afterV Hc n := by
  induction n with
  | zero => rfl
  | succ n ih => rw [List.range_succ, List.map_append, ih]; rfl
def callWr (C : Cfg) (call : CallF) (H : Hp) (tick site : Nat) (f : FuncId) (args : List V) (roots : List (Nat × Nat)) : Out :=
  match mapO (findQ H) roots with
  | none => none
  | some robjs =>
    match mapO (flatAt H) (robjs.flatMap refsO) with
    | none => none
    | some sobjs =>
      if nodup ((roots ++ robjs.flatMap refsO).map (·.1)) then
        match mapO (passV true (C.own f) (cutH H ((roots ++ robjs.flatMap refsO).map (·.1))) (frs (roots ++ robjs.flatMap refsO))) args, mapO (renO (frs (roots ++ robjs.flatMap refsO))) robjs with
        | some al, some fr =>
          match call f al (fr ++ sobjs) with
          | none => none
          | some (v, Hc) =>
            let after := afterV Hc roots.length
            let pulled := (refs v ++ refsR after).filter (fun q => !isRoot roots.length q)
            if nodup (pulled.map (·.1)) && noTag v && decide (pulled.length ≤ 16) && noTagR after then
              match mapO (flatAt Hc) pulled, ren (psi roots pulled site tick) v, mapO (backR (psi roots pulled site tick)) (roots.zip after) with
              | some objs, some v', some rs => some (some v', rs ++ ((robjs.flatMap refsO).map (fun q => (q.1, none)) ++ newD tick (16 * site) objs))
              | _, _, _ => none
            else none
        | _, _ => none
      else none
theorem callV_wr {C : Cfg} {call : CallF} {H : Hp} {tick site : Nat} {f : FuncId} {args : List V} (h : C.wr f = true) : callV C call H tick site f args = callWr C call H tick site f args (args.flatMap (rootOf (C.own f))) := by
  unfold callV callWr
  simp only [h, if_true, ← afterV_is]
  rfl
theorem exportV_0 (v : V) (H : Hp) : exportV 0 v H = if nodup ((refs v).map (·.1)) then (match mapO (flatAt H) (refs v), ren (xi 0 (refs v)) v with
    | some objs, some v' => some (v', hpOf [] objs)
    | _, _ => none) else none := by
  simp only [exportV, List.range_zero, List.map_nil, refsR, List.append_nil, filter_0, mapO]
  cases nodup ((refs v).map (·.1)) with
  | false => rfl
  | true =>
    simp only [if_true]
    cases mapO (flatAt H) (refs v) <;> cases ren (xi 0 (refs v)) v <;> rfl
theorem exportV_n (n : Nat) (v : V) (H : Hp) : exportV (n + 1) v H =
    (if nodup (((refs v ++ refsR (afterV H (n + 1))).filter (fun q => !isRoot (n + 1) q)).map (·.1)) then
      match mapO (flatAt H) ((refs v ++ refsR (afterV H (n + 1))).filter (fun q => !isRoot (n + 1) q)), ren (xi (n + 1) ((refs v ++ refsR (afterV H (n + 1))).filter (fun q => !isRoot (n + 1) q))) v, mapO (renQ (xi (n + 1) ((refs v ++ refsR (afterV H (n + 1))).filter (fun q => !isRoot (n + 1) q)))) (afterV H (n + 1)) with
      | some objs, some v', some after' => some (v', hpOf after' objs)
      | _, _, _ => none
    else none) := by
  simp only [exportV, afterV_is]
  rfl
theorem okD_nil (dr : Dr) (yg : Nat → Bool) (H : Hp) (site : Nat) (wr : Bool) : okD dr yg H site wr [] = true := by cases dr <;> rfl
theorem okD_cons (rid : Nat) (W : List (Nat × Nat)) (yg : Nat → Bool) (H : Hp) (site i : Nat) (wr : Bool) (o : Option (Nat × Eng.Obj)) (δ : List (Nat × Option (Nat × Eng.Obj))) : okD (some (rid, W)) yg H site wr ((i, o) :: δ) =
    ((if i / 16 = site ∧ i % 16 < 8 then (H i).isNone && o.isSome else wr && !yg i && mayW W (site - rid * 64 - 1) i) && okD (some (rid, W)) yg H site wr δ) := rfl
theorem sub_seq0 (p : List Nat) (a b : Code) : subC (0 :: p) (.seq a b) = subC p a := rfl
theorem sub_seq1 (p : List Nat) (a b : Code) : subC (1 :: p) (.seq a b) = subC p b := rfl
theorem sub_cond0 (p : List Nat) (t : Operand) (a b : Code) : subC (0 :: p) (.cond t a b) = subC p a := rfl
theorem sub_cond1 (p : List Nat) (t : Operand) (a b : Code) : subC (1 :: p) (.cond t a b) = subC p b := rfl
theorem sub_block (p : List Nat) (i : Nat) (a : Code) : subC (0 :: p) (.block i a) = subC p a := rfl
theorem sub_loop (p : List Nat) (a : Code) : subC (0 :: p) (.loop a) = subC p a := rfl
theorem sub_nil (c : Code) : subC [] c = c := by cases c <;> rfl
theorem fillL_keep (l m : List Int) (i : Nat) (h : m.length = l.length) (hi : i < l.length) (he : m[i]'(by omega) = l[i]) : fillL l m (i + 1) = fillL l m i := by
  rw [← fillL_set l m i h hi, ← he]
  have hg := fillL_get l m i h hi
  obtain ⟨hl, hg'⟩ := List.getElem?_eq_some_iff.1 hg
  rw [← hg', List.set_getElem_self]
def intsO (l : List Int) : Eng.Obj := ⟨3, 1, true, ints l⟩
theorem young_near {rid j id : Nat} {W : List (Nat × Nat)} {ops : List Oper} (h : (decide (rid * 64 < id / 16) && decide (id / 16 ≤ rid * 64 + 64)) = true) : youngOf (some (rid, W)) ops j id = ((decide (id % 16 < 8) && !((clo ops).getD j 0).testBit (id / 16 - rid * 64 - 1)) || hidW W ops j id) := by simp [youngOf, h]
theorem ints_snoc (l : List Int) (a : Int) : ints l ++ [[V.c (.int .i64 a)]] = ints (l ++ [a]) := by simp only [ints, List.map_append, List.map_cons, List.map_nil]
theorem take_self (l : List Int) (n : Nat) : (l.take n).take n = l.take n := by rw [List.take_take, Nat.min_self]
/-- A loop, asked of one state: what it leaves. -/
theorem loopHas {body : St → Option (Ex × St)} {keep : List Nat} (e : Ex) (R : St → Prop) (I : Nat → St → Prop) (n k : Nat) (hk : n < k)
    (hs : ∀ i st next, i < n → I i st → (∀ st', I (i + 1) st' → ∃ s, next st' = some (e, s) ∧ R s) → ∃ s, loopNext (body (gc keep st)) next = some (e, s) ∧ R s)
    (hf : ∀ st next, I n st → ∃ s, loopNext (body (gc keep st)) next = some (e, s) ∧ R s) :
    ∀ st, I 0 st → ∃ s, loopRun body keep k st = some (e, s) ∧ R s :=
  fun st h0 => loopInd (P := fun r => ∃ s, r = some (e, s) ∧ R s) I n hs hf n 0 k st (by omega) hk h0
theorem loop_at {LP : St → Option (Ex × St)} {e : Ex} {D R : St → Prop} (h : ∀ st, D st → ∃ s, LP st = some (e, s) ∧ R s) {st : St} {res : Option (Ex × St)} (hr : LP st = res) (hD : D st) : ∃ s, res = some (e, s) ∧ R s := by
  obtain ⟨s, h1, h2⟩ := h st hD
  exact ⟨s, hr ▸ h1, h2⟩
theorem run_at {e : Option (V × Hp)} {x : Option (V × Hp)} (h : x = e) : x = e := h
theorem callV_if {C : Cfg} {call : CallF} {H : Hp} {tick site : Nat} {f : FuncId} {args : List V} : callV C call H tick site f args = if C.wr f = true then callWr C call H tick site f args (args.flatMap (rootOf (C.own f))) else callRo call tick site f (borL H args) := by
  cases h : C.wr f
  · rw [callV_ro h, if_neg (by decide)]
  · rw [callV_wr h, if_pos rfl]

end Go.Proofs.Ytemkckldfmpplaa.Eng
