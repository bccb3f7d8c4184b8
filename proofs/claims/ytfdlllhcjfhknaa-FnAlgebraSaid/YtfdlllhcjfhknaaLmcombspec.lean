/- A deterministic reading of Go code over plain data: what functions of the program compute. No conditions. -/
import Derived.Test.YtfdlllhcjfhknaaLmbase
import Derived.Test.YtfdlllhcjfhknaaLmimpl
import Derived.Test.YtfdlllhcjfhknaaLmimplc
import Derived.Test.YtfdlllhcjfhknaaLmgood
import Derived.Test.YtfdlllhcjfhknaaLmspec
import Derived.Test.YtfdlllhcjfhknaaLmcombfrom
import Derived.Test.YtfdlllhcjfhknaaLmminmax
import Derived.Test.YtfdlllhcjfhknaaEngT
namespace Go.Proofs.Ytfdlllhcjfhknaa.Eng
open Go Go.Proofs
set_option maxRecDepth 100000
set_option maxHeartbeats 2000000
set_option linter.unusedSimpArgs false
set_option linter.unusedVariables false
attribute [local simp] finK fin1 hpOf xi renQ isRoot runCode runOps Eng.step wantedV astep val ofO made loadV storeV find V.cells bin binT un1 setAt fieldAddrV fieldV indexAddrV indexV bounds sliceV convV lenV foldV max2V min2V callO bor rdsO wrsO seen_none okD_none loops keepIds resV resultsV St.ev TK.agg refs refsL refsO V.one V.isC Value.oneCell' ren renL renO noTag noTagL noTagR noTagO nodup mapO passV frs psi refsR newD loopNext opsAt idx flatAt rootOf backR newsV appendV copyV clearV strV bytesOf nilCmp buildV fillF chunk
attribute [local simp] cT cF cX cWR cOW cK X ints_length ints_get ints_getElem ints_drop ints_take ints_append ints_nil ints_set
attribute [local simp] ints_replicate
attribute [local simp] putV_some putV_none putH_app applyD_nil applyD_cons seen_app gc_ρ gc_H gc_tick st0_ρ st0_H st0_tick retV callRo callV_if borL_nil borL_cons ints_snoc take_self callWr cutH_app findQ afterV exportV_0 exportV_n okD_nil okD_cons sub_seq0 sub_seq1 sub_cond0 sub_cond1 sub_block sub_loop sub_nil young_far young_none hidW_nil mayW_nil pairs okI ok_0 ok_1 ok_2
attribute [local simp] T3 T4 T5 T9 T22 T24 T26 T29 T36 T73 T75 T86 T89 T103 T104 T106 T108 T109 T111 T114 T118 T134 T136 T157 T161 T168
def opG (op x y : Int) : Int := if op = 1 then x + y else if op = 2 then x - y else if op = 3 then (if x < y then x else y) else (if x > y then x else y)
def missB (x y : Int) : Bool := x == -9999 || y == -9999
def specG (op x y : Int) : Int := if missB x y then -9999 else opG op x y
def okE (op x y : Int) : Bool := missB x y || (decide (-9000 ≤ opG op x y) && decide (opG op x y ≤ 9000))
theorem opG_bound {op x y : Int} (hx : cellB x = true) (hy : cellB y = true) : -20000 ≤ opG op x y ∧ opG op x y ≤ 20000 := by
  have := cell_bound hx
  have := cell_bound hy
  unfold opG
  split <;> try split <;> try split <;> try split
  all_goals omega
theorem comb_ok {op x y : Int} (hx : cellB x = true) (hy : cellB y = true) : cellB (combG op x y) = okE op x y ∧ (okE op x y = true → combG op x y = specG op x y) := by
  have bx := hx
  have by' := hy
  simp only [cellB, Bool.or_eq_true, beq_iff_eq, Bool.and_eq_true, decide_eq_true_eq] at bx by'
  by_cases h : x = -9999
  · simp [combG, okE, specG, missB, h, cellB]
  by_cases h' : y = -9999
  · simp [combG, okE, specG, missB, h, h', cellB]
  have key : cellB (combG op x y) = (decide (-9000 ≤ opG op x y) && decide (opG op x y ≤ 9000)) ∧ ((decide (-9000 ≤ opG op x y) && decide (opG op x y ≤ 9000)) = true → combG op x y = opG op x y) := by
    rw [Bool.eq_iff_iff]
    simp only [cellB, Bool.or_eq_true, beq_iff_eq, Bool.and_eq_true, decide_eq_true_eq]
    simp only [combG, h, h', or_self, if_false, opG, ckI]
    split
    · split <;> omega
    split
    · split <;> omega
    split
    · split <;> split <;> omega
    · split <;> split <;> omega
  have e0 : okE op x y = (decide (-9000 ≤ opG op x y) && decide (opG op x y ≤ 9000)) := by
    have e1 : missB x y = false := by simp [missB, h, h']
    simp [okE, e1]
  refine ⟨by rw [e0]; exact key.1, fun ho => ?_⟩
  rw [key.2 (by rw [← e0]; exact ho)]
  simp [specG, missB, h, h']
def okL (op : Int) : List Int → List Int → Bool
  | x :: l, y :: m => okE op x y && okL op l m
  | _, _ => true
theorem okL_snoc (op : Int) : ∀ (l m : List Int) (x y : Int), l.length = m.length → okL op (l ++ [x]) (m ++ [y]) = (okL op l m && okE op x y)
  | [], [], x, y, _ => by simp [okL]
  | a :: l, b :: m, x, y, h => by
    simp only [List.cons_append, okL, okL_snoc op l m x y (by simpa using h), Bool.and_assoc]
theorem comb_all (op : Int) : ∀ (l m : List Int), l.length = m.length → l.all cellB = true → m.all cellB = true → (List.zipWith (combG op) l m).all cellB = okL op l m ∧ (okL op l m = true → List.zipWith (combG op) l m = List.zipWith (specG op) l m)
  | [], [], _, _, _ => by simp [okL]
  | x :: l, y :: m, h, hl, hm => by
    simp only [List.all_cons, Bool.and_eq_true] at hl hm
    obtain ⟨i1, i2⟩ := comb_all op l m (by simpa using h) hl.2 hm.2
    obtain ⟨c1, c2⟩ := comb_ok (op := op) hl.1 hm.1
    simp only [List.zipWith_cons_cons, List.all_cons, okL, i1, c1, true_and, Bool.and_eq_true]
    intro ⟨h1, h2⟩
    rw [c2 h1, i2 h2]
theorem c_l4Op (k : Nat) (op x y : Int) (hk : 2 ≤ k) (hx : cellB x = true) (hy : cellB y = true) : callK C k 177 [.c (.int .i64 op), .c (.int .i64 x), .c (.int .i64 y)] [] = some (.c (.int .i64 (opG op x y)), hpOf [] []) := by
  obtain ⟨k, rfl⟩ : ∃ m, k = m + 2 := ⟨k - 2, by omega⟩
  rw [callK_fn rfl F177 code177]
  have bx := cell_bound hx
  have by' := cell_bound hy
  have w1 : IntKind.i64.wrap (x + y) = x + y := wrap_small (by omega) (by omega)
  have w2 : IntKind.i64.wrap (x - y) = x - y := wrap_small (by omega) (by omega)
  have c1 := c_l1Most (k + 1) x y (by omega)
  have c2 := c_l1Least (k + 1) x y (by omega)
  unfold opG
  by_cases o1 : op = 1
  · simp [R177_0, R177_1, R177_2, R177_3, R177_4, R177_5, R177_6, R177_7, R177_8, Try.f177, o1, w1]
  have o1' : (op == 1) = false := by simpa using o1
  by_cases o2 : op = 2
  · simp [R177_0, R177_1, R177_2, R177_3, R177_4, R177_5, R177_6, R177_7, R177_8, Try.f177, o1, o1', o2, w2]
  have o2' : (op == 2) = false := by simpa using o2
  by_cases o3 : op = 3
  · simp [R177_0, R177_1, R177_2, R177_3, R177_4, R177_5, R177_6, R177_7, R177_8, Try.f177, o1, o1', o2, o2', o3, c2]
  have o3' : (op == 3) = false := by simpa using o3
  simp [R177_0, R177_1, R177_2, R177_3, R177_4, R177_5, R177_6, R177_7, R177_8, Try.f177, o1, o1', o2, o2', o3, o3', c1]
theorem c_l4Checked (k : Nat) (w h : Int) (l : List Int) (q : Bool) (hk : 210 ≤ k) : callK C k 178 [ownV w h 0 0 l.length, .c (.bool q)] [intsO l] = some (.tp [if (q && goodB w h l) = true then ownV w h 0 0 l.length else nilV, .c (.bool (q && goodB w h l))], hpOf [some (intsO l)] []) := by
  obtain ⟨k, rfl⟩ : ∃ m, k = m + 7 := ⟨k - 7, by omega⟩
  rw [callK_fn rfl F178 code178]
  have hv := c_l2Good (k + 6) true w h l (by omega)
  simp [fldV] at hv
  cases q
  · simp [R178_0, R178_1, R178_2, R178_3, Try.f178, ownV, nilV, intsO]
  cases hg : goodB w h l
  · simp [R178_0, R178_1, R178_2, R178_3, Try.f178, ownV, nilV, intsO, hv, hg]
  · simp [R178_0, R178_1, R178_2, R178_3, Try.f178, ownV, nilV, intsO, hv, hg]
theorem c_l4Combine (op : Int) (k : Nat) (b c : Bool) (w h : Int) (l m : List Int) (hk : 600 ≤ k) (g1 : goodB w h l = true) (g2 : goodB w h m = true) :
    callK C k 135 [.c (.int .i64 op), fldV b w h l, fldV c w h m] [] = some (if goodB w h (List.zipWith (combG op) l m) then (.tp [ownV w h 0 2 l.length, .c (.bool true)], hpOf [] [intsO (List.zipWith (combG op) l m)]) else (.tp [nilV, .c (.bool false)], hpOf [] [])) := by
  obtain ⟨k, rfl⟩ : ∃ m, k = m + 9 := ⟨k - 9, by omega⟩
  rw [callK_fn rfl F135 code135]
  obtain ⟨s1, n1, cl1, k1⟩ := good_length g1
  obtain ⟨s2, n2, cl2, k2⟩ := good_length g2
  have hlm : m.length = l.length := by omega
  have hz : (List.zipWith (specG op) l m).length = l.length := by simp [hlm]
  have h2 := c_l2Own (k + 8) b w h l (by omega) (by omega)
  simp [fldV, ownV, intsO] at h2
  have hck := c_l4Checked (k + 8) w h (List.zipWith (specG op) l m) (okL op l m) (by omega)
  rw [hz] at hck
  have hc := fun (x y : Int) (hx : cellB x = true) (hy : cellB y = true) => c_l4Op (k + 8) op x y (by omega) hx hy
  have hc1 := fun (x : Int) => c_l1In (k + 8) x (-9000) 9000 (by omega)
  obtain ⟨a1, a2⟩ := comb_all op l m hlm.symm cl1 cl2
  obtain ⟨out, ho⟩ := loopOut (body := fun st => runCode C (callK C (k + 8)) (k + 8) (K 135) L135_0 1 st) (keep := [0, 4, 5, 6, 8, 9, 10]) (.ex 0) (fun st => st.ρ 6 = .p 48 1 3 0 0 ∧ st.ρ 8 = .p 1072 2 3 0 0 ∧ st.ρ 9 = .c (.bool (okL op l m)) ∧
      st.H 48 = some (1, ⟨29, 3, false, [[.c (.int .i64 0), .c (.int .i64 0), .c (.slice none 0 0)]]⟩) ∧
      st.H 1072 = some (2, ⟨29, 3, false, [[.c (.int .i64 w), .c (.int .i64 h), .s 1056 2 1 0 l.length]]⟩) ∧
      st.H 1056 = some (2, intsO (List.zipWith (specG op) l m)))
    (fun i st => st.ρ 0 = .c (.int .i64 op) ∧ st.ρ 4 = .p 16 1 3 0 0 ∧ st.ρ 5 = .p 32 1 3 0 0 ∧ st.ρ 6 = .p 48 1 3 0 0 ∧ st.ρ 8 = .p 1072 2 3 0 0 ∧ st.ρ 9 = .c (.bool (okL op (l.take i) (m.take i))) ∧ st.ρ 10 = .c (.int .i64 (i : Int)) ∧
      st.H 16 = some (1, ⟨29, 3, false, [[.c (.int .i64 w), .c (.int .i64 h), .sq b true 1 (ints l)]]⟩) ∧
      st.H 32 = some (1, ⟨29, 3, false, [[.c (.int .i64 w), .c (.int .i64 h), .sq c true 1 (ints m)]]⟩) ∧
      st.H 48 = some (1, ⟨29, 3, false, [[.c (.int .i64 0), .c (.int .i64 0), .c (.slice none 0 0)]]⟩) ∧
      st.H 1072 = some (2, ⟨29, 3, false, [[.c (.int .i64 w), .c (.int .i64 h), .s 1056 2 1 0 l.length]]⟩) ∧
      st.H 1056 = some (2, intsO (fillL (List.zipWith (specG op) l m) l i)))
    l.length (k + 8) (by omega)
    (by
      rintro i st next hi ⟨h0, h4, h5, h6, h8, h9, h10, H16, H32, H48, H1072, H1056⟩ hn
      have him : i < m.length := by omega
      have hget := fillL_get (List.zipWith (specG op) l m) l i hz.symm (by omega)
      have hget' := fillL_get (List.zipWith (specG op) l m) l i hz.symm (by omega)
      have hset := fillL_set (List.zipWith (specG op) l m) l i hz.symm (by omega)
      have hlen := fillL_length (List.zipWith (specG op) l m) l (i + 1) hz.symm
      have hok : okL op (l.take (i + 1)) (m.take (i + 1)) = (okL op (l.take i) (m.take i) && okE op l[i] m[i]) := by
        rw [List.take_succ_eq_append_getElem hi, List.take_succ_eq_append_getElem him, okL_snoc]
        simp; omega
      rw [List.getElem_zipWith] at hset
      have q1 := List.all_eq_true.1 cl1 _ (List.getElem_mem hi)
      have q2 := List.all_eq_true.1 cl2 _ (List.getElem_mem him)
      have hcc := hc l[i] m[i] q1 q2
      by_cases hx : l[i] = -9999
      · have hm : specG op l[i] m[i] = -9999 := by simp [specG, missB, hx]
        have hm' : okE op l[i] m[i] = true := by simp [okE, missB, hx]
        rw [hm] at hset
        rw [hm', Bool.and_true] at hok
        simp [L135_0, R135_0, R135_1, R135_2, R135_3, R135_4, R135_5, R135_6, R135_7, R135_8, R135_9, R135_10, Try.f135, lpL135_0, lpM135_0, M135_0, h0, h4, h5, h6, h8, h9, h10, H16, H32, H48, H1072, H1056, hi, him, intsO, hx, hget, hset, wrap_next hi (by omega : l.length ≤ 9000000000000000000)]
        exact hn _ (by simp [h0, h4, h5, h6, h8, h9, H16, H32, H48, H1072, intsO, hok])
      · have hx' : (l[i] == -9999) = false := by simpa using hx
        by_cases hy : m[i] = -9999
        · have hm : specG op l[i] m[i] = -9999 := by simp [specG, missB, hy]
          have hm' : okE op l[i] m[i] = true := by simp [okE, missB, hy]
          rw [hm] at hset
          rw [hm', Bool.and_true] at hok
          simp [L135_0, R135_0, R135_1, R135_2, R135_3, R135_4, R135_5, R135_6, R135_7, R135_8, R135_9, R135_10, Try.f135, lpL135_0, lpM135_0, M135_0, h0, h4, h5, h6, h8, h9, h10, H16, H32, H48, H1072, H1056, hi, him, intsO, hx, hx', hy, hget, hset, wrap_next hi (by omega : l.length ≤ 9000000000000000000)]
          exact hn _ (by simp [h0, h4, h5, h6, h8, h9, H16, H32, H48, H1072, intsO, hok])
        · have hy' : (m[i] == -9999) = false := by simpa using hy
          have hm : specG op l[i] m[i] = opG op l[i] m[i] := by simp [specG, missB, hx, hy]
          have hm' : okE op l[i] m[i] = (decide (-9000 ≤ opG op l[i] m[i]) && decide (opG op l[i] m[i] ≤ 9000)) := by simp [okE, missB, hx, hy]
          rw [hm] at hset
          rw [hm'] at hok
          have hgn : (fillL (List.zipWith (specG op) l m) l (i + 1))[i]? = some (opG op l[i] m[i]) := by
            rw [← hset, List.getElem?_set_self (by rw [fillL_length _ _ _ hz.symm]; omega)]
          cases hq : okL op (l.take i) (m.take i)
          · rw [hq] at h9 hok
            simp [L135_0, R135_0, R135_1, R135_2, R135_3, R135_4, R135_5, R135_6, R135_7, R135_8, R135_9, R135_10, Try.f135, lpL135_0, lpM135_0, M135_0, h0, h4, h5, h6, h8, h9, h10, H16, H32, H48, H1072, H1056, hi, him, intsO, hx, hx', hy, hy', hcc, hget, hset, wrap_next hi (by omega : l.length ≤ 9000000000000000000)]
            exact hn _ (by simp [h0, h4, h5, h6, h8, H16, H32, H48, H1072, intsO, hok])
          · rw [hq] at h9 hok
            simp [L135_0, R135_0, R135_1, R135_2, R135_3, R135_4, R135_5, R135_6, R135_7, R135_8, R135_9, R135_10, Try.f135, lpL135_0, lpM135_0, M135_0, h0, h4, h5, h6, h8, h9, h10, H16, H32, H48, H1072, H1056, hi, him, intsO, hx, hx', hy, hy', hcc, hc1, hget, hgn, hset, wrap_next hi (by omega : l.length ≤ 9000000000000000000)]
            exact hn _ (by simp [h0, h4, h5, h6, h8, H16, H32, H48, H1072, intsO, hok]))
    (by
      rintro st next ⟨h0, h4, h5, h6, h8, h9, h10, H16, H32, H48, H1072, H1056⟩
      have hf := fillL_all (List.zipWith (specG op) l m) l (by omega)
      rw [hz] at hf
      rw [List.take_length, ← hlm, List.take_length] at h9
      simp [L135_0, R135_0, R135_1, R135_2, R135_3, R135_4, R135_5, R135_6, R135_7, R135_8, R135_9, R135_10, Try.f135, lpL135_0, lpM135_0, M135_0, h0, h4, h5, h6, h8, h9, h10, H16, H32, H48, H1072, H1056, intsO, hf])
  simp [fillL_zero, intsO, okL] at ho
  have hzc : (List.zipWith (combG op) l m).length = l.length := by simp [hlm]
  have hgc : goodB w h (List.zipWith (combG op) l m) = okL op l m := by
    unfold goodB
    rw [s1, hzc, a1]
    simp [n1]
  rw [hgc]
  cases hq : okL op l m
  · rw [hq] at hck ho
    simp [ownV, intsO, nilV] at hck
    simp [R135_0, R135_1, R135_2, R135_3, R135_4, R135_5, R135_6, R135_7, R135_8, R135_9, R135_10, Try.f135, lpL135_0, lpM135_0, M135_0, fldV, h2, ho, hck, ownV, intsO, nilV]
  · have he := a2 hq
    rw [he] at hgc
    rw [hq] at hck ho hgc
    simp [ownV, intsO, nilV, hgc] at hck
    simp [R135_0, R135_1, R135_2, R135_3, R135_4, R135_5, R135_6, R135_7, R135_8, R135_9, R135_10, Try.f135, lpL135_0, lpM135_0, M135_0, fldV, h2, ho, hck, ownV, intsO, he]
theorem opIn (op : Int) : (decide (1 ≤ op) && decide (op ≤ 4)) = true ∨ (decide (1 ≤ op) && decide (op ≤ 4)) = false := by cases (decide (1 ≤ op) && decide (op ≤ 4)) <;> simp
theorem res_Combine (k : Nat) (op : Int) (w1 h1 : Int) (l1 : List Int) (w2 h2 : Int) (l2 : List Int) (hk : 3000 ≤ k) :
    (callK C k 48 [.c (.int .i64 op), fldV true w1 h1 l1, fldV true w2 h2 l2] [] = some (.tp [nilV, .c (.bool false)], hpOf [] []) ∧ callK C k 47 [.c (.int .i64 op), fldV true w1 h1 l1, fldV true w2 h2 l2] [] = some (.tp [nilV, .c (.bool false)], hpOf [] [])) ∨
    ∃ (rW rH : Int) (r : List Int), r.length ≤ 64 ∧ callK C k 48 [.c (.int .i64 op), fldV true w1 h1 l1, fldV true w2 h2 l2] [] = some (.tp [ownV rW rH 0 2 r.length, .c (.bool true)], hpOf [] [intsO r]) ∧ callK C k 47 [.c (.int .i64 op), fldV true w1 h1 l1, fldV true w2 h2 l2] [] = some (.tp [ownV rW rH 0 2 r.length, .c (.bool true)], hpOf [] [intsO r]) := by
  obtain ⟨k, rfl⟩ : ∃ m, k = m + 20 := ⟨k - 20, by omega⟩
  rw [callK_fn rfl F48 code48, callK_fn rfl F47 code47]
  have i1 := c_l1In (k + 19) op 1 4 (by omega)
  have i2 := c_within (k + 19) op 1 4 (by omega)
  have h1' := c_l2Same (k + 19) true true w1 h1 w2 h2 l1 l2 (by omega)
  rcases opIn op with hop | hop
  · rw [hop] at i1 i2
    cases hs : (goodB w1 h1 l1 && (goodB w2 h2 l2 && (w1 == w2 && h1 == h2)))
    · have n1 := c_combinedNoC op (k + 19) true true w1 h1 w2 h2 l1 l2 (by omega) (by rw [← hs, Bool.beq_comm (a := w1), Bool.beq_comm (a := h1)])
      rw [hs] at h1'
      refine .inl ⟨?_, ?_⟩
      · simp [fldV] at h1'
        simp [R48_0, R48_1, R48_2, R48_3, Try.f48, fldV, h1', nilV]
      · simp [fldV, nilV] at n1
        simp [R47_0, R47_1, R47_2, R47_3, Try.f47, fldV, i2, n1, nilV]
    · rw [hs] at h1'
      simp only [Bool.and_eq_true, beq_iff_eq] at hs
      obtain ⟨g1, g2, rfl, rfl⟩ := hs
      have n1 := c_combinedComb op (k + 19) true true w1 h1 w1 h1 l1 l2 (by omega) (by simp [g1, g2])
      have n2 := c_l4Combine op (k + 19) true true w1 h1 l1 l2 (by omega) g1 g2
      obtain ⟨s1, e1, _, k1⟩ := good_length g1
      obtain ⟨s2, e2, _, k2⟩ := good_length g2
      have hz : (List.zipWith (combG op) l1 l2).length = l1.length := by simp; omega
      cases hg : goodB w1 h1 (List.zipWith (combG op) l1 l2)
      · rw [hg] at n1 n2
        refine .inl ⟨?_, ?_⟩
        · simp [fldV, nilV] at h1' n2
          simp [R48_0, R48_1, R48_2, R48_3, Try.f48, fldV, h1', i1, n2, nilV]
        · simp [fldV, nilV] at n1
          simp [R47_0, R47_1, R47_2, R47_3, Try.f47, fldV, i2, n1, nilV]
      · rw [hg] at n1 n2
        refine .inr ⟨w1, h1, List.zipWith (combG op) l1 l2, by omega, ?_, ?_⟩
        · simp [fldV, ownV, intsO] at h1' n2
          rw [hz]
          simp [R48_0, R48_1, R48_2, R48_3, Try.f48, fldV, h1', i1, n2, ownV, intsO]
        · simp [fldV, ownV, intsO] at n1
          rw [hz]
          simp [R47_0, R47_1, R47_2, R47_3, Try.f47, fldV, i2, n1, ownV, intsO]
  · rw [hop] at i1 i2
    refine .inl ⟨?_, ?_⟩
    · cases hs : (goodB w1 h1 l1 && (goodB w2 h2 l2 && (w1 == w2 && h1 == h2)))
      · rw [hs] at h1'
        simp [fldV] at h1'
        simp [R48_0, R48_1, R48_2, R48_3, Try.f48, fldV, h1', nilV]
      · rw [hs] at h1'
        simp [fldV] at h1'
        simp [R48_0, R48_1, R48_2, R48_3, Try.f48, fldV, h1', i1, nilV]
    · simp [R47_0, R47_1, R47_2, R47_3, Try.f47, fldV, i2, nilV]

end Go.Proofs.Ytfdlllhcjfhknaa.Eng
