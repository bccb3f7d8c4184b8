/- A deterministic reading of Go code over plain data: what functions of the program compute. No conditions. -/
import Derived.Test.YtfdlllhcjfhknaaLmbase
import Derived.Test.YtfdlllhcjfhknaaLmimpl
import Derived.Test.YtfdlllhcjfhknaaLmimplc
import Derived.Test.YtfdlllhcjfhknaaLmcombined
import Derived.Test.YtfdlllhcjfhknaaEngT
namespace Go.Proofs.Ytfdlllhcjfhknaa.Eng
open Go Go.Proofs
set_option maxRecDepth 100000
set_option maxHeartbeats 2000000
set_option linter.unusedSimpArgs false
set_option linter.unusedVariables false
attribute [local simp] finK fin1 hpOf xi renQ isRoot runCode runOps Eng.step wantedV astep val ofO made loadV storeV find V.cells bin binT un1 setAt fieldAddrV fieldV indexAddrV indexV bounds sliceV convV lenV foldV max2V min2V callO bor rdsO wrsO seen_none okD_none loops keepIds resV resultsV St.ev TK.agg refs refsL refsO V.one V.isC Value.oneCell' ren renL renO noTag noTagL noTagR noTagO nodup mapO passV frs psi refsR newD loopNext opsAt idx flatAt rootOf backR newsV appendV copyV clearV strV bytesOf nilCmp buildV fillF chunk
attribute [local simp] cT cF cX cWR cOW cK X ints_length ints_get ints_getElem ints_drop ints_take ints_append ints_nil ints_set
attribute [local simp] ints_replicate
attribute [local simp] putV_some putV_none putH_app applyD_nil applyD_cons seen_app gc_ρ gc_H gc_tick st0_ρ st0_H st0_tick retV callRo callV_if borL_nil borL_cons ints_snoc take_self callWr cutH_app findQ afterV exportV_0 exportV_n okD_nil okD_cons sub_seq0 sub_seq1 sub_cond0 sub_cond1 sub_block sub_loop sub_nil young_far young_none hidW_nil mayW_nil pairs okI ok_0 ok_1 ok_2
attribute [local simp] T3 T4 T5 T9 T22 T24 T26 T29 T36 T73 T75 T86 T89 T103 T104 T106 T108 T109 T111 T114 T118 T134 T136 T157 T161 T168
def ckI (v : Int) : Int := if -9000 ≤ v ∧ v ≤ 9000 then v else 9001
def combG (op x y : Int) : Int := if x = -9999 ∨ y = -9999 then -9999 else if op = 1 then ckI (x + y) else if op = 2 then ckI (x - y) else if op = 3 then (if y < x then y else x) else (if y > x then y else x)
theorem cell_bound {x : Int} (h : cellB x = true) : -9999 ≤ x ∧ x ≤ 9000 := by
  simp only [cellB, Bool.or_eq_true, beq_iff_eq, Bool.and_eq_true, decide_eq_true_eq] at h
  omega
theorem c_checkedCell (k : Nat) (v : Int) (hk : 2 ≤ k) : callK C k 133 [.c (.int .i64 v)] [] = some (.c (.int .i64 (ckI v)), hpOf [] []) := by
  obtain ⟨k, rfl⟩ : ∃ m, k = m + 2 := ⟨k - 2, by omega⟩
  rw [callK_fn rfl F133 code133]
  unfold ckI
  by_cases h1 : -9000 ≤ v
  · by_cases h2 : v ≤ 9000 <;> simp [R133_0, R133_1, R133_2, R133_3, Try.f133, c_within, h1, h2]
  · simp [R133_0, R133_1, R133_2, R133_3, Try.f133, c_within, h1]
theorem c_Combine1 (op : Int) (k : Nat) (x y : Int) (hk : 3 ≤ k) (hx : cellB x = true) (hy : cellB y = true) : callK C k 132 [.c (.int .i64 x), .c (.int .i64 y), .bx true [.c (.int .i64 op)]] [] = some (.c (.int .i64 (combG op x y)), hpOf [] []) := by
  obtain ⟨k, rfl⟩ : ∃ m, k = m + 3 := ⟨k - 3, by omega⟩
  rw [callK_fn rfl F132 code132]
  have bx := cell_bound hx
  have by' := cell_bound hy
  have w1 : IntKind.i64.wrap (x + y) = x + y := wrap_small (by omega) (by omega)
  have w2 : IntKind.i64.wrap (x - y) = x - y := wrap_small (by omega) (by omega)
  have c1 := c_checkedCell (k + 2) (x + y) (by omega)
  have c2 := c_checkedCell (k + 2) (x - y) (by omega)
  unfold combG
  by_cases h : x = -9999
  · simp [R132_0, R132_1, R132_2, R132_3, R132_4, R132_5, R132_6, R132_7, R132_8, R132_9, Try.f132, h]
  have h' : (x == -9999) = false := by simpa using h
  by_cases h2 : y = -9999
  · simp [R132_0, R132_1, R132_2, R132_3, R132_4, R132_5, R132_6, R132_7, R132_8, R132_9, Try.f132, h, h', h2]
  have h2' : (y == -9999) = false := by simpa using h2
  by_cases o1 : op = 1
  · simp [R132_0, R132_1, R132_2, R132_3, R132_4, R132_5, R132_6, R132_7, R132_8, R132_9, Try.f132, h, h', h2, h2', o1, w1, c1]
  have o1' : (op == 1) = false := by simpa using o1
  by_cases o2 : op = 2
  · simp [R132_0, R132_1, R132_2, R132_3, R132_4, R132_5, R132_6, R132_7, R132_8, R132_9, Try.f132, h, h', h2, h2', o1, o1', o2, w2, c2]
  have o2' : (op == 2) = false := by simpa using o2
  by_cases o3 : op = 3
  · simp [R132_0, R132_1, R132_2, R132_3, R132_4, R132_5, R132_6, R132_7, R132_8, R132_9, Try.f132, h, h', h2, h2', o1, o1', o2, o2', o3]
  have o3' : (op == 3) = false := by simpa using o3
  simp [R132_0, R132_1, R132_2, R132_3, R132_4, R132_5, R132_6, R132_7, R132_8, R132_9, Try.f132, h, h', h2, h2', o1, o1', o2, o2', o3, o3']
theorem c_combinedComb (op : Int) (k : Nat) (b c : Bool) (w h w' h' : Int) (l m : List Int) (hk : 500 ≤ k) (ha : (goodB w h l && (goodB w' h' m && (w' == w && h' == h))) = true) :
    callK C k 131 [fldV b w h l, fldV c w' h' m, .fn 132 [.bx true [.c (.int .i64 op)]]] [] = some (if goodB w h (List.zipWith (combG op) l m) then (.tp [ownV w h 0 2 l.length, .c (.bool true)], hpOf [] [intsO (List.zipWith (combG op) l m)]) else (.tp [nilV, .c (.bool false)], hpOf [] [])) := by
  obtain ⟨k, rfl⟩ : ∃ m, k = m + 9 := ⟨k - 9, by omega⟩
  rw [callK_fn rfl F131 code131]
  simp only [Bool.and_eq_true, beq_iff_eq] at ha
  obtain ⟨g1, g2, rfl, rfl⟩ := ha
  obtain ⟨s1, n1, cl1, k1⟩ := good_length g1
  obtain ⟨s2, n2, cl2, k2⟩ := good_length g2
  have hlm : m.length = l.length := by omega
  have hz : (List.zipWith (combG op) l m).length = l.length := by simp [hlm]
  obtain ⟨hp0, hp, hs⟩ := shape_area s1
  have hl0 : l ≠ [] := by
    intro e; subst e
    have := Int.mul_pos (by omega : 0 < w') (by omega : 0 < h')
    simp at n1; omega
  have hal := c_areAlike (k + 8) true ⟨true, w', h', l⟩ [⟨true, w', h', m⟩] (by simp) (by simp; omega)
  simp [Fd.cells, likeB, g1, g2] at hal
  have hal' := c_areAlike (k + 8) true ⟨b, w', h', l⟩ [⟨c, w', h', m⟩] (by simp) (by simp; omega)
  simp [Fd.cells, likeB, g1, g2] at hal'
  have hcl := c_cloneField (k + 8) b w' h' l (by omega) hl0 (by omega)
  simp [fldV, intsO] at hcl
  have hck := c_checkedField (k + 8) w' h' (List.zipWith (combG op) l m) (by omega)
  rw [hz] at hck
  simp [ownV, intsO] at hck
  have hc1 := fun (x y : Int) (hx : cellB x = true) (hy : cellB y = true) => c_Combine1 op (k + 8) x y (by omega) hx hy
  obtain ⟨out, ho⟩ := loopOut (body := fun st => runCode C (callK C (k + 8)) (k + 8) (K 131) L131_0 1 st) (keep := [2, 3, 6, 8, 20, 21, 22]) (.ex 0) (fun st => st.ρ 6 = .p 48 1 3 0 0 ∧ st.ρ 8 = .p 3120 3 3 0 0 ∧
      st.H 48 = some (1, ⟨29, 3, false, [[.c (.int .i64 0), .c (.int .i64 0), .c (.slice none 0 0)]]⟩) ∧
      st.H 3120 = some (3, ⟨29, 3, false, [[.c (.int .i64 w'), .c (.int .i64 h'), .s 3104 3 1 0 l.length]]⟩) ∧
      st.H 3104 = some (3, intsO (List.zipWith (combG op) l m)))
    (fun i st => st.ρ 2 = .fn 132 [.bx true [.c (.int .i64 op)]] ∧ st.ρ 3 = .p 16 1 3 0 0 ∧ st.ρ 6 = .p 48 1 3 0 0 ∧ st.ρ 8 = .p 3120 3 3 0 0 ∧
      st.ρ 20 = .sq c true 1 (ints m) ∧ st.ρ 21 = .c (.int .i64 (m.length : Int)) ∧ st.ρ 22 = .c (.int .i64 (i : Int)) ∧
      st.H 16 = some (1, ⟨29, 3, false, [[.c (.int .i64 w'), .c (.int .i64 h'), .sq b true 1 (ints l)]]⟩) ∧
      st.H 48 = some (1, ⟨29, 3, false, [[.c (.int .i64 0), .c (.int .i64 0), .c (.slice none 0 0)]]⟩) ∧
      st.H 3120 = some (3, ⟨29, 3, false, [[.c (.int .i64 w'), .c (.int .i64 h'), .s 3104 3 1 0 l.length]]⟩) ∧
      st.H 3104 = some (3, intsO (fillL (List.zipWith (combG op) l m) l i)))
    m.length (k + 8) (by omega)
    (by
      rintro i st next hi ⟨h2, h3, h6, h8, h20, h21, h22, H16, H48, H3120, H3104⟩ hn
      have hil : i < l.length := by omega
      have hget := fillL_get (List.zipWith (combG op) l m) l i hz.symm (by omega)
      have hset := fillL_set (List.zipWith (combG op) l m) l i hz.symm (by omega)
      rw [List.getElem_zipWith] at hset
      have hcc := hc1 l[i] m[i] (List.all_eq_true.1 cl1 _ (List.getElem_mem hil)) (List.all_eq_true.1 cl2 _ (List.getElem_mem hi))
      simp [L131_0, R131_0, R131_1, R131_2, R131_3, R131_4, R131_5, R131_6, R131_7, R131_8, R131_9, Try.f131, lpL131_0, lpM131_0, M131_0, h2, h3, h6, h8, h20, h21, h22, H16, H48, H3120, H3104, hi, hil, intsO, hcc, hget, hset, wrap_next hi (by omega)]
      exact hn _ (by simp [h2, h3, h6, h8, h20, h21, H16, H48, H3120, intsO]))
    (by
      rintro st next ⟨h2, h3, h6, h8, h20, h21, h22, H16, H48, H3120, H3104⟩
      have hf := fillL_all (List.zipWith (combG op) l m) l (by omega)
      rw [hz, ← hlm] at hf
      simp [L131_0, R131_0, R131_1, R131_2, R131_3, R131_4, R131_5, R131_6, R131_7, R131_8, R131_9, Try.f131, lpL131_0, lpM131_0, M131_0, h2, h3, h6, h8, h20, h21, h22, H16, H48, H3120, H3104, intsO, hf])
  simp [fillL_zero, intsO] at ho
  cases hg : goodB w' h' (List.zipWith (combG op) l m)
  · rw [hg] at hck
    simp [nilV] at hck
    simp [R131_0, R131_1, R131_2, R131_3, R131_4, R131_5, R131_6, R131_7, R131_8, R131_9, Try.f131, lpL131_0, lpM131_0, M131_0, fldV, hal, hal', hcl, hck, ho, ownV, nilV, intsO]
  · rw [hg] at hck
    simp at hck
    simp [R131_0, R131_1, R131_2, R131_3, R131_4, R131_5, R131_6, R131_7, R131_8, R131_9, Try.f131, lpL131_0, lpM131_0, M131_0, fldV, hal, hal', hcl, hck, ho, ownV, intsO]
theorem c_combinedNoC (op : Int) (k : Nat) (b c : Bool) (w h w' h' : Int) (l m : List Int) (hk : 500 ≤ k) (ha : (goodB w h l && (goodB w' h' m && (w' == w && h' == h))) = false) :
    callK C k 131 [fldV b w h l, fldV c w' h' m, .fn 132 [.bx true [.c (.int .i64 op)]]] [] = some (.tp [nilV, .c (.bool false)], hpOf [] []) := by
  obtain ⟨k, rfl⟩ : ∃ m, k = m + 9 := ⟨k - 9, by omega⟩
  rw [callK_fn rfl F131 code131]
  have hal := c_areAlike (k + 8) true ⟨true, w, h, l⟩ [⟨true, w', h', m⟩] (by simp) (by simp; omega)
  have hal' := c_areAlike (k + 8) true ⟨b, w, h, l⟩ [⟨c, w', h', m⟩] (by simp) (by simp; omega)
  have e1 : ∀ b c : Bool, ([(⟨b, w, h, l⟩ : Fd), ⟨c, w', h', m⟩].all (likeB ⟨b, w, h, l⟩)) = false := by
    intro b c
    simp only [List.all_cons, List.all_nil, likeB, beq_self_eq_true, Bool.and_true]
    exact ha
  rw [e1] at hal hal'
  simp [Fd.cells] at hal hal'
  simp [R131_0, R131_1, R131_2, R131_3, R131_4, R131_5, R131_6, R131_7, R131_8, R131_9, Try.f131, lpL131_0, lpM131_0, M131_0, fldV, hal, hal', nilV]

end Go.Proofs.Ytfdlllhcjfhknaa.Eng
