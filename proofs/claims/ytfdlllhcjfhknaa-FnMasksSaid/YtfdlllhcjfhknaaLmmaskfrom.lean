/- A deterministic reading of Go code over plain data: what functions of the program compute. No conditions. -/
import Derived.Test.YtfdlllhcjfhknaaLmbase
import Derived.Test.YtfdlllhcjfhknaaLmimpl
import Derived.Test.YtfdlllhcjfhknaaLmimplc
import Derived.Test.YtfdlllhcjfhknaaLmcombined
import Derived.Test.YtfdlllhcjfhknaaLmmaskcl
import Derived.Test.YtfdlllhcjfhknaaEngT
namespace Go.Proofs.Ytfdlllhcjfhknaa.Eng
open Go Go.Proofs
set_option maxRecDepth 100000
set_option maxHeartbeats 2000000
set_option linter.unusedSimpArgs false
set_option linter.unusedVariables false
attribute [local simp] finK fin1 hpOf xi renQ isRoot runCode runOps Eng.step wantedV astep val ofO made loadV storeV find V.cells bin binT un1 setAt fieldAddrV fieldV indexAddrV indexV bounds sliceV convV lenV foldV max2V min2V callO bor rdsO wrsO seen_none okD_none loops keepIds resV resultsV St.ev TK.agg refs refsL refsO V.one V.isC Value.oneCell' ren renL renO noTag noTagL noTagR noTagO nodup mapO passV frs psi refsR newD loopNext opsAt idx flatAt rootOf backR newsV appendV copyV clearV strV bytesOf buildV fillF chunk
attribute [local simp] cT cF cX cWR cOW cK X ints_length ints_get ints_getElem ints_drop ints_take ints_append ints_nil ints_set
attribute [local simp] ints_replicate
attribute [local simp] putV_some putV_none putH_app applyD_nil applyD_cons seen_app gc_ρ gc_H gc_tick st0_ρ st0_H st0_tick retV callRo callV_if borL_nil borL_cons ints_snoc take_self callWr cutH_app findQ afterV exportV_0 exportV_n okD_nil okD_cons sub_seq0 sub_seq1 sub_cond0 sub_cond1 sub_block sub_loop sub_nil young_far young_none hidW_nil mayW_nil pairs okI ok_0 ok_1 ok_2
attribute [local simp] T3 T4 T5 T9 T22 T24 T26 T29 T36 T73 T75 T86 T89 T103 T104 T106 T108 T109 T111 T114 T118 T134 T136 T157 T161 T168
theorem c_combinedMask (k : Nat) (b c : Bool) (w h w' h' : Int) (l m : List Int) (hk : 500 ≤ k) (ha : (goodB w h l && (goodB w' h' m && (w' == w && h' == h))) = true) (hg : goodB w h (List.zipWith maskG l m) = true) :
    callK C k 131 [fldV b w h l, fldV c w' h' m, .fn 141 []] [] = some (.tp [ownV w h 0 2 l.length, .c (.bool true)], hpOf [] [intsO (List.zipWith maskG l m)]) := by
  obtain ⟨k, rfl⟩ : ∃ m, k = m + 9 := ⟨k - 9, by omega⟩
  rw [callK_fn rfl F131 code131]
  simp only [Bool.and_eq_true, beq_iff_eq] at ha
  obtain ⟨g1, g2, rfl, rfl⟩ := ha
  obtain ⟨s1, n1, _, k1⟩ := good_length g1
  obtain ⟨s2, n2, _, k2⟩ := good_length g2
  have hlm : m.length = l.length := by omega
  have hz : (List.zipWith maskG l m).length = l.length := by simp [hlm]
  obtain ⟨hp0, hp, hs⟩ := shape_area s1
  have hl0 : l ≠ [] := by
    intro e; subst e
    have := Int.mul_pos (by omega : 0 < w') (by omega : 0 < h')
    simp at n1; omega
  have hal := c_areAlike (k + 8) true ⟨true, w', h', l⟩ [⟨true, w', h', m⟩] (by simp) (by simp; omega)
  simp [Fd.cells, likeB, g1, g2] at hal
  have hal' := c_areAlike (k + 8) true ⟨b, w', h', l⟩ [⟨c, w', h', m⟩] (by simp) (by simp; omega)
  simp [Fd.cells, likeB, g1, g2] at hal'
  have hcl := c_cloneField (k + 8) b w' h' l (by omega) hl0 (by omega)
  simp [fldV, intsO] at hcl
  have hck := c_checkedField (k + 8) w' h' (List.zipWith maskG l m) (by omega)
  rw [hg, hz] at hck
  simp [ownV, intsO] at hck
  have hc1 := fun x y => c_MaskField1 (k + 8) x y (by omega)
  obtain ⟨out, ho⟩ := loopOut (body := fun st => runCode C (callK C (k + 8)) (k + 8) (K 131) L131_0 1 st) (keep := [2, 3, 6, 8, 20, 21, 22]) (.ex 0) (fun st => st.ρ 6 = .p 48 1 3 0 0 ∧ st.ρ 8 = .p 3120 3 3 0 0 ∧
      st.H 48 = some (1, ⟨29, 3, false, [[.c (.int .i64 0), .c (.int .i64 0), .c (.slice none 0 0)]]⟩) ∧
      st.H 3120 = some (3, ⟨29, 3, false, [[.c (.int .i64 w'), .c (.int .i64 h'), .s 3104 3 1 0 l.length]]⟩) ∧
      st.H 3104 = some (3, intsO (List.zipWith maskG l m)))
    (fun i st => st.ρ 2 = .fn 141 [] ∧ st.ρ 3 = .p 16 1 3 0 0 ∧ st.ρ 6 = .p 48 1 3 0 0 ∧ st.ρ 8 = .p 3120 3 3 0 0 ∧
      st.ρ 20 = .sq c true 1 (ints m) ∧ st.ρ 21 = .c (.int .i64 (m.length : Int)) ∧ st.ρ 22 = .c (.int .i64 (i : Int)) ∧
      st.H 16 = some (1, ⟨29, 3, false, [[.c (.int .i64 w'), .c (.int .i64 h'), .sq b true 1 (ints l)]]⟩) ∧
      st.H 48 = some (1, ⟨29, 3, false, [[.c (.int .i64 0), .c (.int .i64 0), .c (.slice none 0 0)]]⟩) ∧
      st.H 3120 = some (3, ⟨29, 3, false, [[.c (.int .i64 w'), .c (.int .i64 h'), .s 3104 3 1 0 l.length]]⟩) ∧
      st.H 3104 = some (3, intsO (fillL (List.zipWith maskG l m) l i)))
    m.length (k + 8) (by omega)
    (by
      rintro i st next hi ⟨h2, h3, h6, h8, h20, h21, h22, H16, H48, H3120, H3104⟩ hn
      have hil : i < l.length := by omega
      have hget := fillL_get (List.zipWith maskG l m) l i hz.symm (by omega)
      have hset := fillL_set (List.zipWith maskG l m) l i hz.symm (by omega)
      rw [List.getElem_zipWith] at hset
      simp [L131_0, R131_0, R131_1, R131_2, R131_3, R131_4, R131_5, R131_6, R131_7, R131_8, R131_9, Try.f131, lpL131_0, lpM131_0, M131_0, h2, h3, h6, h8, h20, h21, h22, H16, H48, H3120, H3104, hi, hil, intsO, hc1, hget, hset, wrap_next hi (by omega)]
      exact hn _ (by simp [h2, h3, h6, h8, h20, h21, H16, H48, H3120, intsO]))
    (by
      rintro st next ⟨h2, h3, h6, h8, h20, h21, h22, H16, H48, H3120, H3104⟩
      have hf := fillL_all (List.zipWith maskG l m) l (by omega)
      rw [hz, ← hlm] at hf
      simp [L131_0, R131_0, R131_1, R131_2, R131_3, R131_4, R131_5, R131_6, R131_7, R131_8, R131_9, Try.f131, lpL131_0, lpM131_0, M131_0, h2, h3, h6, h8, h20, h21, h22, H16, H48, H3120, H3104, intsO, hf])
  simp [fillL_zero, intsO] at ho
  simp [R131_0, R131_1, R131_2, R131_3, R131_4, R131_5, R131_6, R131_7, R131_8, R131_9, Try.f131, lpL131_0, lpM131_0, M131_0, fldV, hal, hal', hcl, hck, ho, ownV, intsO]
theorem c_combinedNoK (k : Nat) (b c : Bool) (f : FuncId) (w h w' h' : Int) (l m : List Int) (hk : 500 ≤ k) (ha : (goodB w h l && (goodB w' h' m && (w' == w && h' == h))) = false) :
    callK C k 131 [fldV b w h l, fldV c w' h' m, .fn f []] [] = some (.tp [nilV, .c (.bool false)], hpOf [] []) := by
  obtain ⟨k, rfl⟩ : ∃ m, k = m + 9 := ⟨k - 9, by omega⟩
  rw [callK_fn rfl F131 code131]
  have hal := c_areAlike (k + 8) true ⟨true, w, h, l⟩ [⟨true, w', h', m⟩] (by simp) (by simp; omega)
  have hal' := c_areAlike (k + 8) true ⟨b, w, h, l⟩ [⟨c, w', h', m⟩] (by simp) (by simp; omega)
  have e1 : ∀ b c : Bool, ([(⟨b, w, h, l⟩ : Fd), ⟨c, w', h', m⟩].all (likeB ⟨b, w, h, l⟩)) = false := by
    intro b c
    simp only [List.all_cons, List.all_nil, likeB, beq_self_eq_true, Bool.and_true]
    exact ha
  rw [e1] at hal hal'
  simp [Fd.cells] at hal hal'
  simp [R131_0, R131_1, R131_2, R131_3, R131_4, R131_5, R131_6, R131_7, R131_8, R131_9, Try.f131, lpL131_0, lpM131_0, M131_0, fldV, hal, hal', nilV]
theorem c_implMask (k : Nat) (b c : Bool) (w h w' h' : Int) (l m : List Int) (hk : 600 ≤ k) (ha : (goodB w h l && (goodB w' h' m && (w' == w && h' == h))) = true) (hg : goodB w h (List.zipWith maskG l m) = true) :
    callK C k 53 [fldV b w h l, fldV c w' h' m] [] = some (.tp [ownV w h 0 2 l.length, .c (.bool true)], hpOf [] [intsO (List.zipWith maskG l m)]) := by
  obtain ⟨k, rfl⟩ : ∃ m, k = m + 9 := ⟨k - 9, by omega⟩
  rw [callK_fn rfl F53 code53]
  have h1 := c_combinedMask (k + 8) b c w h w' h' l m (by omega) ha hg
  simp [fldV, ownV, intsO] at h1
  simp [R53_0, R53_1, Try.f53, fldV, h1, ownV, intsO]
theorem c_implMaskNo (k : Nat) (b c : Bool) (w h w' h' : Int) (l m : List Int) (hk : 600 ≤ k) (ha : (goodB w h l && (goodB w' h' m && (w' == w && h' == h))) = false) :
    callK C k 53 [fldV b w h l, fldV c w' h' m] [] = some (.tp [nilV, .c (.bool false)], hpOf [] []) := by
  obtain ⟨k, rfl⟩ : ∃ m, k = m + 9 := ⟨k - 9, by omega⟩
  rw [callK_fn rfl F53 code53]
  have h1 := c_combinedNoK (k + 8) b c 141 w h w' h' l m (by omega) ha
  simp [fldV, nilV] at h1
  simp [R53_0, R53_1, Try.f53, fldV, h1, nilV]

end Go.Proofs.Ytfdlllhcjfhknaa.Eng
