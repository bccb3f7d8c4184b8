/- A deterministic reading of Go code over plain data: what functions of the program compute. No conditions. -/
import Derived.Test.YtfdlllhcjfhknaaLmbase
import Derived.Test.YtfdlllhcjfhknaaLmimpl
import Derived.Test.YtfdlllhcjfhknaaLmgood
import Derived.Test.YtfdlllhcjfhknaaLmspec
import Derived.Test.YtfdlllhcjfhknaaLmmaskcl
import Derived.Test.YtfdlllhcjfhknaaLmmaskfrom
import Derived.Test.YtfdlllhcjfhknaaEngT
namespace Go.Proofs.Ytfdlllhcjfhknaa.Eng
open Go Go.Proofs
set_option maxRecDepth 100000
set_option maxHeartbeats 2000000
set_option linter.unusedSimpArgs false
set_option linter.unusedVariables false
attribute [local simp] finK fin1 hpOf xi renQ isRoot runCode runOps Eng.step wantedV astep val ofO made loadV storeV find V.cells bin binT un1 setAt fieldAddrV fieldV indexAddrV indexV bounds sliceV convV lenV foldV max2V min2V callO bor rdsO wrsO seen_none okD_none loops keepIds resV resultsV St.ev TK.agg refs refsL refsO V.one V.isC Value.oneCell' ren renL renO noTag noTagL noTagR noTagO nodup mapO passV frs psi refsR newD loopNext opsAt idx flatAt rootOf backR newsV appendV copyV clearV strV bytesOf buildV fillF chunk
attribute [local simp] cT cF cX cWR cOW cK X ints_length ints_get ints_getElem ints_drop ints_take ints_append ints_nil ints_set
attribute [local simp] ints_replicate
attribute [local simp] putV_some putV_none putH_app applyD_nil applyD_cons seen_app gc_ρ gc_H gc_tick st0_ρ st0_H st0_tick retV callRo callV_if borL_nil borL_cons ints_snoc take_self callWr cutH_app findQ afterV exportV_0 exportV_n okD_nil okD_cons sub_seq0 sub_seq1 sub_cond0 sub_cond1 sub_block sub_loop sub_nil young_far young_none hidW_nil mayW_nil pairs okI ok_0 ok_1 ok_2
attribute [local simp] T3 T4 T5 T9 T22 T24 T26 T29 T36 T73 T75 T86 T89 T103 T104 T106 T108 T109 T111 T114 T118 T134 T136 T157 T161 T168
theorem c_specMaskNo (k : Nat) (b c : Bool) (w h w' h' : Int) (l m : List Int) (hk : 600 ≤ k) (ha : (goodB w h l && (goodB w' h' m && (w == w' && h == h'))) = false) :
    callK C k 54 [fldV b w h l, fldV c w' h' m] [] = some (.tp [nilV, .c (.bool false)], hpOf [] []) := by
  obtain ⟨k, rfl⟩ : ∃ m, k = m + 9 := ⟨k - 9, by omega⟩
  rw [callK_fn rfl F54 code54]
  have h1 := c_l2Same (k + 8) b c w h w' h' l m (by omega)
  rw [ha] at h1
  simp [fldV] at h1
  simp [R54_0, R54_1, R54_2, R54_3, R54_4, R54_5, R54_6, R54_7, R54_8, R54_9, Try.f54, lpL54_0, lpM54_0, M54_0, fldV, h1, nilV]
theorem c_specMask (k : Nat) (b c : Bool) (w h : Int) (l m : List Int) (hk : 600 ≤ k) (ha : (goodB w h l && goodB w h m) = true) :
    callK C k 54 [fldV b w h l, fldV c w h m] [] = some (.tp [ownV w h 0 2 l.length, .c (.bool true)], hpOf [] [intsO (List.zipWith maskG l m)]) := by
  obtain ⟨k, rfl⟩ : ∃ m, k = m + 9 := ⟨k - 9, by omega⟩
  rw [callK_fn rfl F54 code54]
  simp only [Bool.and_eq_true] at ha
  obtain ⟨g1, g2⟩ := ha
  obtain ⟨s1, n1, _, k1⟩ := good_length g1
  obtain ⟨s2, n2, _, k2⟩ := good_length g2
  have hlm : m.length = l.length := by omega
  have hz : (List.zipWith maskG l m).length = l.length := by simp [hlm]
  have h1 := c_l2Same (k + 8) b c w h w h l m (by omega)
  simp [fldV, g1, g2] at h1
  have h2 := c_l2Own (k + 8) b w h l (by omega) (by omega)
  simp [fldV, ownV, intsO] at h2
  obtain ⟨out, ho⟩ := loopOut (body := fun st => runCode C (callK C (k + 8)) (k + 8) (K 54) L54_0 1 st) (keep := [2, 3, 4, 6, 7]) (.ex 0) (fun st => st.ρ 4 = .p 48 1 3 0 0 ∧ st.ρ 6 = .p 3120 3 3 0 0 ∧
      st.H 48 = some (1, ⟨29, 3, false, [[.c (.int .i64 0), .c (.int .i64 0), .c (.slice none 0 0)]]⟩) ∧
      st.H 3120 = some (3, ⟨29, 3, false, [[.c (.int .i64 w), .c (.int .i64 h), .s 3104 3 1 0 l.length]]⟩) ∧
      st.H 3104 = some (3, intsO (List.zipWith maskG l m)))
    (fun i st => st.ρ 2 = .p 16 1 3 0 0 ∧ st.ρ 3 = .p 32 1 3 0 0 ∧ st.ρ 4 = .p 48 1 3 0 0 ∧ st.ρ 6 = .p 3120 3 3 0 0 ∧ st.ρ 7 = .c (.int .i64 (i : Int)) ∧
      st.H 16 = some (1, ⟨29, 3, false, [[.c (.int .i64 w), .c (.int .i64 h), .sq b true 1 (ints l)]]⟩) ∧
      st.H 32 = some (1, ⟨29, 3, false, [[.c (.int .i64 w), .c (.int .i64 h), .sq c true 1 (ints m)]]⟩) ∧
      st.H 48 = some (1, ⟨29, 3, false, [[.c (.int .i64 0), .c (.int .i64 0), .c (.slice none 0 0)]]⟩) ∧
      st.H 3120 = some (3, ⟨29, 3, false, [[.c (.int .i64 w), .c (.int .i64 h), .s 3104 3 1 0 l.length]]⟩) ∧
      st.H 3104 = some (3, intsO (fillL (List.zipWith maskG l m) l i)))
    l.length (k + 8) (by omega)
    (by
      rintro i st next hi ⟨h2, h3, h4, h6, h7, H16, H32, H48, H3120, H3104⟩ hn
      have him : i < m.length := by omega
      have hget := fillL_get (List.zipWith maskG l m) l i hz.symm (by omega)
      have hset := fillL_set (List.zipWith maskG l m) l i hz.symm (by omega)
      rw [List.getElem_zipWith] at hset
      by_cases hx : m[i] = 0
      · simp only [maskG, hx, true_or, if_true] at hset
        simp [L54_0, R54_0, R54_1, R54_2, R54_3, R54_4, R54_5, R54_6, R54_7, R54_8, R54_9, Try.f54, lpL54_0, lpM54_0, M54_0, h2, h3, h4, h6, h7, H16, H32, H48, H3120, H3104, hi, him, intsO, hx, hget, hset, wrap_next hi (by omega : l.length ≤ 9000000000000000000)]
        exact hn _ (by simp [h2, h3, h4, h6, H16, H32, H48, H3120, H3104, intsO, maskG])
      · have hx' : (m[i] == 0) = false := by simpa using hx
        by_cases hy : m[i] = -9999
        · simp only [maskG, hy, or_true, if_true] at hset
          simp [L54_0, R54_0, R54_1, R54_2, R54_3, R54_4, R54_5, R54_6, R54_7, R54_8, R54_9, Try.f54, lpL54_0, lpM54_0, M54_0, h2, h3, h4, h6, h7, H16, H32, H48, H3120, H3104, hi, him, intsO, hx, hx', hy, hget, hset, wrap_next hi (by omega : l.length ≤ 9000000000000000000)]
          exact hn _ (by simp [h2, h3, h4, h6, H16, H32, H48, H3120, H3104, intsO, maskG])
        · have hy' : (m[i] == -9999) = false := by simpa using hy
          have hkeep := fillL_keep (List.zipWith maskG l m) l i hz.symm (by omega) (by rw [List.getElem_zipWith]; simp [maskG, hx, hy])
          simp [L54_0, R54_0, R54_1, R54_2, R54_3, R54_4, R54_5, R54_6, R54_7, R54_8, R54_9, Try.f54, lpL54_0, lpM54_0, M54_0, h2, h3, h4, h6, h7, H16, H32, H48, H3120, H3104, hi, him, intsO, hx, hx', hy, hy', wrap_next hi (by omega : l.length ≤ 9000000000000000000)]
          exact hn _ (by simp [h2, h3, h4, h6, H16, H32, H48, H3120, H3104, intsO, hkeep]))
    (by
      rintro st next ⟨h2, h3, h4, h6, h7, H16, H32, H48, H3120, H3104⟩
      have hf := fillL_all (List.zipWith maskG l m) l (by omega)
      rw [hz] at hf
      simp [L54_0, R54_0, R54_1, R54_2, R54_3, R54_4, R54_5, R54_6, R54_7, R54_8, R54_9, Try.f54, lpL54_0, lpM54_0, M54_0, h2, h3, h4, h6, h7, H16, H32, H48, H3120, H3104, intsO, hf])
  simp [fillL_zero, intsO] at ho
  simp [R54_0, R54_1, R54_2, R54_3, R54_4, R54_5, R54_6, R54_7, R54_8, R54_9, Try.f54, lpL54_0, lpM54_0, M54_0, fldV, h1, h2, ho, ownV, intsO]

end Go.Proofs.Ytfdlllhcjfhknaa.Eng
