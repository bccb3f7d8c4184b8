/- A deterministic reading of Go code over plain data: what functions of the program compute. No conditions. -/
import Derived.Test.YtfdlllhcjfhknaaLmbase
import Derived.Test.YtfdlllhcjfhknaaLmimpl
import Derived.Test.YtfdlllhcjfhknaaLmimplc
import Derived.Test.YtfdlllhcjfhknaaLmgood
import Derived.Test.YtfdlllhcjfhknaaEngT
namespace Go.Proofs.Ytfdlllhcjfhknaa.Eng
open Go Go.Proofs
set_option maxRecDepth 100000
set_option maxHeartbeats 2000000
set_option linter.unusedSimpArgs false
set_option linter.unusedVariables false
attribute [local simp] finK fin1 hpOf xi renQ isRoot runCode runOps Eng.step wantedV astep val ofO made loadV storeV find V.cells bin binT un1 setAt fieldAddrV fieldV indexAddrV indexV bounds sliceV convV lenV foldV max2V min2V callO bor rdsO wrsO seen_none okD_none loops keepIds resV resultsV St.ev TK.agg refs refsL refsO V.one V.isC Value.oneCell' ren renL renO noTag noTagL noTagR noTagO nodup mapO passV frs psi refsR newD loopNext opsAt idx flatAt rootOf backR newsV appendV copyV clearV strV bytesOf nilCmp buildV fillF chunk
attribute [local simp] cT cF cX cWR cOW cK X ints_length ints_get ints_getElem ints_drop ints_take ints_append ints_nil ints_set
attribute [local simp] ints_replicate
attribute [local simp] putV_some putV_none putH_app applyD_nil applyD_cons seen_app gc_ρ gc_H gc_tick st0_ρ st0_H st0_tick retV callRo callV_if borL_nil borL_cons ints_snoc take_self callWr cutH_app findQ afterV exportV_0 exportV_n okD_nil okD_cons sub_seq0 sub_seq1 sub_cond0 sub_cond1 sub_block sub_loop sub_nil young_far young_none hidW_nil mayW_nil pairs okI ok_0 ok_1 ok_2
attribute [local simp] T3 T4 T5 T9 T22 T24 T26 T29 T36 T73 T75 T86 T89 T103 T104 T106 T108 T109 T111 T114 T118 T134 T136 T157 T161 T168
attribute [local simp] young_near clo cloF Region.binds Nat.testBit hidW declW mayW
/-- The values changed, what is missing kept. -/
def chgM (g : Int → Int) (l : List Int) : List Int := l.map fun x => if x = -9999 then x else g x
theorem chgM_length (g : Int → Int) (l : List Int) : (chgM g l).length = l.length := by simp [chgM]
theorem chgM_get (g : Int → Int) (l : List Int) (i : Nat) (h : i < (chgM g l).length) : (chgM g l)[i] = (if l[i]'(by simpa [chgM] using h) = -9999 then l[i]'(by simpa [chgM] using h) else g (l[i]'(by simpa [chgM] using h))) := by simp [chgM]
/-- A field, or none, and whether. -/
def optV (ok : Bool) (w h : Int) (l : List Int) : Option (V × Hp) := if ok = true then some (.tp [ownV w h 0 2 l.length, .c (.bool true)], hpOf [] [intsO l]) else some (.tp [nilV, .c (.bool false)], hpOf [] [])
theorem c_changedNo (k : Nat) (b : Bool) (f : FuncId) (caps : List V) (w h : Int) (l : List Int) (hf : WR f = false) (hcaps : ∀ H, borL H caps = some caps) (hg : goodB w h l = false) (hk : 500 ≤ k) :
    callK C k 136 [fldV b w h l, .fn f caps] [] = some (.tp [nilV, .c (.bool false)], hpOf [] []) := by
  obtain ⟨k, rfl⟩ : ∃ m, k = m + 9 := ⟨k - 9, by omega⟩
  rw [callK_fn rfl F136 code136]
  have hv := c_IsValidField (k + 8) b w h l (by omega)
  rw [hg] at hv
  simp [fldV] at hv
  simp [R136_0, R136_1, R136_2, R136_3, R136_4, R136_5, R136_6, R136_7, R136_8, R136_9, R136_10, Try.f136, lpL136_0, lpM136_0, M136_0, fldV, hv, nilV]
theorem c_changed (k : Nat) (b : Bool) (f : FuncId) (caps : List V) (w h : Int) (l : List Int) (g : Int → Int) (hf : WR f = false) (hcaps : ∀ H, borL H caps = some caps)
    (hc : ∀ x : Int, cellB x = true → x ≠ -9999 → callK C (k + 8) f ([.c (.int .i64 x)] ++ caps) [] = some (.c (.int .i64 (g x)), hpOf [] [])) (hg : goodB w h l = true) (hk : 500 ≤ k) :
    callK C (k + 9) 136 [fldV b w h l, .fn f caps] [] = optV (goodB w h (chgM g l)) w h (chgM g l) := by
  rw [callK_fn rfl F136 code136]
  have hv := c_IsValidField (k + 8) b w h l (by omega)
  rw [hg] at hv
  obtain ⟨s1, n1, cl1, k1⟩ := good_length hg
  obtain ⟨hp0, hp, hs⟩ := shape_area s1
  have hl0 : l ≠ [] := by
    intro e; subst e
    have := Int.mul_pos (by omega : 0 < w) (by omega : 0 < h)
    simp at n1; omega
  have hz := chgM_length g l
  have hcl := c_cloneField (k + 8) b w h l (by omega) hl0 (by omega)
  simp [fldV, intsO] at hcl
  have hck := c_checkedField (k + 8) w h (chgM g l) (by omega)
  rw [hz] at hck
  simp [ownV, intsO] at hck
  simp [fldV] at hv
  have hL := loopHas (body := fun st => runCode C (callK C (k + 8)) (k + 8) (K 136) L136_0 1 st) (keep := [1, 4, 6, 16, 17, 18]) (.ex 0) (fun st => st.ρ 4 = .p 32 1 3 0 0 ∧ st.ρ 6 = .p 3120 3 3 0 0 ∧
      st.H 32 = some (1, ⟨29, 3, false, [[.c (.int .i64 0), .c (.int .i64 0), .c (.slice none 0 0)]]⟩) ∧
      st.H 3120 = some (3, ⟨29, 3, false, [[.c (.int .i64 w), .c (.int .i64 h), .s 3104 3 1 0 l.length]]⟩) ∧
      st.H 3104 = some (3, intsO (chgM g l)))
    (fun i st => st.ρ 1 = .fn f caps ∧ st.ρ 4 = .p 32 1 3 0 0 ∧ st.ρ 6 = .p 3120 3 3 0 0 ∧
      st.ρ 16 = .sq b true 1 (ints l) ∧ st.ρ 17 = .c (.int .i64 (l.length : Int)) ∧ st.ρ 18 = .c (.int .i64 (i : Int)) ∧
      st.H 32 = some (1, ⟨29, 3, false, [[.c (.int .i64 0), .c (.int .i64 0), .c (.slice none 0 0)]]⟩) ∧
      st.H 3120 = some (3, ⟨29, 3, false, [[.c (.int .i64 w), .c (.int .i64 h), .s 3104 3 1 0 l.length]]⟩) ∧
      st.H 3104 = some (3, intsO (fillL (chgM g l) l i)))
    l.length (k + 8) (by omega)
    (by
      rintro i st next hi ⟨h1, h4, h6, h16, h17, h18, H32, H3120, H3104⟩ hn
      have hget := fillL_get (chgM g l) l i hz.symm (by omega)
      have hset := fillL_set (chgM g l) l i hz.symm (by omega)
      rw [chgM_get] at hset
      have hwn := wrap_next hi (by omega)
      by_cases hm : l[i] = -9999
      · have hkp := fillL_keep (chgM g l) l i hz.symm (by omega) (by rw [chgM_get, if_pos hm])
        simp [L136_0, R136_0, R136_1, R136_2, R136_3, R136_4, R136_5, R136_6, R136_7, R136_8, R136_9, R136_10, Try.f136, lpL136_0, lpM136_0, M136_0, h1, h4, h6, h16, h17, h18, H32, H3120, H3104, hi, intsO, hm, hwn]
        exact hn _ (by simp [h1, h4, h6, h16, h17, H32, H3120, H3104, intsO, hkp])
      · have hmb : (l[i] != -9999) = true := by simpa using hm
        rw [if_neg hm] at hset
        have hcc := hc l[i] (List.all_eq_true.1 cl1 _ (List.getElem_mem hi)) hm
        simp only [List.cons_append, List.nil_append] at hcc
        simp [L136_0, R136_0, R136_1, R136_2, R136_3, R136_4, R136_5, R136_6, R136_7, R136_8, R136_9, R136_10, Try.f136, lpL136_0, lpM136_0, M136_0, h1, h4, h6, h16, h17, h18, H32, H3120, H3104, hi, intsO, hm, hmb, hwn, hf, hcaps, hcc, hget, hset]
        exact hn _ (by simp [h1, h4, h6, h16, h17, H32, H3120, intsO]))
    (by
      rintro st next ⟨h1, h4, h6, h16, h17, h18, H32, H3120, H3104⟩
      have hfa := fillL_all (chgM g l) l (by omega)
      rw [hz] at hfa
      simp [L136_0, R136_0, R136_1, R136_2, R136_3, R136_4, R136_5, R136_6, R136_7, R136_8, R136_9, R136_10, Try.f136, lpL136_0, lpM136_0, M136_0, h1, h4, h6, h16, h17, h18, H32, H3120, H3104, intsO, hfa])
  simp [R136_0, R136_1, R136_2, R136_3, R136_4, R136_5, R136_6, R136_7, R136_8, R136_9, R136_10, Try.f136, lpL136_0, lpM136_0, fldV, hv, hcl, hcaps]
  generalize hr2 : loopRun _ _ _ _ = res
  obtain ⟨s1, rfl, f4, f6, H32, H1, Hl⟩ := loop_at hL hr2 ⟨by simp, by simp, by simp, by simp, by simp, by simp, by simp, by simp, by simp [fillL_zero, intsO]⟩
  simp [intsO] at Hl
  unfold optV
  cases hg2 : goodB w h (chgM g l)
  · rw [hg2] at hck
    simp [nilV] at hck
    simp [R136_0, R136_1, R136_2, R136_3, R136_4, R136_5, R136_6, R136_7, R136_8, R136_9, R136_10, Try.f136, lpL136_0, lpM136_0, M136_0, f4, f6, H32, H1, Hl, hck, nilV]
  · rw [hg2] at hck
    simp at hck
    simp [R136_0, R136_1, R136_2, R136_3, R136_4, R136_5, R136_6, R136_7, R136_8, R136_9, R136_10, Try.f136, lpL136_0, lpM136_0, M136_0, f4, f6, H32, H1, Hl, hck, hz, ownV, intsO]

end Go.Proofs.Ytfdlllhcjfhknaa.Eng
