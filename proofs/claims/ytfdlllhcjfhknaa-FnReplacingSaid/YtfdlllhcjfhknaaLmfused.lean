/- A deterministic reading of Go code over plain data: what functions of the program compute. No conditions. -/
import Derived.Test.YtfdlllhcjfhknaaLmbase
import Derived.Test.YtfdlllhcjfhknaaLmimpl
import Derived.Test.YtfdlllhcjfhknaaLmnodes
import Derived.Test.YtfdlllhcjfhknaaLmnodep
import Derived.Test.YtfdlllhcjfhknaaLmnodefn
import Derived.Test.YtfdlllhcjfhknaaLmisexpr
import Derived.Test.YtfdlllhcjfhknaaLmput
import Derived.Test.YtfdlllhcjfhknaaEngT
namespace Go.Proofs.Ytfdlllhcjfhknaa.Eng
open Go Go.Proofs
set_option maxRecDepth 100000
set_option maxHeartbeats 2000000
set_option linter.unusedSimpArgs false
set_option linter.unusedVariables false
attribute [local simp] finK fin1 hpOf xi renQ isRoot runCode runOps Eng.step wantedV astep val ofO made loadV storeV find V.cells bin binT binA numT numFs eqCells un1 setAt fieldAddrV fieldV indexAddrV indexV bounds sliceV convV lenV foldV max2V min2V callO bor rdsO wrsO seen_none okD_none loops keepIds resV resultsV St.ev TK.agg refs refsL refsO V.one V.isC Value.oneCell' ren renL renO noTag noTagL noTagR noTagO nodup mapO passV frs psi refsR newD loopNext opsAt idx flatAt rootOf backR newsV appendV copyV clearV strV bytesOf nilCmp buildV fillF chunk
attribute [local simp] cT cF cX cWR cOW cK X ints_length ints_get ints_getElem ints_drop ints_take ints_append ints_nil ints_set
attribute [local simp] ints_replicate
attribute [local simp] putV_some putV_none putH_app applyD_nil applyD_cons seen_app gc_ρ gc_H gc_tick st0_ρ st0_H st0_tick retV callRo callV_if borL_nil borL_cons ints_snoc take_self callWr cutH_app findQ afterV exportV_0 exportV_n okD_nil okD_cons sub_seq0 sub_seq1 sub_cond0 sub_cond1 sub_block sub_loop sub_nil young_far young_none hidW_nil mayW_nil pairs okI ok_0 ok_1 ok_2
attribute [local simp] T3 T4 T5 T9 T22 T24 T29 T36 T73 T75 T86 T89 T103 T104 T106 T108 T109 T114 T134 T136 T157 T161 T168
attribute [local simp] young_near clo cloF Region.binds Nat.testBit hidW declW mayW List.findIdx?_cons
def putL (l : List Int) (n : Int) : List Int := if l[posP l n]? = some n then l else l.take (posP l n) ++ n :: l.drop (posP l n)
def fuL : List (Int × Int) → List Int := fun l => l.foldl (fun acc q => if q.1 = 1 then putL acc q.2 else acc) []
theorem fuL_take (l : List (Int × Int)) (i : Nat) (h : i < l.length) : fuL (l.take (i + 1)) = if l[i].1 = 1 then putL (fuL (l.take i)) l[i].2 else fuL (l.take i) := by
  unfold fuL
  rw [List.take_succ_eq_append_getElem h, List.foldl_append]
  rfl
theorem putL_len (l : List Int) (n : Int) : (putL l n).length ≤ l.length + 1 := by
  have := posP_le l n
  unfold putL
  split
  · omega
  · simp; omega
theorem fuL_len (l : List (Int × Int)) : ∀ i, i ≤ l.length → (fuL (l.take i)).length ≤ i
  | 0, _ => by simp [fuL]
  | i + 1, h => by
    rw [fuL_take l i (by omega)]
    have ih := fuL_len l i (by omega)
    have := putL_len (fuL (l.take i)) l[i].2
    split <;> omega
def PtX (v : V) (H : Hp) (acc : List Int) : Prop := (v = .s 1040 2 1 0 0 ∧ acc = [] ∧ H 1040 = some (2, intsO [])) ∨ (∃ tk, v = .s 8304 tk 1 0 acc.length ∧ H 8304 = some (tk, intsO acc))
theorem c_put (k : Nat) (l : List Int) (n : Int) (hl : l.length ≤ 1000) (hk : l.length + 20 ≤ k) :
    (putL l n = l ∧ callK C k 160 [.s 0 0 1 0 l.length, .c (.int .i64 n)] [intsO l] = some (.s 0 0 1 0 l.length, hpOf [some (intsO l)] [])) ∨
    ((putL l n).length = l.length + 1 ∧ callK C k 160 [.s 0 0 1 0 l.length, .c (.int .i64 n)] [intsO l] = some (.s 1 2 1 0 (l.length + 1), hpOf [some (intsO l)] [intsO (putL l n)])) := by
  obtain ⟨h1, h2⟩ := c_l1Put k l n hl hk
  have hle := posP_le l n
  by_cases h : l[posP l n]? = some n
  · obtain ⟨hlt, he⟩ := List.getElem?_eq_some_iff.1 h
    exact .inl ⟨by unfold putL; rw [if_pos h], h1 hlt he⟩
  · refine .inr ⟨by unfold putL; rw [if_neg h]; simp; omega, ?_⟩
    have e : putL l n = l.take (posP l n) ++ n :: l.drop (posP l n) := by unfold putL; rw [if_neg h]
    rw [e]
    exact h2 fun hlt he => h (by rw [List.getElem?_eq_getElem hlt, he])
theorem c_specFU (k : Nat) (b : Bool) (l : List (Int × Int)) (hk : 200 ≤ k) (hg : goodE l = true) : callK C k 73 [.sq b true 2 (ndL l)] [] = some (.tp [.s 0 2 1 0 (fuL l).length, .c (.bool true)], hpOf [] [intsO (fuL l)]) := by
  obtain ⟨k, rfl⟩ : ∃ m, k = m + 9 := ⟨k - 9, by omega⟩
  rw [callK_fn rfl F73 code73]
  obtain ⟨h15, _⟩ := good_run hg
  have gd := c_l5Good (k + 8) b l (by omega)
  rw [hg] at gd
  have hL := loopHas (body := fun st => runCode C (callK C (k + 8)) (k + 8) (K 73) L73_0 1 st) (keep := [0, 4, 5]) (.ex 0) (fun st => PtX (st.ρ 4) st.H (fuL l))
    (fun i st => st.ρ 0 = .sq b true 2 (ndL l) ∧ st.ρ 5 = .c (.int .i64 (i : Int)) ∧ PtX (st.ρ 4) st.H (fuL (l.take i))) l.length (k + 8) (by omega)
    (by
      rintro i st next hi ⟨q0, q5, hc⟩ hx
      have hwn := wrap_next hi (by omega)
      have hln := fuL_len l i (by omega)
      have hft := fuL_take l i hi
      obtain ⟨acc, hacc⟩ : ∃ acc, fuL (l.take i) = acc := ⟨_, rfl⟩
      rw [hacc] at hc hln hft
      rw [hft] at hx
      by_cases h1 : l[i].1 = 1
      · rw [if_pos h1] at hx
        rcases c_put (k + 8) acc l[i].2 (by omega) (by omega) with ⟨e1, e2⟩ | ⟨e1, e2⟩
        · rcases hc with ⟨hv, ha, hH⟩ | ⟨tk, hv, hH⟩
          · subst ha
            have := e1
            unfold putL at this
            simp at this
          · simp [intsO] at hH e2
            rw [e1] at hx
            simp [L73_0, R73_0, R73_1, R73_2, R73_3, R73_4, R73_5, R73_6, R73_7, R73_8, R73_9, Try.f73, lpL73_0, lpM73_0, M73_0, q0, q5, hi, hv, hH, ndL_at, ndE, h1, e2, ndL_length, hwn]
            refine hx _ ⟨by simp [q0], by simp, .inr ⟨tk, ?_, ?_⟩⟩
            · simp [hv]
            · simp [hv, hH, intsO]
        · rcases hc with ⟨hv, ha, hH⟩ | ⟨tk, hv, hH⟩
          · subst ha
            simp [intsO] at hH e2
            simp [L73_0, R73_0, R73_1, R73_2, R73_3, R73_4, R73_5, R73_6, R73_7, R73_8, R73_9, Try.f73, lpL73_0, lpM73_0, M73_0, q0, q5, hi, hv, hH, ndL_at, ndE, h1, e2, ndL_length, hwn]
            refine hx _ ⟨by simp [q0], by simp, .inr ⟨st.tick + 1 + 1, ?_, ?_⟩⟩
            · simp [e1]
            · simp [intsO]
          · simp [intsO] at hH e2
            simp [L73_0, R73_0, R73_1, R73_2, R73_3, R73_4, R73_5, R73_6, R73_7, R73_8, R73_9, Try.f73, lpL73_0, lpM73_0, M73_0, q0, q5, hi, hv, hH, ndL_at, ndE, h1, e2, ndL_length, hwn]
            refine hx _ ⟨by simp [q0], by simp, .inr ⟨st.tick + 1 + 1, ?_, ?_⟩⟩
            · simp [e1]
            · simp [intsO]
      · rw [if_neg h1] at hx
        have h1b : (l[i].1 == 1) = false := by simpa using h1
        simp [L73_0, R73_0, R73_1, R73_2, R73_3, R73_4, R73_5, R73_6, R73_7, R73_8, R73_9, Try.f73, lpL73_0, lpM73_0, M73_0, q0, q5, hi, ndL_at, ndE, h1, h1b, ndL_length, hwn]
        rcases hc with ⟨hv, ha, hH⟩ | ⟨tk, hv, hH⟩
        · refine hx _ ⟨by simp [q0], by simp, .inl ⟨by simp [hv], ha, by simp [hv, hH]⟩⟩
        · refine hx _ ⟨by simp [q0], by simp, .inr ⟨tk, by simp [hv], by simp [hv, hH]⟩⟩)
    (by
      rintro st next ⟨q0, q5, hc⟩
      rw [List.take_length] at hc
      simp [L73_0, R73_0, R73_1, R73_2, R73_3, R73_4, R73_5, R73_6, R73_7, R73_8, R73_9, Try.f73, lpL73_0, lpM73_0, M73_0, q0, q5, ndL_length]
      rcases hc with ⟨hv, ha, hH⟩ | ⟨tk, hv, hH⟩
      · exact .inl ⟨by simp [hv], ha, by simp [hv, hH]⟩
      · exact .inr ⟨tk, by simp [hv], by simp [hv, hH]⟩)
  simp [R73_0, R73_1, R73_2, R73_3, R73_4, R73_5, R73_6, R73_7, R73_8, R73_9, Try.f73, lpL73_0, lpM73_0, gd]
  generalize hr2 : loopRun _ _ _ _ = res
  obtain ⟨s1, rfl, hc⟩ := loop_at hL hr2 ⟨by simp, by simp, .inl ⟨by simp, by simp [fuL], by simp [intsO, ints]⟩⟩
  rcases hc with ⟨hv, ha, hH⟩ | ⟨tk, hv, hH⟩
  · simp [R73_0, R73_1, R73_2, R73_3, R73_4, R73_5, R73_6, R73_7, R73_8, R73_9, Try.f73, lpL73_0, lpM73_0, M73_0, hv, hH, intsO, ha]
  · simp [R73_0, R73_1, R73_2, R73_3, R73_4, R73_5, R73_6, R73_7, R73_8, R73_9, Try.f73, lpL73_0, lpM73_0, M73_0, hv, hH, intsO]
theorem c_specFUn (k : Nat) (b : Bool) (l : List (Int × Int)) (hk : 200 ≤ k) (hg : goodE l = false) : callK C k 73 [.sq b true 2 (ndL l)] [] = some (.tp [.s 0 2 1 0 0, .c (.bool false)], hpOf [] [intsO []]) := by
  obtain ⟨k, rfl⟩ : ∃ m, k = m + 9 := ⟨k - 9, by omega⟩
  rw [callK_fn rfl F73 code73]
  have gd := c_l5Good (k + 8) b l (by omega)
  rw [hg] at gd
  simp [R73_0, R73_1, R73_2, R73_3, R73_4, R73_5, R73_6, R73_7, R73_8, R73_9, Try.f73, lpL73_0, lpM73_0, M73_0, gd, intsO, ints]

end Go.Proofs.Ytfdlllhcjfhknaa.Eng
