/- A deterministic reading of Go code over plain data: what functions of the program compute. No conditions. -/
import Derived.Test.YtfdlllhcjfhknaaLmbase
import Derived.Test.YtfdlllhcjfhknaaLmimpl
import Derived.Test.YtfdlllhcjfhknaaLmimplc
import Derived.Test.YtfdlllhcjfhknaaEngT
namespace Go.Proofs.Ytfdlllhcjfhknaa.Eng
open Go Go.Proofs
set_option maxRecDepth 100000
set_option maxHeartbeats 2000000
set_option linter.unusedSimpArgs false
set_option linter.unusedVariables false
attribute [local simp] finK fin1 hpOf xi renQ isRoot runCode runOps Eng.step wantedV astep val ofO made loadV storeV find V.cells bin binT un1 setAt fieldAddrV fieldV indexAddrV indexV bounds sliceV convV lenV foldV max2V min2V callO bor rdsO wrsO seen_none okD_none loops keepIds resV resultsV St.ev TK.agg refs refsL refsO V.one V.isC Value.oneCell' ren renL renO noTag noTagL noTagR noTagO nodup mapO passV frs psi refsR newD loopNext opsAt idx flatAt rootOf backR newsV appendV copyV clearV strV bytesOf nilCmp buildV fillF chunk
attribute [local simp] cT cF cX cWR cOW cK X ints_length ints_get ints_getElem ints_drop ints_take ints_append ints_nil ints_set
attribute [local simp] ints_replicate
attribute [local simp] putV_some putV_none putH_app applyD_nil applyD_cons seen_app gc_ρ gc_H gc_tick st0_ρ st0_H st0_tick retV callRo callV_if borL_nil borL_cons ints_snoc take_self callWr cutH_app findQ afterV exportV_0 exportV_n okD_nil okD_cons sub_seq0 sub_seq1 sub_cond0 sub_cond1 sub_block sub_loop sub_nil young_far young_none hidW_nil mayW_nil pairs okI ok_0 ok_1 ok_2
attribute [local simp] T3 T4 T5 T9 T22 T24 T26 T29 T36 T73 T75 T86 T89 T103 T104 T106 T108 T109 T111 T114 T118 T134 T136 T157 T161 T168
def likeB (q0 q : Fd) : Bool := goodB q.w q.h q.l && (q.w == q0.w && q.h == q0.h)
theorem c_areAlike (k : Nat) (c : Bool) (q0 : Fd) (fs : List Fd) (hl : fs.length ≤ 1000) (hk : fs.length + 300 ≤ k) : callK C k 144 [.sq c false 3 ((q0 :: fs).map Fd.cells)] [] = some (.c (.bool ((q0 :: fs).all (likeB q0))), hpOf [] []) := by
  obtain ⟨k, rfl⟩ : ∃ m, k = m + 7 := ⟨k - 7, by omega⟩
  rw [callK_fn rfl F144 code144]
  have v := fun q : Fd => c_IsValidField (k + 6) q.b q.w q.h q.l (by omega)
  have s := fun q : Fd => c_sameShape (k + 6) q.b q0.b q.w q.h q0.w q0.h q.l q0.l (by omega)
  simp only [fldV] at v s
  generalize hfs : q0 :: fs = gs
  have hg0 : (gs.map Fd.cells)[0]? = some q0.cells := by subst hfs; rfl
  have hgl : gs.length ≤ 1001 := by subst hfs; simp; omega
  have hgk : gs.length < k + 6 := by subst hfs; simp; omega
  obtain ⟨b0, w0, h0', l0⟩ := q0
  simp only at s
  cases hall : gs.all (likeB ⟨b0, w0, h0', l0⟩)
  · obtain ⟨out, ho⟩ := loopOut (body := fun st => runCode C (callK C (k + 6)) (k + 6) (K 144) L144_0 1 st) (keep := [0, 5, 6, 7]) .ret (fun st => st.ρ 2 = .c (.bool false))
      (fun i st => st.ρ 0 = .sq c false 3 (gs.map Fd.cells) ∧ st.ρ 5 = .sq c false 3 (gs.map Fd.cells) ∧ st.ρ 6 = .c (.int .i64 (gs.length : Int)) ∧ st.ρ 7 = .c (.int .i64 (i : Int)) ∧ (gs.take i).all (likeB ⟨b0, w0, h0', l0⟩) = true)
      gs.length (k + 6) hgk
      (by
        rintro i st next hi ⟨h0, h5, h6, h7, ht⟩ hn
        have ht' := fun hx : likeB ⟨b0, w0, h0', l0⟩ gs[i] = true => (show (gs.take (i + 1)).all (likeB ⟨b0, w0, h0', l0⟩) = true by rw [List.take_succ_eq_append_getElem hi, List.all_append, ht]; simp [hx])
        obtain ⟨q, hq⟩ : ∃ q, gs[i] = q := ⟨_, rfl⟩
        rw [hq] at ht'
        have v1 := v q
        have s1 := s q
        obtain ⟨b1, w1, h1, l1⟩ := q
        simp only at v1 s1
        cases hgd : goodB w1 h1 l1
        · simp [L144_0, R144_0, R144_1, R144_2, R144_3, R144_4, R144_5, R144_6, R144_7, Try.f144, lpL144_0, lpM144_0, M144_0, h0, h5, h6, h7, hi, hq, Fd.cells, v1, hgd]
        by_cases hw : w1 = w0
        · subst hw
          by_cases hh : h1 = h0'
          · subst hh
            simp [L144_0, R144_0, R144_1, R144_2, R144_3, R144_4, R144_5, R144_6, R144_7, Try.f144, lpL144_0, lpM144_0, M144_0, h0, h5, h6, h7, hi, hq, hg0, Fd.cells, v1, s1, hgd, wrap_next hi (by omega : gs.length ≤ 9000000000000000000)]
            exact hn _ (by simp [h0, h5, h6]; simpa using ht' (by simp [likeB, hgd]))
          · simp [L144_0, R144_0, R144_1, R144_2, R144_3, R144_4, R144_5, R144_6, R144_7, Try.f144, lpL144_0, lpM144_0, M144_0, h0, h5, h6, h7, hi, hq, hg0, Fd.cells, v1, s1, hgd, hh]
        · simp [L144_0, R144_0, R144_1, R144_2, R144_3, R144_4, R144_5, R144_6, R144_7, Try.f144, lpL144_0, lpM144_0, M144_0, h0, h5, h6, h7, hi, hq, hg0, Fd.cells, v1, s1, hgd, hw])
      (by
        rintro st next ⟨h0, h5, h6, h7, ht⟩
        rw [List.take_of_length_le (Nat.le_refl _), hall] at ht
        cases ht)
    simp at ho
    simp [R144_0, R144_1, R144_2, R144_3, R144_4, R144_5, R144_6, R144_7, Try.f144, lpL144_0, lpM144_0, M144_0, ho]
  · obtain ⟨out, ho⟩ := loopOut (body := fun st => runCode C (callK C (k + 6)) (k + 6) (K 144) L144_0 1 st) (keep := [0, 5, 6, 7]) (.ex 0) (fun st => True)
      (fun i st => st.ρ 0 = .sq c false 3 (gs.map Fd.cells) ∧ st.ρ 5 = .sq c false 3 (gs.map Fd.cells) ∧ st.ρ 6 = .c (.int .i64 (gs.length : Int)) ∧ st.ρ 7 = .c (.int .i64 (i : Int)))
      gs.length (k + 6) hgk
      (by
        rintro i st next hi ⟨h0, h5, h6, h7⟩ hn
        have hp := List.all_eq_true.1 hall _ (List.getElem_mem hi)
        obtain ⟨q, hq⟩ : ∃ q, gs[i] = q := ⟨_, rfl⟩
        rw [hq] at hp
        have v1 := v q
        have s1 := s q
        obtain ⟨b1, w1, h1, l1⟩ := q
        simp only [likeB, Bool.and_eq_true, beq_iff_eq] at v1 s1 hp
        obtain ⟨hgd, hw, hh⟩ := hp
        subst hw hh
        simp [L144_0, R144_0, R144_1, R144_2, R144_3, R144_4, R144_5, R144_6, R144_7, Try.f144, lpL144_0, lpM144_0, M144_0, h0, h5, h6, h7, hi, hq, hg0, Fd.cells, v1, s1, hgd, wrap_next hi (by omega : gs.length ≤ 9000000000000000000)]
        simp only [and_true] at hn
        exact hn _ (by simp [h0, h5, h6]))
      (by
        rintro st next ⟨h0, h5, h6, h7⟩
        simp [L144_0, R144_0, R144_1, R144_2, R144_3, R144_4, R144_5, R144_6, R144_7, Try.f144, lpL144_0, lpM144_0, M144_0, h0, h5, h6, h7])
    simp at ho
    simp [R144_0, R144_1, R144_2, R144_3, R144_4, R144_5, R144_6, R144_7, Try.f144, lpL144_0, lpM144_0, M144_0, ho]

end Go.Proofs.Ytfdlllhcjfhknaa.Eng
