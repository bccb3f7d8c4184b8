/- A deterministic reading of Go code over plain data: what functions of the program compute. No conditions. -/
import Derived.Test.YtemkckldfmpplaaLmbase
import Derived.Test.YtemkckldfmpplaaLmimpl
import Derived.Test.YtemkckldfmpplaaLmgood
import Derived.Test.YtemkckldfmpplaaLmfield
import Derived.Test.YtemkckldfmpplaaEngT
namespace Go.Proofs.Ytemkckldfmpplaa.Eng
open Go Go.Proofs
set_option maxRecDepth 100000
set_option maxHeartbeats 2000000
set_option linter.unusedSimpArgs false
set_option linter.unusedVariables false
attribute [local simp] finK fin1 hpOf xi renQ isRoot runCode runOps stepX inlOf Eng.step wantedV astep val ofO made loadV storeV find V.cells bin binT binA numT numFs eqCells un1 setAt fieldAddrV fieldV indexAddrV indexV bounds sliceV convV lenV foldV max2V min2V callO bor rdsO wrsO seen_none okD_none loops keepIds resV resultsV St.ev TK.agg refs refsL refsO V.one V.isC Value.oneCell' ren renL renO noTag noTagL noTagR noTagO nodup mapO passV frs psi refsR newD loopNext opsAt idx flatAt rootOf backR newsV appendV copyV clearV strV bytesV bldV bufV selfV bytesOf nilCmp buildV fillF chunk
attribute [local simp] cT cF cX cWR cOW cK cBL X ints_length ints_get ints_getElem ints_drop ints_take ints_append ints_nil ints_set
attribute [local simp] ints_replicate
attribute [local simp] putV_some putV_none putH_app applyD_nil applyD_cons seen_app gc_ρ gc_H gc_tick st0_ρ st0_H st0_tick retV callRo callV_if borL_nil borL_cons ints_snoc take_self callWr cutH_app findQ afterV exportV_0 exportV_n okD_nil okD_cons sub_seq0 sub_seq1 sub_cond0 sub_cond1 sub_block sub_loop sub_nil young_far young_none hidW_nil mayW_nil pairs okI ok_0 ok_1 ok_2
attribute [local simp] T3 T4 T22 T24 T26 T29 T44
attribute [local simp] young_near clo cloF Region.binds Nat.testBit hidW declW mayW List.findIdx?_cons
/-- A list of lists, to be read alone. -/
def nst (L : List (List Int)) : List (List V) := L.map fun l => [.sq true true 1 (ints l)]
theorem nst_length (L : List (List Int)) : (nst L).length = L.length := by simp [nst]
theorem nst_get (L : List (List Int)) (i : Nat) (h : i < L.length) : (nst L)[i]? = some [.sq true true 1 (ints L[i])] := by simp [nst, h]
theorem nst_getE (L : List (List Int)) (i : Nat) (h : i < (nst L).length) : (nst L)[i] = [.sq true true 1 (ints (L[i]'(by simpa [nst] using h)))] := by simp [nst]
theorem c_eqIntSS (k : Nat) (b c : Bool) (L : List (List Int)) (hl : L.length ≤ 1000) (hs : ∀ l ∈ L, l.length ≤ 1000) (hk : 3000 ≤ k) : callK C k 8 [.sq b false 1 (nst L), .sq c false 1 (nst L)] [] = some (.c (.bool true), hpOf [] []) := by
  obtain ⟨k, rfl⟩ : ∃ m, k = m + 9 := ⟨k - 9, by omega⟩
  rw [callK_fn rfl F8 code8]
  have hL := loopHas (body := fun st => runCode C (callK C (k + 8)) (k + 8) (K 8) L8_0 1 st) (keep := [0, 1, 5]) (.ex 0) (fun s => s.ρ 0 = .sq b false 1 (nst L))
    (fun i st => st.ρ 0 = .sq b false 1 (nst L) ∧ st.ρ 1 = .sq c false 1 (nst L) ∧ st.ρ 5 = .c (.int .i64 (i : Int)))
    L.length (k + 8) (by omega)
    (by
      rintro i st next hi ⟨q0, q1, q5⟩ hn
      have hg := nst_get L i hi
      have e := c_eqIntS (k + 8) true true L[i] L[i] (by have := hs _ (List.getElem_mem hi); omega) (by have := hs _ (List.getElem_mem hi); omega)
      simp at e
      obtain ⟨_, hg2⟩ := List.getElem?_eq_some_iff.1 hg
      simp [L8_0, R8_0, R8_1, R8_2, R8_3, R8_4, R8_5, R8_6, R8_7, R8_8, Try.f8, lpL8_0, lpM8_0, M8_0, q0, q1, q5, hi, nst_length, hg, hg2, e, wrap_next hi (by omega : L.length ≤ 9000000000000000000)]
      exact hn _ ⟨by simp [q0], by simp [q1], by simp⟩)
    (by
      rintro st next ⟨q0, q1, q5⟩
      simp [L8_0, R8_0, R8_1, R8_2, R8_3, R8_4, R8_5, R8_6, R8_7, R8_8, Try.f8, lpL8_0, lpM8_0, M8_0, q0, q1, q5, nst_length])
  simp [R8_0, R8_1, R8_2, R8_3, R8_4, R8_5, R8_6, R8_7, R8_8, Try.f8, lpL8_0, lpM8_0, nst_length]
  generalize hr : loopRun _ _ _ _ = res
  obtain ⟨s1, rfl, _⟩ := loop_at hL hr ⟨by simp, by simp, by simp⟩
  simp [R8_0, R8_1, R8_2, R8_3, R8_4, R8_5, R8_6, R8_7, R8_8, Try.f8, lpL8_0, lpM8_0, M8_0]
/-- The marks that stand in the lists. -/
def mkSS (n : Int) : List (List Int) → List (List Int)
  | [] => []
  | l :: r => marks n l.length :: mkSS (n + (l.length : Int)) r
def sumS (L : List (List Int)) : Nat := (L.map List.length).sum
theorem mkSS_len : ∀ (n : Int) (L : List (List Int)), (mkSS n L).length = L.length
  | _, [] => rfl
  | n, l :: r => by simp [mkSS, mkSS_len]
theorem sumS_take (L : List (List Int)) (i : Nat) (h : i < L.length) : sumS (L.take (i + 1)) = sumS (L.take i) + L[i].length := by
  unfold sumS
  rw [List.take_succ_eq_append_getElem h, List.map_append, List.sum_append]
  simp
theorem mkSS_get : ∀ (n : Int) (L : List (List Int)) (i : Nat) (h : i < L.length), (mkSS n L)[i]'(by rw [mkSS_len]; exact h) = marks (n + (sumS (L.take i) : Int)) L[i].length
  | n, l :: r, 0, _ => by simp [mkSS, sumS]
  | n, l :: r, i + 1, h => by
    have := mkSS_get (n + (l.length : Int)) r i (by simpa using h)
    simp only [mkSS, List.getElem_cons_succ, List.take_succ_cons]
    rw [this]
    congr 1
    simp [sumS]
    omega
theorem sumS_le {L : List (List Int)} {m : Nat} (h : ∀ l ∈ L, l.length ≤ m) : sumS L ≤ m * L.length := by
  induction L with
  | nil => simp [sumS]
  | cons l r ih =>
    have h1 := h l (by simp)
    have h2 := ih (fun x hx => h x (List.mem_cons_of_mem _ hx))
    simp only [sumS, List.map_cons, List.sum_cons, List.length_cons, Nat.mul_succ] at h2 ⊢
    omega
theorem c_heldIntSS (k : Nat) (b : Bool) (L : List (List Int)) (hl : L.length ≤ 1000) (hs : ∀ l ∈ L, l.length ≤ 1000) (hk : 3000 ≤ k) : callK C k 12 [.sq b false 1 (nst (mkSS 1 L)), .c (.int .i64 1)] [] = some (.c (.int .i64 (1 + (sumS L : Int))), hpOf [] []) := by
  obtain ⟨k, rfl⟩ : ∃ m, k = m + 9 := ⟨k - 9, by omega⟩
  rw [callK_fn rfl F12 code12]
  have hml := mkSS_len 1 L
  have hsum : ∀ i, sumS (L.take i) ≤ 1000000 := by
    intro i
    have h1 := sumS_le (L := L.take i) (m := 1000) (fun l hl' => hs l (List.mem_of_mem_take hl'))
    rw [List.length_take] at h1
    have h2 : 1000 * min i L.length ≤ 1000 * 1000 := Nat.mul_le_mul_left _ (by omega)
    omega
  have hL := loopHas (body := fun st => runCode C (callK C (k + 8)) (k + 8) (K 12) L12_0 1 st) (keep := [0, 1, 5]) (.ex 0) (fun s => s.ρ 1 = .c (.int .i64 (1 + (sumS L : Int))))
    (fun i st => st.ρ 0 = .sq b false 1 (nst (mkSS 1 L)) ∧ st.ρ 1 = .c (.int .i64 (1 + (sumS (L.take i) : Int))) ∧ st.ρ 5 = .c (.int .i64 (i : Int)))
    L.length (k + 8) (by omega)
    (by
      rintro i st next hi ⟨q0, q1, q5⟩ hn
      have hg := nst_get (mkSS 1 L) i (by omega)
      have hmk := mkSS_get 1 L i hi
      rw [hmk] at hg
      have hsi := hsum i
      have hli := hs _ (List.getElem_mem hi)
      have hst := sumS_take L i hi
      have e := c_heldIntS (k + 8) true (marks (1 + (sumS (L.take i) : Int)) L[i].length) (1 + (sumS (L.take i) : Int)) (by rw [marks_length]; omega) (by omega) (by omega) (by rw [marks_length]; omega)
      rw [if_pos (by rw [marks_length]), marks_length] at e
      have w1 : 1 + (sumS (L.take i) : Int) + (L[i].length : Int) = 1 + (sumS (L.take (i + 1)) : Int) := by rw [hst]; omega
      rw [w1] at e
      have w2 : ¬ 1 + (sumS (L.take (i + 1)) : Int) < 0 := by omega
      obtain ⟨_, hg2⟩ := List.getElem?_eq_some_iff.1 hg
      simp [L12_0, R12_0, R12_1, R12_2, R12_3, R12_4, R12_5, R12_6, R12_7, Try.f12, lpL12_0, lpM12_0, M12_0, q0, q1, q5, hi, nst_length, hml, hg, hg2, e, w2, wrap_next hi (by omega : L.length ≤ 9000000000000000000)]
      exact hn _ ⟨by simp [q0], by simp, by simp⟩)
    (by
      rintro st next ⟨q0, q1, q5⟩
      rw [List.take_length] at q1
      simp [L12_0, R12_0, R12_1, R12_2, R12_3, R12_4, R12_5, R12_6, R12_7, Try.f12, lpL12_0, lpM12_0, M12_0, q0, q1, q5, nst_length, hml])
  simp [R12_0, R12_1, R12_2, R12_3, R12_4, R12_5, R12_6, R12_7, Try.f12, lpL12_0, lpM12_0, nst_length]
  generalize hr : loopRun _ _ _ _ = res
  obtain ⟨s1, rfl, q1⟩ := loop_at hL hr ⟨by simp, by simp [sumS], by simp⟩
  simp [R12_0, R12_1, R12_2, R12_3, R12_4, R12_5, R12_6, R12_7, Try.f12, lpL12_0, lpM12_0, M12_0, q1]
/-- A list of lists of one's own: ids, versions, contents; all that it is made of lies below B. -/
def rowsP (P : List (Nat × Nat × List Int)) : List (List V) := P.map fun p => [.s p.1 p.2.1 1 0 p.2.2.length]
def NS (H : Hp) (v : V) (P : List (Nat × Nat × List Int)) (B : Nat) : Prop :=
  (∀ p ∈ P, H p.1 = some (p.2.1, intsO p.2.2) ∧ p.1 < B) ∧ (P.map (·.1)).Nodup ∧ ((P = [] ∧ (v = .c (.slice none 0 0) ∨ ∃ id vr, id < B ∧ v = .s id vr 1 0 0 ∧ H id = some (vr, ⟨22, 1, false, []⟩))) ∨ (P ≠ [] ∧ ∃ id vr, id < B ∧ id ∉ P.map (·.1) ∧ v = .s id vr 1 0 P.length ∧ H id = some (vr, ⟨22, 1, false, rowsP P⟩)))
theorem NS.mono {H H' : Hp} {v : V} {P : List (Nat × Nat × List Int)} {B B' : Nat} (h : NS H v P B) (hk : ∀ id, id < B → H' id = H id) (hB : B ≤ B') : NS H' v P B' := by
  obtain ⟨h1, h2, h3⟩ := h
  refine ⟨fun p hp => ⟨by rw [hk _ (h1 p hp).2]; exact (h1 p hp).1, by have := (h1 p hp).2; omega⟩, h2, ?_⟩
  rcases h3 with ⟨e, h3⟩ | ⟨e, id, vr, a, b, c, d⟩
  · refine .inl ⟨e, ?_⟩
    rcases h3 with h3 | ⟨id, vr, a, c, d⟩
    · exact .inl h3
    · exact .inr ⟨id, vr, by omega, c, by rw [hk _ a]; exact d⟩
  · exact .inr ⟨e, id, vr, by omega, b, c, by rw [hk _ a]; exact d⟩
/-- What a callee sees of it. -/
theorem NS.bor {H : Hp} {v : V} {P : List (Nat × Nat × List Int)} {B : Nat} (h : NS H v P B) (n : Nat) : ∃ x, Eng.bor H (n + 2) v = some x ∧ (x = .sq true false 1 (nst (P.map (·.2.2))) ∨ (P = [] ∧ x = .c (.slice none 0 0))) := by
  obtain ⟨h1, h2, h3⟩ := h
  have hm : ∀ Q : List (Nat × Nat × List Int), (∀ p ∈ Q, p ∈ P) → mapO (mapO (Eng.bor H (n + 1))) (rowsP Q) = some (nst (Q.map (·.2.2))) := by
    intro Q
    induction Q with
    | nil => intro _; rfl
    | cons p r ih =>
      intro hQ
      have hp := (h1 p (hQ p (by simp))).1
      have e : Eng.bor H (n + 1) (.s p.1 p.2.1 1 0 p.2.2.length) = some (.sq true true 1 (ints p.2.2)) := by
        simp [Eng.bor, find, hp, intsO, ints_take]
      have ih' := ih (fun q hq => hQ q (List.mem_cons_of_mem _ hq))
      simp only [rowsP, List.map_cons, mapO] at ih' ⊢
      rw [e, ih']
      rfl
  rcases h3 with ⟨rfl, rfl | ⟨id, vr, _, rfl, d⟩⟩ | ⟨_, id, vr, _, _, rfl, d⟩
  · exact ⟨_, by simp [Eng.bor], .inr ⟨rfl, rfl⟩⟩
  · exact ⟨_, by simp [Eng.bor, find, d, mapO, nst], .inl rfl⟩
  · refine ⟨_, ?_, .inl rfl⟩
    have := hm P (fun _ h => h)
    have hl : (rowsP P).length = P.length := by simp [rowsP]
    have ht : (rowsP P).take P.length = rowsP P := by rw [← hl]; exact List.take_length
    have hf : find H id vr = some ⟨22, 1, false, rowsP P⟩ := by simp [find, d]
    unfold Eng.bor
    simp only [hf, hl, ht, List.drop_zero, Nat.zero_add, Nat.le_refl, and_self, if_true, Bool.false_eq_true, if_false, this]

end Go.Proofs.Ytemkckldfmpplaa.Eng
