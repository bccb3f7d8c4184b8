/- A deterministic reading of Go code over plain data: what functions of the program compute. No conditions. -/
import Derived.Test.YtfdlllhcjfhknaaLmbase
import Derived.Test.YtfdlllhcjfhknaaLmimpl
import Derived.Test.YtfdlllhcjfhknaaEngT
namespace Go.Proofs.Ytfdlllhcjfhknaa.Eng
open Go Go.Proofs
set_option maxRecDepth 100000
set_option maxHeartbeats 2000000
set_option linter.unusedSimpArgs false
set_option linter.unusedVariables false
attribute [local simp] finK fin1 hpOf xi renQ isRoot runCode runOps Eng.step wantedV astep val ofO made loadV storeV find V.cells bin binT binA numT numFs eqCells un1 setAt fieldAddrV fieldV indexAddrV indexV bounds sliceV convV lenV foldV max2V min2V callO bor rdsO wrsO seen_none okD_none loops keepIds resV resultsV St.ev TK.agg refs refsL refsO V.one V.isC Value.oneCell' ren renL renO noTag noTagL noTagR noTagO nodup mapO passV frs psi refsR newD loopNext opsAt idx flatAt rootOf backR newsV appendV copyV clearV strV bytesOf nilCmp buildV fillF chunk
attribute [local simp] cT cF cX cWR cOW cK X ints_length ints_get ints_getElem ints_drop ints_take ints_append ints_nil ints_set
attribute [local simp] ints_replicate
attribute [local simp] putV_some putV_none putH_app applyD_nil applyD_cons seen_app gc_ρ gc_H gc_tick st0_ρ st0_H st0_tick retV callRo callV_if borL_nil borL_cons ints_snoc take_self callWr cutH_app findQ afterV exportV_0 exportV_n okD_nil okD_cons sub_seq0 sub_seq1 sub_cond0 sub_cond1 sub_block sub_loop sub_nil young_far young_none hidW_nil mayW_nil pairs okI ok_0 ok_1 ok_2
attribute [local simp] T3 T4 T5 T9 T22 T24 T29 T36 T73 T75 T86 T89 T103 T104 T106 T108 T109 T114 T134 T136 T157 T161 T168
attribute [local simp] young_near clo cloF Region.binds Nat.testBit hidW declW mayW List.findIdx?_cons
theorem ints_one4 (n : Int) : [[V.c (.int .i64 n)]] = ints [n] := rfl
theorem ints_cons4 (a : Int) (l : List Int) : [.c (.int .i64 a)] :: ints l = ints (a :: l) := rfl
theorem ok_cons4 (ty : TypeId) (sz : Nat) (fl : Bool) (e : List V) (es : List (List V)) : okObj ⟨ty, sz, fl, e :: es⟩ = ((e.length == sz && e.all fun x => x.one && (!fl || x.isC)) && okObj ⟨ty, sz, fl, es⟩) := by simp [okObj]
/-- Where a number belongs in an ascending list. -/
def posP (l : List Int) (n : Int) : Nat := (l.takeWhile fun a => decide (a < n)).length
theorem posP_le (l : List Int) (n : Int) : posP l n ≤ l.length := by
  unfold posP; exact (List.takeWhile_sublist _).length_le
theorem posP_lt : ∀ (l : List Int) (n : Int) (i : Nat) (h : i < l.length), i < posP l n → l[i] < n
  | [], _, _, h, _ => by simp at h
  | a :: l, n, i, h, hp => by
    unfold posP at hp
    by_cases ha : a < n
    · cases i with
      | zero => simpa using ha
      | succ i =>
        simp only [List.getElem_cons_succ]
        refine posP_lt l n i (by simpa using h) ?_
        rw [List.takeWhile_cons, if_pos (by simpa using ha)] at hp
        unfold posP
        simp at hp ⊢
        omega
    · rw [List.takeWhile_cons, if_neg (by simpa using ha)] at hp
      simp at hp
theorem posP_at : ∀ (l : List Int) (n : Int) (h : posP l n < l.length), ¬ l[posP l n] < n
  | [], _, h => by simp at h
  | a :: l, n, h => by
    by_cases ha : a < n
    · have e : posP (a :: l) n = posP l n + 1 := by unfold posP; rw [List.takeWhile_cons, if_pos (by simpa using ha)]; rfl
      have h' : posP l n < l.length := by rw [e] at h; simpa using h
      have := posP_at l n h'
      simp only [e, List.getElem_cons_succ]
      exact this
    · have e : posP (a :: l) n = 0 := by unfold posP; rw [List.takeWhile_cons, if_neg (by simpa using ha)]; rfl
      simp only [e, List.getElem_cons_zero]
      exact ha
theorem c_l1Put (k : Nat) (l : List Int) (n : Int) (hl : l.length ≤ 1000) (hk : l.length + 20 ≤ k) :
    (∀ h : posP l n < l.length, l[posP l n] = n → callK C k 160 [.s 0 0 1 0 l.length, .c (.int .i64 n)] [intsO l] = some (.s 0 0 1 0 l.length, hpOf [some (intsO l)] [])) ∧
    ((∀ h : posP l n < l.length, ¬ l[posP l n] = n) → callK C k 160 [.s 0 0 1 0 l.length, .c (.int .i64 n)] [intsO l] = some (.s 1 2 1 0 (l.length + 1), hpOf [some (intsO l)] [intsO (l.take (posP l n) ++ n :: l.drop (posP l n))])) := by
  obtain ⟨k, rfl⟩ : ∃ m, k = m + 9 := ⟨k - 9, by omega⟩
  rw [callK_fn rfl F160 code160]
  obtain ⟨p, hp⟩ : ∃ p, posP l n = p := ⟨_, rfl⟩
  have hle := posP_le l n
  have hlt := posP_lt l n
  have hat := posP_at l n
  rw [hp] at hle hlt
  have hat' : ∀ h : p < l.length, ¬ l[p] < n := by
    intro h
    have := hat (by rw [hp]; exact h)
    simpa only [hp] using this
  have hL := loopHas (body := fun st => runCode C (callK C (k + 8)) (k + 8) (K 160) L160_0 1 st) (keep := [0, 1, 5]) (.ex 0) (fun st => st.ρ 0 = .s 0 0 1 0 l.length ∧ st.H 0 = some (0, intsO l) ∧ st.ρ 1 = .c (.int .i64 n) ∧ st.ρ 5 = .c (.int .i64 (p : Int)) ∧ ∀ id, 16 ≤ id → st.H id = none)
    (fun i st => st.ρ 0 = .s 0 0 1 0 l.length ∧ st.H 0 = some (0, intsO l) ∧ st.ρ 1 = .c (.int .i64 n) ∧ st.ρ 5 = .c (.int .i64 (i : Int)) ∧ ∀ id, 16 ≤ id → st.H id = none) p (k + 8) (by omega)
    (by
      rintro i st next hi ⟨q0, H0, q1, q5, HN⟩ hx
      have hil : i < l.length := by omega
      have h1 := hlt i hil hi
      have hwn := wrap_next hil (by omega)
      simp [intsO] at H0
      simp [L160_0, R160_0, R160_1, R160_2, R160_3, R160_4, R160_5, R160_6, Try.f160, lpL160_0, lpM160_0, M160_0, H0, q0, q1, q5, hil, h1, hwn, undef]
      refine hx _ ⟨by simp [q0], by simp [q0, H0, intsO], by simp [q1], by simp, fun id hid => ?_⟩
      have hid0 : ¬ id = 0 := by omega
      simp [HN id hid, hid0, -ite_eq_right_iff, -ite_eq_left_iff]
      exact ite_self _)
    (by
      rintro st next ⟨q0, H0, q1, q5, HN⟩
      simp [intsO] at H0
      by_cases hpl : p < l.length
      · have h1 := hat' hpl
        have h2 := Int.not_lt.1 h1
        simp [L160_0, R160_0, R160_1, R160_2, R160_3, R160_4, R160_5, R160_6, Try.f160, lpL160_0, lpM160_0, M160_0, H0, q0, q1, q5, hpl, h1, h2, undef, HN]
        exact ⟨rfl, fun id hid => by simp [HN id hid]⟩
      · simp [L160_0, R160_0, R160_1, R160_2, R160_3, R160_4, R160_5, R160_6, Try.f160, lpL160_0, lpM160_0, M160_0, H0, q0, q1, q5, hpl, undef, HN]
        exact ⟨rfl, fun id hid => by simp [HN id hid]⟩)
  constructor
  · intro h he
    simp only [hp] at h he
    simp [R160_0, R160_1, R160_2, R160_3, R160_4, R160_5, R160_6, Try.f160, lpL160_0, lpM160_0]
    generalize hr2 : loopRun _ _ _ _ = res
    obtain ⟨s1, rfl, f0, H0, f1, f5, HN⟩ := loop_at hL hr2 ⟨by simp, by simp [intsO], by simp, by simp, fun id hid => by simp [show ¬ id = 0 by omega]⟩
    simp [intsO] at H0
    simp [R160_0, R160_1, R160_2, R160_3, R160_4, R160_5, R160_6, Try.f160, lpL160_0, lpM160_0, M160_0, undef, HN, H0, f0, f1, f5, h, he, intsO]
  · intro hne
    rw [hp] at hne ⊢
    simp [R160_0, R160_1, R160_2, R160_3, R160_4, R160_5, R160_6, Try.f160, lpL160_0, lpM160_0]
    generalize hr2 : loopRun _ _ _ _ = res
    obtain ⟨s1, rfl, f0, H0, f1, f5, HN⟩ := loop_at hL hr2 ⟨by simp, by simp [intsO], by simp, by simp, fun id hid => by simp [show ¬ id = 0 by omega]⟩
    simp [intsO] at H0
    have n1 : (1 + l.length) * 8 ≤ 140737488355328 := by omega
    have n2 : 1 + l.length ≤ 9223372036854775807 := by omega
    have n3 : p * 8 ≤ 140737488355328 := by omega
    have n4 : p ≤ 9223372036854775807 := by omega
    have n5 : (p + 1) * 8 ≤ 140737488355328 := by omega
    have n6 : p + 1 ≤ 9223372036854775807 := by omega
    have n7 : (p + 1 + (l.length - p)) * 8 ≤ 140737488355328 := by omega
    have n8 : p + 1 + (l.length - p) ≤ 9223372036854775807 := by omega
    have n9 : p + 1 + (l.length - p) = l.length + 1 := by omega
    have na : 1 + l.length = l.length + 1 := by omega
    have nb : (l.length + 1) * 8 ≤ 140737488355328 := by omega
    have nc : l.length + 1 ≤ 9223372036854775807 := by omega
    have nd : (p : Int) ≤ (l.length : Int) := by omega
    by_cases h0 : p = 0
    · subst h0
      by_cases h1 : l = []
      · subst h1
        simp [R160_0, R160_1, R160_2, R160_3, R160_4, R160_5, R160_6, Try.f160, lpL160_0, lpM160_0, M160_0, undef, HN, H0, f0, f1, f5, intsO, maxLen]
        rfl
      · have hpos : 0 < l.length := List.length_pos_iff.2 h1
        have h2 := hne hpos
        simp [R160_0, R160_1, R160_2, R160_3, R160_4, R160_5, R160_6, Try.f160, lpL160_0, lpM160_0, M160_0, undef, HN, H0, f0, f1, f5, intsO, maxLen, hpos, h1, h2, n1, n2, na, nb, nc, ok_cons4, ints_cons4]
    · have hl0 : ¬ l = [] := by rintro rfl; simp at hle; omega
      have hmin : min p l.length = p := by omega
      by_cases h1 : p < l.length
      · have h2 := hne h1
        have hd : ¬ l.length ≤ p := by omega
        have hd2 : ¬ l.length - p = 0 := by omega
        have ht2 : List.take (l.length - p) (List.drop p l) = List.drop p l := List.take_of_length_le (by simp)
        have ht : List.take (p + 1) (List.take p l ++ [n]) = List.take p l ++ [n] := List.take_of_length_le (by simp; omega)
        simp [R160_0, R160_1, R160_2, R160_3, R160_4, R160_5, R160_6, Try.f160, lpL160_0, lpM160_0, M160_0, undef, HN, H0, f0, f1, f5, intsO, maxLen, h0, hl0, h1, h2, hle, hmin, hd, hd2, ht, ht2, n3, n4, n5, n6, n7, n8, n9, nb, nc, nd, ok_cons4, ints_cons4, ints_snoc]
      · have he : p = l.length := by omega
        subst he
        simp [R160_0, R160_1, R160_2, R160_3, R160_4, R160_5, R160_6, Try.f160, lpL160_0, lpM160_0, M160_0, undef, HN, H0, f0, f1, f5, intsO, maxLen, h0, hl0, n3, n4, n5, n6, nb, nc, ok_cons4, ints_cons4, ints_snoc]

end Go.Proofs.Ytfdlllhcjfhknaa.Eng
