/- A deterministic reading of Go code over plain data: what functions of the program compute, and what its laws come to. No conditions. -/
import Derived.Test.YtfcnlfjenialdaaEngT
import Derived.Test.YtfcnlfjenialdaaLmmev1
namespace Go.Proofs.Ytfcnlfjenialdaa.Eng
open Go Go.Proofs
set_option maxRecDepth 100000
set_option maxHeartbeats 2000000
set_option linter.unusedSimpArgs false
set_option linter.unusedVariables false
attribute [local simp] finK fin1 hpOf xi renQ isRoot runCode runOps stepX inlOf Eng.step wantedV astep val ofO made loadV storeV find V.cells bin binT binA numT numFs eqCells un1 setAt fieldAddrV fieldV indexAddrV indexV bounds sliceV convV lenV foldV max2V min2V callO bor rdsO wrsO seen_none okD_none loops keepIds resV resultsV St.ev TK.agg refs refsL refsO V.one V.isC Value.oneCell' ren renL renO noTag noTagL noTagR noTagO nodup mapO passV frs psi refsR newD loopNext opsAt idx flatAt rootOf backR newsV appendV copyV clearV strV bytesV bldV bufV selfV bytesOf nilCmp buildV fillF chunk freeL frzW cellSame sameV
attribute [local simp] cT cF cX cWR cOW cK cBL X ints_length ints_get ints_getElem ints_drop ints_take ints_append ints_nil ints_set
attribute [local simp] ints_replicate
attribute [local simp] putV_some putV_none putH_app applyD_nil applyD_cons seen_app gc_ρ gc_H gc_tick st0_ρ st0_H st0_tick retV callRo callV_if borL_nil borL_cons ints_snoc take_self callWr cutH_app findQ afterV exportV_0 exportV_n okD_nil okD_cons sub_seq0 sub_seq1 sub_cond0 sub_cond1 sub_block sub_loop sub_nil young_far young_none hidW_nil mayW_nil keepsF_nil keepsF_cons pairs okI ok_0 ok_1 ok_2
attribute [local simp] T3 T4 T22 T23 T26 T28 T31 T33 T43 T48 T50 T70 T73 T75 T78 T82 T85
attribute [local simp] young_near clo cloF Region.binds Nat.testBit hidW declW mayW List.findIdx?_cons
theorem evA_prev {w h : Int} {Fs : List Fd} {l : List (Int × Int)} {n : Nat} {B : List (List Int)} (hb : evA w h Fs l (n + 1) = some B) : ∃ A z, evA w h Fs l n = some A ∧ valN w h Fs (l.getD n (0, 0)) A = some z ∧ B = A.take (A.length - (arI (l.getD n (0, 0))).toNat) ++ [z] := by
  rw [evA_succ] at hb
  obtain ⟨A, hA, hb⟩ := Option.bind_eq_some_iff.1 hb
  obtain ⟨z, hz, rfl⟩ := Option.map_eq_some_iff.1 hb
  exact ⟨A, z, hA, hz, rfl⟩
theorem evA_below {w h : Int} {Fs : List Fd} {l : List (Int × Int)} : ∀ (d n : Nat) (B : List (List Int)), evA w h Fs l (n + d) = some B → ∃ A, evA w h Fs l n = some A
  | 0, n, B, hb => ⟨B, hb⟩
  | d + 1, n, B, hb => by
    obtain ⟨A, _, hA, _⟩ := evA_prev (n := n + d) hb
    exact evA_below d n A hA
/-- The stack: nothing yet, or an object. -/
def StkI (w h : Int) (A : List (List Int)) (v : V) (H : Hp) (hi : Nat) : Prop := (A = [] ∧ v = .c (.slice none 0 0)) ∨ (A ≠ [] ∧ ∃ P tk, P.map Fo.l = A ∧ (∀ q ∈ P, q.w = w ∧ q.h = h) ∧ Has H P (Bt 1) hi ∧ v = .s 10408 tk 3 0 P.length ∧ H 10408 = some (tk, flO P))
theorem fd_fs {w h : Int} {P : List Fo} (hw : ∀ q ∈ P, q.w = w ∧ q.h = h) : (P.map Fo.fd).map Fd.cells = fsL w h (P.map Fo.l) := by
  induction P with
  | nil => rfl
  | cons q r ih =>
    obtain ⟨a, b⟩ := hw q (by simp)
    have := ih fun x hx => hw x (List.mem_cons_of_mem _ hx)
    simp only [fsL, List.map_cons, fsE] at this ⊢
    rw [this]
    simp [Fo.fd, Fd.cells, a, b]
theorem StkI.bor {w h : Int} {A : List (List Int)} {v : V} {H : Hp} {hi : Nat} (I : StkI w h A v H hi) : ∃ x, Eng.bor H 4 v = some x ∧ isFS x w h A := by
  rcases I with ⟨rfl, rfl⟩ | ⟨_, P, tk, e, hw, hP, rfl, hH⟩
  · exact ⟨_, bor_c _ _ _, .inr ⟨rfl, rfl⟩⟩
  · exact ⟨_, bor_fl hP hH 2, .inl (by rw [fd_fs hw, e])⟩
theorem StkI.keep {w h : Int} {A : List (List Int)} {v : V} {H H' : Hp} {hi hi' : Nat} (I : StkI w h A v H hi) (hk : ∀ id, Bt 1 ≤ id → id < hi → H' id = H id) (h0 : H' 10408 = H 10408) (hh : hi ≤ hi') : StkI w h A v H' hi' := by
  rcases I with ⟨rfl, rfl⟩ | ⟨a, P, tk, e, hw, hP, rfl, hH⟩
  · exact .inl ⟨rfl, rfl⟩
  · exact .inr ⟨a, P, tk, e, hw, hP.keep (fun id a b _ => hk id a b) (Nat.le_refl _) hh, rfl, by rw [h0]; exact hH⟩
structure EvI (w h : Int) (c b : Bool) (Fs : List Fd) (l : List (Int × Int)) (i : Nat) (A : List (List Int)) (rid : Nat) (s : St) : Prop where
  q1 : s.ρ 1 = .sq c false 3 (Fs.map Fd.cells)
  q4 : s.ρ 4 = .p rid 1 3 0 0
  q26 : s.ρ 26 = .sq b true 2 (ndL l)
  q27 : s.ρ 27 = .c (.int .i64 (l.length : Int))
  q28 : s.ρ 28 = .c (.int .i64 (i : Int))
  Hr : s.H rid = some (1, ⟨28, 3, false, [[.c (.int .i64 0), .c (.int .i64 0), .c (.slice none 0 0)]]⟩)
  r0 : Bt 1 ≤ rid
  r1 : rid < Bt 2
  S : StkI w h A (s.ρ 6) s.H (Bt s.tick)
  ht : 2 ≤ s.tick
theorem EvI.gc {w h : Int} {c b : Bool} {Fs : List Fd} {l : List (Int × Int)} {i : Nat} {A : List (List Int)} {rid : Nat} {s : St} (I : EvI w h c b Fs l i A rid s) : EvI w h c b Fs l i A rid (Eng.gc [1, 4, 6, 26, 27, 28] s) ∧ (Eng.gc [1, 4, 6, 26, 27, 28] s).H 10384 = none := by
  obtain ⟨q1, q4, q26, q27, q28, Hr, r0, r1, S, ht⟩ := I
  have hb := Bt_big
  rcases S with ⟨rfl, e6⟩ | ⟨a, P, tk, e, hw, hP, e6, hH⟩
  · refine ⟨⟨by simp [q1], by simp [q4], by simp [q26], by simp [q27], by simp [q28], by simp [q1, q4, q26, q27, q28, e6, Hr], r0, r1, .inl ⟨rfl, by simp [e6]⟩, by simp; exact ht⟩, ?_⟩
    simp [q1, q4, q26, q27, q28, e6, Hr]
    omega
  · have hk : ∀ id, id ∈ P.map Fo.id → (Eng.gc [1, 4, 6, 26, 27, 28] s).H id = s.H id := by
      intro id hid
      obtain ⟨q, hq, rfl⟩ := List.mem_map.1 hid
      simp [q1, q4, q26, q27, q28, e6, Hr, hH, flO, refs_rows]
      intro h1 h2 h3 h4
      exact absurd rfl (h4 q hq)
    have hn : ∀ q ∈ P, ¬ q.id = 10384 := fun q hq e => by have := (hP q hq).2.1; omega
    refine ⟨⟨by simp [q1], by simp [q4], by simp [q26], by simp [q27], by simp [q28], by simp [q1, q4, q26, q27, q28, e6, Hr], r0, r1, .inr ⟨a, P, tk, e, hw, hP.keep (fun id _ _ hm => hk id hm) (Nat.le_refl _) (Nat.le_refl _), by simp [e6], by simp [q1, q4, q26, q27, q28, e6, Hr, hH]⟩, by simp; exact ht⟩, ?_⟩
    simp [q1, q4, q26, q27, q28, e6, Hr, hH, flO, refs_rows]
    intro h2
    rcases h2 with h2 | ⟨q, hq, h2⟩
    · omega
    · exact absurd h2 (hn q hq)
theorem bor_nd (H : Hp) (n : Nat) (a b : Value) : Eng.bor H (n + 2) (.ag [.c a, .c b]) = some (.ag [.c a, .c b]) := by simp [Eng.bor, mapO]
theorem ev_round (k : Nat) (w h : Int) (c b : Bool) (Fs : List Fd) (hne : Fs ≠ []) (hFs : ∀ q ∈ Fs, goodB w h q.l = true ∧ q.w = w ∧ q.h = h) (h4 : Fs.length ≤ 4) (l : List (Int × Int)) (h15 : l.length ≤ 15) (hk : 4000 ≤ k) (i : Nat) (hi : i < l.length) (hr : 0 ≤ runO l (i + 1)) (rid : Nat) (A : List (List Int)) (hA : evA w h Fs l i = some A) (z : List Int) (hz : valN w h Fs l[i] A = some z) :
    ∀ s, EvI w h c b Fs l i A rid s → s.H 10384 = none → ∃ s', runCode C (callK C k) k (K 9) L9_0 1 s = some (.nrm, s') ∧ EvI w h c b Fs l (i + 1) (A.take (A.length - (arI l[i]).toNat) ++ [z]) rid s' := by
  have hs : shapeB w h = true := by
    cases Fs with
    | nil => exact absurd rfl hne
    | cons q r => exact good_shape (hFs q (by simp)).1
  intro s ⟨q1, q4, q26, q27, q28, Hr, r0, r1, S, ht⟩ H0
  obtain ⟨h1, h2, h3, h5⟩ := runO_back hr
  rw [getD_nd hi] at h2 h3 h5
  obtain ⟨a1, a2⟩ := evA_ok hs (fun q hq => (hFs q hq).1) i A h1 hA
  have hrle := runO_le l i
  have hb := Bt_big
  have hm1 : Bt 2 ≤ Bt s.tick := Bt_mono ht
  have hm2 : Bt s.tick ≤ Bt (s.tick + 1) := Bt_mono (by omega)
  have hm3 : Bt (s.tick + 1) ≤ Bt (s.tick + 1 + 1) := Bt_mono (by omega)
  have n6 := FR_lo 6 (s.tick + 1) 3
  have n6' := FR_hi 6 (s.tick + 1) 3 (by omega)
  have hN := ndL_get l i hi
  have S1 : StkI w h A (s.ρ 6) (putH (putH s.H (16 * (FR 6 (s.tick + 1) * 64 + 2 + 1)) (some (s.tick + 1, ⟨48, 2, true, [[.c (.int .i64 0), .c (.int .i64 0)]]⟩))) (16 * (FR 6 (s.tick + 1) * 64 + 2 + 1)) (some (s.tick + 1, ⟨48, 2, true, [[.c (.int .i64 l[i].1), .c (.int .i64 l[i].2)]]⟩))) (Bt s.tick) :=
    S.keep (fun id a b => by simp [putH_app, show ¬ id = 16 * (FR 6 (s.tick + 1) * 64 + 2 + 1) by omega]) (by simp [putH_app, show ¬ 10408 = 16 * (FR 6 (s.tick + 1) * 64 + 2 + 1) by omega]) (Nat.le_refl _)
  obtain ⟨x, ex, hx⟩ := S1.bor
  have hE := c_evaluateNode k c w h Fs hne hFs h4 l[i] A a2 (by omega) h2 (by omega) x hx (by omega)
  rw [hz] at hE
  simp [resF, ownV, intsO, ndE] at hE
  have hag := c_arguments k l[i] (by omega)
  rw [argI_eq h2] at hag
  simp [ndE] at hag
  have n7 := FR_lo 7 (s.tick + 1 + 1) 4
  have n7' := FR_hi 7 (s.tick + 1 + 1) 4 (by omega)
  have n8 := FR_lo 7 (s.tick + 1 + 1) 8
  have n8' := FR_hi 7 (s.tick + 1 + 1) 8 (by omega)
  have y6 := fun ops j => young_big 10 ops j (16 * (FR 6 (s.tick + 1) * 64 + 2 + 1)) (by omega) (by omega)
  have y7 := fun ops j => young_big 10 ops j (16 * (FR 7 (s.tick + 1 + 1) * 64 + 3 + 1)) (by omega) (by omega)
  have y8 := fun ops j => young_big 10 ops j (16 * (FR 7 (s.tick + 1 + 1) * 64 + 7 + 1)) (by omega) (by omega)
  have d67 : ¬ 16 * (FR 6 (s.tick + 1) * 64 + 2 + 1) = 16 * (FR 7 (s.tick + 1 + 1) * 64 + 3 + 1) := by omega
  have d68 : ¬ 16 * (FR 6 (s.tick + 1) * 64 + 2 + 1) = 16 * (FR 7 (s.tick + 1 + 1) * 64 + 7 + 1) := by omega
  have x6 : ¬ 10384 = 16 * (FR 6 (s.tick + 1) * 64 + 2 + 1) := by omega
  have x6' : ¬ 16 * (FR 6 (s.tick + 1) * 64 + 2 + 1) = 10384 := by omega
  have z6 : ¬ 10408 = 16 * (FR 6 (s.tick + 1) * 64 + 2 + 1) := by omega
  have z6' : ¬ 16 * (FR 6 (s.tick + 1) * 64 + 2 + 1) = 10408 := by omega
  have r6 : ¬ rid = 16 * (FR 6 (s.tick + 1) * 64 + 2 + 1) := by omega
  have r6' : ¬ 16 * (FR 6 (s.tick + 1) * 64 + 2 + 1) = rid := by omega
  have x7 : ¬ 10384 = 16 * (FR 7 (s.tick + 1 + 1) * 64 + 3 + 1) := by omega
  have x7' : ¬ 16 * (FR 7 (s.tick + 1 + 1) * 64 + 3 + 1) = 10384 := by omega
  have z7 : ¬ 10408 = 16 * (FR 7 (s.tick + 1 + 1) * 64 + 3 + 1) := by omega
  have z7' : ¬ 16 * (FR 7 (s.tick + 1 + 1) * 64 + 3 + 1) = 10408 := by omega
  have r7 : ¬ rid = 16 * (FR 7 (s.tick + 1 + 1) * 64 + 3 + 1) := by omega
  have r7' : ¬ 16 * (FR 7 (s.tick + 1 + 1) * 64 + 3 + 1) = rid := by omega
  have x8 : ¬ 10384 = 16 * (FR 7 (s.tick + 1 + 1) * 64 + 7 + 1) := by omega
  have x8' : ¬ 16 * (FR 7 (s.tick + 1 + 1) * 64 + 7 + 1) = 10384 := by omega
  have z8 : ¬ 10408 = 16 * (FR 7 (s.tick + 1 + 1) * 64 + 7 + 1) := by omega
  have z8' : ¬ 16 * (FR 7 (s.tick + 1 + 1) * 64 + 7 + 1) = 10408 := by omega
  have r8 : ¬ rid = 16 * (FR 7 (s.tick + 1 + 1) * 64 + 7 + 1) := by omega
  have r8' : ¬ 16 * (FR 7 (s.tick + 1 + 1) * 64 + 7 + 1) = rid := by omega
  have d78 : ¬ 16 * (FR 7 (s.tick + 1 + 1) * 64 + 3 + 1) = 16 * (FR 7 (s.tick + 1 + 1) * 64 + 7 + 1) := by omega
  have hwn := wrap_next hi (by omega : l.length ≤ 9000000000000000000)
  have rz : ¬ rid = 10408 := by omega
  have rx : ¬ rid = 10384 := by omega
  have hm4 : Bt (s.tick + 1 + 1 + 1) ≤ Bt (s.tick + 1 + 1 + 1 + 1 + 1 + 1) := Bt_mono (by omega)
  have w0 : IntKind.i64.wrap 0 = 0 := wrap_small (by omega) (by omega)
  rcases S with ⟨rfl, e6⟩ | ⟨a, P, tk, e, hw, hP, e6, hH⟩
  · have ha0 : arI l[i] = 0 := by simp at a1; omega
    rw [e6, bor_c] at ex
    cases ex
    rw [ha0] at hag
    simp [-Eng.bor, L9_0, R9_0, R9_1, R9_2, R9_3, R9_4, R9_5, R9_6, R9_7, R9_8, R9_9, R9_10, R9_11, R9_12, Try.f9, lpL9_0, lpM9_0, M9_0, q1, q4, q26, q27, q28, e6, hi, hN, ndL_at, ndE, bor_nd, bor_sq, bor_c, hE, hag, y6, y7, y8, H0, d67, d68, d78, x6, x6', z6, z6', r6, r6', x7, x7', z7, z7', r7, r7', x8, x8', z8, z8', r8, r8', hwn, w0, maxLen]
    refine ⟨by simp [q1], by simp [q4], by simp [q26], by simp [q27], by simp, by simp [putH_app, Hr, d67, d68, d78, x6, x6', z6, z6', r6, r6', x7, x7', z7, z7', r7, r7', x8, x8', z8, z8', r8, r8', rz, rx], r0, r1, .inr ⟨by simp, [⟨w, h, 16 * (FR 7 (s.tick + 1 + 1) * 64 + 3 + 1), s.tick + 1 + 1, z⟩], s.tick + 1 + 1 + 1 + 1, by simp, by simp, ?_, by simp, by simp [putH_app, flO, Fo.row]⟩, by simp <;> omega⟩
    intro q hq
    rw [List.mem_singleton] at hq
    subst hq
    exact ⟨by simp [putH_app, intsO, d67, d68, d78, x6, x6', z6, z6', r6, r6', x7, x7', z7, z7', r7, r7', x8, x8', z8, z8', r8, r8'], by simp <;> omega, by simp <;> omega⟩
  · rw [e6] at ex
    obtain ⟨q, hq⟩ : ∃ q : Nat, A.length - (arI l[i]).toNat = q := ⟨_, rfl⟩
    have hPA : P.length = A.length := by rw [← e]; simp
    have hqA : q ≤ P.length := by omega
    have hqA' : (q : Int) ≤ (P.length : Int) := by omega
    have w1 : IntKind.i64.wrap ((P.length : Int) - arI l[i]) = (q : Int) := by rw [wrap_small (by omega) (by omega)]; omega
    have hb1 : (q + 1) * 40 ≤ 140737488355328 := by omega
    have hb2 : q + 1 ≤ maxLen := by unfold maxLen; omega
    rw [hq]
    have hrow : (P.map Fo.row).take q ++ [[V.c (.int .i64 w), V.c (.int .i64 h), V.s (16 * (FR 7 (s.tick + 1 + 1) * 64 + 3 + 1)) (s.tick + 1 + 1) 1 0 z.length]] = (P.take q ++ [(⟨w, h, 16 * (FR 7 (s.tick + 1 + 1) * 64 + 3 + 1), s.tick + 1 + 1, z⟩ : Fo)]).map Fo.row := by
      simp [Fo.row, List.map_take]
    have hok := okF 28 (P.take q ++ [(⟨w, h, 16 * (FR 7 (s.tick + 1 + 1) * 64 + 3 + 1), s.tick + 1 + 1, z⟩ : Fo)])
    rw [← hrow] at hok
    simp [-Eng.bor, L9_0, R9_0, R9_1, R9_2, R9_3, R9_4, R9_5, R9_6, R9_7, R9_8, R9_9, R9_10, R9_11, R9_12, Try.f9, lpL9_0, lpM9_0, M9_0, q1, q4, q26, q27, q28, e6, hi, hN, ndL_at, ndE, bor_nd, bor_sq, ex, hE, hag, y6, y7, y8, H0, d67, d68, d78, x6, x6', z6, z6', r6, r6', x7, x7', z7, z7', r7, r7', x8, x8', z8, z8', r8, r8', hwn, hH, flO, w1, hqA, hqA', hb1, hb2, hok]
    refine ⟨by simp [q1], by simp [q4], by simp [q26], by simp [q27], by simp, by simp [putH_app, Hr, d67, d68, d78, x6, x6', z6, z6', r6, r6', x7, x7', z7, z7', r7, r7', x8, x8', z8, z8', r8, r8', rz, rx], r0, r1, .inr ⟨by simp, P.take q ++ [⟨w, h, 16 * (FR 7 (s.tick + 1 + 1) * 64 + 3 + 1), s.tick + 1 + 1, z⟩], s.tick + 1 + 1 + 1 + 1, by simp [← e, List.map_take], ?_, ?_, by simp [hqA], by simp [putH_app, flO, hrow]⟩, by simp <;> omega⟩
    · intro x hx
      rcases List.mem_append.1 hx with hx | hx
      · exact hw x (List.mem_of_mem_take hx)
      · rw [List.mem_singleton] at hx
        subst hx
        exact ⟨rfl, rfl⟩
    · intro x hx
      rcases List.mem_append.1 hx with hx | hx
      · obtain ⟨p1, p2, p3⟩ := hP x (List.mem_of_mem_take hx)
        refine ⟨?_, p2, by simp <;> omega⟩
        simp [putH_app, show ¬ x.id = 10408 by omega, show ¬ x.id = 10384 by omega, show ¬ x.id = 16 * (FR 6 (s.tick + 1) * 64 + 2 + 1) by omega, show ¬ x.id = 16 * (FR 7 (s.tick + 1 + 1) * 64 + 3 + 1) by omega, show ¬ x.id = 16 * (FR 7 (s.tick + 1 + 1) * 64 + 7 + 1) by omega, p1]
      · rw [List.mem_singleton] at hx
        subst hx
        exact ⟨by simp [putH_app, intsO, d67, d68, d78, x6, x6', z6, z6', r6, r6', x7, x7', z7, z7', r7, r7', x8, x8', z8, z8', r8, r8'], by simp <;> omega, by simp <;> omega⟩
theorem ev_fail (k : Nat) (w h : Int) (c b : Bool) (Fs : List Fd) (hne : Fs ≠ []) (hFs : ∀ q ∈ Fs, goodB w h q.l = true ∧ q.w = w ∧ q.h = h) (h4 : Fs.length ≤ 4) (l : List (Int × Int)) (h15 : l.length ≤ 15) (hk : 4000 ≤ k) (i : Nat) (hi : i < l.length) (hr : 0 ≤ runO l (i + 1)) (rid : Nat) (A : List (List Int)) (hA : evA w h Fs l i = some A) (hz : valN w h Fs l[i] A = none) :
    ∀ s, EvI w h c b Fs l i A rid s → ∃ s', runCode C (callK C k) k (K 9) L9_0 1 s = some (.ret, s') ∧ s'.ρ 4 = .p rid 1 3 0 0 ∧ s'.ρ 5 = .c (.bool false) ∧ s'.H rid = some (1, ⟨28, 3, false, [[.c (.int .i64 0), .c (.int .i64 0), .c (.slice none 0 0)]]⟩) := by
  have hs : shapeB w h = true := by
    cases Fs with
    | nil => exact absurd rfl hne
    | cons q r => exact good_shape (hFs q (by simp)).1
  intro s ⟨q1, q4, q26, q27, q28, Hr, r0, r1, S, ht⟩
  obtain ⟨h1, h2, h3, h5⟩ := runO_back hr
  rw [getD_nd hi] at h2 h3 h5
  obtain ⟨a1, a2⟩ := evA_ok hs (fun q hq => (hFs q hq).1) i A h1 hA
  have hrle := runO_le l i
  have hb := Bt_big
  have hm1 : Bt 2 ≤ Bt s.tick := Bt_mono ht
  have hm2 : Bt s.tick ≤ Bt (s.tick + 1) := Bt_mono (by omega)
  have hm3 : Bt (s.tick + 1) ≤ Bt (s.tick + 1 + 1) := Bt_mono (by omega)
  have n6 := FR_lo 6 (s.tick + 1) 3
  have n6' := FR_hi 6 (s.tick + 1) 3 (by omega)
  have hN := ndL_get l i hi
  have S1 : StkI w h A (s.ρ 6) (putH (putH s.H (16 * (FR 6 (s.tick + 1) * 64 + 2 + 1)) (some (s.tick + 1, ⟨48, 2, true, [[.c (.int .i64 0), .c (.int .i64 0)]]⟩))) (16 * (FR 6 (s.tick + 1) * 64 + 2 + 1)) (some (s.tick + 1, ⟨48, 2, true, [[.c (.int .i64 l[i].1), .c (.int .i64 l[i].2)]]⟩))) (Bt s.tick) :=
    S.keep (fun id a b => by simp [putH_app, show ¬ id = 16 * (FR 6 (s.tick + 1) * 64 + 2 + 1) by omega]) (by simp [putH_app, show ¬ 10408 = 16 * (FR 6 (s.tick + 1) * 64 + 2 + 1) by omega]) (Nat.le_refl _)
  obtain ⟨x, ex, hx⟩ := S1.bor
  have hE := c_evaluateNode k c w h Fs hne hFs h4 l[i] A a2 (by omega) h2 (by omega) x hx (by omega)
  rw [hz] at hE
  simp [resF, nilV, ndE] at hE
  have n8 := FR_lo 7 (s.tick + 1 + 1) 8
  have r6 : ¬ rid = 16 * (FR 6 (s.tick + 1) * 64 + 2 + 1) := by omega
  have r8 : ¬ rid = 16 * (FR 7 (s.tick + 1 + 1) * 64 + 7 + 1) := by omega
  simp [-Eng.bor, L9_0, R9_0, R9_1, R9_2, R9_3, R9_4, R9_5, R9_6, R9_7, R9_8, R9_9, R9_10, R9_11, R9_12, Try.f9, lpL9_0, lpM9_0, M9_0, q1, q4, q26, q27, q28, hi, hN, ndL_at, ndE, bor_nd, bor_sq, ex, hE, Hr, r6, r8]
/-- The whole. -/
def evW (p : List Fd) : Int := (p.headD ⟨true, 0, 0, []⟩).w
def evH (p : List Fd) : Int := (p.headD ⟨true, 0, 0, []⟩).h
def evR (l : List (Int × Int)) (p : List Fd) : Option (V × Hp) := resF (evW p) (evH p) (if goodE l && alikeF p then evV (evW p) (evH p) p l else none)
theorem c_implEvOk (k : Nat) (w h : Int) (b c : Bool) (l : List (Int × Int)) (hg : goodE l = true) (p : List Fd) (hne : p ≠ []) (hFs : ∀ q ∈ p, goodB w h q.l = true ∧ q.w = w ∧ q.h = h) (h4 : p.length ≤ 4)
    (hA : callK C (k + 8) 25 [.sq c false 3 (p.map Fd.cells)] [] = some (.c (.bool true), hpOf [] [])) (hk : 5000 ≤ k) :
    callK C (k + 9) 9 [.sq b true 2 (ndL l), .sq c false 3 (p.map Fd.cells)] [] = resF w h (evV w h p l) := by
  rw [callK_fn rfl F9 code9]
  have hI := c_IsExpression (k + 8) b l (by omega)
  rw [hg] at hI
  have hW := c_within (k + 8) (p.length : Int) 1 4 (by omega)
  have hp1 : 1 ≤ p.length := by cases p with | nil => exact absurd rfl hne | cons a b => simp
  rw [show (decide (1 ≤ (p.length : Int)) && decide ((p.length : Int) ≤ 4)) = true by simp; omega] at hW
  have hs : shapeB w h = true := by
    cases p with
    | nil => exact absurd rfl hne
    | cons q r => exact good_shape (hFs q (by simp)).1
  obtain ⟨h15, hr⟩ := good_run hg
  have hb := Bt_big
  have n0 := FR_lo 0 1 1
  have n0' : 16 * (FR 0 1 * 64 + 1) + 8 < Bt 2 := FR_hi 0 1 1 (by omega)
  have hrun : ∀ i, i < l.length → 0 ≤ runO l (i + 1) := fun i hi => runO_mono (by omega : 0 ≤ runO l l.length) (l.length - (i + 1)) (i + 1) (by omega)
  have hI0 : ∀ s : St, s.ρ 1 = .sq c false 3 (p.map Fd.cells) → s.ρ 4 = .p (16 * (FR 0 1 * 64 + 1)) 1 3 0 0 → s.ρ 6 = .c (.slice none 0 0) → s.ρ 26 = .sq b true 2 (ndL l) → s.ρ 27 = .c (.int .i64 (l.length : Int)) → s.ρ 28 = .c (.int .i64 0) → s.H (16 * (FR 0 1 * 64 + 1)) = some (1, ⟨28, 3, false, [[.c (.int .i64 0), .c (.int .i64 0), .c (.slice none 0 0)]]⟩) → 2 ≤ s.tick → EvI w h c b p l 0 [] (16 * (FR 0 1 * 64 + 1)) s :=
    fun s a1 a4 a6 a26 a27 a28 aH at' => ⟨a1, a4, a26, a27, by simpa using a28, aH, by omega, by omega, .inl ⟨rfl, a6⟩, at'⟩
  unfold evV
  cases hE : evA w h p l l.length with
  | none =>
    have hL := loopHas (body := fun st => runCode C (callK C (k + 8)) (k + 8) (K 9) L9_0 1 st) (keep := [1, 4, 6, 26, 27, 28]) .ret (fun s' => s'.ρ 4 = .p (16 * (FR 0 1 * 64 + 1)) 1 3 0 0 ∧ s'.ρ 5 = .c (.bool false) ∧ s'.H (16 * (FR 0 1 * 64 + 1)) = some (1, ⟨28, 3, false, [[.c (.int .i64 0), .c (.int .i64 0), .c (.slice none 0 0)]]⟩))
      (fun i st => ∃ A, evA w h p l i = some A ∧ EvI w h c b p l i A (16 * (FR 0 1 * 64 + 1)) st)
      l.length (k + 8) (by omega)
      (by
        rintro i st next hi ⟨A, hA', I⟩ hx
        obtain ⟨I', h0⟩ := I.gc
        cases hz : valN w h p l[i] A with
        | none =>
          obtain ⟨s', e, f⟩ := ev_fail (k + 8) w h c b p hne hFs h4 l h15 (by omega) i hi (hrun i hi) _ A hA' hz _ I'
          simp only [e, loopNext]
          exact ⟨s', rfl, f⟩
        | some z =>
          obtain ⟨s', e, I2⟩ := ev_round (k + 8) w h c b p hne hFs h4 l h15 (by omega) i hi (hrun i hi) _ A hA' z hz _ I' h0
          simp only [e, loopNext]
          exact hx s' ⟨_, by rw [evA_succ, hA', getD_nd hi]; simp [hz], I2⟩)
      (by
        rintro st next ⟨A, hA', _⟩
        rw [hE] at hA'
        cases hA')
    simp [R9_0, R9_1, R9_2, R9_3, R9_4, R9_5, R9_6, R9_7, R9_8, R9_9, R9_10, R9_11, R9_12, Try.f9, lpL9_0, lpM9_0, hI, hW, hA]
    generalize hrr : loopRun _ _ _ _ = res
    obtain ⟨s1, rfl, f4, f5, fH⟩ := loop_at hL hrr ⟨[], rfl, hI0 _ (by simp) (by simp) (by simp) (by simp) (by simp [ndL_length]) (by simp) (by simp [putH_app]) (by simp)⟩
    simp [R9_0, R9_1, R9_2, R9_3, R9_4, R9_5, R9_6, R9_7, R9_8, R9_9, R9_10, R9_11, R9_12, Try.f9, lpL9_0, lpM9_0, M9_0, f4, f5, fH, resF, nilV]
  | some B =>
    have hL := loopHas (body := fun st => runCode C (callK C (k + 8)) (k + 8) (K 9) L9_0 1 st) (keep := [1, 4, 6, 26, 27, 28]) (.ex 0) (fun s' => EvI w h c b p l l.length B (16 * (FR 0 1 * 64 + 1)) s')
      (fun i st => ∃ A, evA w h p l i = some A ∧ EvI w h c b p l i A (16 * (FR 0 1 * 64 + 1)) st)
      l.length (k + 8) (by omega)
      (by
        rintro i st next hi ⟨A, hA', I⟩ hx
        obtain ⟨I', h0⟩ := I.gc
        obtain ⟨B', hB'⟩ := evA_below (l.length - (i + 1)) (i + 1) B (by rw [show i + 1 + (l.length - (i + 1)) = l.length by omega]; exact hE)
        obtain ⟨A2, z, e1, hz, e2⟩ := evA_prev hB'
        rw [hA'] at e1
        cases e1
        rw [getD_nd hi] at hz e2
        obtain ⟨s', e, I2⟩ := ev_round (k + 8) w h c b p hne hFs h4 l h15 (by omega) i hi (hrun i hi) _ A hA' z hz _ I' h0
        simp only [e, loopNext]
        rw [← e2] at I2
        exact hx s' ⟨_, hB', I2⟩)
      (by
        rintro st next ⟨A, hA', I⟩
        rw [hE] at hA'
        cases hA'
        obtain ⟨⟨q1, q4, q26, q27, q28, Hr, r0, r1, S, ht⟩, _⟩ := I.gc
        obtain ⟨s1, hs1⟩ : ∃ s1, Eng.gc [1, 4, 6, 26, 27, 28] st = s1 := ⟨_, rfl⟩
        rw [hs1] at q1 q4 q26 q27 q28 Hr S ht ⊢
        simp [L9_0, R9_0, R9_1, R9_2, R9_3, R9_4, R9_5, R9_6, R9_7, R9_8, R9_9, R9_10, R9_11, R9_12, Try.f9, lpL9_0, lpM9_0, M9_0, q27, q28]
        exact ⟨by simp [q1], by simp [q4], by simp [q26], by simp [q27], by simp [q28], by simp [Hr], r0, r1, by simpa using S.keep (fun _ _ _ => rfl) rfl (Bt_mono (by omega)), by simp; omega⟩)
    obtain ⟨b1, b2⟩ := evA_ok hs (fun q hq => (hFs q hq).1) l.length B (by omega) hE
    obtain ⟨z, rfl⟩ : ∃ z, B = [z] := by
      cases B with
      | nil => simp at b1; omega
      | cons z B => cases B with
        | nil => exact ⟨z, rfl⟩
        | cons y B => simp at b1; omega
    simp [R9_0, R9_1, R9_2, R9_3, R9_4, R9_5, R9_6, R9_7, R9_8, R9_9, R9_10, R9_11, R9_12, Try.f9, lpL9_0, lpM9_0, hI, hW, hA]
    generalize hrr : loopRun _ _ _ _ = res
    obtain ⟨s1, rfl, q1, q4, q26, q27, q28, Hr, r0, r1, S, ht⟩ := loop_at hL hrr ⟨[], rfl, hI0 _ (by simp) (by simp) (by simp) (by simp) (by simp [ndL_length]) (by simp) (by simp [putH_app]) (by simp)⟩
    rcases S with ⟨hS, _⟩ | ⟨_, P, tk, e, hw, hP, e6, hH⟩
    · cases hS
    obtain ⟨q, rfl⟩ : ∃ q, P = [q] := by
      cases P with
      | nil => cases e
      | cons q P => cases P with
        | nil => exact ⟨q, rfl⟩
        | cons y P => simp at e
    obtain ⟨e1, e2⟩ := hw q (by simp)
    obtain ⟨e3, e4, e5⟩ := hP q (by simp)
    have e7 : q.l = z := by simpa using e
    have d1 : ¬ q.id = 16 * (FR 0 1 * 64 + 1) := by
      intro e
      rw [e] at e3
      rw [e3] at Hr
      simp [intsO] at Hr
    simp [intsO] at e3
    simp [R9_0, R9_1, R9_2, R9_3, R9_4, R9_5, R9_6, R9_7, R9_8, R9_9, R9_10, R9_11, R9_12, Try.f9, lpL9_0, lpM9_0, M9_0, q4, e6, hH, Hr, flO, Fo.row, e1, e2, e3, e7, d1, resF, ownV, intsO]
theorem c_implEvaluate (k : Nat) (b c : Bool) (l : List (Int × Int)) (p : List Fd) (hp : p.length ≤ 1048576) (hk : 6000 ≤ k) :
    callK C k 9 [.sq b true 2 (ndL l), .sq c false 3 (p.map Fd.cells)] [] = evR l p := by
  obtain ⟨k, rfl⟩ : ∃ m, k = m + 9 := ⟨k - 9, by omega⟩
  rw [callK_fn rfl F9 code9]
  unfold evR
  have hI := c_IsExpression (k + 8) b l (by omega)
  have hW := c_within (k + 8) (p.length : Int) 1 4 (by omega)
  have hb := Bt_big
  have n0 := FR_lo 0 1 1
  have n0' := FR_hi 0 1 1 (by omega)
  cases hg : goodE l
  · rw [hg] at hI
    simp [R9_0, R9_1, R9_2, R9_3, R9_4, R9_5, R9_6, R9_7, R9_8, R9_9, R9_10, R9_11, R9_12, Try.f9, lpL9_0, lpM9_0, M9_0, hI, nilV, resF]
  · rw [hg] at hI
    cases p with
    | nil =>
      simp at hW
      simp [R9_0, R9_1, R9_2, R9_3, R9_4, R9_5, R9_6, R9_7, R9_8, R9_9, R9_10, R9_11, R9_12, Try.f9, lpL9_0, lpM9_0, M9_0, hI, hW, nilV, resF, alikeF]
    | cons q0 r =>
      by_cases h4 : r.length ≤ 3
      · have hle : (decide (1 ≤ ((q0 :: r).length : Int)) && decide (((q0 :: r).length : Int) ≤ 4)) = true := by simp; omega
        rw [hle] at hW
        have hA := c_areAlike (k + 8) c q0 r (by omega) (by omega)
        rw [show alikeF (q0 :: r) = (q0 :: r).all (likeB q0) by unfold alikeF; simp [h4]]
        simp at hW
        cases ha : (q0 :: r).all (likeB q0)
        · rw [ha] at hA
          simp at hA
          simp [R9_0, R9_1, R9_2, R9_3, R9_4, R9_5, R9_6, R9_7, R9_8, R9_9, R9_10, R9_11, R9_12, Try.f9, lpL9_0, lpM9_0, M9_0, hI, hW, hA, nilV, resF]
        · rw [ha] at hA
          simp at hA
          rw [List.all_eq_true] at ha
          have hFs : ∀ q ∈ q0 :: r, goodB q0.w q0.h q.l = true ∧ q.w = q0.w ∧ q.h = q0.h := by
            intro q hq
            have := ha q hq
            simp only [likeB, Bool.and_eq_true, beq_iff_eq] at this
            obtain ⟨t1, t2, t3⟩ := this
            rw [t2, t3] at t1
            exact ⟨t1, t2, t3⟩
          have hO := c_implEvOk k q0.w q0.h b c l hg (q0 :: r) (by simp) hFs (by simp; omega) (by simpa using hA) (by omega)
          rw [callK_fn rfl F9 code9] at hO
          simp only [Bool.and_self, if_true]
          exact hO
      · have hle : (decide (1 ≤ ((q0 :: r).length : Int)) && decide (((q0 :: r).length : Int) ≤ 4)) = false := by simp; omega
        rw [hle] at hW
        simp at hW
        have h4' : ¬ r.length ≤ 3 := h4
        simp [R9_0, R9_1, R9_2, R9_3, R9_4, R9_5, R9_6, R9_7, R9_8, R9_9, R9_10, R9_11, R9_12, Try.f9, lpL9_0, lpM9_0, M9_0, hI, hW, nilV, resF, alikeF, h4']

end Go.Proofs.Ytfcnlfjenialdaa.Eng
namespace Go.Proofs.Ytfcnlfjenialdaa.Eng
open Go Go.Proofs
set_option maxRecDepth 100000
set_option maxHeartbeats 2000000
set_option linter.unusedSimpArgs false
set_option linter.unusedVariables false
attribute [local simp] finK fin1 hpOf xi renQ isRoot runCode runOps stepX inlOf Eng.step wantedV astep val ofO made loadV storeV find V.cells bin binT binA numT numFs eqCells un1 setAt fieldAddrV fieldV indexAddrV indexV bounds sliceV convV lenV foldV max2V min2V callO bor rdsO wrsO seen_none okD_none loops keepIds resV resultsV St.ev TK.agg refs refsL refsO V.one V.isC Value.oneCell' ren renL renO noTag noTagL noTagR noTagO nodup mapO passV frs psi refsR newD loopNext opsAt idx flatAt rootOf backR newsV appendV copyV clearV strV bytesV bldV bufV selfV bytesOf nilCmp buildV fillF chunk freeL frzW cellSame sameV
attribute [local simp] cT cF cX cWR cOW cK cBL X ints_length ints_get ints_getElem ints_drop ints_take ints_append ints_nil ints_set
attribute [local simp] ints_replicate
attribute [local simp] putV_some putV_none putH_app applyD_nil applyD_cons seen_app gc_ρ gc_H gc_tick st0_ρ st0_H st0_tick retV callRo callV_if borL_nil borL_cons ints_snoc take_self callWr cutH_app findQ afterV exportV_0 exportV_n okD_nil okD_cons sub_seq0 sub_seq1 sub_cond0 sub_cond1 sub_block sub_loop sub_nil young_far young_none hidW_nil mayW_nil keepsF_nil keepsF_cons pairs okI ok_0 ok_1 ok_2
attribute [local simp] T3 T4 T22 T23 T26 T28 T31 T33 T43 T48 T50 T70 T73 T75 T78 T82 T85
attribute [local simp] young_near clo cloF Region.binds Nat.testBit hidW declW mayW
/-- A list that grows in a slot: nothing yet, or an object. -/
def Gw (id : Nat) (v : V) (H : Hp) (acc : List Int) : Prop := (acc = [] ∧ v = .c (.slice none 0 0)) ∨ (acc ≠ [] ∧ ∃ tk, v = .s id tk 1 0 acc.length ∧ H id = some (tk, intsO acc))
theorem c_l2Fill (k : Nat) (w h v : Int) (n : Nat) (hn : w * h = n) (h0 : 0 < n) (h64 : n ≤ 64) (hk : 200 ≤ k) : callK C k 37 [.c (.int .i64 w), .c (.int .i64 h), .c (.int .i64 v)] [] = some (.ag [.c (.int .i64 w), .c (.int .i64 h), .s 0 2 1 0 n], hpOf [] [intsO (List.replicate n v)]) := by
  obtain ⟨k, rfl⟩ : ∃ m, k = m + 9 := ⟨k - 9, by omega⟩
  rw [callK_fn rfl F37 code37]
  have hwn : IntKind.i64.wrap (w * h) = n := by rw [hn]; exact wrap_small (by omega) (by omega)
  have hL := loopHas (body := fun st => runCode C (callK C (k + 8)) (k + 8) (K 37) L37_0 1 st) (keep := [0, 1, 2, 6, 7, 8]) (.ex 0)
    (fun st => st.ρ 6 = .p 16 1 3 0 0 ∧ st.ρ 7 = .p 1088 2 3 0 0 ∧ st.H 16 = some (1, ⟨28, 3, false, [[.c (.int .i64 0), .c (.int .i64 0), .c (.slice none 0 0)]]⟩) ∧ ∃ cv, st.H 1088 = some (2, ⟨28, 3, false, [[.c (.int .i64 w), .c (.int .i64 h), cv]]⟩) ∧ Gw 5208 cv st.H (List.replicate n v))
    (fun i st => st.ρ 0 = .c (.int .i64 w) ∧ st.ρ 1 = .c (.int .i64 h) ∧ st.ρ 2 = .c (.int .i64 v) ∧ st.ρ 6 = .p 16 1 3 0 0 ∧ st.ρ 7 = .p 1088 2 3 0 0 ∧ st.ρ 8 = .c (.int .i64 (i : Int)) ∧ st.H 16 = some (1, ⟨28, 3, false, [[.c (.int .i64 0), .c (.int .i64 0), .c (.slice none 0 0)]]⟩) ∧ ∃ cv, st.H 1088 = some (2, ⟨28, 3, false, [[.c (.int .i64 w), .c (.int .i64 h), cv]]⟩) ∧ Gw 5208 cv st.H (List.replicate i v))
    n (k + 8) (by omega)
    (by
      rintro i st next hi ⟨q0, q1, q2, q6, q7, q8, H16, cv, H1, hc⟩ hx
      have hwi := wrap_next hi (by omega : n ≤ 9000000000000000000)
      have hrep : List.replicate (i + 1) v = List.replicate i v ++ [v] := by rw [List.replicate_succ']
      rcases hc with ⟨ha, rfl⟩ | ⟨ha, tk, rfl, hH⟩
      · have hi0 : i = 0 := by simpa using ha
        subst hi0
        simp [L37_0, R37_0, R37_1, R37_2, R37_3, R37_4, R37_5, R37_6, Try.f37, lpL37_0, lpM37_0, M37_0, q0, q1, q2, q6, q7, q8, H16, H1, hwn, hi, hwi, maxLen]
        refine hx _ ⟨?_, ?_, ?_, ?_, ?_, ?_, ?_, .s 5208 (st.tick + 1) 1 0 1, ?_, .inr ⟨by simp, st.tick + 1, ?_, ?_⟩⟩ <;> simp [q0, q1, q2, q6, q7, q8, H16, H1, intsO, ints, wrap_1]
      · have hb1 : (i + 1) * 8 ≤ 140737488355328 := by omega
        have hb2 : i + 1 ≤ maxLen := by unfold maxLen; omega
        simp [intsO] at hH
        simp [L37_0, R37_0, R37_1, R37_2, R37_3, R37_4, R37_5, R37_6, Try.f37, lpL37_0, lpM37_0, M37_0, q0, q1, q2, q6, q7, q8, H16, H1, hH, hwn, hi, hwi, hb1, hb2, okI]
        refine hx _ ⟨?_, ?_, ?_, ?_, ?_, ?_, ?_, .s 5208 (st.tick + 1) 1 0 (i + 1), ?_, .inr ⟨by simp, st.tick + 1, ?_, ?_⟩⟩ <;> simp [q0, q1, q2, q6, q7, q8, H16, H1, intsO, hrep])
    (by
      rintro st next ⟨q0, q1, q2, q6, q7, q8, H16, cv, H1, hc⟩
      rcases hc with ⟨ha, rfl⟩ | ⟨ha, tk, rfl, hH⟩
      · have : n = 0 := by simpa using ha
        omega
      · simp [intsO] at hH
        simp [L37_0, R37_0, R37_1, R37_2, R37_3, R37_4, R37_5, R37_6, Try.f37, lpL37_0, lpM37_0, M37_0, q0, q1, q2, q6, q7, q8, H16, H1, hH, hwn]
        exact .inr ⟨ha, tk, by simp, by simp [intsO, hH, H1, q7]⟩)
  simp [R37_0, R37_1, R37_2, R37_3, R37_4, R37_5, R37_6, Try.f37, lpL37_0, lpM37_0]
  generalize hr2 : loopRun _ _ _ _ = res
  obtain ⟨s1, rfl, f6, f7, H16, cv, H1, hc⟩ := loop_at hL hr2 ⟨by simp, by simp, by simp, by simp, by simp, by simp, by simp, .c (.slice none 0 0), by simp, .inl ⟨rfl, rfl⟩⟩
  rcases hc with ⟨ha, rfl⟩ | ⟨ha, tk, rfl, hH⟩
  · have : n = 0 := by simpa using ha
    omega
  · simp [intsO] at hH
    simp [R37_0, R37_1, R37_2, R37_3, R37_4, R37_5, R37_6, Try.f37, lpL37_0, lpM37_0, M37_0, f6, f7, H16, H1, hH, intsO]

end Go.Proofs.Ytfcnlfjenialdaa.Eng
namespace Go.Proofs.Ytfcnlfjenialdaa.Eng
open Go Go.Proofs
set_option maxRecDepth 100000
set_option maxHeartbeats 2000000
set_option linter.unusedSimpArgs false
set_option linter.unusedVariables false
attribute [local simp] finK fin1 hpOf xi renQ isRoot runCode runOps stepX inlOf Eng.step wantedV astep val ofO made loadV storeV find V.cells bin binT binA numT numFs eqCells un1 setAt fieldAddrV fieldV indexAddrV indexV bounds sliceV convV lenV foldV max2V min2V callO bor rdsO wrsO seen_none okD_none loops keepIds resV resultsV St.ev TK.agg refs refsL refsO V.one V.isC Value.oneCell' ren renL renO noTag noTagL noTagR noTagO nodup mapO passV frs psi refsR newD loopNext opsAt idx flatAt rootOf backR newsV appendV copyV clearV strV bytesV bldV bufV selfV bytesOf nilCmp buildV fillF chunk freeL frzW cellSame sameV
attribute [local simp] cT cF cX cWR cOW cK cBL X ints_length ints_get ints_getElem ints_drop ints_take ints_append ints_nil ints_set
attribute [local simp] ints_replicate
attribute [local simp] putV_some putV_none putH_app applyD_nil applyD_cons seen_app gc_ρ gc_H gc_tick st0_ρ st0_H st0_tick retV callRo callV_if borL_nil borL_cons ints_snoc take_self callWr cutH_app findQ afterV exportV_0 exportV_n okD_nil okD_cons sub_seq0 sub_seq1 sub_cond0 sub_cond1 sub_block sub_loop sub_nil young_far young_none hidW_nil mayW_nil keepsF_nil keepsF_cons pairs okI ok_0 ok_1 ok_2
attribute [local simp] T3 T4 T22 T23 T26 T28 T31 T33 T43 T48 T50 T70 T73 T75 T78 T82 T85
theorem c_l5Start (b : Bool) (l : List (Int × Int)) (h15 : l.length ≤ 15) : ∀ (i : Nat), i < l.length → 0 ≤ runO l (i + 1) → ∀ k, i + 10 ≤ k → ∀ a d s, stk l (i + 1) = (a, d) :: s →
    callK C k 39 [.sq b true 2 (ndL l), .c (.int .i64 (i : Int))] [] = some (.c (.int .i64 (a : Int)), hpOf [] []) := by
  intro i
  induction i using Nat.strongRecOn with
  | _ i ih =>
    intro hi h k hk a d s hs
    obtain ⟨k, rfl⟩ : ∃ m, k = m + 1 := ⟨k - 1, by omega⟩
    rw [callK_fn rfl F39 code39]
    obtain ⟨h1, h2, h3, h4⟩ := runO_back h
    have ha := c_l5Arity k (l[i]) (by omega)
    have hg := getD_nd hi
    have hn := ndL_get l i hi
    have hw : IntKind.i64.wrap ((i : Int) - 1) = (i : Int) - 1 := wrap_small (by omega) (by omega)
    simp [ndE] at ha
    rcases ar_cases (l.getD i (0, 0)) with e | e | e | e <;> (have e' := e; rw [hg] at e'; rw [e'] at ha)
    · rw [stk_0 e] at hs
      injection hs with hs1 hs2
      injection hs1 with hs1 hs3
      subst hs1
      simp [R39_0, R39_1, R39_2, R39_3, R39_4, R39_5, R39_6, Try.f39, ndL_length, hi, hn, ndL_at, ndE, ha]
    · obtain ⟨j, rfl⟩ : ∃ j, i = j + 1 := by
        cases i with
        | zero => rw [e] at h3; exact absurd h3 (by simp [runO])
        | succ j => exact ⟨j, rfl⟩
      have hj0 : (0 : Int) ≤ (j : Int) + 1 := by omega
      obtain ⟨a', d', ha', hs'⟩ := stk_top j h1
      rw [stk_1 e hs'] at hs
      injection hs with hs1 hs2
      injection hs1 with hs1 hs3
      subst hs1
      have hrec := ih j (by omega) (by omega) h1 k (by omega) a' d' _ hs'
      have hw' : IntKind.i64.wrap (j : Int) = (j : Int) := wrap_small (by omega) (by omega)
      try simp at hn
      try simp at ha
      try simp at hi
      simp [R39_0, R39_1, R39_2, R39_3, R39_4, R39_5, R39_6, Try.f39, ndL_length, hi, hn, ndL_at, ndE, ha, hj0, hw', hrec]
    · obtain ⟨j, rfl⟩ : ∃ j, i = j + 1 := by
        cases i with
        | zero => rw [e] at h3; exact absurd h3 (by simp [runO])
        | succ j => exact ⟨j, rfl⟩
      have hj0 : (0 : Int) ≤ (j : Int) + 1 := by omega
      obtain ⟨a2, d2, ha2, hs'⟩ := stk_top j h1
      have hl := stk_len (j + 1) h1
      have ha0 : 0 ≤ runO l a2 := runO_mono h1 (j + 1 - a2) a2 (by omega)
      have hla := stk_len a2 ha0
      rw [hs'] at hl
      simp only [List.length_cons] at hl
      obtain ⟨c, rfl⟩ : ∃ c, a2 = c + 1 := by
        cases a2 with
        | zero => simp only [stk, List.length_nil] at hl; omega
        | succ c => exact ⟨c, rfl⟩
      obtain ⟨a1, d1, ha1, hs1⟩ := stk_top c ha0
      rw [stk_2 e (by rw [hs', hs1])] at hs
      injection hs with hs2 hs3
      injection hs2 with hs2 hs4
      subst hs2
      have hrec1 := ih j (by omega) (by omega) h1 k (by omega) (c + 1) d2 _ hs'
      have hrec2 := ih c (by omega) (by omega) ha0 k (by omega) a1 d1 _ hs1
      have hw' : IntKind.i64.wrap (j : Int) = (j : Int) := wrap_small (by omega) (by omega)
      have hw2 : IntKind.i64.wrap (c : Int) = (c : Int) := wrap_small (by omega) (by omega)
      try simp at hn
      try simp at ha
      try simp at hi
      try simp at hrec1
      simp [R39_0, R39_1, R39_2, R39_3, R39_4, R39_5, R39_6, Try.f39, ndL_length, hi, hn, ndL_at, ndE, ha, hj0, hw', hw2, hrec1, hrec2]
    · omega

end Go.Proofs.Ytfcnlfjenialdaa.Eng
namespace Go.Proofs.Ytfcnlfjenialdaa.Eng
open Go Go.Proofs
set_option maxRecDepth 100000
set_option maxHeartbeats 2000000
set_option linter.unusedSimpArgs false
set_option linter.unusedVariables false
attribute [local simp] finK fin1 hpOf xi renQ isRoot runCode runOps stepX inlOf Eng.step wantedV astep val ofO made loadV storeV find V.cells bin binT binA numT numFs eqCells un1 setAt fieldAddrV fieldV indexAddrV indexV bounds sliceV convV lenV foldV max2V min2V callO bor rdsO wrsO seen_none okD_none loops keepIds resV resultsV St.ev TK.agg refs refsL refsO V.one V.isC Value.oneCell' ren renL renO noTag noTagL noTagR noTagO nodup mapO passV frs psi refsR newD loopNext opsAt idx flatAt rootOf backR newsV appendV copyV clearV strV bytesV bldV bufV selfV bytesOf nilCmp buildV fillF chunk freeL frzW cellSame sameV
attribute [local simp] cT cF cX cWR cOW cK cBL X ints_length ints_get ints_getElem ints_drop ints_take ints_append ints_nil ints_set
attribute [local simp] ints_replicate
attribute [local simp] putV_some putV_none putH_app applyD_nil applyD_cons seen_app gc_ρ gc_H gc_tick st0_ρ st0_H st0_tick retV callRo callV_if borL_nil borL_cons ints_snoc take_self callWr cutH_app findQ afterV exportV_0 exportV_n okD_nil okD_cons sub_seq0 sub_seq1 sub_cond0 sub_cond1 sub_block sub_loop sub_nil young_far young_none hidW_nil mayW_nil keepsF_nil keepsF_cons pairs okI ok_0 ok_1 ok_2
attribute [local simp] T3 T4 T22 T23 T26 T28 T31 T33 T43 T48 T50 T70 T73 T75 T78 T82 T85
attribute [local simp] young_near clo cloF Region.binds Nat.testBit hidW declW mayW List.findIdx?_cons
theorem evA_leaf {w h : Int} {Fs : List Fd} {l : List (Int × Int)} {i : Nat} (e : arI (l.getD i (0, 0)) = 0) (r : Option (List Int)) (hr : ∀ A, valN w h Fs (l.getD i (0, 0)) A = r) : evA w h Fs l (i + 1) = (evA w h Fs l i).bind fun A => r.map fun z => A ++ [z] := by
  rw [evA_succ]
  congr 1
  funext A
  rw [hr A, e]
  simp
theorem evA_one {w h : Int} {Fs : List Fd} {l : List (Int × Int)} {i a : Nat} {r : Option (List Int)} (e : arI (l.getD i (0, 0)) = 1) (hi : evA w h Fs l i = (evA w h Fs l a).bind fun A => r.map fun z => A ++ [z]) :
    evA w h Fs l (i + 1) = (evA w h Fs l a).bind fun A => (r.map (chgM (exG (l.getD i (0, 0)).2))).map fun z => A ++ [z] := by
  have := arI_1 e
  rw [evA_succ]
  rw [hi]
  cases evA w h Fs l a with
  | none => rfl
  | some A =>
    cases r with
    | none => rfl
    | some z =>
      simp only [Option.bind_some, Option.map_some]
      unfold valN
      rw [if_neg (by omega), if_neg (by omega), if_pos (by omega), e]
      simp
theorem evA_two {w h : Int} {Fs : List Fd} {l : List (Int × Int)} {i c a : Nat} {r1 r2 : Option (List Int)} (e : arI (l.getD i (0, 0)) = 2) (hi : evA w h Fs l i = (evA w h Fs l c).bind fun A => r2.map fun z => A ++ [z]) (hc : evA w h Fs l c = (evA w h Fs l a).bind fun A => r1.map fun z => A ++ [z]) :
    evA w h Fs l (i + 1) = (evA w h Fs l a).bind fun A => (r1.bind fun x => r2.bind fun y => if goodB w h (List.zipWith (combG ((l.getD i (0, 0)).1 - 2)) x y) then some (List.zipWith (combG ((l.getD i (0, 0)).1 - 2)) x y) else none).map fun z => A ++ [z] := by
  have := arI_2 e
  rw [evA_succ]
  rw [hi, hc]
  cases evA w h Fs l a with
  | none => rfl
  | some A =>
    cases r1 with
    | none => rfl
    | some x =>
      cases r2 with
      | none => rfl
      | some y =>
        simp only [Option.bind_some, Option.map_some]
        unfold valN
        rw [if_neg (by omega), if_neg (by omega), if_neg (by omega), e]
        have e1 : (A ++ [x] ++ [y]).getD ((A ++ [x] ++ [y]).length - 2) [] = x := by
          rw [List.append_assoc, List.getD_eq_getElem?_getD, List.getElem?_append_right (by simp)]
          simp
        have e2 : (A ++ [x] ++ [y]).getD ((A ++ [x] ++ [y]).length - 1) [] = y := by
          rw [List.getD_eq_getElem?_getD, List.getElem?_append_right (by simp)]
          simp
        have e3 : (A ++ [x] ++ [y]).take ((A ++ [x] ++ [y]).length - (2 : Int).toNat) = A := by
          rw [List.append_assoc, List.take_append_of_le_length (by simp)]
          simp
        rw [e1, e2, e3]
def Fall (w h : Int) (Fs : List Fd) : Prop := Fs ≠ [] ∧ ∀ q ∈ Fs, goodB w h q.l = true ∧ q.w = w ∧ q.h = h
theorem c_l5Value (b c : Bool) (w h : Int) (Fs : List Fd) (hF : Fall w h Fs) (h4 : Fs.length ≤ 4) (l : List (Int × Int)) (h15 : l.length ≤ 15) : ∀ (i : Nat), i < l.length → 0 ≤ runO l (i + 1) → ∀ k, i + 1000 ≤ k → ∀ a d s, stk l (i + 1) = (a, d) :: s →
    ∃ r, callK C k 20 [.sq b true 2 (ndL l), .c (.int .i64 (i : Int)), .sq c false 3 (Fs.map Fd.cells)] [] = resF w h r ∧ evA w h Fs l (i + 1) = ((evA w h Fs l a).bind fun A => r.map fun z => A ++ [z]) ∧ ∀ z, r = some z → goodB w h z = true := by
  obtain ⟨hne, hFs⟩ := hF
  have hs : shapeB w h = true := by
    cases Fs with
    | nil => exact absurd rfl hne
    | cons q r => exact good_shape (hFs q (by simp)).1
  obtain ⟨_, _, p1, p2, p3, p4⟩ := shape_area hs
  intro i
  induction i using Nat.strongRecOn with
  | _ i ih =>
    intro hi hr k hk a d s hst
    obtain ⟨k, rfl⟩ : ∃ m, k = m + 1 := ⟨k - 1, by omega⟩
    rw [callK_fn rfl F20 code20]
    obtain ⟨h1, h2, h3, h4'⟩ := runO_back hr
    have hg := getD_nd hi
    have hn := ndL_get l i hi
    rcases ar_cases (l.getD i (0, 0)) with e | e | e | e
    · rw [stk_0 e] at hst
      injection hst with hs1 hs2
      injection hs1 with hs1 hs3
      subst hs1
      rcases arI_0 e with ⟨k1, k2, k3⟩ | ⟨k1, k2, k3⟩
      · -- a field
        rw [hg] at k1 k2 k3
        by_cases hv : (l[i].2.toNat) < Fs.length
        · obtain ⟨q, hq⟩ : ∃ q, Fs[l[i].2.toNat] = q := ⟨_, rfl⟩
          have hqm : q ∈ Fs := by rw [← hq]; exact List.getElem_mem hv
          obtain ⟨g1, g2, g3⟩ := hFs q hqm
          obtain ⟨_, n1, _, n64⟩ := good_length g1
          refine ⟨some q.l, ?_, evA_leaf e _ fun A => ?_, fun z hz => by cases hz; exact g1⟩
          · have ho := c_l2Own k q.b w h q.l (by omega) (by omega)
            have hv2 : ¬ (Fs.length : Int) ≤ l[i].2 := by omega
            have hv3 : (l[i].2) < (Fs.length : Int) := by omega
            have hgq : (Fs.map Fd.cells)[l[i].2.toNat]? = some q.cells := by simp [hv, hq]
            have hgq2 : Fs[l[i].2.toNat]? = some q := by simp [hv, hq]
            simp [fldV, ownV, intsO] at ho
            simp [R20_0, R20_1, R20_2, R20_3, R20_4, R20_5, R20_6, R20_7, R20_8, R20_9, R20_10, R20_11, R20_12, R20_13, R20_14, R20_15, R20_16, R20_17, R20_18, Try.f20, ndL_length, hi, hn, ndL_at, ndE, k1, k2, hv, hv2, hv3, hgq, hgq2, hq, Fd.cells, g2, g3, ho, resF, ownV, intsO]
          · unfold valN
            rw [hg, if_pos k1]
            simp [hv, hq]
        · refine ⟨none, ?_, evA_leaf e _ fun A => ?_, fun z hz => by cases hz⟩
          · have hv2 : (Fs.length : Int) ≤ l[i].2 := by omega
            simp [R20_0, R20_1, R20_2, R20_3, R20_4, R20_5, R20_6, R20_7, R20_8, R20_9, R20_10, R20_11, R20_12, R20_13, R20_14, R20_15, R20_16, R20_17, R20_18, Try.f20, ndL_length, hi, hn, ndL_at, ndE, k1, k2, hv2, resF, nilV]
          · unfold valN
            rw [hg, if_pos k1, List.getElem?_eq_none (by omega)]
            rfl
      · -- a number
        rw [hg] at k1 k2 k3
        obtain ⟨q, r, rfl⟩ : ∃ q r, Fs = q :: r := by cases Fs with | nil => exact absurd rfl hne | cons q r => exact ⟨q, r, rfl⟩
        obtain ⟨g1, g2, g3⟩ := hFs q (by simp)
        obtain ⟨_, n1, _, n64⟩ := good_length g1
        refine ⟨some (List.replicate (w * h).toNat l[i].2), ?_, evA_leaf e _ fun A => ?_, fun z hz => by cases hz; exact good_repl hs k2 k3⟩
        · have hwh : 1 ≤ w * h := by have := Int.mul_le_mul p1 p3 (by omega) (by omega); omega
          have hwh2 := (shape_area hs).2.1
          have ho := c_l2Fill k w h l[i].2 (w * h).toNat (by omega) (by omega) (by omega) (by omega)
          simp [intsO] at ho
          simp [R20_0, R20_1, R20_2, R20_3, R20_4, R20_5, R20_6, R20_7, R20_8, R20_9, R20_10, R20_11, R20_12, R20_13, R20_14, R20_15, R20_16, R20_17, R20_18, Try.f20, ndL_length, hi, hn, ndL_at, ndE, k1, Fd.cells, g2, g3, ho, resF, ownV, intsO]
        · unfold valN
          rw [hg, if_neg (by omega), if_pos k1]
    · -- above
      obtain ⟨j, rfl⟩ : ∃ j, i = j + 1 := by
        cases i with
        | zero => rw [e] at h3; exact absurd h3 (by simp [runO])
        | succ j => exact ⟨j, rfl⟩
      have hj0 : (0 : Int) ≤ (j : Int) + 1 := by omega
      obtain ⟨a', d', ha', hs'⟩ := stk_top j h1
      rw [stk_1 e hs'] at hst
      injection hst with hs1 hs2
      injection hs1 with hs1 hs3
      subst hs1
      obtain ⟨r, hrec, hev, hgo⟩ := ih j (by omega) (by omega) h1 k (by omega) a' d' _ hs'
      refine ⟨r.map (chgM (exG (l.getD (j + 1) (0, 0)).2)), ?_, evA_one e hev, fun z hz => ?_⟩
      · obtain ⟨k1, k2, k3⟩ := arI_1 e
        rw [hg] at k1 k2 k3 ⊢
        have hw' : IntKind.i64.wrap (j : Int) = (j : Int) := wrap_small (by omega) (by omega)
        try simp at hn
        try simp at hi
        cases r with
        | none =>
          simp [resF, nilV] at hrec
          simp [R20_0, R20_1, R20_2, R20_3, R20_4, R20_5, R20_6, R20_7, R20_8, R20_9, R20_10, R20_11, R20_12, R20_13, R20_14, R20_15, R20_16, R20_17, R20_18, Try.f20, ndL_length, hi, hn, ndL_at, ndE, hj0, hw', k1, hrec, resF, nilV]
        | some z =>
          obtain ⟨_, n1, _, n64⟩ := good_length (hgo z rfl)
          have hx := c_l4Exceeds k true w h z l[j + 1].2 n64 (by omega)
          have hcl := chgM_length (exG l[j + 1].2) z
          simp [resF, ownV, intsO] at hrec
          simp [fldV, ownV, intsO] at hx
          simp [R20_0, R20_1, R20_2, R20_3, R20_4, R20_5, R20_6, R20_7, R20_8, R20_9, R20_10, R20_11, R20_12, R20_13, R20_14, R20_15, R20_16, R20_17, R20_18, Try.f20, ndL_length, hi, hn, ndL_at, ndE, hj0, hw', k1, hrec, hx, hcl, resF, ownV, intsO, ints_take]
      · obtain ⟨y, rfl, rfl⟩ := Option.map_eq_some_iff.1 hz
        exact good_chg (hgo y rfl) (ex_cell _)
    · -- two
      obtain ⟨j, rfl⟩ : ∃ j, i = j + 1 := by
        cases i with
        | zero => rw [e] at h3; exact absurd h3 (by simp [runO])
        | succ j => exact ⟨j, rfl⟩
      have hj0 : (0 : Int) ≤ (j : Int) + 1 := by omega
      obtain ⟨a2, d2, ha2, hs'⟩ := stk_top j h1
      have hl := stk_len (j + 1) h1
      have ha0 : 0 ≤ runO l a2 := runO_mono h1 (j + 1 - a2) a2 (by omega)
      have hla := stk_len a2 ha0
      rw [hs'] at hl
      simp only [List.length_cons] at hl
      obtain ⟨cc, rfl⟩ : ∃ c, a2 = c + 1 := by
        cases a2 with
        | zero => simp only [stk, List.length_nil] at hl; omega
        | succ c => exact ⟨c, rfl⟩
      obtain ⟨a1, d1, ha1, hs1⟩ := stk_top cc ha0
      rw [stk_2 e (by rw [hs', hs1])] at hst
      injection hst with hs2 hs3
      injection hs2 with hs2 hs4
      subst hs2
      have hst := c_l5Start b l h15 j (by omega) h1 k (by omega) (cc + 1) d2 _ hs'
      obtain ⟨r2, hrec2, hev2, hgo2⟩ := ih j (by omega) (by omega) h1 k (by omega) (cc + 1) d2 _ hs'
      obtain ⟨r1, hrec1, hev1, hgo1⟩ := ih cc (by omega) (by omega) ha0 k (by omega) a1 d1 _ hs1
      refine ⟨_, ?_, evA_two e hev2 hev1, fun z hz => ?_⟩
      · obtain ⟨k1, k2, k3⟩ := arI_2 e
        rw [hg] at k1 k2 k3 ⊢
        have hw' : IntKind.i64.wrap (j : Int) = (j : Int) := wrap_small (by omega) (by omega)
        have hw2 : IntKind.i64.wrap (cc : Int) = (cc : Int) := wrap_small (by omega) (by omega)
        have hw3 : IntKind.i64.wrap (IntKind.i64.wrap (l[j + 1].1 - 3) + 1) = l[j + 1].1 - 2 := by rw [wrap_small (n := l[j + 1].1 - 3) (by omega) (by omega), wrap_small (by omega) (by omega)]; omega
        have d1' : ¬ l[j + 1].1 = 1 := by omega
        have d2' : ¬ l[j + 1].1 = 2 := by omega
        have d7' : ¬ l[j + 1].1 = 7 := by omega
        try simp at hn
        try simp at hi
        try simp at hst
        cases r2 with
        | none =>
          simp [resF, nilV] at hrec2
          cases r1 with
          | none =>
            simp [resF, nilV] at hrec1
            simp [R20_0, R20_1, R20_2, R20_3, R20_4, R20_5, R20_6, R20_7, R20_8, R20_9, R20_10, R20_11, R20_12, R20_13, R20_14, R20_15, R20_16, R20_17, R20_18, Try.f20, ndL_length, hi, hn, ndL_at, ndE, hj0, hw', hw2, hst, d1', d2', d7', hrec1, hrec2, resF, nilV]
          | some x =>
            simp [resF, ownV, intsO] at hrec1
            simp [R20_0, R20_1, R20_2, R20_3, R20_4, R20_5, R20_6, R20_7, R20_8, R20_9, R20_10, R20_11, R20_12, R20_13, R20_14, R20_15, R20_16, R20_17, R20_18, Try.f20, ndL_length, hi, hn, ndL_at, ndE, hj0, hw', hw2, hst, d1', d2', d7', hrec1, hrec2, resF, nilV]
        | some y =>
          simp [resF, ownV, intsO] at hrec2
          cases r1 with
          | none =>
            simp [resF, nilV] at hrec1
            simp [R20_0, R20_1, R20_2, R20_3, R20_4, R20_5, R20_6, R20_7, R20_8, R20_9, R20_10, R20_11, R20_12, R20_13, R20_14, R20_15, R20_16, R20_17, R20_18, Try.f20, ndL_length, hi, hn, ndL_at, ndE, hj0, hw', hw2, hst, d1', d2', d7', hrec1, hrec2, resF, nilV]
          | some x =>
            simp [resF, ownV, intsO] at hrec1
            have hx := c_l4Combine (l[j + 1].1 - 2) k true true w h x y (by omega) (hgo1 x rfl) (hgo2 y rfl)
            obtain ⟨_, n1, _, n64⟩ := good_length (hgo1 x rfl)
            obtain ⟨_, n2, _, _⟩ := good_length (hgo2 y rfl)
            have hz : (List.zipWith (combG (l[j + 1].1 - 2)) x y).length = x.length := by simp; omega
            cases hgz : goodB w h (List.zipWith (combG (l[j + 1].1 - 2)) x y)
            · rw [hgz] at hx
              simp [fldV, nilV] at hx
              simp [R20_0, R20_1, R20_2, R20_3, R20_4, R20_5, R20_6, R20_7, R20_8, R20_9, R20_10, R20_11, R20_12, R20_13, R20_14, R20_15, R20_16, R20_17, R20_18, Try.f20, ndL_length, hi, hn, ndL_at, ndE, hj0, hw', hw2, hw3, hst, d1', d2', d7', hrec1, hrec2, hx, resF, nilV, ints_take, hgz]
            · rw [hgz] at hx
              simp [fldV, ownV, intsO] at hx
              simp [R20_0, R20_1, R20_2, R20_3, R20_4, R20_5, R20_6, R20_7, R20_8, R20_9, R20_10, R20_11, R20_12, R20_13, R20_14, R20_15, R20_16, R20_17, R20_18, Try.f20, ndL_length, hi, hn, ndL_at, ndE, hj0, hw', hw2, hw3, hst, d1', d2', d7', hrec1, hrec2, hx, resF, ownV, intsO, ints_take, hgz, hz]
      · cases r1 with
        | none => cases hz
        | some x =>
          cases r2 with
          | none => cases hz
          | some y =>
            simp only [Option.bind_some] at hz
            split at hz
            · rename_i hgz; cases hz; exact hgz
            · cases hz
    · omega

end Go.Proofs.Ytfcnlfjenialdaa.Eng
namespace Go.Proofs.Ytfcnlfjenialdaa.Eng
open Go Go.Proofs
set_option maxRecDepth 100000
set_option maxHeartbeats 2000000
set_option linter.unusedSimpArgs false
set_option linter.unusedVariables false
attribute [local simp] finK fin1 hpOf xi renQ isRoot runCode runOps stepX inlOf Eng.step wantedV astep val ofO made loadV storeV find V.cells bin binT binA numT numFs eqCells un1 setAt fieldAddrV fieldV indexAddrV indexV bounds sliceV convV lenV foldV max2V min2V callO bor rdsO wrsO seen_none okD_none loops keepIds resV resultsV St.ev TK.agg refs refsL refsO V.one V.isC Value.oneCell' ren renL renO noTag noTagL noTagR noTagO nodup mapO passV frs psi refsR newD loopNext opsAt idx flatAt rootOf backR newsV appendV copyV clearV strV bytesV bldV bufV selfV bytesOf nilCmp buildV fillF chunk freeL frzW cellSame sameV
attribute [local simp] cT cF cX cWR cOW cK cBL X ints_length ints_get ints_getElem ints_drop ints_take ints_append ints_nil ints_set
attribute [local simp] ints_replicate
attribute [local simp] putV_some putV_none putH_app applyD_nil applyD_cons seen_app gc_ρ gc_H gc_tick st0_ρ st0_H st0_tick retV callRo callV_if borL_nil borL_cons ints_snoc take_self callWr cutH_app findQ afterV exportV_0 exportV_n okD_nil okD_cons sub_seq0 sub_seq1 sub_cond0 sub_cond1 sub_block sub_loop sub_nil young_far young_none hidW_nil mayW_nil keepsF_nil keepsF_cons pairs okI ok_0 ok_1 ok_2
attribute [local simp] T3 T4 T22 T23 T26 T28 T31 T33 T43 T48 T50 T70 T73 T75 T78 T82 T85
attribute [local simp] young_near clo cloF Region.binds Nat.testBit hidW declW mayW List.findIdx?_cons
theorem c_specEvaluate (k : Nat) (b c : Bool) (l : List (Int × Int)) (p : List Fd) (hp : p.length ≤ 1048576) (hk : p.length + 3000 ≤ k) :
    callK C k 6 [.sq b true 2 (ndL l), .sq c false 3 (p.map Fd.cells)] [] = evR l p := by
  obtain ⟨k, rfl⟩ : ∃ m, k = m + 9 := ⟨k - 9, by omega⟩
  rw [callK_fn rfl F6 code6]
  unfold evR
  have hG := c_l5Good (k + 8) b l (by omega)
  have hF := c_l5Fields (k + 8) c p hp (by omega)
  cases hg : goodE l
  · rw [hg] at hG
    simp [R6_0, R6_1, R6_2, R6_3, Try.f6, hG, nilV, resF]
  · rw [hg] at hG
    cases ha : alikeF p
    · rw [ha] at hF
      simp [R6_0, R6_1, R6_2, R6_3, Try.f6, hG, hF, nilV, resF]
    · rw [ha] at hF
      cases p with
      | nil => cases ha
      | cons q0 r =>
        unfold alikeF at ha
        simp only [Bool.and_eq_true, decide_eq_true_eq] at ha
        obtain ⟨ha, h3⟩ := ha
        rw [List.all_eq_true] at ha
        have hFs : ∀ q ∈ q0 :: r, goodB q0.w q0.h q.l = true ∧ q.w = q0.w ∧ q.h = q0.h := by
          intro q hq
          have := ha q hq
          simp only [likeB, Bool.and_eq_true, beq_iff_eq] at this
          obtain ⟨t1, t2, t3⟩ := this
          rw [t2, t3] at t1
          exact ⟨t1, t2, t3⟩
        have hw : evW (q0 :: r) = q0.w := rfl
        have hh : evH (q0 :: r) = q0.h := rfl
        rw [hw, hh]
        obtain ⟨h15, hr⟩ := good_run hg
        obtain ⟨n, hn⟩ : ∃ n, l.length = n + 1 := by
          cases hl : l.length with
          | zero => rw [hl] at hr; simp [runO] at hr
          | succ n => exact ⟨n, rfl⟩
        obtain ⟨a, d, ha', hs⟩ := stk_top (l := l) n (by rw [← hn]; omega)
        obtain ⟨rr, hv, hev, _⟩ := c_l5Value b c q0.w q0.h (q0 :: r) ⟨by simp, hFs⟩ (by simp; omega) l h15 n (by omega) (by rw [← hn]; omega) (k + 8) (by omega) a d _ hs
        have hdt := (depth_top hg (by rw [hn]; exact hs)).2
        have ha0 : a = 0 := by
          have h1 := stk_len (l := l) (n + 1) (by rw [← hn]; omega)
          rw [hs] at h1
          simp only [List.length_cons] at h1
          have h2 := runO_mono (l := l) (n := l.length) (by omega) (l.length - a) a (by omega)
          have h3' := stk_len a h2
          cases a with
          | zero => rfl
          | succ a =>
            have := runO_pos h2
            rw [← hn] at h1
            omega
        subst ha0
        have hvv : evV q0.w q0.h (q0 :: r) l = rr := by
          unfold evV
          rw [hn, hev]
          cases rr <;> simp [evA]
        have hw' : IntKind.i64.wrap (n : Int) = (n : Int) := wrap_small (by omega) (by omega)
        rw [hvv]
        simp at hF hv
        cases rr with
        | none =>
          simp [resF, nilV] at hv
          simp [R6_0, R6_1, R6_2, R6_3, Try.f6, hG, hF, ndL_length, hn, hw', hv, nilV, resF]
        | some z =>
          simp [resF, ownV, intsO] at hv
          simp [R6_0, R6_1, R6_2, R6_3, Try.f6, hG, hF, ndL_length, hn, hw', hv, ownV, resF, intsO]
/-- Fields as a callee sees those of one's own. -/
def fdT (q : Fd) : Fd := ⟨true, q.w, q.h, q.l⟩
def zrow : List V := [.c (.int .i64 0), .c (.int .i64 0), .c (.slice none 0 0)]
theorem zrow_len : zrow.length = 3 := rfl
theorem zrow_drop : zrow.drop 3 = [] := rfl
/-- What toFieldS keeps. -/
structure TfI (b : Bool) (p : List Fd) (id vr lo : Nat) (H0 : Hp) (i : Nat) (P : List Fo) (s : St) : Prop where
  q0 : s.ρ 0 = .sq b false 3 (p.map Fd.cells)
  q3 : s.ρ 3 = .s id vr 3 0 p.length
  q4 : s.ρ 4 = .c (.int .i64 (i : Int))
  hP : P.map Fo.fd = (p.take i).map fdT
  has : Has s.H P lo (Bt s.tick)
  nd : (P.map Fo.id).Nodup
  ni : id ∉ P.map Fo.id
  i0 : lo ≤ id
  i1 : id < Bt s.tick
  lt : lo ≤ Bt s.tick
  Ho : s.H id = some (vr, ⟨28, 3, false, P.map Fo.row ++ List.replicate (p.length - i) zrow⟩)
  old : ∀ x, x < lo → s.H x = H0 x
theorem tf_round (k : Nat) (b : Bool) (p : List Fd) (hp : p.length ≤ 1048576) (hs : ∀ q ∈ p, q.l.length ≤ 1048576) (hk : 1048676 ≤ k) (id vr lo : Nat) (H0 : Hp) (i : Nat) (hi : i < p.length) :
    ∀ s P, TfI b p id vr lo H0 i P s → ∃ s' P', runCode C (callK C k) k (K 8) L8_0 1 s = some (.nrm, s') ∧ TfI b p id vr lo H0 (i + 1) P' s' ∧ s.tick ≤ s'.tick := by
  intro s P ⟨q0, q3, q4, hP, has, nd, ni, i0, i1, lt, Ho, old⟩
  have T := c_toField k p[i].b p[i].w p[i].h p[i].l (hs _ (List.getElem_mem hi)) (by have := hs _ (List.getElem_mem hi); omega)
  simp [lfldV, intsO] at T
  have hgi := fd_get p i hi
  have hwn := wrap_next hi (by omega : p.length ≤ 9000000000000000000)
  have hm0 : Bt s.tick ≤ Bt (s.tick + 1) := Bt_mono (by omega)
  have hm3 : Bt (s.tick + 1 + 1) ≤ Bt (s.tick + 1 + 1 + 1) := Bt_mono (by omega)
  have n5 := FR_lo 5 (s.tick + 1) 7
  have n5' := FR_hi 5 (s.tick + 1) 7 (by omega)
  have hPl : P.length = i := by have := congrArg List.length hP; simp at this; omega
  have e1 : ¬ id = 16 * (FR 5 (s.tick + 1) * 64 + 6 + 1) := by omega
  have e2 : ¬ 16 * (FR 5 (s.tick + 1) * 64 + 6 + 1) = id := by omega
  have hget : (P.map Fo.row ++ List.replicate (p.length - i) zrow)[i]? = some zrow := by
    rw [List.getElem?_append_right (by simp; omega)]
    simp [hPl, List.getElem?_replicate]
    omega
  have hget2 : ∀ h, (P.map Fo.row ++ List.replicate (p.length - i) zrow)[i]'h = zrow := fun h => (List.getElem?_eq_some_iff.1 hget).2
  have hset : ∀ r : List V, (P.map Fo.row ++ List.replicate (p.length - i) zrow).set i r = P.map Fo.row ++ r :: List.replicate (p.length - (i + 1)) zrow := by
    intro r
    rw [List.set_append, if_neg (by simp; omega)]
    congr 1
    rw [show i - (P.map Fo.row).length = 0 by simp; omega, show p.length - i = (p.length - (i + 1)) + 1 by omega, List.replicate_succ, List.set_cons_zero]
  have hlen : (P.map Fo.row ++ List.replicate (p.length - i) zrow).length = p.length := by simp; omega
  simp [L8_0, R8_0, R8_1, R8_2, R8_3, R8_4, R8_5, R8_6, Try.f8, lpL8_0, lpM8_0, M8_0, q0, q3, q4, hi, hgi, Fd.cells, T, Ho, e1, e2, hget, hget2, hset, hwn, zrow_len, zrow_drop]
  refine ⟨⟨P ++ [(⟨p[i].w, p[i].h, 16 * (FR 5 (s.tick + 1) * 64 + 6 + 1), s.tick + 1, p[i].l⟩ : Fo)], ?_⟩, by omega⟩
  have hnew : 16 * (FR 5 (s.tick + 1) * 64 + 6 + 1) ∉ P.map Fo.id := by
    intro hm
    obtain ⟨q, hq, e⟩ := List.mem_map.1 hm
    have := (has q hq).2.2
    omega
  refine ⟨by simp [q0, Fd.cells], by simp [q3], by simp, ?_, ?_, ?_, ?_, i0, ?_, ?_, ?_, ?_⟩
  · rw [List.take_succ_eq_append_getElem hi, List.map_append, List.map_append, hP]
    rfl
  · intro x hx
    rcases List.mem_append.1 hx with hx | hx
    · obtain ⟨a, b', c⟩ := has x hx
      have ne : ¬ x.id = id := fun e => ni (by rw [← e]; exact List.mem_map_of_mem hx)
      refine ⟨?_, b', by simp <;> omega⟩
      simp [putH_app, ne, show ¬ x.id = 16 * (FR 5 (s.tick + 1) * 64 + 6 + 1) by omega, a]
    · rw [List.mem_singleton] at hx
      subst hx
      exact ⟨by simp [putH_app, e2, intsO], by simp <;> omega, by simp <;> omega⟩
  · rw [List.map_append, List.nodup_append]
    refine ⟨nd, by simp, ?_⟩
    intro x hx y hy e
    simp at hy
    rw [e, hy] at hx
    exact hnew hx
  · rw [List.map_append, List.mem_append]
    rintro (h | h)
    · exact ni h
    · simp at h
      exact e1 h
  · simp <;> omega
  · simp <;> omega
  · simp [putH_app, Fo.row]
  · intro x hx
    simp [putH_app, show ¬ x = id by omega, show ¬ x = 16 * (FR 5 (s.tick + 1) * 64 + 6 + 1) by omega, old x hx]
/-- A list of fields of one's own, all of it made between lo and hi. -/
structure FlI (pT : List Fd) (v : V) (H : Hp) (lo hi : Nat) (P : List Fo) (id vr : Nat) : Prop where
  hP : P.map Fo.fd = pT
  has : Has H P lo hi
  nd : (P.map Fo.id).Nodup
  ni : id ∉ P.map Fo.id
  i0 : lo ≤ id
  i1 : id < hi
  hv : v = .s id vr 3 0 P.length
  Ho : H id = some (vr, flO P)
theorem FlI.keep {pT : List Fd} {v : V} {H H' : Hp} {lo hi : Nat} {P : List Fo} {id vr : Nat} (I : FlI pT v H lo hi P id vr) (hk : ∀ x, lo ≤ x → x < hi → H' x = H x) : FlI pT v H' lo hi P id vr :=
  ⟨I.hP, I.has.keep (fun x a b _ => hk x a b) (Nat.le_refl _) (Nat.le_refl _), I.nd, I.ni, I.i0, I.i1, I.hv, by rw [hk _ I.i0 I.i1]; exact I.Ho⟩
theorem FlI.bor {pT : List Fd} {v : V} {H : Hp} {lo hi : Nat} {P : List Fo} {id vr : Nat} (I : FlI pT v H lo hi P id vr) : Eng.bor H 4 v = some (.sq true false 3 (pT.map Fd.cells)) := by
  rw [I.hv, bor_fl I.has I.Ho 2, I.hP]
theorem i_toFieldS (k : Nat) (b : Bool) (p : List Fd) (hp : p.length ≤ 1048576) (hs : ∀ q ∈ p, q.l.length ≤ 1048576) (hk : p.length + 1048700 ≤ k) (H : Hp) (tick : Nat) (ht : 1 ≤ tick) :
    ∃ v P id vr H' tk', (callK C (k + 1)).inl 8 [.sq b false 3 (p.map Fd.cells)] H tick = some (v, H', tk') ∧ FlI (p.map fdT) v H' (Bt tick) (Bt tk') P id vr ∧ (∀ x, x < Bt tick → H' x = H x) ∧ tick ≤ tk' := by
  rw [callI_fn F8 code8]
  have n1 := FR_lo 1 (tick + 1) 3
  have n1' := FR_hi 1 (tick + 1) 3 (by omega)
  have hm := Bt_mono (show tick ≤ tick + 1 by omega)
  have hm2 := Bt_mono (show tick + 1 + 1 ≤ tick + 1 + 1 + 1 by omega)
  have hm3 := Bt_mono (show tick + 1 ≤ tick + 1 + 1 by omega)
  have hL := loopHas (body := fun st => runCode C (callK C k) k (K 8) L8_0 1 st) (keep := [0, 3, 4, 999]) (.ex 0) (fun s => ∃ P, TfI b p (16 * (FR 1 (tick + 1) * 64 + 2 + 1)) (tick + 1) (Bt tick) H p.length P s ∧ tick ≤ s.tick)
    (fun i st => ∃ P, TfI b p (16 * (FR 1 (tick + 1) * 64 + 2 + 1)) (tick + 1) (Bt tick) H i P st ∧ tick ≤ st.tick)
    p.length k (by omega)
    (by
      rintro i st next hi ⟨P, I, hle⟩ hx
      have I2 : TfI b p (16 * (FR 1 (tick + 1) * 64 + 2 + 1)) (tick + 1) (Bt tick) H i P (Eng.gc [0, 3, 4, 999] st) := by
        obtain ⟨a0, a3, a4, aP, ah, an, ai, a5, a6, a7, aH, ao⟩ := I
        have hg : (Eng.gc [0, 3, 4, 999] st).H = st.H := gc_all _ _ (by decide)
        exact ⟨by simp [a0], by simp [a3], by simp [a4], aP, by rw [hg]; exact ah, an, ai, a5, a6, a7, by rw [hg]; exact aH, by rw [hg]; exact ao⟩
      obtain ⟨s', P', e, I', htt⟩ := tf_round k b p hp hs (by omega) _ _ _ H i hi _ P I2
      simp only [e, loopNext]
      exact hx s' ⟨P', I', Nat.le_trans hle (by simpa using htt)⟩)
    (by
      rintro st next ⟨P, ⟨a0, a3, a4, aP, ah, an, ai, a5, a6, a7, aH, ao⟩, hle⟩
      have hg : (Eng.gc [0, 3, 4, 999] st).H = st.H := gc_all _ _ (by decide)
      obtain ⟨s1, hs1⟩ : ∃ s1, Eng.gc [0, 3, 4, 999] st = s1 := ⟨_, rfl⟩
      have b0 : s1.ρ 0 = .sq b false 3 (p.map Fd.cells) := by rw [← hs1]; simp [a0]
      have b3 : s1.ρ 3 = .s (16 * (FR 1 (tick + 1) * 64 + 2 + 1)) (tick + 1) 3 0 p.length := by rw [← hs1]; simp [a3]
      have b4 : s1.ρ 4 = .c (.int .i64 (p.length : Int)) := by rw [← hs1]; simp [a4]
      have bt : s1.tick = st.tick := by rw [← hs1]; simp
      rw [hs1] at hg ⊢
      have hmm := Bt_mono (show st.tick ≤ st.tick + 1 by omega)
      simp [L8_0, R8_0, R8_1, R8_2, R8_3, R8_4, R8_5, R8_6, Try.f8, lpL8_0, lpM8_0, M8_0, b0, b3, b4]
      exact ⟨⟨P, by simp [b0], by simp [b3], by simp [b4], aP, by simp [hg, bt]; exact ah.keep (fun _ _ _ _ => rfl) (Nat.le_refl _) hmm, an, ai, a5, by simp [bt]; omega, by simp [bt]; omega, by simp [hg, aH], by simpa [hg] using ao⟩, by simp [bt]; omega⟩)
  have b1 : (p.length : Int) ≤ 17592186044416 := by omega
  have b2 : 40 * (p.length : Int) ≤ 140737488355328 := by omega
  have hok : okObj ⟨28, 3, false, List.replicate p.length [.c (.int .i64 0), .c (.int .i64 0), .c (.slice none 0 0)]⟩ = true := by
    simp [okObj, V.one, Value.oneCell']
  simp [R8_0, R8_1, R8_2, R8_3, R8_4, R8_5, R8_6, Try.f8, lpL8_0, lpM8_0, b1, b2, hok]
  generalize hr : loopRun _ _ _ _ = res
  obtain ⟨s1, rfl, P, I, hle⟩ := loop_at hL hr ⟨[], ⟨by simp, by simp, by simp, by simp, by intro q hq; simp at hq, by simp, by simp, by omega, by simp <;> omega, by simp <;> omega, by simp [putH_app, zrow], by intro x hx; simp [putH_app, show ¬ x = 16 * (FR 1 (tick + 1) * 64 + 2 + 1) by omega]⟩, by simp <;> omega⟩
  obtain ⟨a0, a3, a4, aP, ah, an, ai, a5, a6, a7, aH, ao⟩ := I
  have hPl : P.length = p.length := by have := congrArg List.length aP; simpa using this
  rw [List.take_length] at aP
  have hm4 := Bt_mono (show s1.tick ≤ s1.tick + 1 by omega)
  simp [R8_0, R8_1, R8_2, R8_3, R8_4, R8_5, R8_6, Try.f8, lpL8_0, lpM8_0, M8_0, a3, finI]
  exact ⟨_, P, _, _, _, _, ⟨rfl, rfl, rfl⟩, ⟨aP, ah.keep (fun _ _ _ _ => rfl) (Nat.le_refl _) hm4, an, ai, a5, by omega, by rw [hPl], by simpa [flO] using aH⟩, ao, by omega⟩

end Go.Proofs.Ytfcnlfjenialdaa.Eng
namespace Go.Proofs.Ytfcnlfjenialdaa.Eng
open Go Go.Proofs
set_option maxRecDepth 100000
set_option maxHeartbeats 2000000
set_option linter.unusedSimpArgs false
set_option linter.unusedVariables false
attribute [local simp] finK fin1 hpOf xi renQ isRoot runCode runOps stepX inlOf Eng.step wantedV astep val ofO made loadV storeV find V.cells bin binT binA numT numFs eqCells un1 setAt fieldAddrV fieldV indexAddrV indexV bounds sliceV convV lenV foldV max2V min2V callO bor rdsO wrsO seen_none okD_none loops keepIds resV resultsV St.ev TK.agg refs refsL refsO V.one V.isC Value.oneCell' ren renL renO noTag noTagL noTagR noTagO nodup mapO passV frs psi refsR newD loopNext opsAt idx flatAt rootOf backR newsV appendV copyV clearV strV bytesV bldV bufV selfV bytesOf nilCmp buildV fillF chunk freeL frzW cellSame sameV
attribute [local simp] cT cF cX cWR cOW cK cBL X ints_length ints_get ints_getElem ints_drop ints_take ints_append ints_nil ints_set
attribute [local simp] ints_replicate
attribute [local simp] putV_some putV_none putH_app applyD_nil applyD_cons seen_app gc_ρ gc_H gc_tick st0_ρ st0_H st0_tick retV callRo callV_if borL_nil borL_cons ints_snoc take_self callWr cutH_app findQ afterV exportV_0 exportV_n okD_nil okD_cons sub_seq0 sub_seq1 sub_cond0 sub_cond1 sub_block sub_loop sub_nil young_far young_none hidW_nil mayW_nil keepsF_nil keepsF_cons pairs okI ok_0 ok_1 ok_2
attribute [local simp] T3 T4 T22 T23 T26 T28 T31 T33 T43 T48 T50 T70 T73 T75 T78 T82 T85
attribute [local simp] young_near clo cloF Region.binds Nat.testBit hidW declW mayW List.findIdx?_cons
structure MfI (v : V) (pT : List Fd) (P : List Fo) (id vr lo hi : Nat) (H0 : Hp) (n0 : Int) (i : Nat) (Q : List Fo) (s : St) : Prop where
  q0 : s.ρ 0 = v
  q1 : s.ρ 1 = .c (.int .i64 (n0 + 2 * (i : Int) + (lenF (pT.take i) : Int)))
  q5 : s.ρ 5 = .c (.int .i64 (i : Int))
  hid : Q.map Fo.id = P.map Fo.id
  hl : Q.map (fun q => q.l.length) = pT.map (fun q => q.l.length)
  has : Has s.H Q lo hi
  Ho : s.H id = some (vr, flO Q)
  fr : ∀ x, (x < lo ∨ hi ≤ x) → s.H x = H0 x
theorem mf_round (k : Nat) (pT : List Fd) (v : V) (H : Hp) (lo hi : Nat) (P : List Fo) (id vr : Nat) (I : FlI pT v H lo hi P id vr) (hp : pT.length ≤ 1048576) (hs : lenF pT ≤ 1048576) (n0 : Int) (h0 : 0 ≤ n0) (h1 : n0 ≤ 10000000) (hk : 1048676 ≤ k) (H0 : Hp) (i : Nat) (hi' : i < pT.length) :
    ∀ s Q, MfI v pT P id vr lo hi H0 n0 i Q s → ∃ s' Q', runCode C (callK C k) k (K 14) L14_0 1 s = some (.nrm, s') ∧ MfI v pT P id vr lo hi H0 n0 (i + 1) Q' s' ∧ s.tick ≤ s'.tick := by
  intro s Q ⟨q0, q1, q5, hid, hl, has, Ho, fr⟩
  obtain ⟨iP, ih, ind, ini, ii0, ii1, ihv, iHo⟩ := I
  have hQl : Q.length = pT.length := by have := congrArg List.length hl; simpa using this
  have hPl : P.length = pT.length := by have := congrArg List.length iP; simpa using this
  obtain ⟨q, hq⟩ : ∃ q, Q[i]'(by omega) = q := ⟨_, rfl⟩
  have hqm : q ∈ Q := by rw [← hq]; exact List.getElem_mem _
  obtain ⟨c1, c2, c3⟩ := has q hqm
  have hql : q.l.length = pT[i].l.length := by
    have := congrArg (fun L => L[i]?) hl
    simp [hi', hQl, hq] at this
    exact this
  have hqid : ¬ q.id = id := by
    intro e
    apply ini
    rw [← hid, ← e]
    exact List.mem_map_of_mem hqm
  have hid' : ¬ id = q.id := fun e => hqid e.symm
  have ht1 := lenF_take pT i hi'
  have ht2 := lenF_take_le pT (i + 1)
  rw [ihv, hPl] at q0
  obtain ⟨n, hn⟩ : ∃ n, n0 + 2 * (i : Int) + (lenF (pT.take i) : Int) = n := ⟨_, rfl⟩
  rw [hn] at q1
  have M := c_markIntS k q.l (n + 1 + 1) (by omega) (by omega) (by omega) (by omega)
  simp [intsO] at M
  have w1 : IntKind.i64.wrap (n + 1) = n + 1 := wrap_small (by omega) (by omega)
  have w2 : IntKind.i64.wrap (n + 1 + 1) = n + 1 + 1 := wrap_small (by omega) (by omega)
  have hwn := wrap_next hi' (by omega : pT.length ≤ 9000000000000000000)
  have hiQ : i < Q.length := by omega
  have hgr : (Q.map Fo.row)[i]? = some q.row := by rw [List.getElem?_map, List.getElem?_eq_getElem hiQ, hq]; rfl
  have hgr2 : ∀ h, (Q.map Fo.row)[i]'h = q.row := fun h => (List.getElem?_eq_some_iff.1 hgr).2
  simp [intsO] at c1
  simp [L14_0, R14_0, R14_1, R14_2, R14_3, R14_4, R14_5, R14_6, R14_7, R14_8, R14_9, Try.f14, lpL14_0, lpM14_0, M14_0, q0, q1, q5, hi', Ho, flO, hiQ, hq, Fo.row, setAt, w1, w2, hwn, c1, hqid, hid', M]
  refine ⟨⟨Q.set i ⟨n, n + 1, q.id, q.vr, marks (n + 1 + 1) q.l.length⟩, ?_⟩, by omega⟩
  have hlm : (marks (n + 1 + 1) q.l.length).length = q.l.length := marks_length _ _
  have hne : ∀ x ∈ Q.set i (⟨n, n + 1, q.id, q.vr, marks (n + 1 + 1) q.l.length⟩ : Fo), x = ⟨n, n + 1, q.id, q.vr, marks (n + 1 + 1) q.l.length⟩ ∨ (x ∈ Q ∧ x.id ≠ q.id) := by
    intro x hx
    obtain ⟨j, hj, rfl⟩ := List.getElem_of_mem hx
    rw [List.length_set] at hj
    rw [List.getElem_set]
    by_cases e : i = j
    · rw [if_pos e]; exact .inl rfl
    · rw [if_neg e]
      refine .inr ⟨List.getElem_mem _, fun hid2 => e ?_⟩
      have nd : (Q.map Fo.id).Nodup := by rw [hid]; exact ind
      have nd2 := List.pairwise_iff_getElem.1 nd
      rcases Nat.lt_or_ge i j with hlt | hge
      · exact (nd2 i j (by simpa using hiQ) (by simpa using hj) hlt (by simp [hq, hid2])).elim
      · rcases Nat.lt_or_ge j i with hlt | hge2
        · exact (nd2 j i (by simpa using hj) (by simpa using hiQ) hlt (by simp [hq, hid2])).elim
        · omega
  refine ⟨by simp [q0, ihv, hPl], ?_, by simp, ?_, ?_, ?_, ?_, ?_⟩
  · simp
    omega
  · rw [List.map_set, ← hid]
    have : (Q.map Fo.id)[i]'(by simpa using hiQ) = q.id := by simp [hq]
    rw [← this, List.set_getElem_self]
  · rw [List.map_set, ← hl]
    have : (Q.map (fun q => q.l.length))[i]'(by simpa using hiQ) = q.l.length := by simp [hq]
    simp only [hlm]
    rw [← this, List.set_getElem_self]
  · intro x hx
    rcases hne x hx with rfl | ⟨hx, hne2⟩
    · exact ⟨by simp [putH_app, hqid, intsO], c2, c3⟩
    · obtain ⟨a, b', c'⟩ := has x hx
      have hxi : ¬ x.id = id := by
        intro e
        apply ini
        rw [← hid, ← e]
        exact List.mem_map_of_mem hx
      exact ⟨by simp [putH_app, hne2, hxi, a], b', c'⟩
  · simp [putH_app, hid', flO, List.map_set, Fo.row, hlm]
  · intro x hx
    have e1 : ¬ x = id := by omega
    have e2 : ¬ x = q.id := by omega
    simp [putH_app, e1, e2, fr x hx]
theorem i_markFieldS (k : Nat) (pT : List Fd) (v : V) (H : Hp) (lo hi : Nat) (P : List Fo) (id vr : Nat) (I : FlI pT v H lo hi P id vr) (hp : pT.length ≤ 1048576) (hs : lenF pT ≤ 1048576) (n0 : Int) (h0 : 0 ≤ n0) (h1 : n0 ≤ 10000000) (hk : 1048700 ≤ k) (tick : Nat) :
    ∃ n1 H' tk', (callK C (k + 1)).inl 14 [v, .c (.int .i64 n0)] H tick = some (.c (.int .i64 n1), H', tk') ∧ n0 ≤ n1 ∧ (∀ x, (x < lo ∨ hi ≤ x) → H' x = H x) ∧ tick ≤ tk' := by
  rw [callI_fn F14 code14]
  have hPl : P.length = pT.length := by have := congrArg List.length I.hP; simpa using this
  have hL := loopHas (body := fun st => runCode C (callK C k) k (K 14) L14_0 1 st) (keep := [0, 1, 5, 999]) (.ex 0) (fun s => ∃ Q, MfI v pT P id vr lo hi H n0 pT.length Q s ∧ tick ≤ s.tick)
    (fun i st => ∃ Q, MfI v pT P id vr lo hi H n0 i Q st ∧ tick ≤ st.tick)
    pT.length k (by omega)
    (by
      rintro i st next hi' ⟨Q, J, hle⟩ hx
      have J2 : MfI v pT P id vr lo hi H n0 i Q (Eng.gc [0, 1, 5, 999] st) := by
        obtain ⟨a0, a1, a5, aid, al, ah, aH, ao⟩ := J
        have hg : (Eng.gc [0, 1, 5, 999] st).H = st.H := gc_all _ _ (by decide)
        exact ⟨by simp [a0], by simp [a1], by simp [a5], aid, al, by rw [hg]; exact ah, by rw [hg]; exact aH, by rw [hg]; exact ao⟩
      obtain ⟨s', Q', e, J', htt⟩ := mf_round k pT v H lo hi P id vr I hp hs n0 h0 h1 (by omega) H i hi' _ Q J2
      simp only [e, loopNext]
      exact hx s' ⟨Q', J', Nat.le_trans hle (by simpa using htt)⟩)
    (by
      rintro st next ⟨Q, ⟨a0, a1, a5, aid, al, ah, aH, ao⟩, hle⟩
      have hg : (Eng.gc [0, 1, 5, 999] st).H = st.H := gc_all _ _ (by decide)
      obtain ⟨s1, hs1⟩ : ∃ s1, Eng.gc [0, 1, 5, 999] st = s1 := ⟨_, rfl⟩
      have b0 : s1.ρ 0 = v := by rw [← hs1]; simp [a0]
      have b1 : s1.ρ 1 = .c (.int .i64 (n0 + 2 * (pT.length : Int) + (lenF (pT.take pT.length) : Int))) := by rw [← hs1]; simp [a1]
      have b5 : s1.ρ 5 = .c (.int .i64 (pT.length : Int)) := by rw [← hs1]; simp [a5]
      have bt : s1.tick = st.tick := by rw [← hs1]; simp
      have b0' := b0
      rw [I.hv, hPl] at b0'
      rw [hs1] at hg ⊢
      simp [L14_0, R14_0, R14_1, R14_2, R14_3, R14_4, R14_5, R14_6, R14_7, R14_8, R14_9, Try.f14, lpL14_0, lpM14_0, M14_0, b0', b5]
      exact ⟨⟨Q, by simp [I.hv, hPl, b0'], by simp [b1], by simp [b5], aid, al, by simp [hg]; exact ah, by simp [hg, aH], by simpa [hg] using ao⟩, by simp [bt]; omega⟩)
  simp [R14_0, R14_1, R14_2, R14_3, R14_4, R14_5, R14_6, R14_7, R14_8, R14_9, Try.f14, lpL14_0, lpM14_0]
  generalize hr : loopRun _ _ _ _ = res
  obtain ⟨s1, rfl, Q, J, hle⟩ := loop_at hL hr ⟨P, ⟨by simp, by simp [lenF], by simp, rfl, by rw [← I.hP]; simp [Fo.fd], by simpa using I.has, by simpa using I.Ho, by simp⟩, by simp <;> omega⟩
  obtain ⟨a0, a1, a5, aid, al, ah, aH, ao⟩ := J
  simp [R14_0, R14_1, R14_2, R14_3, R14_4, R14_5, R14_6, R14_7, R14_8, R14_9, Try.f14, lpL14_0, lpM14_0, M14_0, a1, finI]
  exact ⟨_, _, _, ⟨rfl, rfl, rfl⟩, by omega, ao, by omega⟩

end Go.Proofs.Ytfcnlfjenialdaa.Eng
namespace Go.Proofs.Ytfcnlfjenialdaa.Eng
open Go Go.Proofs
set_option maxRecDepth 100000
set_option maxHeartbeats 2000000
set_option linter.unusedSimpArgs false
set_option linter.unusedVariables false
attribute [local simp] finK fin1 hpOf xi renQ isRoot runCode runOps stepX inlOf Eng.step wantedV astep val ofO made loadV storeV find V.cells bin binT binA numT numFs eqCells un1 setAt fieldAddrV fieldV indexAddrV indexV bounds sliceV convV lenV foldV max2V min2V callO bor rdsO wrsO seen_none okD_none loops keepIds resV resultsV St.ev TK.agg refs refsL refsO V.one V.isC Value.oneCell' ren renL renO noTag noTagL noTagR noTagO nodup mapO passV frs psi refsR newD loopNext opsAt idx flatAt rootOf backR newsV appendV copyV clearV strV bytesV bldV bufV selfV bytesOf nilCmp buildV fillF chunk freeL frzW cellSame sameV
attribute [local simp] cT cF cX cWR cOW cK cBL X ints_length ints_get ints_getElem ints_drop ints_take ints_append ints_nil ints_set
attribute [local simp] ints_replicate
attribute [local simp] putV_some putV_none putH_app applyD_nil applyD_cons seen_app gc_ρ gc_H gc_tick st0_ρ st0_H st0_tick retV callRo callV_if borL_nil borL_cons ints_snoc take_self callWr cutH_app findQ afterV exportV_0 exportV_n okD_nil okD_cons sub_seq0 sub_seq1 sub_cond0 sub_cond1 sub_block sub_loop sub_nil young_far young_none hidW_nil mayW_nil keepsF_nil keepsF_cons pairs okI ok_0 ok_1 ok_2
attribute [local simp] T3 T4 T22 T23 T26 T28 T31 T33 T43 T48 T50 T70 T73 T75 T78 T82 T85
attribute [local simp] young_near clo cloF Region.binds Nat.testBit hidW declW mayW List.findIdx?_cons
/-- The law answers true. -/
def YesE (k : Nat) (c : Code) (st : St) : Prop := ∃ s, runCode C (callK C k) k (K 3) c 0 st = some (.ret, s) ∧ s.ρ 4 = .c (.bool true)
structure LwE (b c : Bool) (l : List (Int × Int)) (p : List Fd) (s : St) : Prop where
  q0 : s.ρ 0 = .sq b true 2 (ndL l)
  q1 : s.ρ 1 = .sq c false 3 (p.map Fd.cells)
  ht : 1 ≤ s.tick
theorem lenF_T (p : List Fd) : lenF (p.map fdT) = lenF p := by simp [lenF, fdT, Function.comp_def]
theorem bor_nds {H : Hp} {id vr : Nat} {l : List (Int × Int)} (h : H id = some (vr, ndO l)) : Eng.bor H 4 (.s id vr 2 0 l.length) = some (.sq true true 2 (ndL l)) := by
  simp [Eng.bor, find, h, ndO, ndL_length, ndL_take]
noncomputable def eYH : Code := (.seq (.seq (.region 32 R3_32 false) (.cond (.tmp 110) (.seq (.region 33 R3_33 false) .ret) .skip)) (.seq (.region 34 R3_34 false) (.seq (.region 35 R3_35 false) (.seq (.seq (.region 36 R3_36 false) (.cond (.tmp 115) (.seq (.region 37 R3_37 false) .ret) .skip)) (.seq (.seq (.region 38 R3_38 false) (.cond (.tmp 118) (.seq (.region 39 R3_39 false) .ret) .skip)) (.seq (.region 40 R3_40 false) .ret))))))
noncomputable def eYG : Code := (.seq (.region 31 R3_31 false) (.seq (.seq (.region 32 R3_32 false) (.cond (.tmp 110) (.seq (.region 33 R3_33 false) .ret) .skip)) (.seq (.region 34 R3_34 false) (.seq (.region 35 R3_35 false) (.seq (.seq (.region 36 R3_36 false) (.cond (.tmp 115) (.seq (.region 37 R3_37 false) .ret) .skip)) (.seq (.seq (.region 38 R3_38 false) (.cond (.tmp 118) (.seq (.region 39 R3_39 false) .ret) .skip)) (.seq (.region 40 R3_40 false) .ret)))))))
noncomputable def eYF : Code := (.seq (.seq (.region 21 R3_21 false) (.cond (.tmp 82) (.seq (.region 22 R3_22 false) .ret) .skip)) (.seq (.region 23 R3_23 false) (.seq (.region 24 R3_24 false) (.seq (.region 25 R3_25 false) (.seq (.region 26 R3_26 false) (.seq (.seq (.region 27 R3_27 false) (.cond (.tmp 90) (.seq (.region 28 R3_28 false) .ret) .skip)) (.seq (.seq (.region 29 R3_29 false) (.cond (.tmp 93) (.seq (.region 30 R3_30 false) .ret) .skip)) (.seq (.region 31 R3_31 false) (.seq (.seq (.region 32 R3_32 false) (.cond (.tmp 110) (.seq (.region 33 R3_33 false) .ret) .skip)) (.seq (.region 34 R3_34 false) (.seq (.region 35 R3_35 false) (.seq (.seq (.region 36 R3_36 false) (.cond (.tmp 115) (.seq (.region 37 R3_37 false) .ret) .skip)) (.seq (.seq (.region 38 R3_38 false) (.cond (.tmp 118) (.seq (.region 39 R3_39 false) .ret) .skip)) (.seq (.region 40 R3_40 false) .ret))))))))))))))
noncomputable def eYE : Code := (.seq (.region 20 R3_20 false) (.seq (.seq (.region 21 R3_21 false) (.cond (.tmp 82) (.seq (.region 22 R3_22 false) .ret) .skip)) (.seq (.region 23 R3_23 false) (.seq (.region 24 R3_24 false) (.seq (.region 25 R3_25 false) (.seq (.region 26 R3_26 false) (.seq (.seq (.region 27 R3_27 false) (.cond (.tmp 90) (.seq (.region 28 R3_28 false) .ret) .skip)) (.seq (.seq (.region 29 R3_29 false) (.cond (.tmp 93) (.seq (.region 30 R3_30 false) .ret) .skip)) (.seq (.region 31 R3_31 false) (.seq (.seq (.region 32 R3_32 false) (.cond (.tmp 110) (.seq (.region 33 R3_33 false) .ret) .skip)) (.seq (.region 34 R3_34 false) (.seq (.region 35 R3_35 false) (.seq (.seq (.region 36 R3_36 false) (.cond (.tmp 115) (.seq (.region 37 R3_37 false) .ret) .skip)) (.seq (.seq (.region 38 R3_38 false) (.cond (.tmp 118) (.seq (.region 39 R3_39 false) .ret) .skip)) (.seq (.region 40 R3_40 false) .ret)))))))))))))))
noncomputable def eYD : Code := (.seq (.seq (.region 16 R3_16 false) (.cond (.tmp 63) (.seq (.region 17 R3_17 false) .ret) .skip)) (.seq (.region 18 R3_18 false) (.seq (.region 19 R3_19 false) (.seq (.region 20 R3_20 false) (.seq (.seq (.region 21 R3_21 false) (.cond (.tmp 82) (.seq (.region 22 R3_22 false) .ret) .skip)) (.seq (.region 23 R3_23 false) (.seq (.region 24 R3_24 false) (.seq (.region 25 R3_25 false) (.seq (.region 26 R3_26 false) (.seq (.seq (.region 27 R3_27 false) (.cond (.tmp 90) (.seq (.region 28 R3_28 false) .ret) .skip)) (.seq (.seq (.region 29 R3_29 false) (.cond (.tmp 93) (.seq (.region 30 R3_30 false) .ret) .skip)) (.seq (.region 31 R3_31 false) (.seq (.seq (.region 32 R3_32 false) (.cond (.tmp 110) (.seq (.region 33 R3_33 false) .ret) .skip)) (.seq (.region 34 R3_34 false) (.seq (.region 35 R3_35 false) (.seq (.seq (.region 36 R3_36 false) (.cond (.tmp 115) (.seq (.region 37 R3_37 false) .ret) .skip)) (.seq (.seq (.region 38 R3_38 false) (.cond (.tmp 118) (.seq (.region 39 R3_39 false) .ret) .skip)) (.seq (.region 40 R3_40 false) .ret))))))))))))))))))
noncomputable def eYC : Code := (.seq (.region 11 R3_11 false) (.seq (.seq (.region 12 R3_12 false) (.cond (.tmp 53) (.seq (.region 13 R3_13 false) .ret) .skip)) (.seq (.seq (.region 14 R3_14 false) (.cond (.tmp 58) (.seq (.region 15 R3_15 false) .ret) .skip)) (.seq (.seq (.region 16 R3_16 false) (.cond (.tmp 63) (.seq (.region 17 R3_17 false) .ret) .skip)) (.seq (.region 18 R3_18 false) (.seq (.region 19 R3_19 false) (.seq (.region 20 R3_20 false) (.seq (.seq (.region 21 R3_21 false) (.cond (.tmp 82) (.seq (.region 22 R3_22 false) .ret) .skip)) (.seq (.region 23 R3_23 false) (.seq (.region 24 R3_24 false) (.seq (.region 25 R3_25 false) (.seq (.region 26 R3_26 false) (.seq (.seq (.region 27 R3_27 false) (.cond (.tmp 90) (.seq (.region 28 R3_28 false) .ret) .skip)) (.seq (.seq (.region 29 R3_29 false) (.cond (.tmp 93) (.seq (.region 30 R3_30 false) .ret) .skip)) (.seq (.region 31 R3_31 false) (.seq (.seq (.region 32 R3_32 false) (.cond (.tmp 110) (.seq (.region 33 R3_33 false) .ret) .skip)) (.seq (.region 34 R3_34 false) (.seq (.region 35 R3_35 false) (.seq (.seq (.region 36 R3_36 false) (.cond (.tmp 115) (.seq (.region 37 R3_37 false) .ret) .skip)) (.seq (.seq (.region 38 R3_38 false) (.cond (.tmp 118) (.seq (.region 39 R3_39 false) .ret) .skip)) (.seq (.region 40 R3_40 false) .ret)))))))))))))))))))))
noncomputable def eYB : Code := (.seq (.region 10 R3_10 false) (.seq (.region 11 R3_11 false) (.seq (.seq (.region 12 R3_12 false) (.cond (.tmp 53) (.seq (.region 13 R3_13 false) .ret) .skip)) (.seq (.seq (.region 14 R3_14 false) (.cond (.tmp 58) (.seq (.region 15 R3_15 false) .ret) .skip)) (.seq (.seq (.region 16 R3_16 false) (.cond (.tmp 63) (.seq (.region 17 R3_17 false) .ret) .skip)) (.seq (.region 18 R3_18 false) (.seq (.region 19 R3_19 false) (.seq (.region 20 R3_20 false) (.seq (.seq (.region 21 R3_21 false) (.cond (.tmp 82) (.seq (.region 22 R3_22 false) .ret) .skip)) (.seq (.region 23 R3_23 false) (.seq (.region 24 R3_24 false) (.seq (.region 25 R3_25 false) (.seq (.region 26 R3_26 false) (.seq (.seq (.region 27 R3_27 false) (.cond (.tmp 90) (.seq (.region 28 R3_28 false) .ret) .skip)) (.seq (.seq (.region 29 R3_29 false) (.cond (.tmp 93) (.seq (.region 30 R3_30 false) .ret) .skip)) (.seq (.region 31 R3_31 false) (.seq (.seq (.region 32 R3_32 false) (.cond (.tmp 110) (.seq (.region 33 R3_33 false) .ret) .skip)) (.seq (.region 34 R3_34 false) (.seq (.region 35 R3_35 false) (.seq (.seq (.region 36 R3_36 false) (.cond (.tmp 115) (.seq (.region 37 R3_37 false) .ret) .skip)) (.seq (.seq (.region 38 R3_38 false) (.cond (.tmp 118) (.seq (.region 39 R3_39 false) .ret) .skip)) (.seq (.region 40 R3_40 false) .ret))))))))))))))))))))))
noncomputable def eYA : Code := (.seq (.region 8 R3_8 false) (.seq (.region 9 R3_9 false) (.seq (.region 10 R3_10 false) (.seq (.region 11 R3_11 false) (.seq (.seq (.region 12 R3_12 false) (.cond (.tmp 53) (.seq (.region 13 R3_13 false) .ret) .skip)) (.seq (.seq (.region 14 R3_14 false) (.cond (.tmp 58) (.seq (.region 15 R3_15 false) .ret) .skip)) (.seq (.seq (.region 16 R3_16 false) (.cond (.tmp 63) (.seq (.region 17 R3_17 false) .ret) .skip)) (.seq (.region 18 R3_18 false) (.seq (.region 19 R3_19 false) (.seq (.region 20 R3_20 false) (.seq (.seq (.region 21 R3_21 false) (.cond (.tmp 82) (.seq (.region 22 R3_22 false) .ret) .skip)) (.seq (.region 23 R3_23 false) (.seq (.region 24 R3_24 false) (.seq (.region 25 R3_25 false) (.seq (.region 26 R3_26 false) (.seq (.seq (.region 27 R3_27 false) (.cond (.tmp 90) (.seq (.region 28 R3_28 false) .ret) .skip)) (.seq (.seq (.region 29 R3_29 false) (.cond (.tmp 93) (.seq (.region 30 R3_30 false) .ret) .skip)) (.seq (.region 31 R3_31 false) (.seq (.seq (.region 32 R3_32 false) (.cond (.tmp 110) (.seq (.region 33 R3_33 false) .ret) .skip)) (.seq (.region 34 R3_34 false) (.seq (.region 35 R3_35 false) (.seq (.seq (.region 36 R3_36 false) (.cond (.tmp 115) (.seq (.region 37 R3_37 false) .ret) .skip)) (.seq (.seq (.region 38 R3_38 false) (.cond (.tmp 118) (.seq (.region 39 R3_39 false) .ret) .skip)) (.seq (.region 40 R3_40 false) .ret))))))))))))))))))))))))
theorem eYH_is : (.seq (.seq (.region 32 R3_32 false) (.cond (.tmp 110) (.seq (.region 33 R3_33 false) .ret) .skip)) (.seq (.region 34 R3_34 false) (.seq (.region 35 R3_35 false) (.seq (.seq (.region 36 R3_36 false) (.cond (.tmp 115) (.seq (.region 37 R3_37 false) .ret) .skip)) (.seq (.seq (.region 38 R3_38 false) (.cond (.tmp 118) (.seq (.region 39 R3_39 false) .ret) .skip)) (.seq (.region 40 R3_40 false) .ret)))))) = eYH := rfl
theorem eYG_is : (.seq (.region 31 R3_31 false) (.seq (.seq (.region 32 R3_32 false) (.cond (.tmp 110) (.seq (.region 33 R3_33 false) .ret) .skip)) (.seq (.region 34 R3_34 false) (.seq (.region 35 R3_35 false) (.seq (.seq (.region 36 R3_36 false) (.cond (.tmp 115) (.seq (.region 37 R3_37 false) .ret) .skip)) (.seq (.seq (.region 38 R3_38 false) (.cond (.tmp 118) (.seq (.region 39 R3_39 false) .ret) .skip)) (.seq (.region 40 R3_40 false) .ret))))))) = eYG := rfl
theorem eYF_is : (.seq (.seq (.region 21 R3_21 false) (.cond (.tmp 82) (.seq (.region 22 R3_22 false) .ret) .skip)) (.seq (.region 23 R3_23 false) (.seq (.region 24 R3_24 false) (.seq (.region 25 R3_25 false) (.seq (.region 26 R3_26 false) (.seq (.seq (.region 27 R3_27 false) (.cond (.tmp 90) (.seq (.region 28 R3_28 false) .ret) .skip)) (.seq (.seq (.region 29 R3_29 false) (.cond (.tmp 93) (.seq (.region 30 R3_30 false) .ret) .skip)) (.seq (.region 31 R3_31 false) (.seq (.seq (.region 32 R3_32 false) (.cond (.tmp 110) (.seq (.region 33 R3_33 false) .ret) .skip)) (.seq (.region 34 R3_34 false) (.seq (.region 35 R3_35 false) (.seq (.seq (.region 36 R3_36 false) (.cond (.tmp 115) (.seq (.region 37 R3_37 false) .ret) .skip)) (.seq (.seq (.region 38 R3_38 false) (.cond (.tmp 118) (.seq (.region 39 R3_39 false) .ret) .skip)) (.seq (.region 40 R3_40 false) .ret)))))))))))))) = eYF := rfl
theorem eYE_is : (.seq (.region 20 R3_20 false) (.seq (.seq (.region 21 R3_21 false) (.cond (.tmp 82) (.seq (.region 22 R3_22 false) .ret) .skip)) (.seq (.region 23 R3_23 false) (.seq (.region 24 R3_24 false) (.seq (.region 25 R3_25 false) (.seq (.region 26 R3_26 false) (.seq (.seq (.region 27 R3_27 false) (.cond (.tmp 90) (.seq (.region 28 R3_28 false) .ret) .skip)) (.seq (.seq (.region 29 R3_29 false) (.cond (.tmp 93) (.seq (.region 30 R3_30 false) .ret) .skip)) (.seq (.region 31 R3_31 false) (.seq (.seq (.region 32 R3_32 false) (.cond (.tmp 110) (.seq (.region 33 R3_33 false) .ret) .skip)) (.seq (.region 34 R3_34 false) (.seq (.region 35 R3_35 false) (.seq (.seq (.region 36 R3_36 false) (.cond (.tmp 115) (.seq (.region 37 R3_37 false) .ret) .skip)) (.seq (.seq (.region 38 R3_38 false) (.cond (.tmp 118) (.seq (.region 39 R3_39 false) .ret) .skip)) (.seq (.region 40 R3_40 false) .ret))))))))))))))) = eYE := rfl
theorem eYD_is : (.seq (.seq (.region 16 R3_16 false) (.cond (.tmp 63) (.seq (.region 17 R3_17 false) .ret) .skip)) (.seq (.region 18 R3_18 false) (.seq (.region 19 R3_19 false) (.seq (.region 20 R3_20 false) (.seq (.seq (.region 21 R3_21 false) (.cond (.tmp 82) (.seq (.region 22 R3_22 false) .ret) .skip)) (.seq (.region 23 R3_23 false) (.seq (.region 24 R3_24 false) (.seq (.region 25 R3_25 false) (.seq (.region 26 R3_26 false) (.seq (.seq (.region 27 R3_27 false) (.cond (.tmp 90) (.seq (.region 28 R3_28 false) .ret) .skip)) (.seq (.seq (.region 29 R3_29 false) (.cond (.tmp 93) (.seq (.region 30 R3_30 false) .ret) .skip)) (.seq (.region 31 R3_31 false) (.seq (.seq (.region 32 R3_32 false) (.cond (.tmp 110) (.seq (.region 33 R3_33 false) .ret) .skip)) (.seq (.region 34 R3_34 false) (.seq (.region 35 R3_35 false) (.seq (.seq (.region 36 R3_36 false) (.cond (.tmp 115) (.seq (.region 37 R3_37 false) .ret) .skip)) (.seq (.seq (.region 38 R3_38 false) (.cond (.tmp 118) (.seq (.region 39 R3_39 false) .ret) .skip)) (.seq (.region 40 R3_40 false) .ret)))))))))))))))))) = eYD := rfl
theorem eYC_is : (.seq (.region 11 R3_11 false) (.seq (.seq (.region 12 R3_12 false) (.cond (.tmp 53) (.seq (.region 13 R3_13 false) .ret) .skip)) (.seq (.seq (.region 14 R3_14 false) (.cond (.tmp 58) (.seq (.region 15 R3_15 false) .ret) .skip)) (.seq (.seq (.region 16 R3_16 false) (.cond (.tmp 63) (.seq (.region 17 R3_17 false) .ret) .skip)) (.seq (.region 18 R3_18 false) (.seq (.region 19 R3_19 false) (.seq (.region 20 R3_20 false) (.seq (.seq (.region 21 R3_21 false) (.cond (.tmp 82) (.seq (.region 22 R3_22 false) .ret) .skip)) (.seq (.region 23 R3_23 false) (.seq (.region 24 R3_24 false) (.seq (.region 25 R3_25 false) (.seq (.region 26 R3_26 false) (.seq (.seq (.region 27 R3_27 false) (.cond (.tmp 90) (.seq (.region 28 R3_28 false) .ret) .skip)) (.seq (.seq (.region 29 R3_29 false) (.cond (.tmp 93) (.seq (.region 30 R3_30 false) .ret) .skip)) (.seq (.region 31 R3_31 false) (.seq (.seq (.region 32 R3_32 false) (.cond (.tmp 110) (.seq (.region 33 R3_33 false) .ret) .skip)) (.seq (.region 34 R3_34 false) (.seq (.region 35 R3_35 false) (.seq (.seq (.region 36 R3_36 false) (.cond (.tmp 115) (.seq (.region 37 R3_37 false) .ret) .skip)) (.seq (.seq (.region 38 R3_38 false) (.cond (.tmp 118) (.seq (.region 39 R3_39 false) .ret) .skip)) (.seq (.region 40 R3_40 false) .ret))))))))))))))))))))) = eYC := rfl
theorem eYB_is : (.seq (.region 10 R3_10 false) (.seq (.region 11 R3_11 false) (.seq (.seq (.region 12 R3_12 false) (.cond (.tmp 53) (.seq (.region 13 R3_13 false) .ret) .skip)) (.seq (.seq (.region 14 R3_14 false) (.cond (.tmp 58) (.seq (.region 15 R3_15 false) .ret) .skip)) (.seq (.seq (.region 16 R3_16 false) (.cond (.tmp 63) (.seq (.region 17 R3_17 false) .ret) .skip)) (.seq (.region 18 R3_18 false) (.seq (.region 19 R3_19 false) (.seq (.region 20 R3_20 false) (.seq (.seq (.region 21 R3_21 false) (.cond (.tmp 82) (.seq (.region 22 R3_22 false) .ret) .skip)) (.seq (.region 23 R3_23 false) (.seq (.region 24 R3_24 false) (.seq (.region 25 R3_25 false) (.seq (.region 26 R3_26 false) (.seq (.seq (.region 27 R3_27 false) (.cond (.tmp 90) (.seq (.region 28 R3_28 false) .ret) .skip)) (.seq (.seq (.region 29 R3_29 false) (.cond (.tmp 93) (.seq (.region 30 R3_30 false) .ret) .skip)) (.seq (.region 31 R3_31 false) (.seq (.seq (.region 32 R3_32 false) (.cond (.tmp 110) (.seq (.region 33 R3_33 false) .ret) .skip)) (.seq (.region 34 R3_34 false) (.seq (.region 35 R3_35 false) (.seq (.seq (.region 36 R3_36 false) (.cond (.tmp 115) (.seq (.region 37 R3_37 false) .ret) .skip)) (.seq (.seq (.region 38 R3_38 false) (.cond (.tmp 118) (.seq (.region 39 R3_39 false) .ret) .skip)) (.seq (.region 40 R3_40 false) .ret)))))))))))))))))))))) = eYB := rfl
theorem eYA_is : (.seq (.region 8 R3_8 false) (.seq (.region 9 R3_9 false) (.seq (.region 10 R3_10 false) (.seq (.region 11 R3_11 false) (.seq (.seq (.region 12 R3_12 false) (.cond (.tmp 53) (.seq (.region 13 R3_13 false) .ret) .skip)) (.seq (.seq (.region 14 R3_14 false) (.cond (.tmp 58) (.seq (.region 15 R3_15 false) .ret) .skip)) (.seq (.seq (.region 16 R3_16 false) (.cond (.tmp 63) (.seq (.region 17 R3_17 false) .ret) .skip)) (.seq (.region 18 R3_18 false) (.seq (.region 19 R3_19 false) (.seq (.region 20 R3_20 false) (.seq (.seq (.region 21 R3_21 false) (.cond (.tmp 82) (.seq (.region 22 R3_22 false) .ret) .skip)) (.seq (.region 23 R3_23 false) (.seq (.region 24 R3_24 false) (.seq (.region 25 R3_25 false) (.seq (.region 26 R3_26 false) (.seq (.seq (.region 27 R3_27 false) (.cond (.tmp 90) (.seq (.region 28 R3_28 false) .ret) .skip)) (.seq (.seq (.region 29 R3_29 false) (.cond (.tmp 93) (.seq (.region 30 R3_30 false) .ret) .skip)) (.seq (.region 31 R3_31 false) (.seq (.seq (.region 32 R3_32 false) (.cond (.tmp 110) (.seq (.region 33 R3_33 false) .ret) .skip)) (.seq (.region 34 R3_34 false) (.seq (.region 35 R3_35 false) (.seq (.seq (.region 36 R3_36 false) (.cond (.tmp 115) (.seq (.region 37 R3_37 false) .ret) .skip)) (.seq (.seq (.region 38 R3_38 false) (.cond (.tmp 118) (.seq (.region 39 R3_39 false) .ret) .skip)) (.seq (.region 40 R3_40 false) .ret)))))))))))))))))))))))) = eYA := rfl
/-- What the reference answered. -/
structure WvY (w h : Int) (z : List Int) (s : St) (v6 : Nat) : Prop where
  q6 : s.ρ 6 = .p 8336 v6 3 0 0
  q7 : s.ρ 7 = .c (.bool true)
  H6 : s.H 8336 = some (v6, ⟨28, 3, false, [[.c (.int .i64 w), .c (.int .i64 h), .s 8272 v6 1 0 z.length]]⟩)
  H6c : s.H 8272 = some (v6, intsO z)
structure GvY (w h : Int) (z : List Int) (s : St) (vg : Nat) (m : List Int) : Prop where
  q10 : s.ρ 10 = .p 11376 vg 3 0 0
  q11 : s.ρ 11 = .c (.bool true)
  H10 : s.H 11376 = some (vg, ⟨28, 3, false, [[.c (.int .i64 w), .c (.int .i64 h), .s 11312 vg 1 0 z.length]]⟩)
  H10c : s.H 11312 = some (vg, intsO m)
theorem eYH_ok (k : Nat) (w h : Int) (z : List Int) (hz : z.length ≤ 64) (hk : 3000 ≤ k) (st : St) (v6 vg v15 : Nat) (W : WvY w h z st v6) (G : GvY w h z st vg (marks 1 z.length)) (q13 : st.ρ 13 = .c (.int .i64 (1 + (z.length : Int)))) (q15 : st.ρ 15 = .p 31888 v15 3 0 0) (q16 : st.ρ 16 = .c (.bool true))
    (H15 : st.H 31888 = some (v15, ⟨28, 3, false, [[.c (.int .i64 w), .c (.int .i64 h), .s 31824 v15 1 0 z.length]]⟩)) (H15c : st.H 31824 = some (v15, intsO z)) : YesE k eYH st := by
  obtain ⟨q6, q7, H6, H6c⟩ := W
  obtain ⟨q10, q11, H10, H10c⟩ := G
  have h64 := hz
  have Eq := c_eqField k true true w h w h z z (by omega) (by omega)
  have Hd := c_heldField k true w h (marks 1 z.length) 1 (by rw [marks_length]; omega) (by omega) (by omega) (by rw [marks_length]; omega)
  rw [marks_length, if_pos rfl] at Hd
  have hpos : ¬ (1 + (z.length : Int)) < 0 := by omega
  have hmt : (marks 1 z.length).take z.length = marks 1 z.length := List.take_of_length_le (by rw [marks_length]; exact Nat.le_refl _)
  have hzt : z.take z.length = z := List.take_length
  simp [fldV, intsO] at Eq Hd
  unfold YesE eYH
  simp [R3_0, R3_1, R3_2, R3_3, R3_4, R3_5, R3_6, R3_7, R3_8, R3_9, R3_10, R3_11, R3_12, R3_13, R3_14, R3_15, R3_16, R3_17, R3_18, R3_19, R3_20, R3_21, R3_22, R3_23, R3_24, R3_25, R3_26, R3_27, R3_28, R3_29, R3_30, R3_31, R3_32, R3_33, R3_34, R3_35, R3_36, R3_37, R3_38, R3_39, R3_40, Try.f3, q6, q7, q10, q11, q13, q15, q16, H6, H10, H15, H6c, intsO, H10c, H15c, Eq, Hd, hpos, hmt, hzt, marks_length, undef]
theorem eYG_ok (k : Nat) (w h : Int) (z : List Int) (hz : z.length ≤ 64) (b c : Bool) (l : List (Int × Int)) (p : List Fd) (hl : l.length ≤ 1048576) (hp : p.length ≤ 1048576) (hs : ∀ q ∈ p, q.l.length ≤ 1048576) (hR : evR l (p.map fdT) = some (.tp [ownV w h 0 2 z.length, .c (.bool true)], hpOf [] [intsO z])) (hk : 3000000 ≤ k) (st : St) (I : LwE b c l p st) (v6 vg : Nat) (W : WvY w h z st v6) (G : GvY w h z st vg (marks 1 z.length)) (q13 : st.ρ 13 = .c (.int .i64 (1 + (z.length : Int)))) : YesE k eYG st := by
  obtain ⟨q0, q1, ht⟩ := I
  obtain ⟨q6, q7, H6, H6c⟩ := W
  obtain ⟨q10, q11, H10, H10c⟩ := G
  have T := c_toNodeS k b l hl (by omega)
  simp [ndO] at T
  have hb := Bt_big
  have hb1 := Bt_mono ht
  have hb2 : Bt st.tick ≤ Bt (st.tick + 1) := Bt_mono (by omega)
  obtain ⟨k', rfl⟩ : ∃ m, k = m + 1 := ⟨k - 1, by omega⟩
  unfold YesE eYG
  rw [eYH_is]
  simp [-Eng.bor, bor_sq, bor_c, R3_0, R3_1, R3_2, R3_3, R3_4, R3_5, R3_6, R3_7, R3_8, R3_9, R3_10, R3_11, R3_12, R3_13, R3_14, R3_15, R3_16, R3_17, R3_18, R3_19, R3_20, R3_21, R3_22, R3_23, R3_24, R3_25, R3_26, R3_27, R3_28, R3_29, R3_30, R3_31, R3_32, R3_33, R3_34, R3_35, R3_36, R3_37, R3_38, R3_39, R3_40, Try.f3, q0, q1, T]
  generalize hr : (callK C (k' + 1)).inl 8 _ _ _ = res
  obtain ⟨v3, P3, id3, vr3, H3, tk3, e3, F3, old3, le3⟩ := i_toFieldS k' c p hp hs (by omega) (putH st.H 31776 (some (st.tick, ⟨48, 2, true, ndL l⟩))) (st.tick + 1) (by omega)
  rw [hr] at e3
  subst e3
  have eF := F3.bor
  have eN := bor_nds (H := H3) (id := 31776) (vr := st.tick) (l := l) (by rw [old3 _ (by omega), putH_app, if_pos rfl]; rfl)
  have E := c_implEvaluate (k' + 1) true true l (p.map fdT) (by simpa using hp) (by omega)
  rw [hR] at E
  simp [ownV, intsO] at E
  simp [-Eng.bor] at eF
  simp [-Eng.bor, eN, eF, E, bor_c]
  refine eYH_ok (k' + 1) w h z hz (by omega) _ v6 vg tk3 ⟨by simp [q6], by simp [q7], by simp [putH_app, old3 8336 (by omega), H6], ?_⟩ ⟨by simp [q10], by simp [q11], by simp [putH_app, old3 11376 (by omega), H10], ?_⟩ (by simp [q13]) (by simp) (by simp) (by simp [putH_app]) ?_
  · simp [putH_app, old3 8272 (by omega), H6c]
  · simp [putH_app, old3 11312 (by omega), H10c]
  · simp [putH_app, intsO]
theorem eYF_ok (k : Nat) (w h : Int) (z : List Int) (hz : z.length ≤ 64) (b c : Bool) (l : List (Int × Int)) (p : List Fd) (hl : l.length ≤ 1048576) (hp : p.length ≤ 1048576) (hs : ∀ q ∈ p, q.l.length ≤ 1048576) (hR : evR l (p.map fdT) = some (.tp [ownV w h 0 2 z.length, .c (.bool true)], hpOf [] [intsO z])) (hk : 3000000 ≤ k) (st : St) (I : LwE b c l p st) (v6 vg : Nat) (W : WvY w h z st v6) (G : GvY w h z st vg z) (n : Int) (hn : 0 ≤ n) (q12 : st.ρ 12 = .c (.int .i64 n)) : YesE k eYF st := by
  obtain ⟨q0, q1, ht⟩ := I
  obtain ⟨q6, q7, H6, H6c⟩ := W
  obtain ⟨q10, q11, H10, H10c⟩ := G
  have h64 := hz
  have Eq := c_eqField k true true w h w h z z (by omega) (by omega)
  have Hd := c_heldField k true w h (marks 1 z.length) 1 (by rw [marks_length]; omega) (by omega) (by omega) (by rw [marks_length]; omega)
  rw [marks_length, if_pos rfl] at Hd
  have hpos : ¬ (1 + (z.length : Int)) < 0 := by omega
  have hmt : (marks 1 z.length).take z.length = marks 1 z.length := List.take_of_length_le (by rw [marks_length]; exact Nat.le_refl _)
  have hzt : z.take z.length = z := List.take_length
  simp [fldV, intsO] at Eq Hd
  have Mk := c_markField k w h z 1 (by omega) (by omega) (by omega) (by omega)
  simp [intsO] at Mk
  have hn' : ¬ n < 0 := by omega
  unfold YesE eYF
  rw [eYG_is]
  simp [R3_0, R3_1, R3_2, R3_3, R3_4, R3_5, R3_6, R3_7, R3_8, R3_9, R3_10, R3_11, R3_12, R3_13, R3_14, R3_15, R3_16, R3_17, R3_18, R3_19, R3_20, R3_21, R3_22, R3_23, R3_24, R3_25, R3_26, R3_27, R3_28, R3_29, R3_30, R3_31, R3_32, R3_33, R3_34, R3_35, R3_36, R3_37, R3_38, R3_39, R3_40, Try.f3, q6, q7, q10, q11, q12, hn', H6, H10, H6c, intsO, H10c, Eq, Hd, hpos, hmt, hzt, marks_length, Mk]
  refine eYG_ok k w h z hz b c l p hl hp hs hR hk _ ⟨by simp [q0], by simp [q1], by simp <;> omega⟩ v6 vg ⟨by simp [q6], by simp [q7], by simp [putH_app, H6], ?_⟩ ⟨by simp [q10], by simp [q11], by simp [putH_app, H10], ?_⟩ (by simp)
  · simp [putH_app, H6c]
  · simp [putH_app, intsO]
theorem eYE_ok (k : Nat) (w h : Int) (z : List Int) (hz : z.length ≤ 64) (b c : Bool) (l : List (Int × Int)) (p : List Fd) (hl : l.length ≤ 1048576) (hp : p.length ≤ 1048576) (hs : ∀ q ∈ p, q.l.length ≤ 1048576) (hsum : lenF p ≤ 1048576) (hR : evR l (p.map fdT) = some (.tp [ownV w h 0 2 z.length, .c (.bool true)], hpOf [] [intsO z])) (hk : 3000000 ≤ k) (st : St) (I : LwE b c l p st) (v6 vg : Nat) (W : WvY w h z st v6) (G : GvY w h z st vg z) (n : Int) (hn : 0 ≤ n) (hn1 : n ≤ 10000000) (q12 : st.ρ 12 = .c (.int .i64 n)) (lo hi : Nat) (hlo : Bt 1 ≤ lo) (P : List Fo) (id vr : Nat) (F : FlI (p.map fdT) (st.ρ 9) st.H lo hi P id vr) : YesE k eYE st := by
  obtain ⟨q0, q1, ht⟩ := I
  obtain ⟨q6, q7, H6, H6c⟩ := W
  obtain ⟨q10, q11, H10, H10c⟩ := G
  have hb := Bt_big
  obtain ⟨k', rfl⟩ : ∃ m, k = m + 1 := ⟨k - 1, by omega⟩
  obtain ⟨n1, H', tk', e, hn', fr, le⟩ := i_markFieldS k' (p.map fdT) (st.ρ 9) st.H lo hi P id vr F (by simpa using hp) (by rw [lenF_T]; exact hsum) n hn hn1 (by omega) (st.tick + 1)
  unfold YesE eYE
  rw [eYF_is]
  simp [R3_0, R3_1, R3_2, R3_3, R3_4, R3_5, R3_6, R3_7, R3_8, R3_9, R3_10, R3_11, R3_12, R3_13, R3_14, R3_15, R3_16, R3_17, R3_18, R3_19, R3_20, R3_21, R3_22, R3_23, R3_24, R3_25, R3_26, R3_27, R3_28, R3_29, R3_30, R3_31, R3_32, R3_33, R3_34, R3_35, R3_36, R3_37, R3_38, R3_39, R3_40, Try.f3, q12, e]
  refine eYF_ok (k' + 1) w h z hz b c l p hl hp hs hR hk _ ⟨by simp [q0], by simp [q1], by simp <;> omega⟩ v6 vg ⟨by simp [q6], by simp [q7], by simp [fr 8336 (by omega), H6], ?_⟩ ⟨by simp [q10], by simp [q11], by simp [fr 11376 (by omega), H10], ?_⟩ n1 (by omega) (by simp)
  · simp [fr 8272 (by omega), H6c]
  · simp [fr 11312 (by omega), H10c]
theorem eYD_ok (k : Nat) (w h : Int) (z : List Int) (hz : z.length ≤ 64) (b c : Bool) (l : List (Int × Int)) (p : List Fd) (hl : l.length ≤ 1048576) (hp : p.length ≤ 1048576) (hs : ∀ q ∈ p, q.l.length ≤ 1048576) (hsum : lenF p ≤ 1048576) (hR : evR l (p.map fdT) = some (.tp [ownV w h 0 2 z.length, .c (.bool true)], hpOf [] [intsO z])) (hk : 3000000 ≤ k) (st : St) (I : LwE b c l p st) (v6 vg v8 : Nat) (W : WvY w h z st v6) (G : GvY w h z st vg z) (q8 : st.ρ 8 = .s 9248 v8 2 0 l.length) (H8 : st.H 9248 = some (v8, ndO l)) (lo hi : Nat) (hlo : Bt 1 ≤ lo) (hhi : hi ≤ Bt st.tick) (P : List Fo) (id vr : Nat) (F : FlI (p.map fdT) (st.ρ 9) st.H lo hi P id vr) : YesE k eYD st := by
  obtain ⟨q0, q1, ht⟩ := I
  obtain ⟨q6, q7, H6, H6c⟩ := W
  obtain ⟨q10, q11, H10, H10c⟩ := G
  have hb := Bt_big
  have hb1 := Bt_mono ht
  obtain ⟨k', rfl⟩ : ∃ m, k = m + 1 := ⟨k - 1, by omega⟩
  have M := c_markNodeS (k' + 1) l 1 hl (by omega) (by omega) (by omega)
  have E := c_eqFieldS (k' + 1) true true (p.map fdT) (by simpa using hp) (by intro q hq; obtain ⟨x, hx, rfl⟩ := List.mem_map.1 hq; exact ⟨rfl, hs x hx⟩) (by simp; omega)
  simp [ndO] at M H8
  simp at E
  unfold YesE eYD
  rw [eYE_is]
  simp [-Eng.bor, bor_sq, bor_c, R3_0, R3_1, R3_2, R3_3, R3_4, R3_5, R3_6, R3_7, R3_8, R3_9, R3_10, R3_11, R3_12, R3_13, R3_14, R3_15, R3_16, R3_17, R3_18, R3_19, R3_20, R3_21, R3_22, R3_23, R3_24, R3_25, R3_26, R3_27, R3_28, R3_29, R3_30, R3_31, R3_32, R3_33, R3_34, R3_35, R3_36, R3_37, R3_38, R3_39, R3_40, Try.f3, q1]
  generalize hr : (callK C (k' + 1)).inl 8 _ _ _ = res
  obtain ⟨v3, P3, id3, vr3, H3, tk3, e3, F3, old3, le3⟩ := i_toFieldS k' c p hp hs (by omega) st.H (st.tick + 1) (by omega)
  rw [hr] at e3
  subst e3
  have hm : Bt st.tick ≤ Bt (st.tick + 1) := Bt_mono (by omega)
  have F' := F.keep (H' := H3) fun x a b' => old3 x (by omega)
  have eF := F'.bor
  have eF3 := F3.bor
  simp [-Eng.bor] at eF eF3
  have o8 := old3 9248 (by omega)
  simp [-Eng.bor, eF, eF3, E, bor_c, q8, o8, H8, M]
  refine eYE_ok (k' + 1) w h z hz b c l p hl hp hs hsum hR hk _ ⟨by simp [q0], by simp [q1], by simp <;> omega⟩ v6 vg ⟨by simp [q6], by simp [q7], by simp [putH_app, old3 8336 (by omega), H6], ?_⟩ ⟨by simp [q10], by simp [q11], by simp [putH_app, old3 11376 (by omega), H10], ?_⟩ (1 + 2 * (l.length : Int)) (by omega) (by omega) (by simp) lo hi hlo P id vr ?_
  · simp [putH_app, old3 8272 (by omega), H6c]
  · simp [putH_app, old3 11312 (by omega), H10c]
  · simpa using F'.keep fun x a b' => by rw [putH_app, if_neg (by omega)]
theorem eYC_ok (k : Nat) (w h : Int) (z : List Int) (hz : z.length ≤ 64) (b c : Bool) (l : List (Int × Int)) (p : List Fd) (hl : l.length ≤ 1048576) (hp : p.length ≤ 1048576) (hs : ∀ q ∈ p, q.l.length ≤ 1048576) (hsum : lenF p ≤ 1048576) (hR : evR l (p.map fdT) = some (.tp [ownV w h 0 2 z.length, .c (.bool true)], hpOf [] [intsO z])) (hk : 3000000 ≤ k) (st : St) (I : LwE b c l p st) (v6 v8 : Nat) (W : WvY w h z st v6) (q8 : st.ρ 8 = .s 9248 v8 2 0 l.length) (H8 : st.H 9248 = some (v8, ndO l)) (lo hi : Nat) (hlo : Bt 1 ≤ lo) (hhi : hi ≤ Bt st.tick) (P : List Fo) (id vr : Nat) (F : FlI (p.map fdT) (st.ρ 9) st.H lo hi P id vr) : YesE k eYC st := by
  obtain ⟨q0, q1, ht⟩ := I
  obtain ⟨q6, q7, H6, H6c⟩ := W
  have hb := Bt_big
  have h64 := hz
  have Eq := c_eqField k true true w h w h z z (by omega) (by omega)
  have Hd := c_heldField k true w h (marks 1 z.length) 1 (by rw [marks_length]; omega) (by omega) (by omega) (by rw [marks_length]; omega)
  rw [marks_length, if_pos rfl] at Hd
  have hpos : ¬ (1 + (z.length : Int)) < 0 := by omega
  have hmt : (marks 1 z.length).take z.length = marks 1 z.length := List.take_of_length_le (by rw [marks_length]; exact Nat.le_refl _)
  have hzt : z.take z.length = z := List.take_length
  simp [fldV, intsO] at Eq Hd
  have T := c_toNodeS k b l hl (by omega)
  have E := c_implEvaluate k true true l (p.map fdT) (by simpa using hp) (by omega)
  have N := c_eqNodeS k true true l l hl (by omega)
  rw [hR] at E
  simp [ownV, intsO] at E
  have eF := F.bor
  simp [-Eng.bor] at eF
  have eN := bor_nds (H := st.H) H8
  simp [ndO] at T H8
  simp at N
  unfold YesE eYC
  rw [eYD_is]
  simp [-Eng.bor, bor_sq, bor_c, R3_0, R3_1, R3_2, R3_3, R3_4, R3_5, R3_6, R3_7, R3_8, R3_9, R3_10, R3_11, R3_12, R3_13, R3_14, R3_15, R3_16, R3_17, R3_18, R3_19, R3_20, R3_21, R3_22, R3_23, R3_24, R3_25, R3_26, R3_27, R3_28, R3_29, R3_30, R3_31, R3_32, R3_33, R3_34, R3_35, R3_36, R3_37, R3_38, R3_39, R3_40, Try.f3, q0, q7, q8, H6, eN, eF, E, T, N]
  simp [q0, q6, q7, q8, H6, H8, T, N, ndL_length, ndL_take, H6c, intsO, Eq, hzt]
  refine eYD_ok k w h z hz b c l p hl hp hs hsum hR hk _ ⟨by simp [q0], by simp [q1], by simp <;> omega⟩ v6 st.tick v8 ⟨by simp [q6], by simp [q7], by simp [putH_app, H6], ?_⟩ ⟨by simp, by simp, by simp [putH_app], ?_⟩ (by simp [q8]) (by simp [putH_app, H8, ndO]) lo hi hlo (by simp; exact Nat.le_trans hhi (Bt_mono (by omega))) P id vr ?_
  · simp [putH_app, H6c]
  · simp [putH_app, intsO]
  · simpa using F.keep fun x a b' => by simp [putH_app, show ¬ x = 11312 by omega, show ¬ x = 11376 by omega, show ¬ x = 14384 by omega]
theorem eYB_ok (k : Nat) (w h : Int) (z : List Int) (hz : z.length ≤ 64) (b c : Bool) (l : List (Int × Int)) (p : List Fd) (hl : l.length ≤ 1048576) (hp : p.length ≤ 1048576) (hs : ∀ q ∈ p, q.l.length ≤ 1048576) (hsum : lenF p ≤ 1048576) (hR : evR l (p.map fdT) = some (.tp [ownV w h 0 2 z.length, .c (.bool true)], hpOf [] [intsO z])) (hk : 3000000 ≤ k) (st : St) (I : LwE b c l p st) (v6 v8 : Nat) (W : WvY w h z st v6) (q8 : st.ρ 8 = .s 9248 v8 2 0 l.length) (H8 : st.H 9248 = some (v8, ndO l)) : YesE k eYB st := by
  obtain ⟨q0, q1, ht⟩ := I
  obtain ⟨q6, q7, H6, H6c⟩ := W
  have hb := Bt_big
  have hb1 := Bt_mono ht
  have hb2 : Bt st.tick ≤ Bt (st.tick + 1) := Bt_mono (by omega)
  obtain ⟨k', rfl⟩ : ∃ m, k = m + 1 := ⟨k - 1, by omega⟩
  unfold YesE eYB
  rw [eYC_is]
  simp [-Eng.bor, bor_sq, bor_c, R3_0, R3_1, R3_2, R3_3, R3_4, R3_5, R3_6, R3_7, R3_8, R3_9, R3_10, R3_11, R3_12, R3_13, R3_14, R3_15, R3_16, R3_17, R3_18, R3_19, R3_20, R3_21, R3_22, R3_23, R3_24, R3_25, R3_26, R3_27, R3_28, R3_29, R3_30, R3_31, R3_32, R3_33, R3_34, R3_35, R3_36, R3_37, R3_38, R3_39, R3_40, Try.f3, q1]
  generalize hr : (callK C (k' + 1)).inl 8 _ _ _ = res
  obtain ⟨v3, P3, id3, vr3, H3, tk3, e3, F3, old3, le3⟩ := i_toFieldS k' c p hp hs (by omega) st.H (st.tick + 1) (by omega)
  rw [hr] at e3
  subst e3
  simp
  refine eYC_ok (k' + 1) w h z hz b c l p hl hp hs hsum hR hk _ ⟨by simp [q0], by simp [q1], by simp <;> omega⟩ v6 v8 ⟨by simp [q6], by simp [q7], by simp [old3 8336 (by omega), H6], ?_⟩ (by simp [q8]) (by simp [old3 9248 (by omega), H8]) (Bt (st.tick + 1)) (Bt tk3) (by omega) (by simp; exact Bt_mono (by omega)) P3 id3 vr3 (by simpa using F3)
  simp [old3 8272 (by omega), H6c]
theorem eYA_ok (k : Nat) (w h : Int) (z : List Int) (hz : z.length ≤ 64) (b c : Bool) (l : List (Int × Int)) (p : List Fd) (hl : l.length ≤ 1048576) (hp : p.length ≤ 1048576) (hs : ∀ q ∈ p, q.l.length ≤ 1048576) (hsum : lenF p ≤ 1048576) (hR : evR l (p.map fdT) = some (.tp [ownV w h 0 2 z.length, .c (.bool true)], hpOf [] [intsO z])) (hk : 3000000 ≤ k) (st : St) (I : LwE b c l p st) : YesE k eYA st := by
  obtain ⟨q0, q1, ht⟩ := I
  have T := c_toNodeS k b l hl (by omega)
  simp [ndO] at T
  have hb := Bt_big
  have hb1 := Bt_mono ht
  have hb2 : Bt st.tick ≤ Bt (st.tick + 1) := Bt_mono (by omega)
  obtain ⟨k', rfl⟩ : ∃ m, k = m + 1 := ⟨k - 1, by omega⟩
  unfold YesE eYA
  rw [eYB_is]
  simp [-Eng.bor, bor_sq, bor_c, R3_0, R3_1, R3_2, R3_3, R3_4, R3_5, R3_6, R3_7, R3_8, R3_9, R3_10, R3_11, R3_12, R3_13, R3_14, R3_15, R3_16, R3_17, R3_18, R3_19, R3_20, R3_21, R3_22, R3_23, R3_24, R3_25, R3_26, R3_27, R3_28, R3_29, R3_30, R3_31, R3_32, R3_33, R3_34, R3_35, R3_36, R3_37, R3_38, R3_39, R3_40, Try.f3, q0, q1, T]
  generalize hr : (callK C (k' + 1)).inl 8 _ _ _ = res
  obtain ⟨v3, P3, id3, vr3, H3, tk3, e3, F3, old3, le3⟩ := i_toFieldS k' c p hp hs (by omega) (putH st.H 8224 (some (st.tick, ⟨48, 2, true, ndL l⟩))) (st.tick + 1) (by omega)
  rw [hr] at e3
  subst e3
  have eF := F3.bor
  have eN := bor_nds (H := H3) (id := 8224) (vr := st.tick) (l := l) (by rw [old3 _ (by omega), putH_app, if_pos rfl]; rfl)
  have E := c_specEvaluate (k' + 1) true true l (p.map fdT) (by simpa using hp) (by simp; omega)
  rw [hR] at E
  simp [ownV, intsO] at E
  simp [-Eng.bor] at eF
  simp [-Eng.bor, bor_sq, eN, eF, E, bor_c, q0, T]
  refine eYB_ok (k' + 1) w h z hz b c l p hl hp hs hsum hR hk _ ⟨by simp [q0], by simp [q1], by simp <;> omega⟩ tk3 (tk3 + 1) ⟨by simp, by simp, by simp [putH_app], ?_⟩ (by simp) (by simp [putH_app, ndO])
  simp [putH_app, intsO]

end Go.Proofs.Ytfcnlfjenialdaa.Eng
namespace Go.Proofs.Ytfcnlfjenialdaa.Eng
open Go Go.Proofs
set_option maxRecDepth 100000
set_option maxHeartbeats 2000000
set_option linter.unusedSimpArgs false
set_option linter.unusedVariables false
attribute [local simp] finK fin1 hpOf xi renQ isRoot runCode runOps stepX inlOf Eng.step wantedV astep val ofO made loadV storeV find V.cells bin binT binA numT numFs eqCells un1 setAt fieldAddrV fieldV indexAddrV indexV bounds sliceV convV lenV foldV max2V min2V callO bor rdsO wrsO seen_none okD_none loops keepIds resV resultsV St.ev TK.agg refs refsL refsO V.one V.isC Value.oneCell' ren renL renO noTag noTagL noTagR noTagO nodup mapO passV frs psi refsR newD loopNext opsAt idx flatAt rootOf backR newsV appendV copyV clearV strV bytesV bldV bufV selfV bytesOf nilCmp buildV fillF chunk freeL frzW cellSame sameV
attribute [local simp] cT cF cX cWR cOW cK cBL X ints_length ints_get ints_getElem ints_drop ints_take ints_append ints_nil ints_set
attribute [local simp] ints_replicate
attribute [local simp] putV_some putV_none putH_app applyD_nil applyD_cons seen_app gc_ρ gc_H gc_tick st0_ρ st0_H st0_tick retV callRo callV_if borL_nil borL_cons ints_snoc take_self callWr cutH_app findQ afterV exportV_0 exportV_n okD_nil okD_cons sub_seq0 sub_seq1 sub_cond0 sub_cond1 sub_block sub_loop sub_nil young_far young_none hidW_nil mayW_nil keepsF_nil keepsF_cons pairs okI ok_0 ok_1 ok_2
attribute [local simp] T3 T4 T22 T23 T26 T28 T31 T33 T43 T48 T50 T70 T73 T75 T78 T82 T85
attribute [local simp] young_near clo cloF Region.binds Nat.testBit hidW declW mayW List.findIdx?_cons
noncomputable def eNH : Code := (.seq (.seq (.region 32 R3_32 false) (.cond (.tmp 110) (.seq (.region 33 R3_33 false) .ret) .skip)) (.seq (.region 34 R3_34 false) (.seq (.region 35 R3_35 false) (.seq (.seq (.region 36 R3_36 false) (.cond (.tmp 115) (.seq (.region 37 R3_37 false) .ret) .skip)) (.seq (.seq (.region 38 R3_38 false) (.cond (.tmp 118) (.seq (.region 39 R3_39 false) .ret) .skip)) (.seq (.region 40 R3_40 false) .ret))))))
noncomputable def eNG : Code := (.seq (.region 31 R3_31 false) (.seq (.seq (.region 32 R3_32 false) (.cond (.tmp 110) (.seq (.region 33 R3_33 false) .ret) .skip)) (.seq (.region 34 R3_34 false) (.seq (.region 35 R3_35 false) (.seq (.seq (.region 36 R3_36 false) (.cond (.tmp 115) (.seq (.region 37 R3_37 false) .ret) .skip)) (.seq (.seq (.region 38 R3_38 false) (.cond (.tmp 118) (.seq (.region 39 R3_39 false) .ret) .skip)) (.seq (.region 40 R3_40 false) .ret)))))))
noncomputable def eNF : Code := (.seq (.seq (.region 21 R3_21 false) (.cond (.tmp 82) (.seq (.region 22 R3_22 false) .ret) .skip)) (.seq (.region 23 R3_23 false) (.seq (.region 24 R3_24 false) (.seq (.region 25 R3_25 false) (.seq (.region 26 R3_26 false) (.seq (.seq (.region 27 R3_27 false) (.cond (.tmp 90) (.seq (.region 28 R3_28 false) .ret) .skip)) (.seq (.seq (.region 29 R3_29 false) (.cond (.tmp 93) (.seq (.region 30 R3_30 false) .ret) .skip)) (.seq (.region 31 R3_31 false) (.seq (.seq (.region 32 R3_32 false) (.cond (.tmp 110) (.seq (.region 33 R3_33 false) .ret) .skip)) (.seq (.region 34 R3_34 false) (.seq (.region 35 R3_35 false) (.seq (.seq (.region 36 R3_36 false) (.cond (.tmp 115) (.seq (.region 37 R3_37 false) .ret) .skip)) (.seq (.seq (.region 38 R3_38 false) (.cond (.tmp 118) (.seq (.region 39 R3_39 false) .ret) .skip)) (.seq (.region 40 R3_40 false) .ret))))))))))))))
noncomputable def eNE : Code := (.seq (.region 20 R3_20 false) (.seq (.seq (.region 21 R3_21 false) (.cond (.tmp 82) (.seq (.region 22 R3_22 false) .ret) .skip)) (.seq (.region 23 R3_23 false) (.seq (.region 24 R3_24 false) (.seq (.region 25 R3_25 false) (.seq (.region 26 R3_26 false) (.seq (.seq (.region 27 R3_27 false) (.cond (.tmp 90) (.seq (.region 28 R3_28 false) .ret) .skip)) (.seq (.seq (.region 29 R3_29 false) (.cond (.tmp 93) (.seq (.region 30 R3_30 false) .ret) .skip)) (.seq (.region 31 R3_31 false) (.seq (.seq (.region 32 R3_32 false) (.cond (.tmp 110) (.seq (.region 33 R3_33 false) .ret) .skip)) (.seq (.region 34 R3_34 false) (.seq (.region 35 R3_35 false) (.seq (.seq (.region 36 R3_36 false) (.cond (.tmp 115) (.seq (.region 37 R3_37 false) .ret) .skip)) (.seq (.seq (.region 38 R3_38 false) (.cond (.tmp 118) (.seq (.region 39 R3_39 false) .ret) .skip)) (.seq (.region 40 R3_40 false) .ret)))))))))))))))
noncomputable def eND : Code := (.seq (.seq (.region 16 R3_16 false) (.cond (.tmp 63) (.seq (.region 17 R3_17 false) .ret) .skip)) (.seq (.region 18 R3_18 false) (.seq (.region 19 R3_19 false) (.seq (.region 20 R3_20 false) (.seq (.seq (.region 21 R3_21 false) (.cond (.tmp 82) (.seq (.region 22 R3_22 false) .ret) .skip)) (.seq (.region 23 R3_23 false) (.seq (.region 24 R3_24 false) (.seq (.region 25 R3_25 false) (.seq (.region 26 R3_26 false) (.seq (.seq (.region 27 R3_27 false) (.cond (.tmp 90) (.seq (.region 28 R3_28 false) .ret) .skip)) (.seq (.seq (.region 29 R3_29 false) (.cond (.tmp 93) (.seq (.region 30 R3_30 false) .ret) .skip)) (.seq (.region 31 R3_31 false) (.seq (.seq (.region 32 R3_32 false) (.cond (.tmp 110) (.seq (.region 33 R3_33 false) .ret) .skip)) (.seq (.region 34 R3_34 false) (.seq (.region 35 R3_35 false) (.seq (.seq (.region 36 R3_36 false) (.cond (.tmp 115) (.seq (.region 37 R3_37 false) .ret) .skip)) (.seq (.seq (.region 38 R3_38 false) (.cond (.tmp 118) (.seq (.region 39 R3_39 false) .ret) .skip)) (.seq (.region 40 R3_40 false) .ret))))))))))))))))))
noncomputable def eNC : Code := (.seq (.region 11 R3_11 false) (.seq (.seq (.region 12 R3_12 false) (.cond (.tmp 53) (.seq (.region 13 R3_13 false) .ret) .skip)) (.seq (.seq (.region 14 R3_14 false) (.cond (.tmp 58) (.seq (.region 15 R3_15 false) .ret) .skip)) (.seq (.seq (.region 16 R3_16 false) (.cond (.tmp 63) (.seq (.region 17 R3_17 false) .ret) .skip)) (.seq (.region 18 R3_18 false) (.seq (.region 19 R3_19 false) (.seq (.region 20 R3_20 false) (.seq (.seq (.region 21 R3_21 false) (.cond (.tmp 82) (.seq (.region 22 R3_22 false) .ret) .skip)) (.seq (.region 23 R3_23 false) (.seq (.region 24 R3_24 false) (.seq (.region 25 R3_25 false) (.seq (.region 26 R3_26 false) (.seq (.seq (.region 27 R3_27 false) (.cond (.tmp 90) (.seq (.region 28 R3_28 false) .ret) .skip)) (.seq (.seq (.region 29 R3_29 false) (.cond (.tmp 93) (.seq (.region 30 R3_30 false) .ret) .skip)) (.seq (.region 31 R3_31 false) (.seq (.seq (.region 32 R3_32 false) (.cond (.tmp 110) (.seq (.region 33 R3_33 false) .ret) .skip)) (.seq (.region 34 R3_34 false) (.seq (.region 35 R3_35 false) (.seq (.seq (.region 36 R3_36 false) (.cond (.tmp 115) (.seq (.region 37 R3_37 false) .ret) .skip)) (.seq (.seq (.region 38 R3_38 false) (.cond (.tmp 118) (.seq (.region 39 R3_39 false) .ret) .skip)) (.seq (.region 40 R3_40 false) .ret)))))))))))))))))))))
noncomputable def eNB : Code := (.seq (.region 10 R3_10 false) (.seq (.region 11 R3_11 false) (.seq (.seq (.region 12 R3_12 false) (.cond (.tmp 53) (.seq (.region 13 R3_13 false) .ret) .skip)) (.seq (.seq (.region 14 R3_14 false) (.cond (.tmp 58) (.seq (.region 15 R3_15 false) .ret) .skip)) (.seq (.seq (.region 16 R3_16 false) (.cond (.tmp 63) (.seq (.region 17 R3_17 false) .ret) .skip)) (.seq (.region 18 R3_18 false) (.seq (.region 19 R3_19 false) (.seq (.region 20 R3_20 false) (.seq (.seq (.region 21 R3_21 false) (.cond (.tmp 82) (.seq (.region 22 R3_22 false) .ret) .skip)) (.seq (.region 23 R3_23 false) (.seq (.region 24 R3_24 false) (.seq (.region 25 R3_25 false) (.seq (.region 26 R3_26 false) (.seq (.seq (.region 27 R3_27 false) (.cond (.tmp 90) (.seq (.region 28 R3_28 false) .ret) .skip)) (.seq (.seq (.region 29 R3_29 false) (.cond (.tmp 93) (.seq (.region 30 R3_30 false) .ret) .skip)) (.seq (.region 31 R3_31 false) (.seq (.seq (.region 32 R3_32 false) (.cond (.tmp 110) (.seq (.region 33 R3_33 false) .ret) .skip)) (.seq (.region 34 R3_34 false) (.seq (.region 35 R3_35 false) (.seq (.seq (.region 36 R3_36 false) (.cond (.tmp 115) (.seq (.region 37 R3_37 false) .ret) .skip)) (.seq (.seq (.region 38 R3_38 false) (.cond (.tmp 118) (.seq (.region 39 R3_39 false) .ret) .skip)) (.seq (.region 40 R3_40 false) .ret))))))))))))))))))))))
noncomputable def eNA : Code := (.seq (.region 8 R3_8 false) (.seq (.region 9 R3_9 false) (.seq (.region 10 R3_10 false) (.seq (.region 11 R3_11 false) (.seq (.seq (.region 12 R3_12 false) (.cond (.tmp 53) (.seq (.region 13 R3_13 false) .ret) .skip)) (.seq (.seq (.region 14 R3_14 false) (.cond (.tmp 58) (.seq (.region 15 R3_15 false) .ret) .skip)) (.seq (.seq (.region 16 R3_16 false) (.cond (.tmp 63) (.seq (.region 17 R3_17 false) .ret) .skip)) (.seq (.region 18 R3_18 false) (.seq (.region 19 R3_19 false) (.seq (.region 20 R3_20 false) (.seq (.seq (.region 21 R3_21 false) (.cond (.tmp 82) (.seq (.region 22 R3_22 false) .ret) .skip)) (.seq (.region 23 R3_23 false) (.seq (.region 24 R3_24 false) (.seq (.region 25 R3_25 false) (.seq (.region 26 R3_26 false) (.seq (.seq (.region 27 R3_27 false) (.cond (.tmp 90) (.seq (.region 28 R3_28 false) .ret) .skip)) (.seq (.seq (.region 29 R3_29 false) (.cond (.tmp 93) (.seq (.region 30 R3_30 false) .ret) .skip)) (.seq (.region 31 R3_31 false) (.seq (.seq (.region 32 R3_32 false) (.cond (.tmp 110) (.seq (.region 33 R3_33 false) .ret) .skip)) (.seq (.region 34 R3_34 false) (.seq (.region 35 R3_35 false) (.seq (.seq (.region 36 R3_36 false) (.cond (.tmp 115) (.seq (.region 37 R3_37 false) .ret) .skip)) (.seq (.seq (.region 38 R3_38 false) (.cond (.tmp 118) (.seq (.region 39 R3_39 false) .ret) .skip)) (.seq (.region 40 R3_40 false) .ret))))))))))))))))))))))))
theorem eNH_is : (.seq (.seq (.region 32 R3_32 false) (.cond (.tmp 110) (.seq (.region 33 R3_33 false) .ret) .skip)) (.seq (.region 34 R3_34 false) (.seq (.region 35 R3_35 false) (.seq (.seq (.region 36 R3_36 false) (.cond (.tmp 115) (.seq (.region 37 R3_37 false) .ret) .skip)) (.seq (.seq (.region 38 R3_38 false) (.cond (.tmp 118) (.seq (.region 39 R3_39 false) .ret) .skip)) (.seq (.region 40 R3_40 false) .ret)))))) = eNH := rfl
theorem eNG_is : (.seq (.region 31 R3_31 false) (.seq (.seq (.region 32 R3_32 false) (.cond (.tmp 110) (.seq (.region 33 R3_33 false) .ret) .skip)) (.seq (.region 34 R3_34 false) (.seq (.region 35 R3_35 false) (.seq (.seq (.region 36 R3_36 false) (.cond (.tmp 115) (.seq (.region 37 R3_37 false) .ret) .skip)) (.seq (.seq (.region 38 R3_38 false) (.cond (.tmp 118) (.seq (.region 39 R3_39 false) .ret) .skip)) (.seq (.region 40 R3_40 false) .ret))))))) = eNG := rfl
theorem eNF_is : (.seq (.seq (.region 21 R3_21 false) (.cond (.tmp 82) (.seq (.region 22 R3_22 false) .ret) .skip)) (.seq (.region 23 R3_23 false) (.seq (.region 24 R3_24 false) (.seq (.region 25 R3_25 false) (.seq (.region 26 R3_26 false) (.seq (.seq (.region 27 R3_27 false) (.cond (.tmp 90) (.seq (.region 28 R3_28 false) .ret) .skip)) (.seq (.seq (.region 29 R3_29 false) (.cond (.tmp 93) (.seq (.region 30 R3_30 false) .ret) .skip)) (.seq (.region 31 R3_31 false) (.seq (.seq (.region 32 R3_32 false) (.cond (.tmp 110) (.seq (.region 33 R3_33 false) .ret) .skip)) (.seq (.region 34 R3_34 false) (.seq (.region 35 R3_35 false) (.seq (.seq (.region 36 R3_36 false) (.cond (.tmp 115) (.seq (.region 37 R3_37 false) .ret) .skip)) (.seq (.seq (.region 38 R3_38 false) (.cond (.tmp 118) (.seq (.region 39 R3_39 false) .ret) .skip)) (.seq (.region 40 R3_40 false) .ret)))))))))))))) = eNF := rfl
theorem eNE_is : (.seq (.region 20 R3_20 false) (.seq (.seq (.region 21 R3_21 false) (.cond (.tmp 82) (.seq (.region 22 R3_22 false) .ret) .skip)) (.seq (.region 23 R3_23 false) (.seq (.region 24 R3_24 false) (.seq (.region 25 R3_25 false) (.seq (.region 26 R3_26 false) (.seq (.seq (.region 27 R3_27 false) (.cond (.tmp 90) (.seq (.region 28 R3_28 false) .ret) .skip)) (.seq (.seq (.region 29 R3_29 false) (.cond (.tmp 93) (.seq (.region 30 R3_30 false) .ret) .skip)) (.seq (.region 31 R3_31 false) (.seq (.seq (.region 32 R3_32 false) (.cond (.tmp 110) (.seq (.region 33 R3_33 false) .ret) .skip)) (.seq (.region 34 R3_34 false) (.seq (.region 35 R3_35 false) (.seq (.seq (.region 36 R3_36 false) (.cond (.tmp 115) (.seq (.region 37 R3_37 false) .ret) .skip)) (.seq (.seq (.region 38 R3_38 false) (.cond (.tmp 118) (.seq (.region 39 R3_39 false) .ret) .skip)) (.seq (.region 40 R3_40 false) .ret))))))))))))))) = eNE := rfl
theorem eND_is : (.seq (.seq (.region 16 R3_16 false) (.cond (.tmp 63) (.seq (.region 17 R3_17 false) .ret) .skip)) (.seq (.region 18 R3_18 false) (.seq (.region 19 R3_19 false) (.seq (.region 20 R3_20 false) (.seq (.seq (.region 21 R3_21 false) (.cond (.tmp 82) (.seq (.region 22 R3_22 false) .ret) .skip)) (.seq (.region 23 R3_23 false) (.seq (.region 24 R3_24 false) (.seq (.region 25 R3_25 false) (.seq (.region 26 R3_26 false) (.seq (.seq (.region 27 R3_27 false) (.cond (.tmp 90) (.seq (.region 28 R3_28 false) .ret) .skip)) (.seq (.seq (.region 29 R3_29 false) (.cond (.tmp 93) (.seq (.region 30 R3_30 false) .ret) .skip)) (.seq (.region 31 R3_31 false) (.seq (.seq (.region 32 R3_32 false) (.cond (.tmp 110) (.seq (.region 33 R3_33 false) .ret) .skip)) (.seq (.region 34 R3_34 false) (.seq (.region 35 R3_35 false) (.seq (.seq (.region 36 R3_36 false) (.cond (.tmp 115) (.seq (.region 37 R3_37 false) .ret) .skip)) (.seq (.seq (.region 38 R3_38 false) (.cond (.tmp 118) (.seq (.region 39 R3_39 false) .ret) .skip)) (.seq (.region 40 R3_40 false) .ret)))))))))))))))))) = eND := rfl
theorem eNC_is : (.seq (.region 11 R3_11 false) (.seq (.seq (.region 12 R3_12 false) (.cond (.tmp 53) (.seq (.region 13 R3_13 false) .ret) .skip)) (.seq (.seq (.region 14 R3_14 false) (.cond (.tmp 58) (.seq (.region 15 R3_15 false) .ret) .skip)) (.seq (.seq (.region 16 R3_16 false) (.cond (.tmp 63) (.seq (.region 17 R3_17 false) .ret) .skip)) (.seq (.region 18 R3_18 false) (.seq (.region 19 R3_19 false) (.seq (.region 20 R3_20 false) (.seq (.seq (.region 21 R3_21 false) (.cond (.tmp 82) (.seq (.region 22 R3_22 false) .ret) .skip)) (.seq (.region 23 R3_23 false) (.seq (.region 24 R3_24 false) (.seq (.region 25 R3_25 false) (.seq (.region 26 R3_26 false) (.seq (.seq (.region 27 R3_27 false) (.cond (.tmp 90) (.seq (.region 28 R3_28 false) .ret) .skip)) (.seq (.seq (.region 29 R3_29 false) (.cond (.tmp 93) (.seq (.region 30 R3_30 false) .ret) .skip)) (.seq (.region 31 R3_31 false) (.seq (.seq (.region 32 R3_32 false) (.cond (.tmp 110) (.seq (.region 33 R3_33 false) .ret) .skip)) (.seq (.region 34 R3_34 false) (.seq (.region 35 R3_35 false) (.seq (.seq (.region 36 R3_36 false) (.cond (.tmp 115) (.seq (.region 37 R3_37 false) .ret) .skip)) (.seq (.seq (.region 38 R3_38 false) (.cond (.tmp 118) (.seq (.region 39 R3_39 false) .ret) .skip)) (.seq (.region 40 R3_40 false) .ret))))))))))))))))))))) = eNC := rfl
theorem eNB_is : (.seq (.region 10 R3_10 false) (.seq (.region 11 R3_11 false) (.seq (.seq (.region 12 R3_12 false) (.cond (.tmp 53) (.seq (.region 13 R3_13 false) .ret) .skip)) (.seq (.seq (.region 14 R3_14 false) (.cond (.tmp 58) (.seq (.region 15 R3_15 false) .ret) .skip)) (.seq (.seq (.region 16 R3_16 false) (.cond (.tmp 63) (.seq (.region 17 R3_17 false) .ret) .skip)) (.seq (.region 18 R3_18 false) (.seq (.region 19 R3_19 false) (.seq (.region 20 R3_20 false) (.seq (.seq (.region 21 R3_21 false) (.cond (.tmp 82) (.seq (.region 22 R3_22 false) .ret) .skip)) (.seq (.region 23 R3_23 false) (.seq (.region 24 R3_24 false) (.seq (.region 25 R3_25 false) (.seq (.region 26 R3_26 false) (.seq (.seq (.region 27 R3_27 false) (.cond (.tmp 90) (.seq (.region 28 R3_28 false) .ret) .skip)) (.seq (.seq (.region 29 R3_29 false) (.cond (.tmp 93) (.seq (.region 30 R3_30 false) .ret) .skip)) (.seq (.region 31 R3_31 false) (.seq (.seq (.region 32 R3_32 false) (.cond (.tmp 110) (.seq (.region 33 R3_33 false) .ret) .skip)) (.seq (.region 34 R3_34 false) (.seq (.region 35 R3_35 false) (.seq (.seq (.region 36 R3_36 false) (.cond (.tmp 115) (.seq (.region 37 R3_37 false) .ret) .skip)) (.seq (.seq (.region 38 R3_38 false) (.cond (.tmp 118) (.seq (.region 39 R3_39 false) .ret) .skip)) (.seq (.region 40 R3_40 false) .ret)))))))))))))))))))))) = eNB := rfl
theorem eNA_is : (.seq (.region 8 R3_8 false) (.seq (.region 9 R3_9 false) (.seq (.region 10 R3_10 false) (.seq (.region 11 R3_11 false) (.seq (.seq (.region 12 R3_12 false) (.cond (.tmp 53) (.seq (.region 13 R3_13 false) .ret) .skip)) (.seq (.seq (.region 14 R3_14 false) (.cond (.tmp 58) (.seq (.region 15 R3_15 false) .ret) .skip)) (.seq (.seq (.region 16 R3_16 false) (.cond (.tmp 63) (.seq (.region 17 R3_17 false) .ret) .skip)) (.seq (.region 18 R3_18 false) (.seq (.region 19 R3_19 false) (.seq (.region 20 R3_20 false) (.seq (.seq (.region 21 R3_21 false) (.cond (.tmp 82) (.seq (.region 22 R3_22 false) .ret) .skip)) (.seq (.region 23 R3_23 false) (.seq (.region 24 R3_24 false) (.seq (.region 25 R3_25 false) (.seq (.region 26 R3_26 false) (.seq (.seq (.region 27 R3_27 false) (.cond (.tmp 90) (.seq (.region 28 R3_28 false) .ret) .skip)) (.seq (.seq (.region 29 R3_29 false) (.cond (.tmp 93) (.seq (.region 30 R3_30 false) .ret) .skip)) (.seq (.region 31 R3_31 false) (.seq (.seq (.region 32 R3_32 false) (.cond (.tmp 110) (.seq (.region 33 R3_33 false) .ret) .skip)) (.seq (.region 34 R3_34 false) (.seq (.region 35 R3_35 false) (.seq (.seq (.region 36 R3_36 false) (.cond (.tmp 115) (.seq (.region 37 R3_37 false) .ret) .skip)) (.seq (.seq (.region 38 R3_38 false) (.cond (.tmp 118) (.seq (.region 39 R3_39 false) .ret) .skip)) (.seq (.region 40 R3_40 false) .ret)))))))))))))))))))))))) = eNA := rfl
/-- What the reference answered. -/
structure WvN  (s : St) (v6 : Nat) : Prop where
  q6 : s.ρ 6 = .p 8336 v6 3 0 0
  q7 : s.ρ 7 = .c (.bool false)
  H6 : s.H 8336 = some (v6, ⟨28, 3, false, [[.c (.int .i64 0), .c (.int .i64 0), .c (.slice none 0 0)]]⟩)
  H6c : True
structure GvN  (s : St) (vg : Nat) : Prop where
  q10 : s.ρ 10 = .p 11376 vg 3 0 0
  q11 : s.ρ 11 = .c (.bool false)
  H10 : s.H 11376 = some (vg, ⟨28, 3, false, [[.c (.int .i64 0), .c (.int .i64 0), .c (.slice none 0 0)]]⟩)
  H10c : True
theorem eNH_ok (k : Nat)  (hk : 3000 ≤ k) (st : St) (v6 vg v15 : Nat) (W : WvN  st v6) (G : GvN  st vg) (q13 : st.ρ 13 = .c (.int .i64 1)) (q15 : st.ρ 15 = .p 31888 v15 3 0 0) (q16 : st.ρ 16 = .c (.bool false))
    (H15 : st.H 31888 = some (v15, ⟨28, 3, false, [[.c (.int .i64 0), .c (.int .i64 0), .c (.slice none 0 0)]]⟩)) (H15c : True) : YesE k eNH st := by
  obtain ⟨q6, q7, H6, H6c⟩ := W
  obtain ⟨q10, q11, H10, H10c⟩ := G
  have Eq := c_eqFieldNil k (by omega)
  have Hd := c_heldFieldNil k 1 (by omega) (by omega)
  simp [nilV] at Eq Hd
  unfold YesE eNH
  simp [R3_0, R3_1, R3_2, R3_3, R3_4, R3_5, R3_6, R3_7, R3_8, R3_9, R3_10, R3_11, R3_12, R3_13, R3_14, R3_15, R3_16, R3_17, R3_18, R3_19, R3_20, R3_21, R3_22, R3_23, R3_24, R3_25, R3_26, R3_27, R3_28, R3_29, R3_30, R3_31, R3_32, R3_33, R3_34, R3_35, R3_36, R3_37, R3_38, R3_39, R3_40, Try.f3, q6, q7, q10, q11, q13, q15, q16, H6, H10, H15, Eq, Hd, undef]
theorem eNG_ok (k : Nat)  (b c : Bool) (l : List (Int × Int)) (p : List Fd) (hl : l.length ≤ 1048576) (hp : p.length ≤ 1048576) (hs : ∀ q ∈ p, q.l.length ≤ 1048576) (hR : evR l (p.map fdT) = some (.tp [nilV, .c (.bool false)], hpOf [] [])) (hk : 3000000 ≤ k) (st : St) (I : LwE b c l p st) (v6 vg : Nat) (W : WvN  st v6) (G : GvN  st vg) (q13 : st.ρ 13 = .c (.int .i64 1)) : YesE k eNG st := by
  obtain ⟨q0, q1, ht⟩ := I
  obtain ⟨q6, q7, H6, H6c⟩ := W
  obtain ⟨q10, q11, H10, H10c⟩ := G
  have T := c_toNodeS k b l hl (by omega)
  simp [ndO] at T
  have hb := Bt_big
  have hb1 := Bt_mono ht
  have hb2 : Bt st.tick ≤ Bt (st.tick + 1) := Bt_mono (by omega)
  obtain ⟨k', rfl⟩ : ∃ m, k = m + 1 := ⟨k - 1, by omega⟩
  unfold YesE eNG
  rw [eNH_is]
  simp [-Eng.bor, bor_sq, bor_c, R3_0, R3_1, R3_2, R3_3, R3_4, R3_5, R3_6, R3_7, R3_8, R3_9, R3_10, R3_11, R3_12, R3_13, R3_14, R3_15, R3_16, R3_17, R3_18, R3_19, R3_20, R3_21, R3_22, R3_23, R3_24, R3_25, R3_26, R3_27, R3_28, R3_29, R3_30, R3_31, R3_32, R3_33, R3_34, R3_35, R3_36, R3_37, R3_38, R3_39, R3_40, Try.f3, q0, q1, T]
  generalize hr : (callK C (k' + 1)).inl 8 _ _ _ = res
  obtain ⟨v3, P3, id3, vr3, H3, tk3, e3, F3, old3, le3⟩ := i_toFieldS k' c p hp hs (by omega) (putH st.H 31776 (some (st.tick, ⟨48, 2, true, ndL l⟩))) (st.tick + 1) (by omega)
  rw [hr] at e3
  subst e3
  have eF := F3.bor
  have eN := bor_nds (H := H3) (id := 31776) (vr := st.tick) (l := l) (by rw [old3 _ (by omega), putH_app, if_pos rfl]; rfl)
  have E := c_implEvaluate (k' + 1) true true l (p.map fdT) (by simpa using hp) (by omega)
  rw [hR] at E
  simp [nilV] at E
  simp [-Eng.bor] at eF
  simp [-Eng.bor, eN, eF, E, bor_c]
  refine eNH_ok (k' + 1)  (by omega) _ v6 vg tk3 ⟨by simp [q6], by simp [q7], by simp [putH_app, old3 8336 (by omega), H6], ?_⟩ ⟨by simp [q10], by simp [q11], by simp [putH_app, old3 11376 (by omega), H10], ?_⟩ (by simp [q13]) (by simp) (by simp) (by simp [putH_app]) ?_
  · trivial
  · trivial
  · trivial
theorem eNF_ok (k : Nat)  (b c : Bool) (l : List (Int × Int)) (p : List Fd) (hl : l.length ≤ 1048576) (hp : p.length ≤ 1048576) (hs : ∀ q ∈ p, q.l.length ≤ 1048576) (hR : evR l (p.map fdT) = some (.tp [nilV, .c (.bool false)], hpOf [] [])) (hk : 3000000 ≤ k) (st : St) (I : LwE b c l p st) (v6 vg : Nat) (W : WvN  st v6) (G : GvN  st vg) (n : Int) (hn : 0 ≤ n) (q12 : st.ρ 12 = .c (.int .i64 n)) : YesE k eNF st := by
  obtain ⟨q0, q1, ht⟩ := I
  obtain ⟨q6, q7, H6, H6c⟩ := W
  obtain ⟨q10, q11, H10, H10c⟩ := G
  have Eq := c_eqFieldNil k (by omega)
  have Hd := c_heldFieldNil k 1 (by omega) (by omega)
  simp [nilV] at Eq Hd
  have Mk := c_markFieldNil k 1 (by omega)
  simp [nilV] at Mk
  have hn' : ¬ n < 0 := by omega
  unfold YesE eNF
  rw [eNG_is]
  simp [R3_0, R3_1, R3_2, R3_3, R3_4, R3_5, R3_6, R3_7, R3_8, R3_9, R3_10, R3_11, R3_12, R3_13, R3_14, R3_15, R3_16, R3_17, R3_18, R3_19, R3_20, R3_21, R3_22, R3_23, R3_24, R3_25, R3_26, R3_27, R3_28, R3_29, R3_30, R3_31, R3_32, R3_33, R3_34, R3_35, R3_36, R3_37, R3_38, R3_39, R3_40, Try.f3, q6, q7, q10, q11, q12, hn', H6, H10, Eq, Hd, Mk]
  refine eNG_ok k  b c l p hl hp hs hR hk _ ⟨by simp [q0], by simp [q1], by simp <;> omega⟩ v6 vg ⟨by simp [q6], by simp [q7], by simp [putH_app, H6], ?_⟩ ⟨by simp [q10], by simp [q11], by simp [putH_app, H10], ?_⟩ (by simp)
  · trivial
  · trivial
theorem eNE_ok (k : Nat)  (b c : Bool) (l : List (Int × Int)) (p : List Fd) (hl : l.length ≤ 1048576) (hp : p.length ≤ 1048576) (hs : ∀ q ∈ p, q.l.length ≤ 1048576) (hsum : lenF p ≤ 1048576) (hR : evR l (p.map fdT) = some (.tp [nilV, .c (.bool false)], hpOf [] [])) (hk : 3000000 ≤ k) (st : St) (I : LwE b c l p st) (v6 vg : Nat) (W : WvN  st v6) (G : GvN  st vg) (n : Int) (hn : 0 ≤ n) (hn1 : n ≤ 10000000) (q12 : st.ρ 12 = .c (.int .i64 n)) (lo hi : Nat) (hlo : Bt 1 ≤ lo) (P : List Fo) (id vr : Nat) (F : FlI (p.map fdT) (st.ρ 9) st.H lo hi P id vr) : YesE k eNE st := by
  obtain ⟨q0, q1, ht⟩ := I
  obtain ⟨q6, q7, H6, H6c⟩ := W
  obtain ⟨q10, q11, H10, H10c⟩ := G
  have hb := Bt_big
  obtain ⟨k', rfl⟩ : ∃ m, k = m + 1 := ⟨k - 1, by omega⟩
  obtain ⟨n1, H', tk', e, hn', fr, le⟩ := i_markFieldS k' (p.map fdT) (st.ρ 9) st.H lo hi P id vr F (by simpa using hp) (by rw [lenF_T]; exact hsum) n hn hn1 (by omega) (st.tick + 1)
  unfold YesE eNE
  rw [eNF_is]
  simp [R3_0, R3_1, R3_2, R3_3, R3_4, R3_5, R3_6, R3_7, R3_8, R3_9, R3_10, R3_11, R3_12, R3_13, R3_14, R3_15, R3_16, R3_17, R3_18, R3_19, R3_20, R3_21, R3_22, R3_23, R3_24, R3_25, R3_26, R3_27, R3_28, R3_29, R3_30, R3_31, R3_32, R3_33, R3_34, R3_35, R3_36, R3_37, R3_38, R3_39, R3_40, Try.f3, q12, e]
  refine eNF_ok (k' + 1)  b c l p hl hp hs hR hk _ ⟨by simp [q0], by simp [q1], by simp <;> omega⟩ v6 vg ⟨by simp [q6], by simp [q7], by simp [fr 8336 (by omega), H6], ?_⟩ ⟨by simp [q10], by simp [q11], by simp [fr 11376 (by omega), H10], ?_⟩ n1 (by omega) (by simp)
  · trivial
  · trivial
theorem eND_ok (k : Nat)  (b c : Bool) (l : List (Int × Int)) (p : List Fd) (hl : l.length ≤ 1048576) (hp : p.length ≤ 1048576) (hs : ∀ q ∈ p, q.l.length ≤ 1048576) (hsum : lenF p ≤ 1048576) (hR : evR l (p.map fdT) = some (.tp [nilV, .c (.bool false)], hpOf [] [])) (hk : 3000000 ≤ k) (st : St) (I : LwE b c l p st) (v6 vg v8 : Nat) (W : WvN  st v6) (G : GvN  st vg) (q8 : st.ρ 8 = .s 9248 v8 2 0 l.length) (H8 : st.H 9248 = some (v8, ndO l)) (lo hi : Nat) (hlo : Bt 1 ≤ lo) (hhi : hi ≤ Bt st.tick) (P : List Fo) (id vr : Nat) (F : FlI (p.map fdT) (st.ρ 9) st.H lo hi P id vr) : YesE k eND st := by
  obtain ⟨q0, q1, ht⟩ := I
  obtain ⟨q6, q7, H6, H6c⟩ := W
  obtain ⟨q10, q11, H10, H10c⟩ := G
  have hb := Bt_big
  have hb1 := Bt_mono ht
  obtain ⟨k', rfl⟩ : ∃ m, k = m + 1 := ⟨k - 1, by omega⟩
  have M := c_markNodeS (k' + 1) l 1 hl (by omega) (by omega) (by omega)
  have E := c_eqFieldS (k' + 1) true true (p.map fdT) (by simpa using hp) (by intro q hq; obtain ⟨x, hx, rfl⟩ := List.mem_map.1 hq; exact ⟨rfl, hs x hx⟩) (by simp; omega)
  simp [ndO] at M H8
  simp at E
  unfold YesE eND
  rw [eNE_is]
  simp [-Eng.bor, bor_sq, bor_c, R3_0, R3_1, R3_2, R3_3, R3_4, R3_5, R3_6, R3_7, R3_8, R3_9, R3_10, R3_11, R3_12, R3_13, R3_14, R3_15, R3_16, R3_17, R3_18, R3_19, R3_20, R3_21, R3_22, R3_23, R3_24, R3_25, R3_26, R3_27, R3_28, R3_29, R3_30, R3_31, R3_32, R3_33, R3_34, R3_35, R3_36, R3_37, R3_38, R3_39, R3_40, Try.f3, q1]
  generalize hr : (callK C (k' + 1)).inl 8 _ _ _ = res
  obtain ⟨v3, P3, id3, vr3, H3, tk3, e3, F3, old3, le3⟩ := i_toFieldS k' c p hp hs (by omega) st.H (st.tick + 1) (by omega)
  rw [hr] at e3
  subst e3
  have hm : Bt st.tick ≤ Bt (st.tick + 1) := Bt_mono (by omega)
  have F' := F.keep (H' := H3) fun x a b' => old3 x (by omega)
  have eF := F'.bor
  have eF3 := F3.bor
  simp [-Eng.bor] at eF eF3
  have o8 := old3 9248 (by omega)
  simp [-Eng.bor, eF, eF3, E, bor_c, q8, o8, H8, M]
  refine eNE_ok (k' + 1)  b c l p hl hp hs hsum hR hk _ ⟨by simp [q0], by simp [q1], by simp <;> omega⟩ v6 vg ⟨by simp [q6], by simp [q7], by simp [putH_app, old3 8336 (by omega), H6], ?_⟩ ⟨by simp [q10], by simp [q11], by simp [putH_app, old3 11376 (by omega), H10], ?_⟩ (1 + 2 * (l.length : Int)) (by omega) (by omega) (by simp) lo hi hlo P id vr ?_
  · trivial
  · trivial
  · simpa using F'.keep fun x a b' => by rw [putH_app, if_neg (by omega)]
theorem eNC_ok (k : Nat)  (b c : Bool) (l : List (Int × Int)) (p : List Fd) (hl : l.length ≤ 1048576) (hp : p.length ≤ 1048576) (hs : ∀ q ∈ p, q.l.length ≤ 1048576) (hsum : lenF p ≤ 1048576) (hR : evR l (p.map fdT) = some (.tp [nilV, .c (.bool false)], hpOf [] [])) (hk : 3000000 ≤ k) (st : St) (I : LwE b c l p st) (v6 v8 : Nat) (W : WvN  st v6) (q8 : st.ρ 8 = .s 9248 v8 2 0 l.length) (H8 : st.H 9248 = some (v8, ndO l)) (lo hi : Nat) (hlo : Bt 1 ≤ lo) (hhi : hi ≤ Bt st.tick) (P : List Fo) (id vr : Nat) (F : FlI (p.map fdT) (st.ρ 9) st.H lo hi P id vr) : YesE k eNC st := by
  obtain ⟨q0, q1, ht⟩ := I
  obtain ⟨q6, q7, H6, H6c⟩ := W
  have hb := Bt_big
  have Eq := c_eqFieldNil k (by omega)
  have Hd := c_heldFieldNil k 1 (by omega) (by omega)
  simp [nilV] at Eq Hd
  have T := c_toNodeS k b l hl (by omega)
  have E := c_implEvaluate k true true l (p.map fdT) (by simpa using hp) (by omega)
  have N := c_eqNodeS k true true l l hl (by omega)
  rw [hR] at E
  simp [nilV] at E
  have eF := F.bor
  simp [-Eng.bor] at eF
  have eN := bor_nds (H := st.H) H8
  simp [ndO] at T H8
  simp at N
  unfold YesE eNC
  rw [eND_is]
  simp [-Eng.bor, bor_sq, bor_c, R3_0, R3_1, R3_2, R3_3, R3_4, R3_5, R3_6, R3_7, R3_8, R3_9, R3_10, R3_11, R3_12, R3_13, R3_14, R3_15, R3_16, R3_17, R3_18, R3_19, R3_20, R3_21, R3_22, R3_23, R3_24, R3_25, R3_26, R3_27, R3_28, R3_29, R3_30, R3_31, R3_32, R3_33, R3_34, R3_35, R3_36, R3_37, R3_38, R3_39, R3_40, Try.f3, q0, q7, q8, H6, eN, eF, E, T, N]
  simp [q0, q6, q7, q8, H6, H8, T, N, ndL_length, ndL_take, Eq]
  refine eND_ok k  b c l p hl hp hs hsum hR hk _ ⟨by simp [q0], by simp [q1], by simp <;> omega⟩ v6 st.tick v8 ⟨by simp [q6], by simp [q7], by simp [putH_app, H6], ?_⟩ ⟨by simp, by simp, by simp [putH_app], ?_⟩ (by simp [q8]) (by simp [putH_app, H8, ndO]) lo hi hlo (by simp; exact Nat.le_trans hhi (Bt_mono (by omega))) P id vr ?_
  · trivial
  · trivial
  · simpa using F.keep fun x a b' => by simp [putH_app, show ¬ x = 11312 by omega, show ¬ x = 11376 by omega, show ¬ x = 14384 by omega]
theorem eNB_ok (k : Nat)  (b c : Bool) (l : List (Int × Int)) (p : List Fd) (hl : l.length ≤ 1048576) (hp : p.length ≤ 1048576) (hs : ∀ q ∈ p, q.l.length ≤ 1048576) (hsum : lenF p ≤ 1048576) (hR : evR l (p.map fdT) = some (.tp [nilV, .c (.bool false)], hpOf [] [])) (hk : 3000000 ≤ k) (st : St) (I : LwE b c l p st) (v6 v8 : Nat) (W : WvN  st v6) (q8 : st.ρ 8 = .s 9248 v8 2 0 l.length) (H8 : st.H 9248 = some (v8, ndO l)) : YesE k eNB st := by
  obtain ⟨q0, q1, ht⟩ := I
  obtain ⟨q6, q7, H6, H6c⟩ := W
  have hb := Bt_big
  have hb1 := Bt_mono ht
  have hb2 : Bt st.tick ≤ Bt (st.tick + 1) := Bt_mono (by omega)
  obtain ⟨k', rfl⟩ : ∃ m, k = m + 1 := ⟨k - 1, by omega⟩
  unfold YesE eNB
  rw [eNC_is]
  simp [-Eng.bor, bor_sq, bor_c, R3_0, R3_1, R3_2, R3_3, R3_4, R3_5, R3_6, R3_7, R3_8, R3_9, R3_10, R3_11, R3_12, R3_13, R3_14, R3_15, R3_16, R3_17, R3_18, R3_19, R3_20, R3_21, R3_22, R3_23, R3_24, R3_25, R3_26, R3_27, R3_28, R3_29, R3_30, R3_31, R3_32, R3_33, R3_34, R3_35, R3_36, R3_37, R3_38, R3_39, R3_40, Try.f3, q1]
  generalize hr : (callK C (k' + 1)).inl 8 _ _ _ = res
  obtain ⟨v3, P3, id3, vr3, H3, tk3, e3, F3, old3, le3⟩ := i_toFieldS k' c p hp hs (by omega) st.H (st.tick + 1) (by omega)
  rw [hr] at e3
  subst e3
  simp
  refine eNC_ok (k' + 1)  b c l p hl hp hs hsum hR hk _ ⟨by simp [q0], by simp [q1], by simp <;> omega⟩ v6 v8 ⟨by simp [q6], by simp [q7], by simp [old3 8336 (by omega), H6], ?_⟩ (by simp [q8]) (by simp [old3 9248 (by omega), H8]) (Bt (st.tick + 1)) (Bt tk3) (by omega) (by simp; exact Bt_mono (by omega)) P3 id3 vr3 (by simpa using F3)
  trivial
theorem eNA_ok (k : Nat)  (b c : Bool) (l : List (Int × Int)) (p : List Fd) (hl : l.length ≤ 1048576) (hp : p.length ≤ 1048576) (hs : ∀ q ∈ p, q.l.length ≤ 1048576) (hsum : lenF p ≤ 1048576) (hR : evR l (p.map fdT) = some (.tp [nilV, .c (.bool false)], hpOf [] [])) (hk : 3000000 ≤ k) (st : St) (I : LwE b c l p st) : YesE k eNA st := by
  obtain ⟨q0, q1, ht⟩ := I
  have T := c_toNodeS k b l hl (by omega)
  simp [ndO] at T
  have hb := Bt_big
  have hb1 := Bt_mono ht
  have hb2 : Bt st.tick ≤ Bt (st.tick + 1) := Bt_mono (by omega)
  obtain ⟨k', rfl⟩ : ∃ m, k = m + 1 := ⟨k - 1, by omega⟩
  unfold YesE eNA
  rw [eNB_is]
  simp [-Eng.bor, bor_sq, bor_c, R3_0, R3_1, R3_2, R3_3, R3_4, R3_5, R3_6, R3_7, R3_8, R3_9, R3_10, R3_11, R3_12, R3_13, R3_14, R3_15, R3_16, R3_17, R3_18, R3_19, R3_20, R3_21, R3_22, R3_23, R3_24, R3_25, R3_26, R3_27, R3_28, R3_29, R3_30, R3_31, R3_32, R3_33, R3_34, R3_35, R3_36, R3_37, R3_38, R3_39, R3_40, Try.f3, q0, q1, T]
  generalize hr : (callK C (k' + 1)).inl 8 _ _ _ = res
  obtain ⟨v3, P3, id3, vr3, H3, tk3, e3, F3, old3, le3⟩ := i_toFieldS k' c p hp hs (by omega) (putH st.H 8224 (some (st.tick, ⟨48, 2, true, ndL l⟩))) (st.tick + 1) (by omega)
  rw [hr] at e3
  subst e3
  have eF := F3.bor
  have eN := bor_nds (H := H3) (id := 8224) (vr := st.tick) (l := l) (by rw [old3 _ (by omega), putH_app, if_pos rfl]; rfl)
  have E := c_specEvaluate (k' + 1) true true l (p.map fdT) (by simpa using hp) (by simp; omega)
  rw [hR] at E
  simp [nilV] at E
  simp [-Eng.bor] at eF
  simp [-Eng.bor, bor_sq, eN, eF, E, bor_c, q0, T]
  refine eNB_ok (k' + 1)  b c l p hl hp hs hsum hR hk _ ⟨by simp [q0], by simp [q1], by simp <;> omega⟩ tk3 (tk3 + 1) ⟨by simp, by simp, by simp [putH_app], ?_⟩ (by simp) (by simp [putH_app, ndO])
  trivial

end Go.Proofs.Ytfcnlfjenialdaa.Eng
namespace Go.Proofs.Ytfcnlfjenialdaa.Eng
open Go Go.Proofs
set_option maxRecDepth 100000
set_option maxHeartbeats 2000000
set_option linter.unusedSimpArgs false
set_option linter.unusedVariables false
attribute [local simp] finK fin1 hpOf xi renQ isRoot runCode runOps stepX inlOf Eng.step wantedV astep val ofO made loadV storeV find V.cells bin binT binA numT numFs eqCells un1 setAt fieldAddrV fieldV indexAddrV indexV bounds sliceV convV lenV foldV max2V min2V callO bor rdsO wrsO seen_none okD_none loops keepIds resV resultsV St.ev TK.agg refs refsL refsO V.one V.isC Value.oneCell' ren renL renO noTag noTagL noTagR noTagO nodup mapO passV frs psi refsR newD loopNext opsAt idx flatAt rootOf backR newsV appendV copyV clearV strV bytesV bldV bufV selfV bytesOf nilCmp buildV fillF chunk freeL frzW cellSame sameV
attribute [local simp] cT cF cX cWR cOW cK cBL X ints_length ints_get ints_getElem ints_drop ints_take ints_append ints_nil ints_set
attribute [local simp] ints_replicate
attribute [local simp] putV_some putV_none putH_app applyD_nil applyD_cons seen_app gc_ρ gc_H gc_tick st0_ρ st0_H st0_tick retV callRo callV_if borL_nil borL_cons ints_snoc take_self callWr cutH_app findQ afterV exportV_0 exportV_n okD_nil okD_cons sub_seq0 sub_seq1 sub_cond0 sub_cond1 sub_block sub_loop sub_nil young_far young_none hidW_nil mayW_nil keepsF_nil keepsF_cons pairs okI ok_0 ok_1 ok_2
attribute [local simp] T3 T4 T22 T23 T26 T28 T31 T33 T43 T48 T50 T70 T73 T75 T78 T82 T85
attribute [local simp] young_near clo cloF Region.binds Nat.testBit hidW declW mayW List.findIdx?_cons
theorem evR_cases (l : List (Int × Int)) (p : List Fd) : evR l p = some (.tp [nilV, .c (.bool false)], hpOf [] []) ∨ ∃ w h z, z.length ≤ 64 ∧ evR l p = some (.tp [ownV w h 0 2 z.length, .c (.bool true)], hpOf [] [intsO z]) := by
  unfold evR
  by_cases hc : (goodE l && alikeF p) = true
  · rw [if_pos hc]
    simp only [Bool.and_eq_true] at hc
    obtain ⟨hg, ha⟩ := hc
    cases p with
    | nil => cases ha
    | cons q0 r =>
      unfold alikeF at ha
      simp only [Bool.and_eq_true, decide_eq_true_eq] at ha
      obtain ⟨ha, h3⟩ := ha
      rw [List.all_eq_true] at ha
      have hFs : ∀ q ∈ q0 :: r, goodB q0.w q0.h q.l = true := by
        intro q hq
        have := ha q hq
        simp only [likeB, Bool.and_eq_true, beq_iff_eq] at this
        obtain ⟨t1, t2, t3⟩ := this
        rw [t2, t3] at t1
        exact t1
      have hs : shapeB q0.w q0.h = true := good_shape (hFs q0 (by simp))
      have hw : evW (q0 :: r) = q0.w := rfl
      have hh : evH (q0 :: r) = q0.h := rfl
      rw [hw, hh]
      obtain ⟨h15, hr⟩ := good_run hg
      unfold evV
      cases hE : evA q0.w q0.h (q0 :: r) l l.length with
      | none => exact .inl rfl
      | some A =>
        obtain ⟨a1, a2⟩ := evA_ok hs hFs l.length A (by omega) hE
        cases A with
        | nil => simp at a1; omega
        | cons z A =>
          have := good_length (a2 z (by simp))
          exact .inr ⟨_, _, z, this.2.2.2, rfl⟩
  · rw [if_neg hc]
    exact .inl rfl
theorem yes_of {k : Nat} {c0 : Code} {st : St} {res : Option (Ex × St)} (h : YesE k c0 st) (hr : runCode C (callK C k) k (K 3) c0 0 st = res) : ∃ s, res = some (.ret, s) ∧ s.ρ 4 = .c (.bool true) := by
  obtain ⟨s, e, f⟩ := h
  exact ⟨s, by rw [← hr, e], f⟩
theorem l_Evaluate (k : Nat) (b c : Bool) (l : List (Int × Int)) (p : List Fd) (hl : l.length ≤ 9223372036854775807) (hp : p.length ≤ 9223372036854775807) (hs : ∀ q ∈ p, q.l.length ≤ 9223372036854775807) (hk : l.length + p.length + 3000100 ≤ k) :
    callK C k 3 [.sq b true 2 (ndL l), .sq c false 3 (p.map Fd.cells)] [] = some (.c (.bool true), hpOf [] []) := by
  obtain ⟨k, rfl⟩ : ∃ m, k = m + 30 := ⟨k - 30, by omega⟩
  rw [callK_fn rfl F3 code3]
  have h1 := c_szNodeS (k + 29) b l 1048576 (by omega) (by omega) (by omega)
  by_cases ho : (1048576 : Int) - l.length < 0
  · rw [if_pos ho] at h1
    simp [R3_0, R3_1, R3_2, R3_3, R3_4, R3_5, R3_6, R3_7, R3_8, R3_9, R3_10, R3_11, R3_12, R3_13, R3_14, R3_15, R3_16, R3_17, R3_18, R3_19, R3_20, R3_21, R3_22, R3_23, R3_24, R3_25, R3_26, R3_27, R3_28, R3_29, R3_30, R3_31, R3_32, R3_33, R3_34, R3_35, R3_36, R3_37, R3_38, R3_39, R3_40, Try.f3, h1]
  · rw [if_neg ho] at h1
    have h2 := c_szFieldS (k + 29) c p (1048576 - (l.length : Int)) (by omega) (by omega) hp hs (by omega)
    by_cases hf : ((p.length + lenF p : Nat) : Int) ≤ 1048576 - (l.length : Int)
    · rw [if_pos hf] at h2
      have hn : ¬ (1048576 : Int) - (l.length : Int) - (p.length : Int) - (lenF p : Int) < 0 := by omega
      have hs' : ∀ q ∈ p, q.l.length ≤ 1048576 := fun q hq => by have := lenF_mem hq; omega
      have hL : ∀ st, LwE b c l p st → YesE (k + 29) eYA st := by
        intro st hI
        rcases evR_cases l (p.map fdT) with hR | ⟨w, h, z, hz, hR⟩
        · have := eNA_ok (k + 29) b c l p (by omega) (by omega) hs' (by omega) hR (by omega) st hI
          exact this
        · exact eYA_ok (k + 29) w h z hz b c l p (by omega) (by omega) hs' (by omega) hR (by omega) st hI
      rw [eYA_is]
      simp [R3_0, R3_1, R3_2, R3_3, R3_4, R3_5, R3_6, R3_7, R3_8, R3_9, R3_10, R3_11, R3_12, R3_13, R3_14, R3_15, R3_16, R3_17, R3_18, R3_19, R3_20, R3_21, R3_22, R3_23, R3_24, R3_25, R3_26, R3_27, R3_28, R3_29, R3_30, R3_31, R3_32, R3_33, R3_34, R3_35, R3_36, R3_37, R3_38, R3_39, R3_40, Try.f3, h1, ho, h2, hn]
      generalize hr : runCode _ _ _ _ eYA _ _ = res
      obtain ⟨s1, rfl, f⟩ := yes_of (hL _ ⟨by simp, by simp, by simp⟩) hr
      simp [f]
    · rw [if_neg hf] at h2
      simp [R3_0, R3_1, R3_2, R3_3, R3_4, R3_5, R3_6, R3_7, R3_8, R3_9, R3_10, R3_11, R3_12, R3_13, R3_14, R3_15, R3_16, R3_17, R3_18, R3_19, R3_20, R3_21, R3_22, R3_23, R3_24, R3_25, R3_26, R3_27, R3_28, R3_29, R3_30, R3_31, R3_32, R3_33, R3_34, R3_35, R3_36, R3_37, R3_38, R3_39, R3_40, Try.f3, h1, ho, h2]
def fdE (v : Int × Int × List Int) : List V := [.c (.int .i64 v.1), .c (.int .i64 v.2.1), .sq false true 1 (ints v.2.2)]
theorem fdE_cells (p : List (Int × Int × List Int)) : p.map fdE = (p.map fun v => (⟨false, v.1, v.2.1, v.2.2⟩ : Fd)).map Fd.cells := by
  rw [List.map_map]
  rfl
theorem law_Evaluate (l : List (Int × Int)) (p : List (Int × Int × List Int)) (hl : l.length ≤ maxLen) (hp : p.length ≤ maxLen) (hs : ∀ v ∈ p, (Lit.int .i64 v.1).wf = true ∧ (Lit.int .i64 v.2.1).wf = true ∧ v.2.2.length ≤ maxLen ∧ ∀ x ∈ v.2.2, (Lit.int .i64 x).wf = true) : ∃ k, callK C k 3 [.sq false true 2 (ndL l), .sq false false 3 (p.map fdE)] [] = some (.c (.bool true), hpOf [] []) := by
  rw [fdE_cells]
  exact ⟨_, l_Evaluate (l.length + p.length + 3000100) false false l _ hl (by simpa [maxLen] using hp) (fun q hq => by
    obtain ⟨v, hv, rfl⟩ := List.mem_map.1 hq
    exact (hs v hv).2.2.1) (by simp)⟩

end Go.Proofs.Ytfcnlfjenialdaa.Eng
